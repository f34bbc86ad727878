/- Printed by myprint.py (wip/tools) over the kit's print: what Go's functions compute, and that they do. Lean checks it. -/
import Derived.Test.YtimmadeghcghoaaF0
import Derived.Test.YtimmadeghcghoaaFS01
import Derived.Test.YtimmadeghcghoaaFS05
namespace Go.Proofs.Ytimmadeghcghoaa.P
open Go.RowKit Go.Proofs.YtimmadeghcghoaaW.PrintWords Go.Proofs.YtimmadeghcghoaaW.PrintLast Go.Proofs.YtimmadeghcghoaaW.PrintMore Go.Proofs.Ytimmadeghcghoaa.Sq
attribute [local go_sem] max2_int min2_int max_two min_two max_three min_three max_four min_four
set_option linter.unusedVariables false
set_option linter.unusedSimpArgs false

/-! ### spec_AreWants: function 33 -/
def spec_AreWants.l0 : Nat → List (S90) → List (S87) → Int → Option (Bool)
  | 0, _, _, _ => none
  | k + 1, x0, x1, x5 => if x5 < (x1.length : Int) then (if 0 ≤ x5 then ((spec_FindPath.f k x0 ((rd_T87 x1 x5).f0)).bind fun t276 => (if t276 < 0 then (some false) else ((spec_l1In.f ((rd_T87 x1 x5).f1) 0 100000).bind fun t278 => (if t278 = true then (if x5 > 0 then (if 0 ≤ (wrap64 (x5 - 1)) then (if (wrap64 (x5 - 1)) < (x1.length : Int) then (if ((rd_T87 x1 (wrap64 (x5 - 1))).f0) ≥ ((rd_T87 x1 x5).f0) then (some false) else (spec_AreWants.l0 k x0 x1 (wrap64 (x5 + 1)))) else (none)) else (none)) else (spec_AreWants.l0 k x0 x1 (wrap64 (x5 + 1)))) else (some false))))) else (none)) else ((spec_ArePaths.f k x0).bind fun t274 => (some t274))
def spec_AreWants.f (k : Nat) (l0 : List (S90)) (l1 : List (S87)) : Option (Bool) := spec_AreWants.l0 k l0 l1 0
theorem spec_AreWants.mono_l : ∀ k, (∀ y0 y1 y2, LeO (spec_AreWants.l0 k y0 y1 y2) (spec_AreWants.l0 (k + 1) y0 y1 y2))
  | 0 => fun _ _ _ r h => by simp [spec_AreWants.l0] at h
  | k + 1 => by
    have ih0 := spec_AreWants.mono_l k
    · intro y0 y1 y2
      unfold spec_AreWants.l0
      repeat' first | (with_reducible first | exact LeO.refl _ | exact LeO.none _ | refine LeO.ite ?_ ?_ | refine LeO.bind ?_ (fun _ => ?_) | exact ih0 _ _ _ | exact spec_ArePaths.mono _ _ | exact spec_FindPath.mono _ _ _) | exact LeO.none _ | refine LeO.ite ?_ ?_ | refine LeO.bind ?_ (fun _ => ?_) | exact ih0 _ _ _ | exact spec_ArePaths.mono _ _ | exact spec_FindPath.mono _ _ _
theorem spec_AreWants.mono : ∀ a0 a1 k, LeO (spec_AreWants.f k a0 a1) (spec_AreWants.f (k + 1) a0 a1) := by
  intro a0 a1 k
  have ih0 := spec_AreWants.mono_l k
  unfold spec_AreWants.f
  repeat' first | (with_reducible first | exact LeO.refl _ | exact LeO.none _ | refine LeO.ite ?_ ?_ | refine LeO.bind ?_ (fun _ => ?_) | exact ih0 _ _ _ | exact spec_ArePaths.mono _ _ | exact spec_FindPath.mono _ _ _) | exact LeO.none _ | refine LeO.ite ?_ ?_ | refine LeO.bind ?_ (fun _ => ?_) | exact ih0 _ _ _ | exact spec_ArePaths.mono _ _ | exact spec_FindPath.mono _ _ _
def spec_AreWants.T4 : Bool × List (List Nat × List Nat) := (true, [([], []), ([], []), ([], []), ([1, 2], [1, 2]), ([3], [3]), ([4], [4]), ([0, 5], [0, 5]), ([6], [6]), ([7, 6], [7]), ([8], [8]), ([8], [8]), ([9, 10, 8], [8, 9, 10]), ([11, 8], [8, 11]), ([12, 8], [8, 12]), ([13, 8, 8], [8, 13]), ([14, 8], [8, 14]), ([8, 15], [8, 15]), ([16, 14], [16]), ([17], [17]), ([18, 17], [17, 18]), ([19, 17, 17], [17, 19]), ([20], [20]), ([20], [20]), ([22, 20], [20, 22]), ([21, 23, 20], [20, 21, 23]), ([24, 20], [20, 24]), ([25, 20], [20, 25]), ([20], [20]), ([20], [20]), ([27, 28, 20], [20, 27, 28]), ([29, 20], [20, 29]), ([30, 20], [20, 30]), ([26, 31, 20], [20, 26, 31]), ([20, 32, 17], [17, 20, 32]), ([17, 33], [17, 33])])
def spec_AreWants.B4 : List Nat := [0, 0, 0, 6, 14, 30, 63, 127, 255, 511, 511, 2047, 4095, 8191, 16383, 32767, 65535, 131071, 262143, 524287, 1048575, 2097151, 2097151, 6291455, 16777215, 33554431, 67108863, 2097151, 2097151, 404750335, 941621247, 2015363071, 4294967295, 8589934591, 17179869183]
theorem spec_AreWants.tab4 : rtab .any (opsOf Try.f33 4) = spec_AreWants.T4 := by kernel_rfl
theorem spec_AreWants.bits4 : waitsOk spec_AreWants.T4.2 spec_AreWants.B4 = true := by kernel_rfl
set_option maxHeartbeats 8000000 in
set_option maxRecDepth 100000 in
theorem spec_AreWants.calls (k : Nat) (A0 : Option Addr) (c0 : Nat) (l0 : List (S90)) (A1 : Option Addr) (c1 : Nat) (l1 : List (S87)) (r : Bool) (w : World) (hr0 : Kd.C k90 w A0 l0.length l0) (hc0 : l0.length ≤ c0) (hr1 : Kd.C k87 w A1 l1.length l1) (hc1 : l1.length ≤ c1) (h : spec_AreWants.f k l0 l1 = some r) :
    Calls Try.prog 33 #[.slice A0 l0.length c0, .slice A1 l1.length c1] w fun e w' => e = .returned (.bool r) ∧ Below w.heap.size w w' := by
  have HR0 := Aside0.mk hr0
  have HC0 := Aside0.mk hc0
  clear hr0 hc0
  have HR1 := Aside0.mk hr1
  have HC1 := Aside0.mk hc1
  clear hr1 hc1
  have HB := Aside0.mk (Below.refl w.heap.size w)
  have H : (spec_AreWants.l0 k l0 l1 0) = some r := h
  clear h
  have H' := Aside0.mk H
  clear H
  go_enter Try.func33, Try.ntmps33
  go_wp2
  go_loopg [5] k (fun kq v5 w' => ∃ (x5_1 : Int), v5 = .int .i64 x5_1 ∧ Aside0 (spec_AreWants.l0 kq l0 l1 x5_1 = some r) ∧ Aside0 (kq ≤ k) ∧ Aside0 (Below w.heap.size w w'))
  case atStart => exact ⟨(0), rS, H', ⟨Nat.le_refl _⟩, ⟨bA⟩⟩
  case round =>
    clear H'
    try clear c1
    try clear p2
    obtain ⟨x5_1, rfl, HA, HK1, HB⟩ := hrel
    cases gk with
    | zero => exact absurd HA.out (by simp [spec_AreWants.l0])
    | succ k1 =>
      have H := HA.out
      clear HA
      simp only [spec_AreWants.l0] at H
      by_cases c3 : x5_1 < (l1.length : Int)
      · rw [if_pos c3] at H
        have c3b0 : decide (x5_1 < (l1.length : Int)) = true := decide_eq_true c3
        clear c3
        have c4 : 0 ≤ x5_1 := ifN H
        replace H := ifT H
        have c4b0 : decide (0 ≤ x5_1) = true := decide_eq_true c4
        clear c4
        obtain ⟨t276, A5, H⟩ := bindE H
        try dsimp only at H
        by_cases c6 : t276 < 0
        · rw [if_pos c6] at H
          have c6b0 : decide (t276 < 0) = true := decide_eq_true c6
          clear c6
          obtain rfl := Option.some.inj H
          try go_wp2
          have HBo := HB
          replace HB := Aside0.mk (below_drew1 HB.out)
          have p275 : 0 ≤ (x5_1 : Int) := dA
          have q275 : x5_1 < (l1.length : Int) := dA
          obtain ⟨ad275, e275, hx275_0, hx275_1⟩ := at_T87 HR1.out x5_1 p275 q275
          have hw275_1 := hx275_1
          have hw275_0 := hx275_0
          cases e275
          replace hx275_0 := hC HB hx275_0
          replace hx275_1 := hC HB hx275_1
          replace p275 := eq_true p275
          replace q275 := eq_true q275
          refine start_ (n := 35) (S := fun w' => w'.cell? (ad275.add ((x5_1).toNat * 2)) = some (.int .i64 ((rd_T87 l1 x5_1).f0)) ∧ w'.cell? ⟨(ad275.add ((x5_1).toNat * 2)).block, (ad275.add ((x5_1).toNat * 2)).off + 1, none⟩ = some (.int .i64 ((rd_T87 l1 x5_1).f1))) (ds := []) (mb 35 0) (by kernel_rfl) rfl rfl ⟨(hC HB hw275_0), (hC HB hw275_1)⟩ (fun hHeld => ?_); refine with_tabW spec_AreWants.tab4 spec_AreWants.bits4 (fun HT_ HW_ => ?_)
          generalize wr.drew = w7 at HB hx275_0 hx275_1 hHeld ⊢
          refine pA (i := 0) (N := some 12) (mb 35 1) HT_ ?_
          refine pA (i := 1) (N := some 13) (mb 35 3) HT_ ?_
          refine pA (i := 2) (N := some 14) (mb 35 7) HT_ ?_
          refine pA (i := 3) (N := some 15) (mb 35 15) HT_ ?_
          refine pA (i := 4) (N := some 16) (mb 35 31) HT_ ?_
          refine tA2 (i := 5) (N := some 17) (mb 35 63) HT_ HW_ hHeld ?_
          refine oA (i := 6) (N := some 18) (mb 35 127) HT_ (fun K hK => ?_)
          refine gA Try.func79 #[.slice A0 l0.length c0, .int .i64 ((rd_T87 l1 x5_1).f0)] ?_
          with_reducible refine (spec_FindPath.calls k1 _ _ l0 ((rd_T87 l1 x5_1).f0) t276 _ ?side1 ?side2 A5.out).mono ?_
          (case side1 => exact cB HR0)
          (case side2 => exact HC0.out)
          rintro e w' ⟨rfl, ⟨nd, rfl⟩⟩
          refine ⟨_, rfl, ?_⟩
          refine hK.out _ _ ⟨(hC HB hw275_0), (hC HB hw275_1)⟩ (fun hHeld => ?_)
          clear hK K
          refine nA ?_
          refine pA (i := 7) (N := some 19) (mb 35 255) HT_ ?_
          refine pA (i := 8) (N := some 20) (mb 35 511) HT_ ?_
          refine pU (i := 9) (N := some 21) (mb 35 1023) HT_ ?_
          refine pU (i := 10) (N := some 22) (mb 35 2047) HT_ ?_
          refine pU (i := 11) (N := some 23) (mb 35 4095) HT_ ?_
          refine pU (i := 12) (N := some 24) (mb 35 8191) HT_ ?_
          refine pU (i := 13) (N := some 25) (mb 35 16383) HT_ ?_
          refine pU (i := 14) (N := some 26) (mb 35 32767) HT_ ?_
          refine pU (i := 15) (N := some 27) (mb 35 65535) HT_ ?_
          refine pA (i := 16) (N := some 28) (mb 35 131071) HT_ ?_
          refine pA (i := 17) (N := some 29) (mb 35 262143) HT_ ?_
          refine pU (i := 18) (N := some 30) (mb 35 524287) HT_ ?_
          refine pU (i := 19) (N := some 31) (mb 35 1048575) HT_ ?_
          refine pU (i := 20) (N := some 32) (mb 35 2097151) HT_ ?_
          refine pU (i := 21) (N := some 33) (mb 35 4194303) HT_ ?_
          refine pU (i := 22) (N := some 34) (mb 35 8388607) HT_ ?_
          refine pU (i := 23) (N := some 35) (mb 35 16777215) HT_ ?_
          refine pU (i := 24) (N := some 36) (mb 35 33554431) HT_ ?_
          refine pU (i := 25) (N := some 37) (mb 35 67108863) HT_ ?_
          refine pU (i := 26) (N := some 38) (mb 35 134217727) HT_ ?_
          refine pU (i := 27) (N := some 39) (mb 35 268435455) HT_ ?_
          refine pU (i := 28) (N := some 40) (mb 35 536870911) HT_ ?_
          refine pU (i := 29) (N := some 41) (mb 35 1073741823) HT_ ?_
          refine pU (i := 30) (N := some 42) (mb 35 2147483647) HT_ ?_
          refine pU (i := 31) (N := some 43) (mb 35 4294967295) HT_ ?_
          refine pU (i := 32) (N := some 44) (mb 35 8589934591) HT_ ?_
          refine pU (i := 33) (N := some 45) (mb 35 17179869183) HT_ ?_
          refine pA (i := 34) (N := some 46) (mb 35 34359738367) HT_ ?_
          refine eA HT_ ?_
          try go_wp2
          go_ret
          exact ⟨rA, bA⟩
        · rw [if_neg c6] at H
          have c6b0 : decide (t276 < 0) = false := decide_eq_false c6
          clear c6
          obtain ⟨t278, A8, H⟩ := bindE H
          try dsimp only at H
          by_cases c9 : t278 = true
          · subst c9
            have H1 : (if x5_1 > 0 then (if 0 ≤ (wrap64 (x5_1 - 1)) then (if (wrap64 (x5_1 - 1)) < (l1.length : Int) then (if ((rd_T87 l1 (wrap64 (x5_1 - 1))).f0) ≥ ((rd_T87 l1 x5_1).f0) then (some false) else (spec_AreWants.l0 k1 l0 l1 (wrap64 (x5_1 + 1)))) else (none)) else (none)) else (spec_AreWants.l0 k1 l0 l1 (wrap64 (x5_1 + 1)))) = some r := by rw [if_pos rfl] at H; exact H
            clear H
            have H := H1
            clear H1
            by_cases c10 : x5_1 > 0
            · rw [if_pos c10] at H
              have c10b0 : decide (0 < x5_1) = true := decide_eq_true c10
              clear c10
              obtain ⟨ji11, hji11⟩ : ∃ j_ : Int, (wrap64 (x5_1 - 1)) = j_ := ⟨_, rfl⟩
              replace H : (if 0 ≤ (ji11) then (if (ji11) < (l1.length : Int) then (if ((rd_T87 l1 (ji11)).f0) ≥ ((rd_T87 l1 x5_1).f0) then (some false) else (spec_AreWants.l0 k1 l0 l1 (wrap64 (x5_1 + 1)))) else (none)) else (none)) = some r := by first | (rw [hji11] at H; exact H) | (simp only [hji11] at H ⊢; exact H)
              (try rw [hji11] at A5)
              (try rw [hji11] at A8)
              have hji11w : (IntKind.i64.wrap (x5_1 - 1)) = ji11 := (i64_w _).trans hji11
              have c12 : 0 ≤ (ji11) := ifN H
              replace H := ifT H
              have c12b0 : decide (0 ≤ (ji11)) = true := decide_eq_true c12
              clear c12
              have c13 : (ji11) < (l1.length : Int) := ifN H
              replace H := ifT H
              have c13b0 : decide ((ji11) < (l1.length : Int)) = true := decide_eq_true c13
              clear c13
              by_cases c14 : ((rd_T87 l1 (ji11)).f0) ≥ ((rd_T87 l1 x5_1).f0)
              · rw [if_pos c14] at H
                have c14b0 : decide (((rd_T87 l1 x5_1).f0) ≤ ((rd_T87 l1 (ji11)).f0)) = true := decide_eq_true c14
                clear c14
                obtain rfl := Option.some.inj H
                try go_wp2
                have HBo := HB
                replace HB := Aside0.mk (below_drew1 HB.out)
                have p275 : 0 ≤ (x5_1 : Int) := dA
                have q275 : x5_1 < (l1.length : Int) := dA
                obtain ⟨ad275, e275, hx275_0, hx275_1⟩ := at_T87 HR1.out x5_1 p275 q275
                have hw275_1 := hx275_1
                have hw275_0 := hx275_0
                cases e275
                replace hx275_0 := hC HB hx275_0
                replace hx275_1 := hC HB hx275_1
                replace p275 := eq_true p275
                replace q275 := eq_true q275
                have p277 : 0 ≤ (x5_1 : Int) := dA
                have q277 : x5_1 < (l1.length : Int) := dA
                obtain ⟨ad277, e277, hx277_0, hx277_1⟩ := at_T87 HR1.out x5_1 p277 q277
                have hw277_1 := hx277_1
                have hw277_0 := hx277_0
                obtain rfl : ad275 = ad277 := (by injection e277)
                replace hx277_0 := hC HB hx277_0
                replace hx277_1 := hC HB hx277_1
                replace p277 := eq_true p277
                replace q277 := eq_true q277
                have p279 : 0 ≤ ((ji11) : Int) := dA
                have q279 : (ji11) < (l1.length : Int) := dA
                obtain ⟨ad279, e279, hx279_0, hx279_1⟩ := at_T87 HR1.out (ji11) p279 q279
                have hw279_1 := hx279_1
                have hw279_0 := hx279_0
                obtain rfl : ad275 = ad279 := (by injection e279)
                replace hx279_0 := hC HB hx279_0
                replace hx279_1 := hC HB hx279_1
                replace p279 := eq_true p279
                replace q279 := eq_true q279
                have p280 : 0 ≤ (x5_1 : Int) := dA
                have q280 : x5_1 < (l1.length : Int) := dA
                obtain ⟨ad280, e280, hx280_0, hx280_1⟩ := at_T87 HR1.out x5_1 p280 q280
                have hw280_1 := hx280_1
                have hw280_0 := hx280_0
                obtain rfl : ad275 = ad280 := (by injection e280)
                replace hx280_0 := hC HB hx280_0
                replace hx280_1 := hC HB hx280_1
                replace p280 := eq_true p280
                replace q280 := eq_true q280
                refine start_ (n := 35) (S := fun w' => w'.cell? (ad275.add ((x5_1).toNat * 2)) = some (.int .i64 ((rd_T87 l1 x5_1).f0)) ∧ w'.cell? ⟨(ad275.add ((x5_1).toNat * 2)).block, (ad275.add ((x5_1).toNat * 2)).off + 1, none⟩ = some (.int .i64 ((rd_T87 l1 x5_1).f1)) ∧ w'.cell? (ad275.add ((x5_1).toNat * 2)) = some (.int .i64 ((rd_T87 l1 x5_1).f0)) ∧ w'.cell? ⟨(ad275.add ((x5_1).toNat * 2)).block, (ad275.add ((x5_1).toNat * 2)).off + 1, none⟩ = some (.int .i64 ((rd_T87 l1 x5_1).f1)) ∧ w'.cell? (ad275.add (((ji11)).toNat * 2)) = some (.int .i64 ((rd_T87 l1 (ji11)).f0)) ∧ w'.cell? ⟨(ad275.add (((ji11)).toNat * 2)).block, (ad275.add (((ji11)).toNat * 2)).off + 1, none⟩ = some (.int .i64 ((rd_T87 l1 (ji11)).f1)) ∧ w'.cell? (ad275.add ((x5_1).toNat * 2)) = some (.int .i64 ((rd_T87 l1 x5_1).f0)) ∧ w'.cell? ⟨(ad275.add ((x5_1).toNat * 2)).block, (ad275.add ((x5_1).toNat * 2)).off + 1, none⟩ = some (.int .i64 ((rd_T87 l1 x5_1).f1))) (ds := []) (mb 35 0) (by kernel_rfl) rfl rfl ⟨(hC HB hw275_0), (hC HB hw275_1), (hC HB hw277_0), (hC HB hw277_1), (hC HB hw279_0), (hC HB hw279_1), (hC HB hw280_0), (hC HB hw280_1)⟩ (fun hHeld => ?_); refine with_tabW spec_AreWants.tab4 spec_AreWants.bits4 (fun HT_ HW_ => ?_)
                generalize wr.drew = w15 at HB hx275_0 hx275_1 hx277_0 hx277_1 hx279_0 hx279_1 hx280_0 hx280_1 hHeld ⊢
                refine pA (i := 0) (N := some 12) (mb 35 1) HT_ ?_
                refine pA (i := 1) (N := some 13) (mb 35 3) HT_ ?_
                refine pA (i := 2) (N := some 14) (mb 35 7) HT_ ?_
                refine pA (i := 3) (N := some 15) (mb 35 15) HT_ ?_
                refine pA (i := 4) (N := some 16) (mb 35 31) HT_ ?_
                refine tA8 (i := 5) (N := some 17) (mb 35 63) HT_ HW_ hHeld ?_
                refine oA (i := 6) (N := some 18) (mb 35 127) HT_ (fun K hK => ?_)
                refine gA Try.func79 #[.slice A0 l0.length c0, .int .i64 ((rd_T87 l1 x5_1).f0)] ?_
                with_reducible refine (spec_FindPath.calls k1 _ _ l0 ((rd_T87 l1 x5_1).f0) t276 _ ?side1 ?side2 A5.out).mono ?_
                (case side1 => exact cB HR0)
                (case side2 => exact HC0.out)
                rintro e w' ⟨rfl, ⟨nd, rfl⟩⟩
                refine ⟨_, rfl, ?_⟩
                refine hK.out _ _ ⟨(hC HB hw275_0), (hC HB hw275_1), (hC HB hw277_0), (hC HB hw277_1), (hC HB hw279_0), (hC HB hw279_1), (hC HB hw280_0), (hC HB hw280_1)⟩ (fun hHeld => ?_)
                clear hK K
                refine nA ?_
                refine pA (i := 7) (N := some 19) (mb 35 255) HT_ ?_
                refine pA (i := 8) (N := some 20) (mb 35 511) HT_ ?_
                refine pA (i := 9) (N := some 21) (mb 35 1023) HT_ ?_
                refine pA (i := 10) (N := some 22) (mb 35 2047) HT_ ?_
                refine pA (i := 11) (N := some 23) (mb 35 4095) HT_ ?_
                refine pA (i := 12) (N := some 24) (mb 35 8191) HT_ ?_
                refine tA8 (i := 13) (N := some 25) (mb 35 16383) HT_ HW_ hHeld ?_
                refine oA (i := 14) (N := some 26) (mb 35 32767) HT_ (fun K hK => ?_)
                refine gA Try.func67 #[.int .i64 ((rd_T87 l1 x5_1).f1), .int .i64 0, .int .i64 100000] ?_
                with_reducible refine (spec_l1In.calls ((rd_T87 l1 x5_1).f1) 0 100000 true _ A8.out).mono ?_
                rintro e w' ⟨rfl, ⟨nd, rfl⟩⟩
                refine ⟨_, rfl, ?_⟩
                refine hK.out _ _ ⟨(hC HB hw275_0), (hC HB hw275_1), (hC HB hw277_0), (hC HB hw277_1), (hC HB hw279_0), (hC HB hw279_1), (hC HB hw280_0), (hC HB hw280_1)⟩ (fun hHeld => ?_)
                clear hK K
                refine nA ?_
                refine pA (i := 15) (N := some 27) (mb 35 65535) HT_ ?_
                refine pA (i := 16) (N := some 28) (mb 35 131071) HT_ ?_
                refine pA (i := 17) (N := some 29) (mb 35 262143) HT_ ?_
                refine pA (i := 18) (N := some 30) (mb 35 524287) HT_ ?_
                refine pA (i := 19) (N := some 31) (mb 35 1048575) HT_ ?_
                refine pA (i := 20) (N := some 32) (mb 35 2097151) HT_ ?_
                refine pA (i := 21) (N := some 33) (mb 35 4194303) HT_ ?_
                refine pA (i := 22) (N := some 34) (mb 35 8388607) HT_ ?_
                refine pA (i := 23) (N := some 35) (mb 35 16777215) HT_ ?_
                refine pA (i := 24) (N := some 36) (mb 35 33554431) HT_ ?_
                refine pA (i := 25) (N := some 37) (mb 35 67108863) HT_ ?_
                refine pA (i := 27) (N := some 39) (mb 35 201326591) HT_ ?_
                refine pA (i := 28) (N := some 40) (mb 35 469762047) HT_ ?_
                refine pA (i := 29) (N := some 41) (mb 35 1006632959) HT_ ?_
                refine pA (i := 30) (N := some 42) (mb 35 2080374783) HT_ ?_
                refine tA8 (i := 26) (N := some 38) (mb 35 2147483647) HT_ HW_ hHeld ?_
                refine tA8 (i := 31) (N := some 43) (mb 35 4294967295) HT_ HW_ hHeld ?_
                refine pA (i := 32) (N := some 44) (mb 35 8589934591) HT_ ?_
                refine pA (i := 33) (N := some 45) (mb 35 17179869183) HT_ ?_
                refine pA (i := 34) (N := some 46) (mb 35 34359738367) HT_ ?_
                refine eA HT_ ?_
                try go_wp2
                go_ret
                exact ⟨by first | rfl | (simp [errW_none, errW_some] <;> rfl) | (simp only [← hji11]; first | rfl | (simp [errW_none, errW_some] <;> rfl)) | (simp [*, errW_none, errW_some] <;> rfl), bA⟩
              · rw [if_neg c14] at H
                have c14b0 : decide (((rd_T87 l1 x5_1).f0) ≤ ((rd_T87 l1 (ji11)).f0)) = false := decide_eq_false c14
                clear c14
                have H' := Aside0.mk H
                clear H
                try go_wp2
                have HBo := HB
                replace HB := Aside0.mk (below_drew1 HB.out)
                have p275 : 0 ≤ (x5_1 : Int) := dA
                have q275 : x5_1 < (l1.length : Int) := dA
                obtain ⟨ad275, e275, hx275_0, hx275_1⟩ := at_T87 HR1.out x5_1 p275 q275
                have hw275_1 := hx275_1
                have hw275_0 := hx275_0
                cases e275
                replace hx275_0 := hC HB hx275_0
                replace hx275_1 := hC HB hx275_1
                replace p275 := eq_true p275
                replace q275 := eq_true q275
                have p277 : 0 ≤ (x5_1 : Int) := dA
                have q277 : x5_1 < (l1.length : Int) := dA
                obtain ⟨ad277, e277, hx277_0, hx277_1⟩ := at_T87 HR1.out x5_1 p277 q277
                have hw277_1 := hx277_1
                have hw277_0 := hx277_0
                obtain rfl : ad275 = ad277 := (by injection e277)
                replace hx277_0 := hC HB hx277_0
                replace hx277_1 := hC HB hx277_1
                replace p277 := eq_true p277
                replace q277 := eq_true q277
                have p279 : 0 ≤ ((ji11) : Int) := dA
                have q279 : (ji11) < (l1.length : Int) := dA
                obtain ⟨ad279, e279, hx279_0, hx279_1⟩ := at_T87 HR1.out (ji11) p279 q279
                have hw279_1 := hx279_1
                have hw279_0 := hx279_0
                obtain rfl : ad275 = ad279 := (by injection e279)
                replace hx279_0 := hC HB hx279_0
                replace hx279_1 := hC HB hx279_1
                replace p279 := eq_true p279
                replace q279 := eq_true q279
                have p280 : 0 ≤ (x5_1 : Int) := dA
                have q280 : x5_1 < (l1.length : Int) := dA
                obtain ⟨ad280, e280, hx280_0, hx280_1⟩ := at_T87 HR1.out x5_1 p280 q280
                have hw280_1 := hx280_1
                have hw280_0 := hx280_0
                obtain rfl : ad275 = ad280 := (by injection e280)
                replace hx280_0 := hC HB hx280_0
                replace hx280_1 := hC HB hx280_1
                replace p280 := eq_true p280
                replace q280 := eq_true q280
                refine start_ (n := 35) (S := fun w' => w'.cell? (ad275.add ((x5_1).toNat * 2)) = some (.int .i64 ((rd_T87 l1 x5_1).f0)) ∧ w'.cell? ⟨(ad275.add ((x5_1).toNat * 2)).block, (ad275.add ((x5_1).toNat * 2)).off + 1, none⟩ = some (.int .i64 ((rd_T87 l1 x5_1).f1)) ∧ w'.cell? (ad275.add ((x5_1).toNat * 2)) = some (.int .i64 ((rd_T87 l1 x5_1).f0)) ∧ w'.cell? ⟨(ad275.add ((x5_1).toNat * 2)).block, (ad275.add ((x5_1).toNat * 2)).off + 1, none⟩ = some (.int .i64 ((rd_T87 l1 x5_1).f1)) ∧ w'.cell? (ad275.add (((ji11)).toNat * 2)) = some (.int .i64 ((rd_T87 l1 (ji11)).f0)) ∧ w'.cell? ⟨(ad275.add (((ji11)).toNat * 2)).block, (ad275.add (((ji11)).toNat * 2)).off + 1, none⟩ = some (.int .i64 ((rd_T87 l1 (ji11)).f1)) ∧ w'.cell? (ad275.add ((x5_1).toNat * 2)) = some (.int .i64 ((rd_T87 l1 x5_1).f0)) ∧ w'.cell? ⟨(ad275.add ((x5_1).toNat * 2)).block, (ad275.add ((x5_1).toNat * 2)).off + 1, none⟩ = some (.int .i64 ((rd_T87 l1 x5_1).f1))) (ds := []) (mb 35 0) (by kernel_rfl) rfl rfl ⟨(hC HB hw275_0), (hC HB hw275_1), (hC HB hw277_0), (hC HB hw277_1), (hC HB hw279_0), (hC HB hw279_1), (hC HB hw280_0), (hC HB hw280_1)⟩ (fun hHeld => ?_); refine with_tabW spec_AreWants.tab4 spec_AreWants.bits4 (fun HT_ HW_ => ?_)
                generalize wr.drew = w16 at HB hx275_0 hx275_1 hx277_0 hx277_1 hx279_0 hx279_1 hx280_0 hx280_1 hHeld ⊢
                refine pA (i := 0) (N := some 12) (mb 35 1) HT_ ?_
                refine pA (i := 1) (N := some 13) (mb 35 3) HT_ ?_
                refine pA (i := 2) (N := some 14) (mb 35 7) HT_ ?_
                refine pA (i := 3) (N := some 15) (mb 35 15) HT_ ?_
                refine pA (i := 4) (N := some 16) (mb 35 31) HT_ ?_
                refine tA8 (i := 5) (N := some 17) (mb 35 63) HT_ HW_ hHeld ?_
                refine oA (i := 6) (N := some 18) (mb 35 127) HT_ (fun K hK => ?_)
                refine gA Try.func79 #[.slice A0 l0.length c0, .int .i64 ((rd_T87 l1 x5_1).f0)] ?_
                with_reducible refine (spec_FindPath.calls k1 _ _ l0 ((rd_T87 l1 x5_1).f0) t276 _ ?side1 ?side2 A5.out).mono ?_
                (case side1 => exact cB HR0)
                (case side2 => exact HC0.out)
                rintro e w' ⟨rfl, ⟨nd, rfl⟩⟩
                refine ⟨_, rfl, ?_⟩
                refine hK.out _ _ ⟨(hC HB hw275_0), (hC HB hw275_1), (hC HB hw277_0), (hC HB hw277_1), (hC HB hw279_0), (hC HB hw279_1), (hC HB hw280_0), (hC HB hw280_1)⟩ (fun hHeld => ?_)
                clear hK K
                refine nA ?_
                refine pA (i := 7) (N := some 19) (mb 35 255) HT_ ?_
                refine pA (i := 8) (N := some 20) (mb 35 511) HT_ ?_
                refine pA (i := 9) (N := some 21) (mb 35 1023) HT_ ?_
                refine pA (i := 10) (N := some 22) (mb 35 2047) HT_ ?_
                refine pA (i := 11) (N := some 23) (mb 35 4095) HT_ ?_
                refine pA (i := 12) (N := some 24) (mb 35 8191) HT_ ?_
                refine tA8 (i := 13) (N := some 25) (mb 35 16383) HT_ HW_ hHeld ?_
                refine oA (i := 14) (N := some 26) (mb 35 32767) HT_ (fun K hK => ?_)
                refine gA Try.func67 #[.int .i64 ((rd_T87 l1 x5_1).f1), .int .i64 0, .int .i64 100000] ?_
                with_reducible refine (spec_l1In.calls ((rd_T87 l1 x5_1).f1) 0 100000 true _ A8.out).mono ?_
                rintro e w' ⟨rfl, ⟨nd, rfl⟩⟩
                refine ⟨_, rfl, ?_⟩
                refine hK.out _ _ ⟨(hC HB hw275_0), (hC HB hw275_1), (hC HB hw277_0), (hC HB hw277_1), (hC HB hw279_0), (hC HB hw279_1), (hC HB hw280_0), (hC HB hw280_1)⟩ (fun hHeld => ?_)
                clear hK K
                refine nA ?_
                refine pA (i := 15) (N := some 27) (mb 35 65535) HT_ ?_
                refine pA (i := 16) (N := some 28) (mb 35 131071) HT_ ?_
                refine pA (i := 17) (N := some 29) (mb 35 262143) HT_ ?_
                refine pA (i := 18) (N := some 30) (mb 35 524287) HT_ ?_
                refine pA (i := 19) (N := some 31) (mb 35 1048575) HT_ ?_
                refine pA (i := 20) (N := some 32) (mb 35 2097151) HT_ ?_
                refine pA (i := 21) (N := some 33) (mb 35 4194303) HT_ ?_
                refine pA (i := 22) (N := some 34) (mb 35 8388607) HT_ ?_
                refine pA (i := 23) (N := some 35) (mb 35 16777215) HT_ ?_
                refine pA (i := 24) (N := some 36) (mb 35 33554431) HT_ ?_
                refine pA (i := 25) (N := some 37) (mb 35 67108863) HT_ ?_
                refine pA (i := 27) (N := some 39) (mb 35 201326591) HT_ ?_
                refine pA (i := 28) (N := some 40) (mb 35 469762047) HT_ ?_
                refine pA (i := 29) (N := some 41) (mb 35 1006632959) HT_ ?_
                refine pA (i := 30) (N := some 42) (mb 35 2080374783) HT_ ?_
                refine tA8 (i := 26) (N := some 38) (mb 35 2147483647) HT_ HW_ hHeld ?_
                refine tA8 (i := 31) (N := some 43) (mb 35 4294967295) HT_ HW_ hHeld ?_
                refine pA (i := 32) (N := some 44) (mb 35 8589934591) HT_ ?_
                refine pA (i := 33) (N := some 45) (mb 35 17179869183) HT_ ?_
                refine pA (i := 34) (N := some 46) (mb 35 34359738367) HT_ ?_
                refine eA HT_ ?_
                try go_wp2
                go_roundg k1
                case measure => have := HK1.out; omega
                case rel => exact ⟨(wrap64 (x5_1 + 1)), rS, H', ⟨by have := HK1.out; omega⟩, ⟨bA⟩⟩
            · rw [if_neg c10] at H
              have c10b0 : decide (0 < x5_1) = false := decide_eq_false c10
              clear c10
              have H' := Aside0.mk H
              clear H
              try go_wp2
              have HBo := HB
              replace HB := Aside0.mk (below_drew1 HB.out)
              have p275 : 0 ≤ (x5_1 : Int) := dA
              have q275 : x5_1 < (l1.length : Int) := dA
              obtain ⟨ad275, e275, hx275_0, hx275_1⟩ := at_T87 HR1.out x5_1 p275 q275
              have hw275_1 := hx275_1
              have hw275_0 := hx275_0
              cases e275
              replace hx275_0 := hC HB hx275_0
              replace hx275_1 := hC HB hx275_1
              replace p275 := eq_true p275
              replace q275 := eq_true q275
              have p277 : 0 ≤ (x5_1 : Int) := dA
              have q277 : x5_1 < (l1.length : Int) := dA
              obtain ⟨ad277, e277, hx277_0, hx277_1⟩ := at_T87 HR1.out x5_1 p277 q277
              have hw277_1 := hx277_1
              have hw277_0 := hx277_0
              obtain rfl : ad275 = ad277 := (by injection e277)
              replace hx277_0 := hC HB hx277_0
              replace hx277_1 := hC HB hx277_1
              replace p277 := eq_true p277
              replace q277 := eq_true q277
              refine start_ (n := 35) (S := fun w' => w'.cell? (ad275.add ((x5_1).toNat * 2)) = some (.int .i64 ((rd_T87 l1 x5_1).f0)) ∧ w'.cell? ⟨(ad275.add ((x5_1).toNat * 2)).block, (ad275.add ((x5_1).toNat * 2)).off + 1, none⟩ = some (.int .i64 ((rd_T87 l1 x5_1).f1)) ∧ w'.cell? (ad275.add ((x5_1).toNat * 2)) = some (.int .i64 ((rd_T87 l1 x5_1).f0)) ∧ w'.cell? ⟨(ad275.add ((x5_1).toNat * 2)).block, (ad275.add ((x5_1).toNat * 2)).off + 1, none⟩ = some (.int .i64 ((rd_T87 l1 x5_1).f1))) (ds := []) (mb 35 0) (by kernel_rfl) rfl rfl ⟨(hC HB hw275_0), (hC HB hw275_1), (hC HB hw277_0), (hC HB hw277_1)⟩ (fun hHeld => ?_); refine with_tabW spec_AreWants.tab4 spec_AreWants.bits4 (fun HT_ HW_ => ?_)
              generalize wr.drew = w17 at HB hx275_0 hx275_1 hx277_0 hx277_1 hHeld ⊢
              refine pA (i := 0) (N := some 12) (mb 35 1) HT_ ?_
              refine pA (i := 1) (N := some 13) (mb 35 3) HT_ ?_
              refine pA (i := 2) (N := some 14) (mb 35 7) HT_ ?_
              refine pA (i := 3) (N := some 15) (mb 35 15) HT_ ?_
              refine pA (i := 4) (N := some 16) (mb 35 31) HT_ ?_
              refine tA4 (i := 5) (N := some 17) (mb 35 63) HT_ HW_ hHeld ?_
              refine oA (i := 6) (N := some 18) (mb 35 127) HT_ (fun K hK => ?_)
              refine gA Try.func79 #[.slice A0 l0.length c0, .int .i64 ((rd_T87 l1 x5_1).f0)] ?_
              with_reducible refine (spec_FindPath.calls k1 _ _ l0 ((rd_T87 l1 x5_1).f0) t276 _ ?side1 ?side2 A5.out).mono ?_
              (case side1 => exact cB HR0)
              (case side2 => exact HC0.out)
              rintro e w' ⟨rfl, ⟨nd, rfl⟩⟩
              refine ⟨_, rfl, ?_⟩
              refine hK.out _ _ ⟨(hC HB hw275_0), (hC HB hw275_1), (hC HB hw277_0), (hC HB hw277_1)⟩ (fun hHeld => ?_)
              clear hK K
              refine nA ?_
              refine pA (i := 7) (N := some 19) (mb 35 255) HT_ ?_
              refine pA (i := 8) (N := some 20) (mb 35 511) HT_ ?_
              refine pA (i := 9) (N := some 21) (mb 35 1023) HT_ ?_
              refine pA (i := 10) (N := some 22) (mb 35 2047) HT_ ?_
              refine pA (i := 11) (N := some 23) (mb 35 4095) HT_ ?_
              refine pA (i := 12) (N := some 24) (mb 35 8191) HT_ ?_
              refine tA4 (i := 13) (N := some 25) (mb 35 16383) HT_ HW_ hHeld ?_
              refine oA (i := 14) (N := some 26) (mb 35 32767) HT_ (fun K hK => ?_)
              refine gA Try.func67 #[.int .i64 ((rd_T87 l1 x5_1).f1), .int .i64 0, .int .i64 100000] ?_
              with_reducible refine (spec_l1In.calls ((rd_T87 l1 x5_1).f1) 0 100000 true _ A8.out).mono ?_
              rintro e w' ⟨rfl, ⟨nd, rfl⟩⟩
              refine ⟨_, rfl, ?_⟩
              refine hK.out _ _ ⟨(hC HB hw275_0), (hC HB hw275_1), (hC HB hw277_0), (hC HB hw277_1)⟩ (fun hHeld => ?_)
              clear hK K
              refine nA ?_
              refine pA (i := 15) (N := some 27) (mb 35 65535) HT_ ?_
              refine pA (i := 16) (N := some 28) (mb 35 131071) HT_ ?_
              refine pA (i := 17) (N := some 29) (mb 35 262143) HT_ ?_
              refine pA (i := 18) (N := some 30) (mb 35 524287) HT_ ?_
              refine pA (i := 19) (N := some 31) (mb 35 1048575) HT_ ?_
              refine pA (i := 20) (N := some 32) (mb 35 2097151) HT_ ?_
              refine pU (i := 21) (N := some 33) (mb 35 4194303) HT_ ?_
              refine pU (i := 22) (N := some 34) (mb 35 8388607) HT_ ?_
              refine pU (i := 23) (N := some 35) (mb 35 16777215) HT_ ?_
              refine pU (i := 24) (N := some 36) (mb 35 33554431) HT_ ?_
              refine pU (i := 25) (N := some 37) (mb 35 67108863) HT_ ?_
              refine pU (i := 26) (N := some 38) (mb 35 134217727) HT_ ?_
              refine pU (i := 27) (N := some 39) (mb 35 268435455) HT_ ?_
              refine pU (i := 28) (N := some 40) (mb 35 536870911) HT_ ?_
              refine pU (i := 29) (N := some 41) (mb 35 1073741823) HT_ ?_
              refine pU (i := 30) (N := some 42) (mb 35 2147483647) HT_ ?_
              refine pU (i := 31) (N := some 43) (mb 35 4294967295) HT_ ?_
              refine pU (i := 32) (N := some 44) (mb 35 8589934591) HT_ ?_
              refine pA (i := 33) (N := some 45) (mb 35 17179869183) HT_ ?_
              refine pA (i := 34) (N := some 46) (mb 35 34359738367) HT_ ?_
              refine eA HT_ ?_
              try go_wp2
              go_roundg k1
              case measure => have := HK1.out; omega
              case rel => exact ⟨(wrap64 (x5_1 + 1)), rS, H', ⟨by have := HK1.out; omega⟩, ⟨bA⟩⟩
          · replace c9 := Bool.eq_false_iff.mpr c9
            subst c9
            have H1 : (some false) = some r := by rw [if_neg (show ¬ (false = true) by decide)] at H; exact H
            clear H
            have H := H1
            clear H1
            obtain rfl := Option.some.inj H
            try go_wp2
            have HBo := HB
            replace HB := Aside0.mk (below_drew1 HB.out)
            have p275 : 0 ≤ (x5_1 : Int) := dA
            have q275 : x5_1 < (l1.length : Int) := dA
            obtain ⟨ad275, e275, hx275_0, hx275_1⟩ := at_T87 HR1.out x5_1 p275 q275
            have hw275_1 := hx275_1
            have hw275_0 := hx275_0
            cases e275
            replace hx275_0 := hC HB hx275_0
            replace hx275_1 := hC HB hx275_1
            replace p275 := eq_true p275
            replace q275 := eq_true q275
            have p277 : 0 ≤ (x5_1 : Int) := dA
            have q277 : x5_1 < (l1.length : Int) := dA
            obtain ⟨ad277, e277, hx277_0, hx277_1⟩ := at_T87 HR1.out x5_1 p277 q277
            have hw277_1 := hx277_1
            have hw277_0 := hx277_0
            obtain rfl : ad275 = ad277 := (by injection e277)
            replace hx277_0 := hC HB hx277_0
            replace hx277_1 := hC HB hx277_1
            replace p277 := eq_true p277
            replace q277 := eq_true q277
            refine start_ (n := 35) (S := fun w' => w'.cell? (ad275.add ((x5_1).toNat * 2)) = some (.int .i64 ((rd_T87 l1 x5_1).f0)) ∧ w'.cell? ⟨(ad275.add ((x5_1).toNat * 2)).block, (ad275.add ((x5_1).toNat * 2)).off + 1, none⟩ = some (.int .i64 ((rd_T87 l1 x5_1).f1)) ∧ w'.cell? (ad275.add ((x5_1).toNat * 2)) = some (.int .i64 ((rd_T87 l1 x5_1).f0)) ∧ w'.cell? ⟨(ad275.add ((x5_1).toNat * 2)).block, (ad275.add ((x5_1).toNat * 2)).off + 1, none⟩ = some (.int .i64 ((rd_T87 l1 x5_1).f1))) (ds := []) (mb 35 0) (by kernel_rfl) rfl rfl ⟨(hC HB hw275_0), (hC HB hw275_1), (hC HB hw277_0), (hC HB hw277_1)⟩ (fun hHeld => ?_); refine with_tabW spec_AreWants.tab4 spec_AreWants.bits4 (fun HT_ HW_ => ?_)
            generalize wr.drew = w18 at HB hx275_0 hx275_1 hx277_0 hx277_1 hHeld ⊢
            refine pA (i := 0) (N := some 12) (mb 35 1) HT_ ?_
            refine pA (i := 1) (N := some 13) (mb 35 3) HT_ ?_
            refine pA (i := 2) (N := some 14) (mb 35 7) HT_ ?_
            refine pA (i := 3) (N := some 15) (mb 35 15) HT_ ?_
            refine pA (i := 4) (N := some 16) (mb 35 31) HT_ ?_
            refine tA4 (i := 5) (N := some 17) (mb 35 63) HT_ HW_ hHeld ?_
            refine oA (i := 6) (N := some 18) (mb 35 127) HT_ (fun K hK => ?_)
            refine gA Try.func79 #[.slice A0 l0.length c0, .int .i64 ((rd_T87 l1 x5_1).f0)] ?_
            with_reducible refine (spec_FindPath.calls k1 _ _ l0 ((rd_T87 l1 x5_1).f0) t276 _ ?side1 ?side2 A5.out).mono ?_
            (case side1 => exact cB HR0)
            (case side2 => exact HC0.out)
            rintro e w' ⟨rfl, ⟨nd, rfl⟩⟩
            refine ⟨_, rfl, ?_⟩
            refine hK.out _ _ ⟨(hC HB hw275_0), (hC HB hw275_1), (hC HB hw277_0), (hC HB hw277_1)⟩ (fun hHeld => ?_)
            clear hK K
            refine nA ?_
            refine pA (i := 7) (N := some 19) (mb 35 255) HT_ ?_
            refine pA (i := 8) (N := some 20) (mb 35 511) HT_ ?_
            refine pA (i := 9) (N := some 21) (mb 35 1023) HT_ ?_
            refine pA (i := 10) (N := some 22) (mb 35 2047) HT_ ?_
            refine pA (i := 11) (N := some 23) (mb 35 4095) HT_ ?_
            refine pA (i := 12) (N := some 24) (mb 35 8191) HT_ ?_
            refine tA4 (i := 13) (N := some 25) (mb 35 16383) HT_ HW_ hHeld ?_
            refine oA (i := 14) (N := some 26) (mb 35 32767) HT_ (fun K hK => ?_)
            refine gA Try.func67 #[.int .i64 ((rd_T87 l1 x5_1).f1), .int .i64 0, .int .i64 100000] ?_
            with_reducible refine (spec_l1In.calls ((rd_T87 l1 x5_1).f1) 0 100000 false _ A8.out).mono ?_
            rintro e w' ⟨rfl, ⟨nd, rfl⟩⟩
            refine ⟨_, rfl, ?_⟩
            refine hK.out _ _ ⟨(hC HB hw275_0), (hC HB hw275_1), (hC HB hw277_0), (hC HB hw277_1)⟩ (fun hHeld => ?_)
            clear hK K
            refine nA ?_
            refine pA (i := 15) (N := some 27) (mb 35 65535) HT_ ?_
            refine pA (i := 16) (N := some 28) (mb 35 131071) HT_ ?_
            refine pA (i := 17) (N := some 29) (mb 35 262143) HT_ ?_
            refine pU (i := 18) (N := some 30) (mb 35 524287) HT_ ?_
            refine pU (i := 19) (N := some 31) (mb 35 1048575) HT_ ?_
            refine pU (i := 20) (N := some 32) (mb 35 2097151) HT_ ?_
            refine pU (i := 21) (N := some 33) (mb 35 4194303) HT_ ?_
            refine pU (i := 22) (N := some 34) (mb 35 8388607) HT_ ?_
            refine pU (i := 23) (N := some 35) (mb 35 16777215) HT_ ?_
            refine pU (i := 24) (N := some 36) (mb 35 33554431) HT_ ?_
            refine pU (i := 25) (N := some 37) (mb 35 67108863) HT_ ?_
            refine pU (i := 26) (N := some 38) (mb 35 134217727) HT_ ?_
            refine pU (i := 27) (N := some 39) (mb 35 268435455) HT_ ?_
            refine pU (i := 28) (N := some 40) (mb 35 536870911) HT_ ?_
            refine pU (i := 29) (N := some 41) (mb 35 1073741823) HT_ ?_
            refine pU (i := 30) (N := some 42) (mb 35 2147483647) HT_ ?_
            refine pU (i := 31) (N := some 43) (mb 35 4294967295) HT_ ?_
            refine pU (i := 32) (N := some 44) (mb 35 8589934591) HT_ ?_
            refine pU (i := 33) (N := some 45) (mb 35 17179869183) HT_ ?_
            refine pA (i := 34) (N := some 46) (mb 35 34359738367) HT_ ?_
            refine eA HT_ ?_
            try go_wp2
            go_ret
            exact ⟨rA, bA⟩
      · rw [if_neg c3] at H
        have c3b0 : decide (x5_1 < (l1.length : Int)) = false := decide_eq_false c3
        clear c3
        obtain ⟨t274, A19, H⟩ := bindE H
        try dsimp only at H
        obtain rfl := Option.some.inj H
        go_wp2_with (first | ((with_reducible refine gate_callee (f := 80) rfl ?_); refine gL (some 48) Try.func80 #[.slice A0 l0.length c0] ?_; (with_reducible refine (spec_ArePaths.calls k1 _ _ l0 t274 _ ?side1 ?side2 A19.out).mono ?_); (case side1 => exact cB HR0); (case side2 => exact HC0.out); rintro e w20 ⟨rfl, hb⟩; refine ⟨_, rfl, ?_⟩; replace HB := Aside0.mk (below_step bA hb); (try clear hb); (try clear hb2); (try clear hk); (try clear hi)))
        go_ret
        exact ⟨rA, bA⟩

end Go.Proofs.Ytimmadeghcghoaa.P
