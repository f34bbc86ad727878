/- Printed by myprint.py (wip/tools) over the kit's print: what Go's functions compute, and that they do. Lean checks it. -/
import Derived.Test.YtimmadeghcghoaaF0
import Derived.Test.YtimmadeghcghoaaFS04
namespace Go.Proofs.Ytimmadeghcghoaa.P
open Go.RowKit Go.Proofs.YtimmadeghcghoaaW.PrintWords Go.Proofs.YtimmadeghcghoaaW.PrintLast Go.Proofs.YtimmadeghcghoaaW.PrintMore Go.Proofs.Ytimmadeghcghoaa.Sq
attribute [local go_sem] max2_int min2_int max_two min_two max_three min_three max_four min_four
set_option linter.unusedVariables false
set_option linter.unusedSimpArgs false

/-! ### spec_FindPath: function 79 -/
def spec_FindPath.l0 : Nat → List (S90) → Int → Int → Option (Int)
  | 0, _, _, _ => none
  | k + 1, x0, x1, x5 => if x5 < (x0.length : Int) then (if 0 ≤ x5 then (if ((rd_T90 x0 x5).f0) = x1 then (some x5) else (spec_FindPath.l0 k x0 x1 (wrap64 (x5 + 1)))) else (none)) else (some (-1))
def spec_FindPath.f (k : Nat) (l0 : List (S90)) (a1 : Int) : Option (Int) := spec_FindPath.l0 k l0 a1 0
theorem spec_FindPath.mono_l : ∀ k, (∀ y0 y1 y2, LeO (spec_FindPath.l0 k y0 y1 y2) (spec_FindPath.l0 (k + 1) y0 y1 y2))
  | 0 => fun _ _ _ r h => by simp [spec_FindPath.l0] at h
  | k + 1 => by
    have ih0 := spec_FindPath.mono_l k
    · intro y0 y1 y2
      unfold spec_FindPath.l0
      repeat' first | (with_reducible first | exact LeO.refl _ | exact LeO.none _ | refine LeO.ite ?_ ?_ | refine LeO.bind ?_ (fun _ => ?_) | exact ih0 _ _ _) | exact LeO.none _ | refine LeO.ite ?_ ?_ | refine LeO.bind ?_ (fun _ => ?_) | exact ih0 _ _ _
theorem spec_FindPath.mono : ∀ a0 a1 k, LeO (spec_FindPath.f k a0 a1) (spec_FindPath.f (k + 1) a0 a1) := by
  intro a0 a1 k
  have ih0 := spec_FindPath.mono_l k
  unfold spec_FindPath.f
  repeat' first | (with_reducible first | exact LeO.refl _ | exact LeO.none _ | refine LeO.ite ?_ ?_ | refine LeO.bind ?_ (fun _ => ?_) | exact ih0 _ _ _) | exact LeO.none _ | refine LeO.ite ?_ ?_ | refine LeO.bind ?_ (fun _ => ?_) | exact ih0 _ _ _
set_option maxHeartbeats 8000000 in
set_option maxRecDepth 100000 in
theorem spec_FindPath.calls (k : Nat) (A0 : Option Addr) (c0 : Nat) (l0 : List (S90)) (a1 : Int) (r : Int) (w : World) (hr0 : Kd.C k90 w A0 l0.length l0) (hc0 : l0.length ≤ c0) (h : spec_FindPath.f k l0 a1 = some r) :
    Calls Try.prog 79 #[.slice A0 l0.length c0, .int .i64 a1] w fun e w' => e = .returned (.int .i64 r) ∧ Drawn0 w w' := by
  have HR0 := Aside0.mk hr0
  have HC0 := Aside0.mk hc0
  clear hr0 hc0
  have H : (spec_FindPath.l0 k l0 a1 0) = some r := h
  clear h
  have H' := Aside0.mk H
  clear H
  go_enter Try.func79, Try.ntmps79
  go_wp2
  go_loopg [5] k (fun kq v5 w' => ∃ (x5_1 : Int), v5 = .int .i64 x5_1 ∧ Aside0 (spec_FindPath.l0 kq l0 a1 x5_1 = some r) ∧ Aside0 (kq ≤ k) ∧ Drawn0 w w')
  case atStart => exact ⟨(0), rS, H', ⟨Nat.le_refl _⟩, by repeat (first | exact Drawn0.refl _ | apply Drawn0.step)⟩
  case round =>
    clear H'
    try clear p2
    obtain ⟨x5_1, rfl, HA, HK1, ⟨m1, rfl⟩⟩ := hrel
    cases gk with
    | zero => exact absurd HA.out (by simp [spec_FindPath.l0])
    | succ k1 =>
      have H := HA.out
      clear HA
      simp only [spec_FindPath.l0] at H
      by_cases c3 : x5_1 < (l0.length : Int)
      · rw [if_pos c3] at H
        have c3b0 : decide (x5_1 < (l0.length : Int)) = true := decide_eq_true c3
        clear c3
        have c4 : 0 ≤ x5_1 := ifN H
        replace H := ifT H
        have c4b0 : decide (0 ≤ x5_1) = true := decide_eq_true c4
        clear c4
        by_cases c5 : ((rd_T90 l0 x5_1).f0) = a1
        · rw [if_pos c5] at H
          have c5b0 : (((rd_T90 l0 x5_1).f0) == a1) = true := beq_iff_eq.mpr c5
          have c5b1 : (((rd_T90 l0 x5_1).f0) != a1) = false := bne_eq_false_iff_eq.mpr c5
          clear c5
          obtain rfl := Option.some.inj H
          have p264 : 0 ≤ (x5_1 : Int) := dA
          have q264 : x5_1 < (l0.length : Int) := dA
          obtain ⟨ad264, e264, hx264_0, hx264_1, hx264_2, hx264_3⟩ := at_T90 HR0.out x5_1 p264 q264
          cases e264
          replace p264 := eq_true p264
          replace q264 := eq_true q264
          go_wp2
          go_ret
          exact ⟨by first | rfl | (simp; done) | (simp [*]; done), by repeat (first | exact Drawn0.refl _ | apply Drawn0.step)⟩
        · rw [if_neg c5] at H
          have c5b0 : (((rd_T90 l0 x5_1).f0) == a1) = false := beq_eq_false_iff_ne.mpr c5
          have c5b1 : (((rd_T90 l0 x5_1).f0) != a1) = true := bne_iff_ne.mpr c5
          have H' := Aside0.mk H
          clear H
          have p264 : 0 ≤ (x5_1 : Int) := dA
          have q264 : x5_1 < (l0.length : Int) := dA
          obtain ⟨ad264, e264, hx264_0, hx264_1, hx264_2, hx264_3⟩ := at_T90 HR0.out x5_1 p264 q264
          cases e264
          replace p264 := eq_true p264
          replace q264 := eq_true q264
          go_wp2
          go_roundg k1
          case measure => have := HK1.out; omega
          case rel => exact ⟨(wrap64 (x5_1 + 1)), rS, H', ⟨by have := HK1.out; omega⟩, by repeat (first | exact Drawn0.refl _ | apply Drawn0.step)⟩
      · rw [if_neg c3] at H
        have c3b0 : decide (x5_1 < (l0.length : Int)) = false := decide_eq_false c3
        clear c3
        obtain rfl := Option.some.inj H
        go_wp2
        go_ret
        exact ⟨by first | rfl | (simp; done) | (simp [*]; done), by repeat (first | exact Drawn0.refl _ | apply Drawn0.step)⟩

/-! ### spec_ArePaths: function 80 -/
def spec_ArePaths.l0 : Nat → List (S90) → Int → Option (Bool)
  | 0, _, _ => none
  | k + 1, x0, x3 => if x3 < (x0.length : Int) then (if 0 ≤ x3 then ((spec_IsPath.f ((rd_T90 x0 x3).f0) ((rd_T90 x0 x3).f1) ((rd_T90 x0 x3).f2) ((rd_T90 x0 x3).f3)).bind fun t271 => (if t271 = true then (if x3 > 0 then (if 0 ≤ (wrap64 (x3 - 1)) then (if (wrap64 (x3 - 1)) < (x0.length : Int) then (if ((rd_T90 x0 (wrap64 (x3 - 1))).f0) ≥ ((rd_T90 x0 x3).f0) then (some false) else (spec_ArePaths.l0 k x0 (wrap64 (x3 + 1)))) else (none)) else (none)) else (spec_ArePaths.l0 k x0 (wrap64 (x3 + 1)))) else (some false))) else (none)) else (some (decide ((x0.length : Int) ≤ 12)))
def spec_ArePaths.f (k : Nat) (l0 : List (S90)) : Option (Bool) := spec_ArePaths.l0 k l0 0
theorem spec_ArePaths.mono_l : ∀ k, (∀ y0 y1, LeO (spec_ArePaths.l0 k y0 y1) (spec_ArePaths.l0 (k + 1) y0 y1))
  | 0 => fun _ _ r h => by simp [spec_ArePaths.l0] at h
  | k + 1 => by
    have ih0 := spec_ArePaths.mono_l k
    · intro y0 y1
      unfold spec_ArePaths.l0
      repeat' first | (with_reducible first | exact LeO.refl _ | exact LeO.none _ | refine LeO.ite ?_ ?_ | refine LeO.bind ?_ (fun _ => ?_) | exact ih0 _ _) | exact LeO.none _ | refine LeO.ite ?_ ?_ | refine LeO.bind ?_ (fun _ => ?_) | exact ih0 _ _
theorem spec_ArePaths.mono : ∀ a0 k, LeO (spec_ArePaths.f k a0) (spec_ArePaths.f (k + 1) a0) := by
  intro a0 k
  have ih0 := spec_ArePaths.mono_l k
  unfold spec_ArePaths.f
  repeat' first | (with_reducible first | exact LeO.refl _ | exact LeO.none _ | refine LeO.ite ?_ ?_ | refine LeO.bind ?_ (fun _ => ?_) | exact ih0 _ _) | exact LeO.none _ | refine LeO.ite ?_ ?_ | refine LeO.bind ?_ (fun _ => ?_) | exact ih0 _ _
def spec_ArePaths.T4 : Bool × List (List Nat × List Nat) := (true, [([], []), ([], []), ([0, 1], [0, 1]), ([2], [2]), ([3], [3]), ([4], [4]), ([5, 4], [5]), ([6], [6]), ([7, 6], [6, 7]), ([8, 6, 6], [6, 8]), ([9], [9]), ([9], [9]), ([11, 9], [9, 11]), ([10, 12, 9], [9, 10, 12]), ([13, 9], [9, 13]), ([14, 9], [9, 14]), ([9], [9]), ([9], [9]), ([16, 17, 9], [9, 16, 17]), ([18, 9], [9, 18]), ([19, 9], [9, 19]), ([15, 20, 9], [9, 15, 20]), ([9, 21, 6], [6, 9, 21]), ([6, 22], [6, 22])])
def spec_ArePaths.B4 : List Nat := [0, 0, 3, 7, 15, 31, 63, 127, 255, 511, 1023, 1023, 3071, 8191, 16383, 32767, 1023, 1023, 197631, 459775, 984063, 2097151, 4194303, 8388607]
theorem spec_ArePaths.tab4 : rtab .any (opsOf Try.f80 4) = spec_ArePaths.T4 := by kernel_rfl
theorem spec_ArePaths.bits4 : waitsOk spec_ArePaths.T4.2 spec_ArePaths.B4 = true := by kernel_rfl
set_option maxHeartbeats 8000000 in
set_option maxRecDepth 100000 in
theorem spec_ArePaths.calls (k : Nat) (A0 : Option Addr) (c0 : Nat) (l0 : List (S90)) (r : Bool) (w : World) (hr0 : Kd.C k90 w A0 l0.length l0) (hc0 : l0.length ≤ c0) (h : spec_ArePaths.f k l0 = some r) :
    Calls Try.prog 80 #[.slice A0 l0.length c0] w fun e w' => e = .returned (.bool r) ∧ Below w.heap.size w w' := by
  have hu90 := Try.underlying90
  have HR0 := Aside0.mk hr0
  have HC0 := Aside0.mk hc0
  clear hr0 hc0
  have HB := Aside0.mk (Below.refl w.heap.size w)
  have H : (spec_ArePaths.l0 k l0 0) = some r := h
  clear h
  have H' := Aside0.mk H
  clear H
  go_enter Try.func80, Try.ntmps80
  go_wp2
  go_loopg [3] k (fun kq v3 w' => ∃ (x3_1 : Int), v3 = .int .i64 x3_1 ∧ Aside0 (spec_ArePaths.l0 kq l0 x3_1 = some r) ∧ Aside0 (kq ≤ k) ∧ Aside0 (Below w.heap.size w w'))
  case atStart => exact ⟨(0), rS, H', ⟨Nat.le_refl _⟩, ⟨bA⟩⟩
  case round =>
    clear H'
    obtain ⟨x3_1, rfl, HA, HK1, HB⟩ := hrel
    cases gk with
    | zero => exact absurd HA.out (by simp [spec_ArePaths.l0])
    | succ k1 =>
      have H := HA.out
      clear HA
      simp only [spec_ArePaths.l0] at H
      by_cases c2 : x3_1 < (l0.length : Int)
      · rw [if_pos c2] at H
        have c2b0 : decide (x3_1 < (l0.length : Int)) = true := decide_eq_true c2
        clear c2
        have c3 : 0 ≤ x3_1 := ifN H
        replace H := ifT H
        have c3b0 : decide (0 ≤ x3_1) = true := decide_eq_true c3
        clear c3
        obtain ⟨t271, A4, H⟩ := bindE H
        try dsimp only at H
        by_cases c5 : t271 = true
        · subst c5
          have H1 : (if x3_1 > 0 then (if 0 ≤ (wrap64 (x3_1 - 1)) then (if (wrap64 (x3_1 - 1)) < (l0.length : Int) then (if ((rd_T90 l0 (wrap64 (x3_1 - 1))).f0) ≥ ((rd_T90 l0 x3_1).f0) then (some false) else (spec_ArePaths.l0 k1 l0 (wrap64 (x3_1 + 1)))) else (none)) else (none)) else (spec_ArePaths.l0 k1 l0 (wrap64 (x3_1 + 1)))) = some r := by rw [if_pos rfl] at H; exact H
          clear H
          have H := H1
          clear H1
          by_cases c6 : x3_1 > 0
          · rw [if_pos c6] at H
            have c6b0 : decide (0 < x3_1) = true := decide_eq_true c6
            clear c6
            obtain ⟨ji7, hji7⟩ : ∃ j_ : Int, (wrap64 (x3_1 - 1)) = j_ := ⟨_, rfl⟩
            replace H : (if 0 ≤ (ji7) then (if (ji7) < (l0.length : Int) then (if ((rd_T90 l0 (ji7)).f0) ≥ ((rd_T90 l0 x3_1).f0) then (some false) else (spec_ArePaths.l0 k1 l0 (wrap64 (x3_1 + 1)))) else (none)) else (none)) = some r := by first | (rw [hji7] at H; exact H) | (simp only [hji7] at H ⊢; exact H)
            (try rw [hji7] at A4)
            have hji7w : (IntKind.i64.wrap (x3_1 - 1)) = ji7 := (i64_w _).trans hji7
            have c8 : 0 ≤ (ji7) := ifN H
            replace H := ifT H
            have c8b0 : decide (0 ≤ (ji7)) = true := decide_eq_true c8
            clear c8
            have c9 : (ji7) < (l0.length : Int) := ifN H
            replace H := ifT H
            have c9b0 : decide ((ji7) < (l0.length : Int)) = true := decide_eq_true c9
            clear c9
            by_cases c10 : ((rd_T90 l0 (ji7)).f0) ≥ ((rd_T90 l0 x3_1).f0)
            · rw [if_pos c10] at H
              have c10b0 : decide (((rd_T90 l0 x3_1).f0) ≤ ((rd_T90 l0 (ji7)).f0)) = true := decide_eq_true c10
              clear c10
              obtain rfl := Option.some.inj H
              try go_wp2
              have HBo := HB
              replace HB := Aside0.mk (below_drew1 HB.out)
              have p270 : 0 ≤ (x3_1 : Int) := dA
              have q270 : x3_1 < (l0.length : Int) := dA
              obtain ⟨ad270, e270, hx270_0, hx270_1, hx270_2, hx270_3⟩ := at_T90 HR0.out x3_1 p270 q270
              have hw270_3 := hx270_3
              have hw270_2 := hx270_2
              have hw270_1 := hx270_1
              have hw270_0 := hx270_0
              cases e270
              replace hx270_0 := hC HB hx270_0
              replace hx270_1 := hC HB hx270_1
              replace hx270_2 := hC HB hx270_2
              replace hx270_3 := hC HB hx270_3
              replace p270 := eq_true p270
              replace q270 := eq_true q270
              have p272 : 0 ≤ ((ji7) : Int) := dA
              have q272 : (ji7) < (l0.length : Int) := dA
              obtain ⟨ad272, e272, hx272_0, hx272_1, hx272_2, hx272_3⟩ := at_T90 HR0.out (ji7) p272 q272
              have hw272_3 := hx272_3
              have hw272_2 := hx272_2
              have hw272_1 := hx272_1
              have hw272_0 := hx272_0
              obtain rfl : ad270 = ad272 := (by injection e272)
              replace hx272_0 := hC HB hx272_0
              replace hx272_1 := hC HB hx272_1
              replace hx272_2 := hC HB hx272_2
              replace hx272_3 := hC HB hx272_3
              replace p272 := eq_true p272
              replace q272 := eq_true q272
              have p273 : 0 ≤ (x3_1 : Int) := dA
              have q273 : x3_1 < (l0.length : Int) := dA
              obtain ⟨ad273, e273, hx273_0, hx273_1, hx273_2, hx273_3⟩ := at_T90 HR0.out x3_1 p273 q273
              have hw273_3 := hx273_3
              have hw273_2 := hx273_2
              have hw273_1 := hx273_1
              have hw273_0 := hx273_0
              obtain rfl : ad270 = ad273 := (by injection e273)
              replace hx273_0 := hC HB hx273_0
              replace hx273_1 := hC HB hx273_1
              replace hx273_2 := hC HB hx273_2
              replace hx273_3 := hC HB hx273_3
              replace p273 := eq_true p273
              replace q273 := eq_true q273
              refine start_ (n := 24) (S := fun w' => w'.cell? (ad270.add ((x3_1).toNat * 4)) = some (.int .i64 ((rd_T90 l0 x3_1).f0)) ∧ w'.cell? ⟨(ad270.add ((x3_1).toNat * 4)).block, (ad270.add ((x3_1).toNat * 4)).off + 1, none⟩ = some (.int .i64 ((rd_T90 l0 x3_1).f1)) ∧ w'.cell? ⟨(ad270.add ((x3_1).toNat * 4)).block, (ad270.add ((x3_1).toNat * 4)).off + 2, none⟩ = some (.int .i64 ((rd_T90 l0 x3_1).f2)) ∧ w'.cell? ⟨(ad270.add ((x3_1).toNat * 4)).block, (ad270.add ((x3_1).toNat * 4)).off + 3, none⟩ = some (.int .i64 ((rd_T90 l0 x3_1).f3)) ∧ w'.cell? (ad270.add (((ji7)).toNat * 4)) = some (.int .i64 ((rd_T90 l0 (ji7)).f0)) ∧ w'.cell? ⟨(ad270.add (((ji7)).toNat * 4)).block, (ad270.add (((ji7)).toNat * 4)).off + 1, none⟩ = some (.int .i64 ((rd_T90 l0 (ji7)).f1)) ∧ w'.cell? ⟨(ad270.add (((ji7)).toNat * 4)).block, (ad270.add (((ji7)).toNat * 4)).off + 2, none⟩ = some (.int .i64 ((rd_T90 l0 (ji7)).f2)) ∧ w'.cell? ⟨(ad270.add (((ji7)).toNat * 4)).block, (ad270.add (((ji7)).toNat * 4)).off + 3, none⟩ = some (.int .i64 ((rd_T90 l0 (ji7)).f3)) ∧ w'.cell? (ad270.add ((x3_1).toNat * 4)) = some (.int .i64 ((rd_T90 l0 x3_1).f0)) ∧ w'.cell? ⟨(ad270.add ((x3_1).toNat * 4)).block, (ad270.add ((x3_1).toNat * 4)).off + 1, none⟩ = some (.int .i64 ((rd_T90 l0 x3_1).f1)) ∧ w'.cell? ⟨(ad270.add ((x3_1).toNat * 4)).block, (ad270.add ((x3_1).toNat * 4)).off + 2, none⟩ = some (.int .i64 ((rd_T90 l0 x3_1).f2)) ∧ w'.cell? ⟨(ad270.add ((x3_1).toNat * 4)).block, (ad270.add ((x3_1).toNat * 4)).off + 3, none⟩ = some (.int .i64 ((rd_T90 l0 x3_1).f3))) (ds := []) (mb 24 0) (by kernel_rfl) rfl rfl ⟨(hC HB hw270_0), (hC HB hw270_1), (hC HB hw270_2), (hC HB hw270_3), (hC HB hw272_0), (hC HB hw272_1), (hC HB hw272_2), (hC HB hw272_3), (hC HB hw273_0), (hC HB hw273_1), (hC HB hw273_2), (hC HB hw273_3)⟩ (fun hHeld => ?_); refine with_tabW spec_ArePaths.tab4 spec_ArePaths.bits4 (fun HT_ HW_ => ?_)
              generalize wr.drew = w11 at HB hx270_0 hx270_1 hx270_2 hx270_3 hx272_0 hx272_1 hx272_2 hx272_3 hx273_0 hx273_1 hx273_2 hx273_3 hHeld ⊢
              refine pA (i := 0) (N := some 10) (mb 24 1) HT_ ?_
              refine pA (i := 1) (N := some 11) (mb 24 3) HT_ ?_
              refine pA (i := 2) (N := some 12) (mb 24 7) HT_ ?_
              refine tA12 (i := 3) (N := some 13) (mb 24 15) HT_ HW_ hHeld ?_
              refine oA (i := 4) (N := some 14) (mb 24 31) HT_ (fun K hK => ?_)
              refine gA Try.func111 #[.agg #[.int .i64 ((rd_T90 l0 x3_1).f0), .int .i64 ((rd_T90 l0 x3_1).f1), .int .i64 ((rd_T90 l0 x3_1).f2), .int .i64 ((rd_T90 l0 x3_1).f3)]] ?_
              with_reducible refine (spec_IsPath.calls ((rd_T90 l0 x3_1).f0) ((rd_T90 l0 x3_1).f1) ((rd_T90 l0 x3_1).f2) ((rd_T90 l0 x3_1).f3) true _ A4.out).mono ?_
              rintro e w12 ⟨rfl, hb⟩
              refine ⟨_, rfl, ?_⟩
              replace HB := Aside0.mk (below_step bA hb)
              (try clear hb)
              (try clear hb2)
              (try clear hk)
              (try clear hi)
              refine hK.out _ _ ⟨(hC HB hw270_0), (hC HB hw270_1), (hC HB hw270_2), (hC HB hw270_3), (hC HB hw272_0), (hC HB hw272_1), (hC HB hw272_2), (hC HB hw272_3), (hC HB hw273_0), (hC HB hw273_1), (hC HB hw273_2), (hC HB hw273_3)⟩ (fun hHeld => ?_)
              clear hK K
              refine nA ?_
              refine pA (i := 5) (N := some 15) (mb 24 63) HT_ ?_
              refine pA (i := 6) (N := some 16) (mb 24 127) HT_ ?_
              refine pA (i := 7) (N := some 17) (mb 24 255) HT_ ?_
              refine pA (i := 8) (N := some 18) (mb 24 511) HT_ ?_
              refine pA (i := 9) (N := some 19) (mb 24 1023) HT_ ?_
              refine pA (i := 10) (N := some 20) (mb 24 2047) HT_ ?_
              refine pA (i := 11) (N := some 21) (mb 24 4095) HT_ ?_
              refine pA (i := 12) (N := some 22) (mb 24 8191) HT_ ?_
              refine pA (i := 13) (N := some 23) (mb 24 16383) HT_ ?_
              refine pA (i := 14) (N := some 24) (mb 24 32767) HT_ ?_
              refine pA (i := 16) (N := some 26) (mb 24 98303) HT_ ?_
              refine pA (i := 17) (N := some 27) (mb 24 229375) HT_ ?_
              refine pA (i := 18) (N := some 28) (mb 24 491519) HT_ ?_
              refine pA (i := 19) (N := some 29) (mb 24 1015807) HT_ ?_
              refine tA12 (i := 15) (N := some 25) (mb 24 1048575) HT_ HW_ hHeld ?_
              refine tA12 (i := 20) (N := some 30) (mb 24 2097151) HT_ HW_ hHeld ?_
              refine pA (i := 21) (N := some 31) (mb 24 4194303) HT_ ?_
              refine pA (i := 22) (N := some 32) (mb 24 8388607) HT_ ?_
              refine pA (i := 23) (N := some 33) (mb 24 16777215) HT_ ?_
              refine eA HT_ ?_
              try go_wp2
              go_ret
              exact ⟨by first | rfl | (simp [errW_none, errW_some] <;> rfl) | (simp only [← hji7]; first | rfl | (simp [errW_none, errW_some] <;> rfl)) | (simp [*, errW_none, errW_some] <;> rfl), bA⟩
            · rw [if_neg c10] at H
              have c10b0 : decide (((rd_T90 l0 x3_1).f0) ≤ ((rd_T90 l0 (ji7)).f0)) = false := decide_eq_false c10
              clear c10
              have H' := Aside0.mk H
              clear H
              try go_wp2
              have HBo := HB
              replace HB := Aside0.mk (below_drew1 HB.out)
              have p270 : 0 ≤ (x3_1 : Int) := dA
              have q270 : x3_1 < (l0.length : Int) := dA
              obtain ⟨ad270, e270, hx270_0, hx270_1, hx270_2, hx270_3⟩ := at_T90 HR0.out x3_1 p270 q270
              have hw270_3 := hx270_3
              have hw270_2 := hx270_2
              have hw270_1 := hx270_1
              have hw270_0 := hx270_0
              cases e270
              replace hx270_0 := hC HB hx270_0
              replace hx270_1 := hC HB hx270_1
              replace hx270_2 := hC HB hx270_2
              replace hx270_3 := hC HB hx270_3
              replace p270 := eq_true p270
              replace q270 := eq_true q270
              have p272 : 0 ≤ ((ji7) : Int) := dA
              have q272 : (ji7) < (l0.length : Int) := dA
              obtain ⟨ad272, e272, hx272_0, hx272_1, hx272_2, hx272_3⟩ := at_T90 HR0.out (ji7) p272 q272
              have hw272_3 := hx272_3
              have hw272_2 := hx272_2
              have hw272_1 := hx272_1
              have hw272_0 := hx272_0
              obtain rfl : ad270 = ad272 := (by injection e272)
              replace hx272_0 := hC HB hx272_0
              replace hx272_1 := hC HB hx272_1
              replace hx272_2 := hC HB hx272_2
              replace hx272_3 := hC HB hx272_3
              replace p272 := eq_true p272
              replace q272 := eq_true q272
              have p273 : 0 ≤ (x3_1 : Int) := dA
              have q273 : x3_1 < (l0.length : Int) := dA
              obtain ⟨ad273, e273, hx273_0, hx273_1, hx273_2, hx273_3⟩ := at_T90 HR0.out x3_1 p273 q273
              have hw273_3 := hx273_3
              have hw273_2 := hx273_2
              have hw273_1 := hx273_1
              have hw273_0 := hx273_0
              obtain rfl : ad270 = ad273 := (by injection e273)
              replace hx273_0 := hC HB hx273_0
              replace hx273_1 := hC HB hx273_1
              replace hx273_2 := hC HB hx273_2
              replace hx273_3 := hC HB hx273_3
              replace p273 := eq_true p273
              replace q273 := eq_true q273
              refine start_ (n := 24) (S := fun w' => w'.cell? (ad270.add ((x3_1).toNat * 4)) = some (.int .i64 ((rd_T90 l0 x3_1).f0)) ∧ w'.cell? ⟨(ad270.add ((x3_1).toNat * 4)).block, (ad270.add ((x3_1).toNat * 4)).off + 1, none⟩ = some (.int .i64 ((rd_T90 l0 x3_1).f1)) ∧ w'.cell? ⟨(ad270.add ((x3_1).toNat * 4)).block, (ad270.add ((x3_1).toNat * 4)).off + 2, none⟩ = some (.int .i64 ((rd_T90 l0 x3_1).f2)) ∧ w'.cell? ⟨(ad270.add ((x3_1).toNat * 4)).block, (ad270.add ((x3_1).toNat * 4)).off + 3, none⟩ = some (.int .i64 ((rd_T90 l0 x3_1).f3)) ∧ w'.cell? (ad270.add (((ji7)).toNat * 4)) = some (.int .i64 ((rd_T90 l0 (ji7)).f0)) ∧ w'.cell? ⟨(ad270.add (((ji7)).toNat * 4)).block, (ad270.add (((ji7)).toNat * 4)).off + 1, none⟩ = some (.int .i64 ((rd_T90 l0 (ji7)).f1)) ∧ w'.cell? ⟨(ad270.add (((ji7)).toNat * 4)).block, (ad270.add (((ji7)).toNat * 4)).off + 2, none⟩ = some (.int .i64 ((rd_T90 l0 (ji7)).f2)) ∧ w'.cell? ⟨(ad270.add (((ji7)).toNat * 4)).block, (ad270.add (((ji7)).toNat * 4)).off + 3, none⟩ = some (.int .i64 ((rd_T90 l0 (ji7)).f3)) ∧ w'.cell? (ad270.add ((x3_1).toNat * 4)) = some (.int .i64 ((rd_T90 l0 x3_1).f0)) ∧ w'.cell? ⟨(ad270.add ((x3_1).toNat * 4)).block, (ad270.add ((x3_1).toNat * 4)).off + 1, none⟩ = some (.int .i64 ((rd_T90 l0 x3_1).f1)) ∧ w'.cell? ⟨(ad270.add ((x3_1).toNat * 4)).block, (ad270.add ((x3_1).toNat * 4)).off + 2, none⟩ = some (.int .i64 ((rd_T90 l0 x3_1).f2)) ∧ w'.cell? ⟨(ad270.add ((x3_1).toNat * 4)).block, (ad270.add ((x3_1).toNat * 4)).off + 3, none⟩ = some (.int .i64 ((rd_T90 l0 x3_1).f3))) (ds := []) (mb 24 0) (by kernel_rfl) rfl rfl ⟨(hC HB hw270_0), (hC HB hw270_1), (hC HB hw270_2), (hC HB hw270_3), (hC HB hw272_0), (hC HB hw272_1), (hC HB hw272_2), (hC HB hw272_3), (hC HB hw273_0), (hC HB hw273_1), (hC HB hw273_2), (hC HB hw273_3)⟩ (fun hHeld => ?_); refine with_tabW spec_ArePaths.tab4 spec_ArePaths.bits4 (fun HT_ HW_ => ?_)
              generalize wr.drew = w13 at HB hx270_0 hx270_1 hx270_2 hx270_3 hx272_0 hx272_1 hx272_2 hx272_3 hx273_0 hx273_1 hx273_2 hx273_3 hHeld ⊢
              refine pA (i := 0) (N := some 10) (mb 24 1) HT_ ?_
              refine pA (i := 1) (N := some 11) (mb 24 3) HT_ ?_
              refine pA (i := 2) (N := some 12) (mb 24 7) HT_ ?_
              refine tA12 (i := 3) (N := some 13) (mb 24 15) HT_ HW_ hHeld ?_
              refine oA (i := 4) (N := some 14) (mb 24 31) HT_ (fun K hK => ?_)
              refine gA Try.func111 #[.agg #[.int .i64 ((rd_T90 l0 x3_1).f0), .int .i64 ((rd_T90 l0 x3_1).f1), .int .i64 ((rd_T90 l0 x3_1).f2), .int .i64 ((rd_T90 l0 x3_1).f3)]] ?_
              with_reducible refine (spec_IsPath.calls ((rd_T90 l0 x3_1).f0) ((rd_T90 l0 x3_1).f1) ((rd_T90 l0 x3_1).f2) ((rd_T90 l0 x3_1).f3) true _ A4.out).mono ?_
              rintro e w14 ⟨rfl, hb⟩
              refine ⟨_, rfl, ?_⟩
              replace HB := Aside0.mk (below_step bA hb)
              (try clear hb)
              (try clear hb2)
              (try clear hk)
              (try clear hi)
              refine hK.out _ _ ⟨(hC HB hw270_0), (hC HB hw270_1), (hC HB hw270_2), (hC HB hw270_3), (hC HB hw272_0), (hC HB hw272_1), (hC HB hw272_2), (hC HB hw272_3), (hC HB hw273_0), (hC HB hw273_1), (hC HB hw273_2), (hC HB hw273_3)⟩ (fun hHeld => ?_)
              clear hK K
              refine nA ?_
              refine pA (i := 5) (N := some 15) (mb 24 63) HT_ ?_
              refine pA (i := 6) (N := some 16) (mb 24 127) HT_ ?_
              refine pA (i := 7) (N := some 17) (mb 24 255) HT_ ?_
              refine pA (i := 8) (N := some 18) (mb 24 511) HT_ ?_
              refine pA (i := 9) (N := some 19) (mb 24 1023) HT_ ?_
              refine pA (i := 10) (N := some 20) (mb 24 2047) HT_ ?_
              refine pA (i := 11) (N := some 21) (mb 24 4095) HT_ ?_
              refine pA (i := 12) (N := some 22) (mb 24 8191) HT_ ?_
              refine pA (i := 13) (N := some 23) (mb 24 16383) HT_ ?_
              refine pA (i := 14) (N := some 24) (mb 24 32767) HT_ ?_
              refine pA (i := 16) (N := some 26) (mb 24 98303) HT_ ?_
              refine pA (i := 17) (N := some 27) (mb 24 229375) HT_ ?_
              refine pA (i := 18) (N := some 28) (mb 24 491519) HT_ ?_
              refine pA (i := 19) (N := some 29) (mb 24 1015807) HT_ ?_
              refine tA12 (i := 15) (N := some 25) (mb 24 1048575) HT_ HW_ hHeld ?_
              refine tA12 (i := 20) (N := some 30) (mb 24 2097151) HT_ HW_ hHeld ?_
              refine pA (i := 21) (N := some 31) (mb 24 4194303) HT_ ?_
              refine pA (i := 22) (N := some 32) (mb 24 8388607) HT_ ?_
              refine pA (i := 23) (N := some 33) (mb 24 16777215) HT_ ?_
              refine eA HT_ ?_
              try go_wp2
              go_roundg k1
              case measure => have := HK1.out; omega
              case rel => exact ⟨(wrap64 (x3_1 + 1)), rS, H', ⟨by have := HK1.out; omega⟩, ⟨bA⟩⟩
          · rw [if_neg c6] at H
            have c6b0 : decide (0 < x3_1) = false := decide_eq_false c6
            clear c6
            have H' := Aside0.mk H
            clear H
            try go_wp2
            have HBo := HB
            replace HB := Aside0.mk (below_drew1 HB.out)
            have p270 : 0 ≤ (x3_1 : Int) := dA
            have q270 : x3_1 < (l0.length : Int) := dA
            obtain ⟨ad270, e270, hx270_0, hx270_1, hx270_2, hx270_3⟩ := at_T90 HR0.out x3_1 p270 q270
            have hw270_3 := hx270_3
            have hw270_2 := hx270_2
            have hw270_1 := hx270_1
            have hw270_0 := hx270_0
            cases e270
            replace hx270_0 := hC HB hx270_0
            replace hx270_1 := hC HB hx270_1
            replace hx270_2 := hC HB hx270_2
            replace hx270_3 := hC HB hx270_3
            replace p270 := eq_true p270
            replace q270 := eq_true q270
            refine start_ (n := 24) (S := fun w' => w'.cell? (ad270.add ((x3_1).toNat * 4)) = some (.int .i64 ((rd_T90 l0 x3_1).f0)) ∧ w'.cell? ⟨(ad270.add ((x3_1).toNat * 4)).block, (ad270.add ((x3_1).toNat * 4)).off + 1, none⟩ = some (.int .i64 ((rd_T90 l0 x3_1).f1)) ∧ w'.cell? ⟨(ad270.add ((x3_1).toNat * 4)).block, (ad270.add ((x3_1).toNat * 4)).off + 2, none⟩ = some (.int .i64 ((rd_T90 l0 x3_1).f2)) ∧ w'.cell? ⟨(ad270.add ((x3_1).toNat * 4)).block, (ad270.add ((x3_1).toNat * 4)).off + 3, none⟩ = some (.int .i64 ((rd_T90 l0 x3_1).f3))) (ds := []) (mb 24 0) (by kernel_rfl) rfl rfl ⟨(hC HB hw270_0), (hC HB hw270_1), (hC HB hw270_2), (hC HB hw270_3)⟩ (fun hHeld => ?_); refine with_tabW spec_ArePaths.tab4 spec_ArePaths.bits4 (fun HT_ HW_ => ?_)
            generalize wr.drew = w15 at HB hx270_0 hx270_1 hx270_2 hx270_3 hHeld ⊢
            refine pA (i := 0) (N := some 10) (mb 24 1) HT_ ?_
            refine pA (i := 1) (N := some 11) (mb 24 3) HT_ ?_
            refine pA (i := 2) (N := some 12) (mb 24 7) HT_ ?_
            refine tA4 (i := 3) (N := some 13) (mb 24 15) HT_ HW_ hHeld ?_
            refine oA (i := 4) (N := some 14) (mb 24 31) HT_ (fun K hK => ?_)
            refine gA Try.func111 #[.agg #[.int .i64 ((rd_T90 l0 x3_1).f0), .int .i64 ((rd_T90 l0 x3_1).f1), .int .i64 ((rd_T90 l0 x3_1).f2), .int .i64 ((rd_T90 l0 x3_1).f3)]] ?_
            with_reducible refine (spec_IsPath.calls ((rd_T90 l0 x3_1).f0) ((rd_T90 l0 x3_1).f1) ((rd_T90 l0 x3_1).f2) ((rd_T90 l0 x3_1).f3) true _ A4.out).mono ?_
            rintro e w16 ⟨rfl, hb⟩
            refine ⟨_, rfl, ?_⟩
            replace HB := Aside0.mk (below_step bA hb)
            (try clear hb)
            (try clear hb2)
            (try clear hk)
            (try clear hi)
            refine hK.out _ _ ⟨(hC HB hw270_0), (hC HB hw270_1), (hC HB hw270_2), (hC HB hw270_3)⟩ (fun hHeld => ?_)
            clear hK K
            refine nA ?_
            refine pA (i := 5) (N := some 15) (mb 24 63) HT_ ?_
            refine pA (i := 6) (N := some 16) (mb 24 127) HT_ ?_
            refine pA (i := 7) (N := some 17) (mb 24 255) HT_ ?_
            refine pA (i := 8) (N := some 18) (mb 24 511) HT_ ?_
            refine pA (i := 9) (N := some 19) (mb 24 1023) HT_ ?_
            refine pU (i := 10) (N := some 20) (mb 24 2047) HT_ ?_
            refine pU (i := 11) (N := some 21) (mb 24 4095) HT_ ?_
            refine pU (i := 12) (N := some 22) (mb 24 8191) HT_ ?_
            refine pU (i := 13) (N := some 23) (mb 24 16383) HT_ ?_
            refine pU (i := 14) (N := some 24) (mb 24 32767) HT_ ?_
            refine pU (i := 15) (N := some 25) (mb 24 65535) HT_ ?_
            refine pU (i := 16) (N := some 26) (mb 24 131071) HT_ ?_
            refine pU (i := 17) (N := some 27) (mb 24 262143) HT_ ?_
            refine pU (i := 18) (N := some 28) (mb 24 524287) HT_ ?_
            refine pU (i := 19) (N := some 29) (mb 24 1048575) HT_ ?_
            refine pU (i := 20) (N := some 30) (mb 24 2097151) HT_ ?_
            refine pU (i := 21) (N := some 31) (mb 24 4194303) HT_ ?_
            refine pA (i := 22) (N := some 32) (mb 24 8388607) HT_ ?_
            refine pA (i := 23) (N := some 33) (mb 24 16777215) HT_ ?_
            refine eA HT_ ?_
            try go_wp2
            go_roundg k1
            case measure => have := HK1.out; omega
            case rel => exact ⟨(wrap64 (x3_1 + 1)), rS, H', ⟨by have := HK1.out; omega⟩, ⟨bA⟩⟩
        · replace c5 := Bool.eq_false_iff.mpr c5
          subst c5
          have H1 : (some false) = some r := by rw [if_neg (show ¬ (false = true) by decide)] at H; exact H
          clear H
          have H := H1
          clear H1
          obtain rfl := Option.some.inj H
          try go_wp2
          have HBo := HB
          replace HB := Aside0.mk (below_drew1 HB.out)
          have p270 : 0 ≤ (x3_1 : Int) := dA
          have q270 : x3_1 < (l0.length : Int) := dA
          obtain ⟨ad270, e270, hx270_0, hx270_1, hx270_2, hx270_3⟩ := at_T90 HR0.out x3_1 p270 q270
          have hw270_3 := hx270_3
          have hw270_2 := hx270_2
          have hw270_1 := hx270_1
          have hw270_0 := hx270_0
          cases e270
          replace hx270_0 := hC HB hx270_0
          replace hx270_1 := hC HB hx270_1
          replace hx270_2 := hC HB hx270_2
          replace hx270_3 := hC HB hx270_3
          replace p270 := eq_true p270
          replace q270 := eq_true q270
          refine start_ (n := 24) (S := fun w' => w'.cell? (ad270.add ((x3_1).toNat * 4)) = some (.int .i64 ((rd_T90 l0 x3_1).f0)) ∧ w'.cell? ⟨(ad270.add ((x3_1).toNat * 4)).block, (ad270.add ((x3_1).toNat * 4)).off + 1, none⟩ = some (.int .i64 ((rd_T90 l0 x3_1).f1)) ∧ w'.cell? ⟨(ad270.add ((x3_1).toNat * 4)).block, (ad270.add ((x3_1).toNat * 4)).off + 2, none⟩ = some (.int .i64 ((rd_T90 l0 x3_1).f2)) ∧ w'.cell? ⟨(ad270.add ((x3_1).toNat * 4)).block, (ad270.add ((x3_1).toNat * 4)).off + 3, none⟩ = some (.int .i64 ((rd_T90 l0 x3_1).f3))) (ds := []) (mb 24 0) (by kernel_rfl) rfl rfl ⟨(hC HB hw270_0), (hC HB hw270_1), (hC HB hw270_2), (hC HB hw270_3)⟩ (fun hHeld => ?_); refine with_tabW spec_ArePaths.tab4 spec_ArePaths.bits4 (fun HT_ HW_ => ?_)
          generalize wr.drew = w17 at HB hx270_0 hx270_1 hx270_2 hx270_3 hHeld ⊢
          refine pA (i := 0) (N := some 10) (mb 24 1) HT_ ?_
          refine pA (i := 1) (N := some 11) (mb 24 3) HT_ ?_
          refine pA (i := 2) (N := some 12) (mb 24 7) HT_ ?_
          refine tA4 (i := 3) (N := some 13) (mb 24 15) HT_ HW_ hHeld ?_
          refine oA (i := 4) (N := some 14) (mb 24 31) HT_ (fun K hK => ?_)
          refine gA Try.func111 #[.agg #[.int .i64 ((rd_T90 l0 x3_1).f0), .int .i64 ((rd_T90 l0 x3_1).f1), .int .i64 ((rd_T90 l0 x3_1).f2), .int .i64 ((rd_T90 l0 x3_1).f3)]] ?_
          with_reducible refine (spec_IsPath.calls ((rd_T90 l0 x3_1).f0) ((rd_T90 l0 x3_1).f1) ((rd_T90 l0 x3_1).f2) ((rd_T90 l0 x3_1).f3) false _ A4.out).mono ?_
          rintro e w18 ⟨rfl, hb⟩
          refine ⟨_, rfl, ?_⟩
          replace HB := Aside0.mk (below_step bA hb)
          (try clear hb)
          (try clear hb2)
          (try clear hk)
          (try clear hi)
          refine hK.out _ _ ⟨(hC HB hw270_0), (hC HB hw270_1), (hC HB hw270_2), (hC HB hw270_3)⟩ (fun hHeld => ?_)
          clear hK K
          refine nA ?_
          refine pA (i := 5) (N := some 15) (mb 24 63) HT_ ?_
          refine pA (i := 6) (N := some 16) (mb 24 127) HT_ ?_
          refine pU (i := 7) (N := some 17) (mb 24 255) HT_ ?_
          refine pU (i := 8) (N := some 18) (mb 24 511) HT_ ?_
          refine pU (i := 9) (N := some 19) (mb 24 1023) HT_ ?_
          refine pU (i := 10) (N := some 20) (mb 24 2047) HT_ ?_
          refine pU (i := 11) (N := some 21) (mb 24 4095) HT_ ?_
          refine pU (i := 12) (N := some 22) (mb 24 8191) HT_ ?_
          refine pU (i := 13) (N := some 23) (mb 24 16383) HT_ ?_
          refine pU (i := 14) (N := some 24) (mb 24 32767) HT_ ?_
          refine pU (i := 15) (N := some 25) (mb 24 65535) HT_ ?_
          refine pU (i := 16) (N := some 26) (mb 24 131071) HT_ ?_
          refine pU (i := 17) (N := some 27) (mb 24 262143) HT_ ?_
          refine pU (i := 18) (N := some 28) (mb 24 524287) HT_ ?_
          refine pU (i := 19) (N := some 29) (mb 24 1048575) HT_ ?_
          refine pU (i := 20) (N := some 30) (mb 24 2097151) HT_ ?_
          refine pU (i := 21) (N := some 31) (mb 24 4194303) HT_ ?_
          refine pU (i := 22) (N := some 32) (mb 24 8388607) HT_ ?_
          refine pA (i := 23) (N := some 33) (mb 24 16777215) HT_ ?_
          refine eA HT_ ?_
          try go_wp2
          go_ret
          exact ⟨rA, bA⟩
      · rw [if_neg c2] at H
        have c2b0 : decide (x3_1 < (l0.length : Int)) = false := decide_eq_false c2
        clear c2
        obtain rfl := Option.some.inj H
        go_wp2
        go_ret
        exact ⟨rA, bA⟩

/-! ### spec_Conflict: function 91 -/
def spec_Conflict.j0 : Nat → Bool → Int → Int → Int → Int → Int → Int → Int → Int → Option (Bool)
  | 0, _, _, _, _, _, _, _, _, _ => none
  | k + 1, x5, x504000, x504001, x504002, x504003, x505000, x505001, x505002, x505003 => if x5 = true then (some false) else (if x504001 = 2 then (if x505002 = x504002 then (some true) else (some (x505003 == x504002))) else (if x505001 = 2 then (if x504002 = x505002 then (some true) else (some (x504003 == x505002))) else (if x504002 = x505002 then (some false) else (if x504003 = x505003 then (some true) else ((spec_InPlace.f x504002).bind fun t507 => ((spec_OutPlace.f x504003).bind fun t508 => ((spec_InPlace.f x505002).bind fun t509 => ((spec_OutPlace.f x505003).bind fun t510 => ((spec_Interleave.f k t507 t508 t509 t510).bind fun t511 => (some t511))))))))))
def spec_Conflict.f (k : Nat) (a0_0 : Int) (a0_1 : Int) (a0_2 : Int) (a0_3 : Int) (a1_0 : Int) (a1_1 : Int) (a1_2 : Int) (a1_3 : Int) : Option (Bool) := (spec_IsPath.f a0_0 a0_1 a0_2 a0_3).bind fun t505 => (if t505 = true then ((spec_IsPath.f a1_0 a1_1 a1_2 a1_3).bind fun t506 => (if t506 = true then (if a0_1 = 2 then (spec_Conflict.j0 k (a1_1 == 2) a0_0 a0_1 a0_2 a0_3 a1_0 a1_1 a1_2 a1_3) else (spec_Conflict.j0 k false a0_0 a0_1 a0_2 a0_3 a1_0 a1_1 a1_2 a1_3)) else (spec_Conflict.j0 k true a0_0 a0_1 a0_2 a0_3 a1_0 a1_1 a1_2 a1_3))) else (spec_Conflict.j0 k true a0_0 a0_1 a0_2 a0_3 a1_0 a1_1 a1_2 a1_3))
theorem spec_Conflict.mono_l : ∀ k, (∀ y0 y1 y2 y3 y4 y5 y6 y7 y8, LeO (spec_Conflict.j0 k y0 y1 y2 y3 y4 y5 y6 y7 y8) (spec_Conflict.j0 (k + 1) y0 y1 y2 y3 y4 y5 y6 y7 y8))
  | 0 => fun _ _ _ _ _ _ _ _ _ r h => by simp [spec_Conflict.j0] at h
  | k + 1 => by
    have ih0 := spec_Conflict.mono_l k
    · intro y0 y1 y2 y3 y4 y5 y6 y7 y8
      unfold spec_Conflict.j0
      repeat' first | (with_reducible first | exact LeO.refl _ | exact LeO.none _ | refine LeO.ite ?_ ?_ | refine LeO.bind ?_ (fun _ => ?_) | exact ih0 _ _ _ _ _ _ _ _ _ | exact spec_Interleave.mono _ _ _ _ _) | exact LeO.none _ | refine LeO.ite ?_ ?_ | refine LeO.bind ?_ (fun _ => ?_) | exact ih0 _ _ _ _ _ _ _ _ _ | exact spec_Interleave.mono _ _ _ _ _
theorem spec_Conflict.mono : ∀ a0 a1 a2 a3 a4 a5 a6 a7 k, LeO (spec_Conflict.f k a0 a1 a2 a3 a4 a5 a6 a7) (spec_Conflict.f (k + 1) a0 a1 a2 a3 a4 a5 a6 a7) := by
  intro a0 a1 a2 a3 a4 a5 a6 a7 k
  have ih0 := spec_Conflict.mono_l k
  unfold spec_Conflict.f
  repeat' first | (with_reducible first | exact LeO.refl _ | exact LeO.none _ | refine LeO.ite ?_ ?_ | refine LeO.bind ?_ (fun _ => ?_) | exact ih0 _ _ _ _ _ _ _ _ _ | exact spec_Interleave.mono _ _ _ _ _) | exact LeO.none _ | refine LeO.ite ?_ ?_ | refine LeO.bind ?_ (fun _ => ?_) | exact ih0 _ _ _ _ _ _ _ _ _ | exact spec_Interleave.mono _ _ _ _ _
def spec_Conflict.T11 : Bool × List (List Nat × List Nat) := (true, [([], []), ([0], [0]), ([1], [1]), ([], []), ([3], [3]), ([4, 2], [4]), ([], []), ([6], [6]), ([7, 5], [7]), ([], []), ([9], [9]), ([10, 8], [10]), ([2, 5, 8, 11, 11], [2, 5, 8, 11]), ([12, 12, 0, 1, 2, 3, 4, 5, 6, 7, 8, 9, 10, 11, 12], [12])])
def spec_Conflict.B11 : List Nat := [0, 1, 3, 0, 8, 31, 0, 64, 255, 0, 512, 2047, 4095, 8191]
theorem spec_Conflict.tab11 : rtab .any (opsOf Try.f91 11) = spec_Conflict.T11 := by kernel_rfl
theorem spec_Conflict.bits11 : waitsOk spec_Conflict.T11.2 spec_Conflict.B11 = true := by kernel_rfl
set_option maxHeartbeats 8000000 in
set_option maxRecDepth 100000 in
theorem spec_Conflict.calls (k : Nat) (a0_0 : Int) (a0_1 : Int) (a0_2 : Int) (a0_3 : Int) (a1_0 : Int) (a1_1 : Int) (a1_2 : Int) (a1_3 : Int) (r : Bool) (w : World) (h : spec_Conflict.f k a0_0 a0_1 a0_2 a0_3 a1_0 a1_1 a1_2 a1_3 = some r) :
    Calls Try.prog 91 #[.agg #[.int .i64 a0_0, .int .i64 a0_1, .int .i64 a0_2, .int .i64 a0_3], .agg #[.int .i64 a1_0, .int .i64 a1_1, .int .i64 a1_2, .int .i64 a1_3]] w fun e w' => e = .returned (.bool r) ∧ Below w.heap.size w w' := by
  have hu90 := Try.underlying90
  have HB := Aside0.mk (Below.refl w.heap.size w)
  have H : ((spec_IsPath.f a0_0 a0_1 a0_2 a0_3).bind fun t505 => (if t505 = true then ((spec_IsPath.f a1_0 a1_1 a1_2 a1_3).bind fun t506 => (if t506 = true then (if a0_1 = 2 then (spec_Conflict.j0 k (a1_1 == 2) a0_0 a0_1 a0_2 a0_3 a1_0 a1_1 a1_2 a1_3) else (spec_Conflict.j0 k false a0_0 a0_1 a0_2 a0_3 a1_0 a1_1 a1_2 a1_3)) else (spec_Conflict.j0 k true a0_0 a0_1 a0_2 a0_3 a1_0 a1_1 a1_2 a1_3))) else (spec_Conflict.j0 k true a0_0 a0_1 a0_2 a0_3 a1_0 a1_1 a1_2 a1_3))) = some r := h
  clear h
  have HC3 := Aside0.mk H
  clear H
  go_enter Try.func91, Try.ntmps91
  go_upto_region 1 with (first | ((with_reducible refine gate_dst (N := 2) rfl ?_); refine bE (N := 2) (cs := #[.int .i64 a0_0, .int .i64 a0_1, .int .i64 a0_2, .int .i64 a0_3]) (t := 90) ?_; intro gb503 hg w4 hbox hb; have n0_ := Aside0.mk (below_step bA hb); have n1_ := Aside0.mk (hbox); have n2_ := Aside0.mk ((by rw [hg]; exact (below_size bA) : w.heap.size ≤ gb503)); have n3_ := Aside0.mk ((by rw [hg]; exact (below_size bA) : w.heap.size ≤ gb503)); clear HB; have HB := n0_; have BK503 := n1_; have GW503 := n2_; have GE503 := n3_; clear n0_ n1_ n2_ n3_; clear hb hbox hg) | ((with_reducible refine gate_dst (N := 3) rfl ?_); refine bE (N := 3) (cs := #[.int .i64 a1_0, .int .i64 a1_1, .int .i64 a1_2, .int .i64 a1_3]) (t := 90) ?_; intro gb504 hg w5 hbox hb; have n0_ := Aside0.mk (blk_below (g := gb503) (bK BK503) hb); have n1_ := Aside0.mk (below_step bG hb); have n2_ := Aside0.mk (hbox); have n3_ := Aside0.mk ((by rw [hg]; exact (below_size bG) : w.heap.size ≤ gb504)); have n4_ := Aside0.mk ((by rw [hg]; exact (below_size bG) : w.heap.size ≤ gb504)); have n5_ := Aside0.mk ((by rw [hg]; exact Nat.ne_of_lt (blk_lt (g := gb503) (o := .cells #[.int .i64 a0_0, .int .i64 a0_1, .int .i64 a0_2, .int .i64 a0_3] 90 (0, 0)) (bK BK503)) : gb503 ≠ gb504)); have n6_ := Aside0.mk ((by rw [hg]; exact Nat.ne_of_gt (blk_lt (g := gb503) (o := .cells #[.int .i64 a0_0, .int .i64 a0_1, .int .i64 a0_2, .int .i64 a0_3] 90 (0, 0)) (bK BK503)) : gb504 ≠ gb503)); clear BK503; clear HB; have BK503 := n0_; have HB := n1_; have BK504 := n2_; have GW504 := n3_; have GE504 := n4_; have NB503_504 := n5_; have NB504_503 := n6_; clear n0_ n1_ n2_ n3_ n4_ n5_ n6_; clear hb hbox hg))
  (try simp only [Act.put, List.setIfInBounds_toArray, List.set_cons_zero, List.set_cons_succ])
  go_cut [5] (fun v5 wc => ∃ (kq : Nat) (x5_2 : Bool), v5 = .bool x5_2 ∧ Aside0 (spec_Conflict.j0 kq x5_2 a0_0 a0_1 a0_2 a0_3 a1_0 a1_1 a1_2 a1_3 = some r) ∧ Aside0 (kq ≤ k) ∧ Aside0 (wc.heap[gb503]? = some (.cells #[.int .i64 a0_0, .int .i64 a0_1, .int .i64 a0_2, .int .i64 a0_3] 90 (0, 0))) ∧ Aside0 (wc.heap[gb504]? = some (.cells #[.int .i64 a1_0, .int .i64 a1_1, .int .i64 a1_2, .int .i64 a1_3] 90 (0, 0))) ∧ Aside0 (Below w.heap.size w wc))
  case first =>
    have H := HC3.out
    clear HC3
    obtain ⟨t505, A6, H⟩ := bindE H
    try dsimp only at H
    by_cases c7 : t505 = true
    · subst c7
      have H1 : ((spec_IsPath.f a1_0 a1_1 a1_2 a1_3).bind fun t506 => (if t506 = true then (if a0_1 = 2 then (spec_Conflict.j0 k (a1_1 == 2) a0_0 a0_1 a0_2 a0_3 a1_0 a1_1 a1_2 a1_3) else (spec_Conflict.j0 k false a0_0 a0_1 a0_2 a0_3 a1_0 a1_1 a1_2 a1_3)) else (spec_Conflict.j0 k true a0_0 a0_1 a0_2 a0_3 a1_0 a1_1 a1_2 a1_3))) = some r := by rw [if_pos rfl] at H; exact H
      clear H
      have H := H1
      clear H1
      obtain ⟨t506, A8, H⟩ := bindE H
      try dsimp only at H
      by_cases c9 : t506 = true
      · subst c9
        have H1 : (if a0_1 = 2 then (spec_Conflict.j0 k (a1_1 == 2) a0_0 a0_1 a0_2 a0_3 a1_0 a1_1 a1_2 a1_3) else (spec_Conflict.j0 k false a0_0 a0_1 a0_2 a0_3 a1_0 a1_1 a1_2 a1_3)) = some r := by rw [if_pos rfl] at H; exact H
        clear H
        have H := H1
        clear H1
        by_cases c10 : a0_1 = 2
        · rw [if_pos c10] at H
          have c10b0 : (a0_1 == 2) = true := beq_iff_eq.mpr c10
          have c10b1 : (a0_1 != 2) = false := bne_eq_false_iff_eq.mpr c10
          clear c10
          (first | rw [c10b0] | (simp only [i64_w, i32_w]; rw [c10b0]) | skip)
          have H' := Aside0.mk H
          clear H
          have hnb11 := NB503_504.out
          have hnc11 := NB504_503.out
          obtain ⟨hcz12_0, hcz12_1, hcz12_2, hcz12_3, hfz12_0, hfz12_1, hfz12_2, hfz12_3⟩ := blkc4 BK503
          go_wp2_with (first | ((with_reducible refine gate_callee (f := 111) rfl ?_); refine gL (some 7) Try.func111 #[.agg #[.int .i64 a0_0, .int .i64 a0_1, .int .i64 a0_2, .int .i64 a0_3]] ?_; (with_reducible refine (spec_IsPath.calls a0_0 a0_1 a0_2 a0_3 true _ A6.out).mono ?_); rintro e w13 ⟨rfl, hb⟩; refine ⟨_, rfl, ?_⟩; replace BK503 := Aside0.mk (blk_below (g := gb503) (bK BK503) hb); replace BK504 := Aside0.mk (blk_below (g := gb504) (bK BK504) hb); replace HB := Aside0.mk (below_step bG hb); (try clear hb); (try clear hb2); (try clear hk); (try clear hi); have hcz14_0 : w13.cell? ⟨gb504, 0, none⟩ = some (.int .i64 a1_0) := (blk_cell BK504.out 0).trans rfl; have hcz14_1 : w13.cell? ⟨gb504, 1, none⟩ = some (.int .i64 a1_1) := (blk_cell BK504.out 1).trans rfl; have hcz14_2 : w13.cell? ⟨gb504, 2, none⟩ = some (.int .i64 a1_2) := (blk_cell BK504.out 2).trans rfl; have hcz14_3 : w13.cell? ⟨gb504, 3, none⟩ = some (.int .i64 a1_3) := (blk_cell BK504.out 3).trans rfl; have hfz14_0 := blk_frozen BK504.out 0; have hfz14_1 := blk_frozen BK504.out 1; have hfz14_2 := blk_frozen BK504.out 2; have hfz14_3 := blk_frozen BK504.out 3) | (go_at_call 111; (with_reducible refine (spec_IsPath.calls a1_0 a1_1 a1_2 a1_3 true _ A8.out).mono ?_); rintro e w15 ⟨rfl, hb⟩; replace BK503 := Aside0.mk (blk_below (g := gb503) (bK BK503) hb); replace BK504 := Aside0.mk (blk_below (g := gb504) (bK BK504) hb); replace HB := Aside0.mk (below_step bG hb); (try clear hb); (try clear hb2); (try clear hk); (try clear hi); obtain ⟨hcz16_0, hcz16_1, hcz16_2, hcz16_3, hfz16_0, hfz16_1, hfz16_2, hfz16_3⟩ := blkc4 BK503; obtain ⟨hcz17_0, hcz17_1, hcz17_2, hcz17_3, hfz17_0, hfz17_1, hfz17_2, hfz17_3⟩ := blkc4 BK504))
          go_meet
          case rel => exact ⟨_, ((a1_1 == 2)), rS, H', ⟨by first | omega | exact Nat.le_refl _⟩, ⟨bK BK503⟩, ⟨bK BK504⟩, ⟨bG⟩⟩
        · rw [if_neg c10] at H
          have c10b0 : (a0_1 == 2) = false := beq_eq_false_iff_ne.mpr c10
          have c10b1 : (a0_1 != 2) = true := bne_iff_ne.mpr c10
          (first | rw [c10b0] | (simp only [i64_w, i32_w]; rw [c10b0]) | skip)
          have H' := Aside0.mk H
          clear H
          have hnb18 := NB503_504.out
          have hnc18 := NB504_503.out
          obtain ⟨hcz19_0, hcz19_1, hcz19_2, hcz19_3, hfz19_0, hfz19_1, hfz19_2, hfz19_3⟩ := blkc4 BK503
          go_wp2_with (first | ((with_reducible refine gate_callee (f := 111) rfl ?_); refine gL (some 7) Try.func111 #[.agg #[.int .i64 a0_0, .int .i64 a0_1, .int .i64 a0_2, .int .i64 a0_3]] ?_; (with_reducible refine (spec_IsPath.calls a0_0 a0_1 a0_2 a0_3 true _ A6.out).mono ?_); rintro e w20 ⟨rfl, hb⟩; refine ⟨_, rfl, ?_⟩; replace BK503 := Aside0.mk (blk_below (g := gb503) (bK BK503) hb); replace BK504 := Aside0.mk (blk_below (g := gb504) (bK BK504) hb); replace HB := Aside0.mk (below_step bG hb); (try clear hb); (try clear hb2); (try clear hk); (try clear hi); have hcz21_0 : w20.cell? ⟨gb504, 0, none⟩ = some (.int .i64 a1_0) := (blk_cell BK504.out 0).trans rfl; have hcz21_1 : w20.cell? ⟨gb504, 1, none⟩ = some (.int .i64 a1_1) := (blk_cell BK504.out 1).trans rfl; have hcz21_2 : w20.cell? ⟨gb504, 2, none⟩ = some (.int .i64 a1_2) := (blk_cell BK504.out 2).trans rfl; have hcz21_3 : w20.cell? ⟨gb504, 3, none⟩ = some (.int .i64 a1_3) := (blk_cell BK504.out 3).trans rfl; have hfz21_0 := blk_frozen BK504.out 0; have hfz21_1 := blk_frozen BK504.out 1; have hfz21_2 := blk_frozen BK504.out 2; have hfz21_3 := blk_frozen BK504.out 3) | (go_at_call 111; (with_reducible refine (spec_IsPath.calls a1_0 a1_1 a1_2 a1_3 true _ A8.out).mono ?_); rintro e w22 ⟨rfl, hb⟩; replace BK503 := Aside0.mk (blk_below (g := gb503) (bK BK503) hb); replace BK504 := Aside0.mk (blk_below (g := gb504) (bK BK504) hb); replace HB := Aside0.mk (below_step bG hb); (try clear hb); (try clear hb2); (try clear hk); (try clear hi); obtain ⟨hcz23_0, hcz23_1, hcz23_2, hcz23_3, hfz23_0, hfz23_1, hfz23_2, hfz23_3⟩ := blkc4 BK503))
          go_meet
          case rel => exact ⟨_, (false), rS, H', ⟨by first | omega | exact Nat.le_refl _⟩, ⟨bK BK503⟩, ⟨bK BK504⟩, ⟨bG⟩⟩
      · replace c9 := Bool.eq_false_iff.mpr c9
        subst c9
        have H1 : (spec_Conflict.j0 k true a0_0 a0_1 a0_2 a0_3 a1_0 a1_1 a1_2 a1_3) = some r := by rw [if_neg (show ¬ (false = true) by decide)] at H; exact H
        clear H
        have H := H1
        clear H1
        have H' := Aside0.mk H
        clear H
        have hnb24 := NB503_504.out
        have hnc24 := NB504_503.out
        obtain ⟨hcz25_0, hcz25_1, hcz25_2, hcz25_3, hfz25_0, hfz25_1, hfz25_2, hfz25_3⟩ := blkc4 BK503
        go_wp2_with (first | ((with_reducible refine gate_callee (f := 111) rfl ?_); refine gL (some 7) Try.func111 #[.agg #[.int .i64 a0_0, .int .i64 a0_1, .int .i64 a0_2, .int .i64 a0_3]] ?_; (with_reducible refine (spec_IsPath.calls a0_0 a0_1 a0_2 a0_3 true _ A6.out).mono ?_); rintro e w26 ⟨rfl, hb⟩; refine ⟨_, rfl, ?_⟩; replace BK503 := Aside0.mk (blk_below (g := gb503) (bK BK503) hb); replace BK504 := Aside0.mk (blk_below (g := gb504) (bK BK504) hb); replace HB := Aside0.mk (below_step bG hb); (try clear hb); (try clear hb2); (try clear hk); (try clear hi); have hcz27_0 : w26.cell? ⟨gb504, 0, none⟩ = some (.int .i64 a1_0) := (blk_cell BK504.out 0).trans rfl; have hcz27_1 : w26.cell? ⟨gb504, 1, none⟩ = some (.int .i64 a1_1) := (blk_cell BK504.out 1).trans rfl; have hcz27_2 : w26.cell? ⟨gb504, 2, none⟩ = some (.int .i64 a1_2) := (blk_cell BK504.out 2).trans rfl; have hcz27_3 : w26.cell? ⟨gb504, 3, none⟩ = some (.int .i64 a1_3) := (blk_cell BK504.out 3).trans rfl; have hfz27_0 := blk_frozen BK504.out 0; have hfz27_1 := blk_frozen BK504.out 1; have hfz27_2 := blk_frozen BK504.out 2; have hfz27_3 := blk_frozen BK504.out 3) | (go_at_call 111; (with_reducible refine (spec_IsPath.calls a1_0 a1_1 a1_2 a1_3 false _ A8.out).mono ?_); rintro e w28 ⟨rfl, hb⟩; replace BK503 := Aside0.mk (blk_below (g := gb503) (bK BK503) hb); replace BK504 := Aside0.mk (blk_below (g := gb504) (bK BK504) hb); replace HB := Aside0.mk (below_step bG hb); (try clear hb); (try clear hb2); (try clear hk); (try clear hi)))
        go_meet
        case rel => exact ⟨_, (true), rS, H', ⟨by first | omega | exact Nat.le_refl _⟩, ⟨bK BK503⟩, ⟨bK BK504⟩, ⟨bG⟩⟩
    · replace c7 := Bool.eq_false_iff.mpr c7
      subst c7
      have H1 : (spec_Conflict.j0 k true a0_0 a0_1 a0_2 a0_3 a1_0 a1_1 a1_2 a1_3) = some r := by rw [if_neg (show ¬ (false = true) by decide)] at H; exact H
      clear H
      have H := H1
      clear H1
      have H' := Aside0.mk H
      clear H
      have hnb29 := NB503_504.out
      have hnc29 := NB504_503.out
      obtain ⟨hcz30_0, hcz30_1, hcz30_2, hcz30_3, hfz30_0, hfz30_1, hfz30_2, hfz30_3⟩ := blkc4 BK503
      go_wp2_with (first | ((with_reducible refine gate_callee (f := 111) rfl ?_); refine gL (some 7) Try.func111 #[.agg #[.int .i64 a0_0, .int .i64 a0_1, .int .i64 a0_2, .int .i64 a0_3]] ?_; (with_reducible refine (spec_IsPath.calls a0_0 a0_1 a0_2 a0_3 false _ A6.out).mono ?_); rintro e w31 ⟨rfl, hb⟩; refine ⟨_, rfl, ?_⟩; replace BK503 := Aside0.mk (blk_below (g := gb503) (bK BK503) hb); replace BK504 := Aside0.mk (blk_below (g := gb504) (bK BK504) hb); replace HB := Aside0.mk (below_step bG hb); (try clear hb); (try clear hb2); (try clear hk); (try clear hi)))
      go_meet
      case rel => exact ⟨_, (true), rS, H', ⟨by first | omega | exact Nat.le_refl _⟩, ⟨bK BK503⟩, ⟨bK BK504⟩, ⟨bG⟩⟩
  case rest =>
    clear HC3
    try clear c1
    try clear c2
    try clear p2
    try clear c7
    try clear c9
    try clear c10
    try clear c10b0
    try clear c10b1
    try clear c11
    try clear c18
    try clear c24
    try clear c29
    try clear hcz12_0
    try clear hcz12_1
    try clear hcz12_2
    try clear hcz12_3
    try clear hcz14_0
    try clear hcz14_1
    try clear hcz14_2
    try clear hcz14_3
    try clear hcz16_0
    try clear hcz16_1
    try clear hcz16_2
    try clear hcz16_3
    try clear hcz17_0
    try clear hcz17_1
    try clear hcz17_2
    try clear hcz17_3
    try clear hcz19_0
    try clear hcz19_1
    try clear hcz19_2
    try clear hcz19_3
    try clear hcz21_0
    try clear hcz21_1
    try clear hcz21_2
    try clear hcz21_3
    try clear hcz23_0
    try clear hcz23_1
    try clear hcz23_2
    try clear hcz23_3
    try clear hcz25_0
    try clear hcz25_1
    try clear hcz25_2
    try clear hcz25_3
    try clear hcz27_0
    try clear hcz27_1
    try clear hcz27_2
    try clear hcz27_3
    try clear hcz30_0
    try clear hcz30_1
    try clear hcz30_2
    try clear hcz30_3
    try clear hfz12_0
    try clear hfz12_1
    try clear hfz12_2
    try clear hfz12_3
    try clear hfz14_0
    try clear hfz14_1
    try clear hfz14_2
    try clear hfz14_3
    try clear hfz16_0
    try clear hfz16_1
    try clear hfz16_2
    try clear hfz16_3
    try clear hfz17_0
    try clear hfz17_1
    try clear hfz17_2
    try clear hfz17_3
    try clear hfz19_0
    try clear hfz19_1
    try clear hfz19_2
    try clear hfz19_3
    try clear hfz21_0
    try clear hfz21_1
    try clear hfz21_2
    try clear hfz21_3
    try clear hfz23_0
    try clear hfz23_1
    try clear hfz23_2
    try clear hfz23_3
    try clear hfz25_0
    try clear hfz25_1
    try clear hfz25_2
    try clear hfz25_3
    try clear hfz27_0
    try clear hfz27_1
    try clear hfz27_2
    try clear hfz27_3
    try clear hfz30_0
    try clear hfz30_1
    try clear hfz30_2
    try clear hfz30_3
    obtain ⟨kq, x5_2, rfl, HA, HJ2, BK503, BK504, HB⟩ := hcut
    cases kq with
    | zero => exact absurd HA.out (by simp [spec_Conflict.j0])
    | succ kj2 =>
      have H := HA.out
      clear HA
      simp only [spec_Conflict.j0] at H
      by_cases c32 : x5_2 = true
      · subst c32
        have H1 : (some false) = some r := by rw [if_pos rfl] at H; exact H
        clear H
        have H := H1
        clear H1
        obtain rfl := Option.some.inj H
        go_wp2
        go_ret
        exact ⟨rA, bG⟩
      · replace c32 := Bool.eq_false_iff.mpr c32
        subst c32
        have H1 : (if a0_1 = 2 then (if a1_2 = a0_2 then (some true) else (some (a1_3 == a0_2))) else (if a1_1 = 2 then (if a0_2 = a1_2 then (some true) else (some (a0_3 == a1_2))) else (if a0_2 = a1_2 then (some false) else (if a0_3 = a1_3 then (some true) else ((spec_InPlace.f a0_2).bind fun t507 => ((spec_OutPlace.f a0_3).bind fun t508 => ((spec_InPlace.f a1_2).bind fun t509 => ((spec_OutPlace.f a1_3).bind fun t510 => ((spec_Interleave.f kj2 t507 t508 t509 t510).bind fun t511 => (some t511)))))))))) = some r := by rw [if_neg (show ¬ (false = true) by decide)] at H; exact H
        clear H
        have H := H1
        clear H1
        by_cases c33 : a0_1 = 2
        · rw [if_pos c33] at H
          have c33b0 : (a0_1 == 2) = true := beq_iff_eq.mpr c33
          have c33b1 : (a0_1 != 2) = false := bne_eq_false_iff_eq.mpr c33
          clear c33
          by_cases c34 : a1_2 = a0_2
          · rw [if_pos c34] at H
            have c34b0 : (a1_2 == a0_2) = true := beq_iff_eq.mpr c34
            have c34b1 : (a1_2 != a0_2) = false := bne_eq_false_iff_eq.mpr c34
            clear c34
            obtain rfl := Option.some.inj H
            have hnb35 := NB503_504.out
            have hnc35 := NB504_503.out
            obtain ⟨hcz36_0, hcz36_1, hcz36_2, hcz36_3, hfz36_0, hfz36_1, hfz36_2, hfz36_3⟩ := blkc4 BK503
            obtain ⟨hcz37_0, hcz37_1, hcz37_2, hcz37_3, hfz37_0, hfz37_1, hfz37_2, hfz37_3⟩ := blkc4 BK504
            go_wp2
            go_ret
            exact ⟨rA, bG⟩
          · rw [if_neg c34] at H
            have c34b0 : (a1_2 == a0_2) = false := beq_eq_false_iff_ne.mpr c34
            have c34b1 : (a1_2 != a0_2) = true := bne_iff_ne.mpr c34
            obtain rfl := Option.some.inj H
            have hnb38 := NB503_504.out
            have hnc38 := NB504_503.out
            obtain ⟨hcz39_0, hcz39_1, hcz39_2, hcz39_3, hfz39_0, hfz39_1, hfz39_2, hfz39_3⟩ := blkc4 BK503
            obtain ⟨hcz40_0, hcz40_1, hcz40_2, hcz40_3, hfz40_0, hfz40_1, hfz40_2, hfz40_3⟩ := blkc4 BK504
            go_wp2
            go_ret
            exact ⟨rA, bG⟩
        · rw [if_neg c33] at H
          have c33b0 : (a0_1 == 2) = false := beq_eq_false_iff_ne.mpr c33
          have c33b1 : (a0_1 != 2) = true := bne_iff_ne.mpr c33
          by_cases c41 : a1_1 = 2
          · rw [if_pos c41] at H
            have c41b0 : (a1_1 == 2) = true := beq_iff_eq.mpr c41
            have c41b1 : (a1_1 != 2) = false := bne_eq_false_iff_eq.mpr c41
            clear c41
            by_cases c42 : a0_2 = a1_2
            · rw [if_pos c42] at H
              have c42b0 : (a0_2 == a1_2) = true := beq_iff_eq.mpr c42
              have c42b1 : (a0_2 != a1_2) = false := bne_eq_false_iff_eq.mpr c42
              clear c42
              obtain rfl := Option.some.inj H
              have hnb43 := NB503_504.out
              have hnc43 := NB504_503.out
              obtain ⟨hcz44_0, hcz44_1, hcz44_2, hcz44_3, hfz44_0, hfz44_1, hfz44_2, hfz44_3⟩ := blkc4 BK503
              obtain ⟨hcz45_0, hcz45_1, hcz45_2, hcz45_3, hfz45_0, hfz45_1, hfz45_2, hfz45_3⟩ := blkc4 BK504
              go_wp2
              go_ret
              exact ⟨rA, bG⟩
            · rw [if_neg c42] at H
              have c42b0 : (a0_2 == a1_2) = false := beq_eq_false_iff_ne.mpr c42
              have c42b1 : (a0_2 != a1_2) = true := bne_iff_ne.mpr c42
              obtain rfl := Option.some.inj H
              have hnb46 := NB503_504.out
              have hnc46 := NB504_503.out
              obtain ⟨hcz47_0, hcz47_1, hcz47_2, hcz47_3, hfz47_0, hfz47_1, hfz47_2, hfz47_3⟩ := blkc4 BK503
              obtain ⟨hcz48_0, hcz48_1, hcz48_2, hcz48_3, hfz48_0, hfz48_1, hfz48_2, hfz48_3⟩ := blkc4 BK504
              go_wp2
              go_ret
              exact ⟨rA, bG⟩
          · rw [if_neg c41] at H
            have c41b0 : (a1_1 == 2) = false := beq_eq_false_iff_ne.mpr c41
            have c41b1 : (a1_1 != 2) = true := bne_iff_ne.mpr c41
            by_cases c49 : a0_2 = a1_2
            · rw [if_pos c49] at H
              have c49b0 : (a0_2 == a1_2) = true := beq_iff_eq.mpr c49
              have c49b1 : (a0_2 != a1_2) = false := bne_eq_false_iff_eq.mpr c49
              clear c49
              obtain rfl := Option.some.inj H
              have hnb50 := NB503_504.out
              have hnc50 := NB504_503.out
              obtain ⟨hcz51_0, hcz51_1, hcz51_2, hcz51_3, hfz51_0, hfz51_1, hfz51_2, hfz51_3⟩ := blkc4 BK503
              obtain ⟨hcz52_0, hcz52_1, hcz52_2, hcz52_3, hfz52_0, hfz52_1, hfz52_2, hfz52_3⟩ := blkc4 BK504
              go_wp2
              go_ret
              exact ⟨rA, bG⟩
            · rw [if_neg c49] at H
              have c49b0 : (a0_2 == a1_2) = false := beq_eq_false_iff_ne.mpr c49
              have c49b1 : (a0_2 != a1_2) = true := bne_iff_ne.mpr c49
              by_cases c53 : a0_3 = a1_3
              · rw [if_pos c53] at H
                have c53b0 : (a0_3 == a1_3) = true := beq_iff_eq.mpr c53
                have c53b1 : (a0_3 != a1_3) = false := bne_eq_false_iff_eq.mpr c53
                clear c53
                obtain rfl := Option.some.inj H
                have hnb54 := NB503_504.out
                have hnc54 := NB504_503.out
                obtain ⟨hcz55_0, hcz55_1, hcz55_2, hcz55_3, hfz55_0, hfz55_1, hfz55_2, hfz55_3⟩ := blkc4 BK503
                obtain ⟨hcz56_0, hcz56_1, hcz56_2, hcz56_3, hfz56_0, hfz56_1, hfz56_2, hfz56_3⟩ := blkc4 BK504
                go_wp2
                go_ret
                exact ⟨rA, bG⟩
              · rw [if_neg c53] at H
                have c53b0 : (a0_3 == a1_3) = false := beq_eq_false_iff_ne.mpr c53
                have c53b1 : (a0_3 != a1_3) = true := bne_iff_ne.mpr c53
                obtain ⟨t507, A57, H⟩ := bindE H
                try dsimp only at H
                obtain ⟨t508, A58, H⟩ := bindE H
                try dsimp only at H
                obtain ⟨t509, A59, H⟩ := bindE H
                try dsimp only at H
                obtain ⟨t510, A60, H⟩ := bindE H
                try dsimp only at H
                obtain ⟨t511, A61, H⟩ := bindE H
                try dsimp only at H
                obtain rfl := Option.some.inj H
                have hnb62 := NB503_504.out
                have hnc62 := NB504_503.out
                obtain ⟨hcz63_0, hcz63_1, hcz63_2, hcz63_3, hfz63_0, hfz63_1, hfz63_2, hfz63_3⟩ := blkc4 BK503
                obtain ⟨hcz64_0, hcz64_1, hcz64_2, hcz64_3, hfz64_0, hfz64_1, hfz64_2, hfz64_3⟩ := blkc4 BK504
                try go_wp2
                replace BK503 := Aside0.mk (blk_drew BK503.out)
                replace BK504 := Aside0.mk (blk_drew BK504.out)
                have HBo := HB
                replace HB := Aside0.mk (below_drew1 HB.out)
                refine start_ (n := 14) (S := fun w' => w'.cell? ⟨gb503, 0, none⟩ = some (.int .i64 a0_0) ∧ w'.cell? ⟨gb503, 1, none⟩ = some (.int .i64 a0_1) ∧ w'.cell? ⟨gb503, 2, none⟩ = some (.int .i64 a0_2) ∧ w'.cell? ⟨gb503, 3, none⟩ = some (.int .i64 a0_3) ∧ w'.cell? ⟨gb504, 0, none⟩ = some (.int .i64 a1_0) ∧ w'.cell? ⟨gb504, 1, none⟩ = some (.int .i64 a1_1) ∧ w'.cell? ⟨gb504, 2, none⟩ = some (.int .i64 a1_2) ∧ w'.cell? ⟨gb504, 3, none⟩ = some (.int .i64 a1_3)) (ds := []) (mb 14 0) (by kernel_rfl) rfl rfl ⟨(blk_cell BK503.out 0).trans rfl, (blk_cell BK503.out 1).trans rfl, (blk_cell BK503.out 2).trans rfl, (blk_cell BK503.out 3).trans rfl, (blk_cell BK504.out 0).trans rfl, (blk_cell BK504.out 1).trans rfl, (blk_cell BK504.out 2).trans rfl, (blk_cell BK504.out 3).trans rfl⟩ (fun hHeld => ?_); refine with_tabW spec_Conflict.tab11 spec_Conflict.bits11 (fun HT_ HW_ => ?_)
                generalize wc.drew = w65 at BK503 BK504 HB hHeld ⊢
                refine pA (i := 0) (N := some 68) (mb 14 1) HT_ ?_
                refine pA (i := 3) (N := some 71) (mb 14 9) HT_ ?_
                refine pA (i := 6) (N := some 74) (mb 14 73) HT_ ?_
                refine pA (i := 9) (N := some 77) (mb 14 585) HT_ ?_
                refine tA8 (i := 1) (N := some 69) (mb 14 587) HT_ HW_ hHeld ?_
                refine tA8 (i := 4) (N := some 72) (mb 14 603) HT_ HW_ hHeld ?_
                refine tA8 (i := 7) (N := some 75) (mb 14 731) HT_ HW_ hHeld ?_
                refine tA8 (i := 10) (N := some 78) (mb 14 1755) HT_ HW_ hHeld ?_
                refine oA (i := 2) (N := some 70) (mb 14 1759) HT_ (fun K hK => ?_)
                refine gA Try.func120 #[.int .i64 a0_2] ?_
                with_reducible refine (spec_InPlace.calls a0_2 t507 _ A57.out).mono ?_
                rintro e w' ⟨rfl, ⟨nd, rfl⟩⟩
                refine ⟨_, rfl, ?_⟩
                refine hK.out _ _ ⟨(blk_cell BK503.out 0).trans rfl, (blk_cell BK503.out 1).trans rfl, (blk_cell BK503.out 2).trans rfl, (blk_cell BK503.out 3).trans rfl, (blk_cell BK504.out 0).trans rfl, (blk_cell BK504.out 1).trans rfl, (blk_cell BK504.out 2).trans rfl, (blk_cell BK504.out 3).trans rfl⟩ (fun hHeld => ?_)
                clear hK K
                refine nA ?_
                refine oA (i := 5) (N := some 73) (mb 14 1791) HT_ (fun K hK => ?_)
                refine gA Try.func121 #[.int .i64 a0_3] ?_
                with_reducible refine (spec_OutPlace.calls a0_3 t508 _ A58.out).mono ?_
                rintro e w' ⟨rfl, ⟨nd, rfl⟩⟩
                refine ⟨_, rfl, ?_⟩
                refine hK.out _ _ ⟨(blk_cell BK503.out 0).trans rfl, (blk_cell BK503.out 1).trans rfl, (blk_cell BK503.out 2).trans rfl, (blk_cell BK503.out 3).trans rfl, (blk_cell BK504.out 0).trans rfl, (blk_cell BK504.out 1).trans rfl, (blk_cell BK504.out 2).trans rfl, (blk_cell BK504.out 3).trans rfl⟩ (fun hHeld => ?_)
                clear hK K
                refine nA ?_
                refine oA (i := 8) (N := some 76) (mb 14 2047) HT_ (fun K hK => ?_)
                refine gA Try.func120 #[.int .i64 a1_2] ?_
                with_reducible refine (spec_InPlace.calls a1_2 t509 _ A59.out).mono ?_
                rintro e w' ⟨rfl, ⟨nd, rfl⟩⟩
                refine ⟨_, rfl, ?_⟩
                refine hK.out _ _ ⟨(blk_cell BK503.out 0).trans rfl, (blk_cell BK503.out 1).trans rfl, (blk_cell BK503.out 2).trans rfl, (blk_cell BK503.out 3).trans rfl, (blk_cell BK504.out 0).trans rfl, (blk_cell BK504.out 1).trans rfl, (blk_cell BK504.out 2).trans rfl, (blk_cell BK504.out 3).trans rfl⟩ (fun hHeld => ?_)
                clear hK K
                refine nA ?_
                refine oA (i := 11) (N := some 79) (mb 14 4095) HT_ (fun K hK => ?_)
                refine gA Try.func121 #[.int .i64 a1_3] ?_
                with_reducible refine (spec_OutPlace.calls a1_3 t510 _ A60.out).mono ?_
                rintro e w' ⟨rfl, ⟨nd, rfl⟩⟩
                refine ⟨_, rfl, ?_⟩
                refine hK.out _ _ ⟨(blk_cell BK503.out 0).trans rfl, (blk_cell BK503.out 1).trans rfl, (blk_cell BK503.out 2).trans rfl, (blk_cell BK503.out 3).trans rfl, (blk_cell BK504.out 0).trans rfl, (blk_cell BK504.out 1).trans rfl, (blk_cell BK504.out 2).trans rfl, (blk_cell BK504.out 3).trans rfl⟩ (fun hHeld => ?_)
                clear hK K
                refine nA ?_
                refine oA (i := 12) (N := some 80) (mb 14 8191) HT_ (fun K hK => ?_)
                refine gA Try.func119 #[.int .i64 t507, .int .i64 t508, .int .i64 t509, .int .i64 t510] ?_
                with_reducible refine (spec_Interleave.calls kj2 t507 t508 t509 t510 t511 _ A61.out).mono ?_
                rintro e w66 ⟨rfl, hb⟩
                refine ⟨_, rfl, ?_⟩
                replace BK503 := Aside0.mk (blk_below (g := gb503) (bK BK503) hb)
                replace BK504 := Aside0.mk (blk_below (g := gb504) (bK BK504) hb)
                replace HB := Aside0.mk (below_step bG hb)
                (try clear hb)
                (try clear hb2)
                (try clear hk)
                (try clear hi)
                refine hK.out _ _ ⟨(blk_cell BK503.out 0).trans rfl, (blk_cell BK503.out 1).trans rfl, (blk_cell BK503.out 2).trans rfl, (blk_cell BK503.out 3).trans rfl, (blk_cell BK504.out 0).trans rfl, (blk_cell BK504.out 1).trans rfl, (blk_cell BK504.out 2).trans rfl, (blk_cell BK504.out 3).trans rfl⟩ (fun hHeld => ?_)
                clear hK K
                refine nA ?_
                refine pA (i := 13) (N := some 4) (mb 14 16383) HT_ ?_
                refine eA HT_ ?_
                try go_wp2
                go_ret
                exact ⟨rA, bG⟩

/-! ### spec_IsTogether: function 98 -/
mutual
def spec_IsTogether.l0 : Nat → List (S90) → List Int → Int → Option (Bool)
  | 0, _, _, _ => none
  | k + 1, x0, x1, x5 => if x5 < (x1.length : Int) then (if 0 ≤ x5 then ((spec_FindPath.f k x0 (rd x1 x5)).bind fun t681 => (if t681 < 0 then (spec_IsTogether.j1 k x0 x1 x5 t681 true) else (if x5 > 0 then (if 0 ≤ (wrap64 (x5 - 1)) then (if (wrap64 (x5 - 1)) < (x1.length : Int) then (spec_IsTogether.j1 k x0 x1 x5 t681 (decide ((rd x1 (wrap64 (x5 - 1))) ≥ (rd x1 x5)))) else (none)) else (none)) else (spec_IsTogether.j1 k x0 x1 x5 t681 false)))) else (none)) else ((spec_ArePaths.f k x0).bind fun t679 => (some t679))
def spec_IsTogether.j1 : Nat → List (S90) → List Int → Int → Int → Bool → Option (Bool)
  | 0, _, _, _, _, _ => none
  | k + 1, x0, x1, x5, x6, x37 => if x37 = true then (some false) else (spec_IsTogether.l1 k x0 x1 x5 x6 0)
def spec_IsTogether.l1 : Nat → List (S90) → List Int → Int → Int → Int → Option (Bool)
  | 0, _, _, _, _, _ => none
  | k + 1, x0, x1, x5, x6, x7 => if x7 < x5 then (if 0 ≤ x6 then (if x6 < (x0.length : Int) then (if 0 ≤ x7 then (if x7 < (x1.length : Int) then ((spec_FindPath.f k x0 (rd x1 x7)).bind fun t686 => (if 0 ≤ t686 then (if t686 < (x0.length : Int) then ((spec_Conflict.f k ((rd_T90 x0 x6).f0) ((rd_T90 x0 x6).f1) ((rd_T90 x0 x6).f2) ((rd_T90 x0 x6).f3) ((rd_T90 x0 t686).f0) ((rd_T90 x0 t686).f1) ((rd_T90 x0 t686).f2) ((rd_T90 x0 t686).f3)).bind fun t688 => (if t688 = true then (some false) else (spec_IsTogether.l1 k x0 x1 x5 x6 (wrap64 (x7 + 1))))) else (none)) else (none))) else (none)) else (none)) else (none)) else (none)) else (spec_IsTogether.l0 k x0 x1 (wrap64 (x5 + 1)))
end
def spec_IsTogether.f (k : Nat) (l0 : List (S90)) (l1 : List Int) : Option (Bool) := spec_IsTogether.l0 k l0 l1 0
theorem spec_IsTogether.mono_l : ∀ k, (∀ y0 y1 y2, LeO (spec_IsTogether.l0 k y0 y1 y2) (spec_IsTogether.l0 (k + 1) y0 y1 y2)) ∧ (∀ y0 y1 y2 y3 y4, LeO (spec_IsTogether.j1 k y0 y1 y2 y3 y4) (spec_IsTogether.j1 (k + 1) y0 y1 y2 y3 y4)) ∧ (∀ y0 y1 y2 y3 y4, LeO (spec_IsTogether.l1 k y0 y1 y2 y3 y4) (spec_IsTogether.l1 (k + 1) y0 y1 y2 y3 y4))
  | 0 => ⟨fun _ _ _ r h => by simp [spec_IsTogether.l0] at h, fun _ _ _ _ _ r h => by simp [spec_IsTogether.j1] at h, fun _ _ _ _ _ r h => by simp [spec_IsTogether.l1] at h⟩
  | k + 1 => by
    obtain ⟨ih0, ih1, ih2⟩ := spec_IsTogether.mono_l k
    refine ⟨?_, ?_, ?_⟩
    · intro y0 y1 y2
      unfold spec_IsTogether.l0
      repeat' first | (with_reducible first | exact LeO.refl _ | exact LeO.none _ | refine LeO.ite ?_ ?_ | refine LeO.bind ?_ (fun _ => ?_) | exact ih0 _ _ _ | exact ih1 _ _ _ _ _ | exact ih2 _ _ _ _ _ | exact spec_ArePaths.mono _ _ | exact spec_Conflict.mono _ _ _ _ _ _ _ _ _ | exact spec_FindPath.mono _ _ _) | exact LeO.none _ | refine LeO.ite ?_ ?_ | refine LeO.bind ?_ (fun _ => ?_) | exact ih0 _ _ _ | exact ih1 _ _ _ _ _ | exact ih2 _ _ _ _ _ | exact spec_ArePaths.mono _ _ | exact spec_Conflict.mono _ _ _ _ _ _ _ _ _ | exact spec_FindPath.mono _ _ _
    · intro y0 y1 y2 y3 y4
      unfold spec_IsTogether.j1
      repeat' first | (with_reducible first | exact LeO.refl _ | exact LeO.none _ | refine LeO.ite ?_ ?_ | refine LeO.bind ?_ (fun _ => ?_) | exact ih0 _ _ _ | exact ih1 _ _ _ _ _ | exact ih2 _ _ _ _ _ | exact spec_ArePaths.mono _ _ | exact spec_Conflict.mono _ _ _ _ _ _ _ _ _ | exact spec_FindPath.mono _ _ _) | exact LeO.none _ | refine LeO.ite ?_ ?_ | refine LeO.bind ?_ (fun _ => ?_) | exact ih0 _ _ _ | exact ih1 _ _ _ _ _ | exact ih2 _ _ _ _ _ | exact spec_ArePaths.mono _ _ | exact spec_Conflict.mono _ _ _ _ _ _ _ _ _ | exact spec_FindPath.mono _ _ _
    · intro y0 y1 y2 y3 y4
      unfold spec_IsTogether.l1
      repeat' first | (with_reducible first | exact LeO.refl _ | exact LeO.none _ | refine LeO.ite ?_ ?_ | refine LeO.bind ?_ (fun _ => ?_) | exact ih0 _ _ _ | exact ih1 _ _ _ _ _ | exact ih2 _ _ _ _ _ | exact spec_ArePaths.mono _ _ | exact spec_Conflict.mono _ _ _ _ _ _ _ _ _ | exact spec_FindPath.mono _ _ _) | exact LeO.none _ | refine LeO.ite ?_ ?_ | refine LeO.bind ?_ (fun _ => ?_) | exact ih0 _ _ _ | exact ih1 _ _ _ _ _ | exact ih2 _ _ _ _ _ | exact spec_ArePaths.mono _ _ | exact spec_Conflict.mono _ _ _ _ _ _ _ _ _ | exact spec_FindPath.mono _ _ _
theorem spec_IsTogether.mono : ∀ a0 a1 k, LeO (spec_IsTogether.f k a0 a1) (spec_IsTogether.f (k + 1) a0 a1) := by
  intro a0 a1 k
  obtain ⟨ih0, ih1, ih2⟩ := spec_IsTogether.mono_l k
  unfold spec_IsTogether.f
  repeat' first | (with_reducible first | exact LeO.refl _ | exact LeO.none _ | refine LeO.ite ?_ ?_ | refine LeO.bind ?_ (fun _ => ?_) | exact ih0 _ _ _ | exact ih1 _ _ _ _ _ | exact ih2 _ _ _ _ _ | exact spec_ArePaths.mono _ _ | exact spec_Conflict.mono _ _ _ _ _ _ _ _ _ | exact spec_FindPath.mono _ _ _) | exact LeO.none _ | refine LeO.ite ?_ ?_ | refine LeO.bind ?_ (fun _ => ?_) | exact ih0 _ _ _ | exact ih1 _ _ _ _ _ | exact ih2 _ _ _ _ _ | exact spec_ArePaths.mono _ _ | exact spec_Conflict.mono _ _ _ _ _ _ _ _ _ | exact spec_FindPath.mono _ _ _
def spec_IsTogether.T5 : Bool × List (List Nat × List Nat) := (true, [([], []), ([0], [0]), ([1], [1]), ([2], [2]), ([3, 2], [2, 3]), ([4, 2, 2], [2, 4]), ([5], [5]), ([5], [5]), ([7, 5], [5, 7]), ([6, 8, 5], [5, 6, 8]), ([9, 5], [5, 9]), ([5], [5]), ([5], [5]), ([11, 12, 5], [5, 11, 12]), ([13, 5], [5, 13]), ([10, 14, 5], [5, 10, 14]), ([5, 15, 2], [2, 5, 15]), ([2, 16], [2, 16])])
def spec_IsTogether.B5 : List Nat := [0, 1, 3, 7, 15, 31, 63, 63, 191, 511, 1023, 63, 63, 6207, 14399, 32767, 65535, 131071]
theorem spec_IsTogether.tab5 : rtab .any (opsOf Try.f98 5) = spec_IsTogether.T5 := by kernel_rfl
theorem spec_IsTogether.bits5 : waitsOk spec_IsTogether.T5.2 spec_IsTogether.B5 = true := by kernel_rfl
def spec_IsTogether.T10 : Bool × List (List Nat × List Nat) := (true, [([], []), ([], []), ([0, 1], [0, 1]), ([2], [2]), ([], []), ([], []), ([], []), ([], []), ([6, 7], [6, 7]), ([8], [8]), ([5, 9], [5, 9]), ([4, 10], [4, 10]), ([11], [11]), ([3, 12, 10], [3, 12])])
def spec_IsTogether.B10 : List Nat := [0, 0, 3, 7, 0, 0, 0, 0, 192, 448, 992, 2032, 4080, 8191]
theorem spec_IsTogether.tab10 : rtab .any (opsOf Try.f98 10) = spec_IsTogether.T10 := by kernel_rfl
theorem spec_IsTogether.bits10 : waitsOk spec_IsTogether.T10.2 spec_IsTogether.B10 = true := by kernel_rfl
set_option maxHeartbeats 8000000 in
set_option maxRecDepth 100000 in
theorem spec_IsTogether.calls (k : Nat) (A0 : Option Addr) (c0 : Nat) (l0 : List (S90)) (A1 : Option Addr) (c1 : Nat) (l1 : List Int) (r : Bool) (w : World) (hr0 : Kd.C k90 w A0 l0.length l0) (hc0 : l0.length ≤ c0) (hr1 : Kd.C (Kd.int .i64) w A1 l1.length l1) (hc1 : l1.length ≤ c1) (h : spec_IsTogether.f k l0 l1 = some r) :
    Calls Try.prog 98 #[.slice A0 l0.length c0, .slice A1 l1.length c1] w fun e w' => e = .returned (.bool r) ∧ Below w.heap.size w w' := by
  have hu90 := Try.underlying90
  have HR0 := Aside0.mk hr0
  have HC0 := Aside0.mk hc0
  clear hr0 hc0
  have HR1 := Aside0.mk hr1
  have HC1 := Aside0.mk hc1
  clear hr1 hc1
  have HB := Aside0.mk (Below.refl w.heap.size w)
  have H : (spec_IsTogether.l0 k l0 l1 0) = some r := h
  clear h
  have H' := Aside0.mk H
  clear H
  go_enter Try.func98, Try.ntmps98
  go_wp2
  go_loopg [5] k (fun kq v5 w' => ∃ (x5_1 : Int), v5 = .int .i64 x5_1 ∧ Aside0 (spec_IsTogether.l0 kq l0 l1 x5_1 = some r) ∧ Aside0 (kq ≤ k) ∧ Aside0 (Below w.heap.size w w'))
  case atStart => exact ⟨(0), rS, H', ⟨Nat.le_refl _⟩, ⟨bA⟩⟩
  case round =>
    clear H'
    try clear c1
    try clear p2
    obtain ⟨x5_1, rfl, HA, HK1, HB⟩ := hrel
    cases gk with
    | zero => exact absurd HA.out (by simp [spec_IsTogether.l0])
    | succ k1 =>
      have H := HA.out
      clear HA
      simp only [spec_IsTogether.l0] at H
      by_cases c3 : x5_1 < (l1.length : Int)
      · rw [if_pos c3] at H
        have c3b0 : decide (x5_1 < (l1.length : Int)) = true := decide_eq_true c3
        clear c3
        have c4 : 0 ≤ x5_1 := ifN H
        replace H := ifT H
        have c4b0 : decide (0 ≤ x5_1) = true := decide_eq_true c4
        clear c4
        obtain ⟨t681, A5, H⟩ := bindE H
        try dsimp only at H
        have HC6 := Aside0.mk H
        clear H
        have p680 : 0 ≤ (x5_1 : Int) := dA
        have q680 : x5_1 < (l1.length : Int) := dA
        obtain ⟨ad680, e680, hx680_0⟩ := Kd.at_int HR1.out x5_1 p680 q680
        cases e680
        replace hx680_0 := hC HB hx680_0
        replace p680 := eq_true p680
        replace q680 := eq_true q680
        go_upto_region 5 with (first | ((with_reducible refine gate_callee (f := 79) rfl ?_); refine gL (some 19) Try.func79 #[.slice A0 l0.length c0, .int .i64 (rd l1 x5_1)] ?_; (with_reducible refine (spec_FindPath.calls k1 _ _ l0 (rd l1 x5_1) t681 _ ?side1 ?side2 A5.out).mono ?_); (case side1 => exact cB HR0); (case side2 => exact HC0.out); rintro e w' ⟨rfl, ⟨nd, rfl⟩⟩; refine ⟨_, rfl, ?_⟩))
        (try simp only [Act.put, List.setIfInBounds_toArray, List.set_cons_zero, List.set_cons_succ])
        go_cut [37] (fun v37 wc => ∃ (kq : Nat) (x37_5 : Bool), v37 = .bool x37_5 ∧ Aside0 (spec_IsTogether.j1 kq l0 l1 x5_1 t681 x37_5 = some r) ∧ Aside0 (kq ≤ k1) ∧ Aside0 (Below w.heap.size w wc))
        case first =>
          have H := HC6.out
          clear HC6
          by_cases c7 : t681 < 0
          · rw [if_pos c7] at H
            have c7b0 : decide (t681 < 0) = true := decide_eq_true c7
            clear c7
            (first | rw [c7b0] | (simp only [i64_w, i32_w]; rw [c7b0]) | skip)
            have H' := Aside0.mk H
            clear H
            try go_wp2
            have HBo := HB
            replace HB := Aside0.mk (below_drew1 HB.out)
            refine start_ (n := 18) (S := fun w' => True) (ds := []) (mb 18 0) (by kernel_rfl) rfl rfl trivial (fun hHeld => ?_); refine with_tabW spec_IsTogether.tab5 spec_IsTogether.bits5 (fun HT_ HW_ => ?_)
            generalize wr.drew = w8 at HB hHeld ⊢
            refine pA (i := 0) (N := some 20) (mb 18 1) HT_ ?_
            refine pA (i := 1) (N := some 21) (mb 18 3) HT_ ?_
            refine pA (i := 2) (N := some 22) (mb 18 7) HT_ ?_
            refine pU (i := 3) (N := some 23) (mb 18 15) HT_ ?_
            refine pU (i := 4) (N := some 24) (mb 18 31) HT_ ?_
            refine pU (i := 5) (N := some 25) (mb 18 63) HT_ ?_
            refine pU (i := 6) (N := some 26) (mb 18 127) HT_ ?_
            refine pU (i := 7) (N := some 27) (mb 18 255) HT_ ?_
            refine pU (i := 8) (N := some 28) (mb 18 511) HT_ ?_
            refine pU (i := 9) (N := some 29) (mb 18 1023) HT_ ?_
            refine pU (i := 10) (N := some 30) (mb 18 2047) HT_ ?_
            refine pU (i := 11) (N := some 31) (mb 18 4095) HT_ ?_
            refine pU (i := 12) (N := some 32) (mb 18 8191) HT_ ?_
            refine pU (i := 13) (N := some 33) (mb 18 16383) HT_ ?_
            refine pU (i := 14) (N := some 34) (mb 18 32767) HT_ ?_
            refine pU (i := 15) (N := some 35) (mb 18 65535) HT_ ?_
            refine pU (i := 16) (N := some 36) (mb 18 131071) HT_ ?_
            refine pA (i := 17) (N := some 37) (mb 18 262143) HT_ ?_
            refine eA HT_ ?_
            try go_wp2
            go_meet
            case rel => exact ⟨_, (true), rS, H', ⟨by have := HK1.out; first | omega | exact Nat.le_refl _⟩, ⟨bA⟩⟩
          · rw [if_neg c7] at H
            have c7b0 : decide (t681 < 0) = false := decide_eq_false c7
            clear c7
            (first | rw [c7b0] | (simp only [i64_w, i32_w]; rw [c7b0]) | skip)
            by_cases c9 : x5_1 > 0
            · rw [if_pos c9] at H
              have c9b0 : decide (0 < x5_1) = true := decide_eq_true c9
              clear c9
              obtain ⟨ji10, hji10⟩ : ∃ j_ : Int, (wrap64 (x5_1 - 1)) = j_ := ⟨_, rfl⟩
              replace H : (if 0 ≤ (ji10) then (if (ji10) < (l1.length : Int) then (spec_IsTogether.j1 k1 l0 l1 x5_1 t681 (decide ((rd l1 (ji10)) ≥ (rd l1 x5_1)))) else (none)) else (none)) = some r := by first | (rw [hji10] at H; exact H) | (simp only [hji10] at H ⊢; exact H)
              have hji10w : (IntKind.i64.wrap (x5_1 - 1)) = ji10 := (i64_w _).trans hji10
              have c11 : 0 ≤ (ji10) := ifN H
              replace H := ifT H
              have c11b0 : decide (0 ≤ (ji10)) = true := decide_eq_true c11
              clear c11
              have c12 : (ji10) < (l1.length : Int) := ifN H
              replace H := ifT H
              have c12b0 : decide ((ji10) < (l1.length : Int)) = true := decide_eq_true c12
              clear c12
              have H' := Aside0.mk H
              clear H
              try go_wp2
              have HBo := HB
              replace HB := Aside0.mk (below_drew1 HB.out)
              have p682 : 0 ≤ ((ji10) : Int) := dA
              have q682 : (ji10) < (l1.length : Int) := dA
              obtain ⟨ad682, e682, hx682_0⟩ := Kd.at_int HR1.out (ji10) p682 q682
              have hw682_0 := hx682_0
              obtain rfl : ad680 = ad682 := (by injection e682)
              replace hx682_0 := hC HB hx682_0
              replace p682 := eq_true p682
              replace q682 := eq_true q682
              have p683 : 0 ≤ (x5_1 : Int) := dA
              have q683 : x5_1 < (l1.length : Int) := dA
              obtain ⟨ad683, e683, hx683_0⟩ := Kd.at_int HR1.out x5_1 p683 q683
              have hw683_0 := hx683_0
              obtain rfl : ad680 = ad683 := (by injection e683)
              replace hx683_0 := hC HB hx683_0
              replace p683 := eq_true p683
              replace q683 := eq_true q683
              refine start_ (n := 18) (S := fun w' => w'.cell? (ad680.add ((ji10)).toNat) = some (.int .i64 (rd l1 (ji10))) ∧ w'.cell? (ad680.add (x5_1).toNat) = some (.int .i64 (rd l1 x5_1))) (ds := []) (mb 18 0) (by kernel_rfl) rfl rfl ⟨(hC HB hw682_0), (hC HB hw683_0)⟩ (fun hHeld => ?_); refine with_tabW spec_IsTogether.tab5 spec_IsTogether.bits5 (fun HT_ HW_ => ?_)
              generalize wr.drew = w13 at HB hx682_0 hx683_0 hHeld ⊢
              refine pA (i := 0) (N := some 20) (mb 18 1) HT_ ?_
              refine pA (i := 1) (N := some 21) (mb 18 3) HT_ ?_
              refine pA (i := 2) (N := some 22) (mb 18 7) HT_ ?_
              refine pA (i := 3) (N := some 23) (mb 18 15) HT_ ?_
              refine pA (i := 4) (N := some 24) (mb 18 31) HT_ ?_
              refine pA (i := 5) (N := some 25) (mb 18 63) HT_ ?_
              refine pA (i := 6) (N := some 26) (mb 18 127) HT_ ?_
              refine pA (i := 7) (N := some 27) (mb 18 255) HT_ ?_
              refine pA (i := 8) (N := some 28) (mb 18 511) HT_ ?_
              refine pA (i := 9) (N := some 29) (mb 18 1023) HT_ ?_
              refine pA (i := 11) (N := some 31) (mb 18 3071) HT_ ?_
              refine pA (i := 12) (N := some 32) (mb 18 7167) HT_ ?_
              refine pA (i := 13) (N := some 33) (mb 18 15359) HT_ ?_
              refine tA2 (i := 10) (N := some 30) (mb 18 16383) HT_ HW_ hHeld ?_
              refine tA2 (i := 14) (N := some 34) (mb 18 32767) HT_ HW_ hHeld ?_
              refine pA (i := 15) (N := some 35) (mb 18 65535) HT_ ?_
              refine pA (i := 16) (N := some 36) (mb 18 131071) HT_ ?_
              refine pA (i := 17) (N := some 37) (mb 18 262143) HT_ ?_
              refine eA HT_ ?_
              try go_wp2
              go_meet
              case rel => exact ⟨_, (decide ((rd l1 (ji10)) ≥ (rd l1 x5_1))), (by first | rfl | (simp; done) | (simp only [← hji10] <;> (first | rfl | simp)) | (simp [*]; done)), H', ⟨by have := HK1.out; first | omega | exact Nat.le_refl _⟩, ⟨bA⟩⟩
            · rw [if_neg c9] at H
              have c9b0 : decide (0 < x5_1) = false := decide_eq_false c9
              clear c9
              have H' := Aside0.mk H
              clear H
              try go_wp2
              have HBo := HB
              replace HB := Aside0.mk (below_drew1 HB.out)
              refine start_ (n := 18) (S := fun w' => True) (ds := []) (mb 18 0) (by kernel_rfl) rfl rfl trivial (fun hHeld => ?_); refine with_tabW spec_IsTogether.tab5 spec_IsTogether.bits5 (fun HT_ HW_ => ?_)
              generalize wr.drew = w14 at HB hHeld ⊢
              refine pA (i := 0) (N := some 20) (mb 18 1) HT_ ?_
              refine pA (i := 1) (N := some 21) (mb 18 3) HT_ ?_
              refine pA (i := 2) (N := some 22) (mb 18 7) HT_ ?_
              refine pA (i := 3) (N := some 23) (mb 18 15) HT_ ?_
              refine pA (i := 4) (N := some 24) (mb 18 31) HT_ ?_
              refine pA (i := 5) (N := some 25) (mb 18 63) HT_ ?_
              refine pU (i := 6) (N := some 26) (mb 18 127) HT_ ?_
              refine pU (i := 7) (N := some 27) (mb 18 255) HT_ ?_
              refine pU (i := 8) (N := some 28) (mb 18 511) HT_ ?_
              refine pU (i := 9) (N := some 29) (mb 18 1023) HT_ ?_
              refine pU (i := 10) (N := some 30) (mb 18 2047) HT_ ?_
              refine pU (i := 11) (N := some 31) (mb 18 4095) HT_ ?_
              refine pU (i := 12) (N := some 32) (mb 18 8191) HT_ ?_
              refine pU (i := 13) (N := some 33) (mb 18 16383) HT_ ?_
              refine pU (i := 14) (N := some 34) (mb 18 32767) HT_ ?_
              refine pU (i := 15) (N := some 35) (mb 18 65535) HT_ ?_
              refine pA (i := 16) (N := some 36) (mb 18 131071) HT_ ?_
              refine pA (i := 17) (N := some 37) (mb 18 262143) HT_ ?_
              refine eA HT_ ?_
              try go_wp2
              go_meet
              case rel => exact ⟨_, (false), rS, H', ⟨by have := HK1.out; first | omega | exact Nat.le_refl _⟩, ⟨bA⟩⟩
        case rest =>
          clear HC6
          try clear c1
          try clear p2
          try clear c3
          try clear c3b0
          try clear c4
          try clear c4b0
          try clear p6
          try clear q6
          try clear hx6
          try clear c7
          try clear c7b0
          try clear c9
          try clear c9b0
          try clear c11
          try clear c11b0
          try clear c12
          try clear c12b0
          try clear hx680_0
          try clear hx682_0
          try clear hx683_0
          try clear p2
          try clear p680
          try clear p682
          try clear p683
          try clear q680
          try clear q682
          try clear q683
          obtain ⟨kq, x37_5, rfl, HA, HJ5, HB⟩ := hcut
          cases kq with
          | zero => exact absurd HA.out (by simp [spec_IsTogether.j1])
          | succ kj5 =>
            have H := HA.out
            clear HA
            simp only [spec_IsTogether.j1] at H
            by_cases c15 : x37_5 = true
            · subst c15
              have H1 : (some false) = some r := by rw [if_pos rfl] at H; exact H
              clear H
              have H := H1
              clear H1
              obtain rfl := Option.some.inj H
              go_wp2
              go_ret
              exact ⟨rA, bA⟩
            · replace c15 := Bool.eq_false_iff.mpr c15
              subst c15
              have H1 : (spec_IsTogether.l1 kj5 l0 l1 x5_1 t681 0) = some r := by rw [if_neg (show ¬ (false = true) by decide)] at H; exact H
              clear H
              have H := H1
              clear H1
              have H' := Aside0.mk H
              clear H
              go_wp2
              go_loopg [7] kj5 (fun kq v7 w' => ∃ (x7_3 : Int), v7 = .int .i64 x7_3 ∧ Aside0 (spec_IsTogether.l1 kq l0 l1 x5_1 t681 x7_3 = some r) ∧ Aside0 (kq ≤ kj5) ∧ Aside0 (Below w.heap.size w w'))
              case atStart => exact ⟨(0), rS, H', ⟨Nat.le_refl _⟩, ⟨bA⟩⟩
              case round =>
                clear H'
                try clear c1
                try clear p2
                try clear c3
                try clear c3b0
                try clear c4
                try clear c4b0
                try clear p6
                try clear q6
                try clear hx6
                try clear c7
                try clear c7b0
                try clear c9
                try clear c9b0
                try clear c11
                try clear c11b0
                try clear c12
                try clear c12b0
                try clear c15
                try clear hx680_0
                try clear hx682_0
                try clear hx683_0
                try clear p2
                try clear p6
                try clear p680
                try clear p682
                try clear p683
                try clear q6
                try clear q680
                try clear q682
                try clear q683
                obtain ⟨x7_3, rfl, HA, HK3, HB⟩ := hrel
                cases gk with
                | zero => exact absurd HA.out (by simp [spec_IsTogether.l1])
                | succ k3 =>
                  have H := HA.out
                  clear HA
                  simp only [spec_IsTogether.l1] at H
                  by_cases c16 : x7_3 < x5_1
                  · rw [if_pos c16] at H
                    have c16b0 : decide (x7_3 < x5_1) = true := decide_eq_true c16
                    clear c16
                    have c17 : 0 ≤ t681 := ifN H
                    replace H := ifT H
                    have c17b0 : decide (0 ≤ t681) = true := decide_eq_true c17
                    clear c17
                    have c18 : t681 < (l0.length : Int) := ifN H
                    replace H := ifT H
                    have c18b0 : decide (t681 < (l0.length : Int)) = true := decide_eq_true c18
                    clear c18
                    have c19 : 0 ≤ x7_3 := ifN H
                    replace H := ifT H
                    have c19b0 : decide (0 ≤ x7_3) = true := decide_eq_true c19
                    clear c19
                    have c20 : x7_3 < (l1.length : Int) := ifN H
                    replace H := ifT H
                    have c20b0 : decide (x7_3 < (l1.length : Int)) = true := decide_eq_true c20
                    clear c20
                    obtain ⟨t686, A21, H⟩ := bindE H
                    try dsimp only at H
                    have c22 : 0 ≤ t686 := ifN H
                    replace H := ifT H
                    have c22b0 : decide (0 ≤ t686) = true := decide_eq_true c22
                    clear c22
                    have c23 : t686 < (l0.length : Int) := ifN H
                    replace H := ifT H
                    have c23b0 : decide (t686 < (l0.length : Int)) = true := decide_eq_true c23
                    clear c23
                    obtain ⟨t688, A24, H⟩ := bindE H
                    try dsimp only at H
                    by_cases c25 : t688 = true
                    · subst c25
                      have H1 : (some false) = some r := by rw [if_pos rfl] at H; exact H
                      clear H
                      have H := H1
                      clear H1
                      obtain rfl := Option.some.inj H
                      try go_wp2
                      have HBo := HB
                      replace HB := Aside0.mk (below_drew1 HB.out)
                      have p684 : 0 ≤ (t681 : Int) := dA
                      have q684 : t681 < (l0.length : Int) := dA
                      obtain ⟨ad684, e684, hx684_0, hx684_1, hx684_2, hx684_3⟩ := at_T90 HR0.out t681 p684 q684
                      have hw684_3 := hx684_3
                      have hw684_2 := hx684_2
                      have hw684_1 := hx684_1
                      have hw684_0 := hx684_0
                      cases e684
                      replace hx684_0 := hC HB hx684_0
                      replace hx684_1 := hC HB hx684_1
                      replace hx684_2 := hC HB hx684_2
                      replace hx684_3 := hC HB hx684_3
                      replace p684 := eq_true p684
                      replace q684 := eq_true q684
                      have p685 : 0 ≤ (x7_3 : Int) := dA
                      have q685 : x7_3 < (l1.length : Int) := dA
                      obtain ⟨ad685, e685, hx685_0⟩ := Kd.at_int HR1.out x7_3 p685 q685
                      have hw685_0 := hx685_0
                      obtain rfl : ad680 = ad685 := (by injection e685)
                      replace hx685_0 := hC HB hx685_0
                      replace p685 := eq_true p685
                      replace q685 := eq_true q685
                      have p687 : 0 ≤ (t686 : Int) := dA
                      have q687 : t686 < (l0.length : Int) := dA
                      obtain ⟨ad687, e687, hx687_0, hx687_1, hx687_2, hx687_3⟩ := at_T90 HR0.out t686 p687 q687
                      have hw687_3 := hx687_3
                      have hw687_2 := hx687_2
                      have hw687_1 := hx687_1
                      have hw687_0 := hx687_0
                      obtain rfl : ad684 = ad687 := (by injection e687)
                      replace hx687_0 := hC HB hx687_0
                      replace hx687_1 := hC HB hx687_1
                      replace hx687_2 := hC HB hx687_2
                      replace hx687_3 := hC HB hx687_3
                      replace p687 := eq_true p687
                      replace q687 := eq_true q687
                      refine start_ (n := 14) (S := fun w' => w'.cell? (ad684.add ((t681).toNat * 4)) = some (.int .i64 ((rd_T90 l0 t681).f0)) ∧ w'.cell? ⟨(ad684.add ((t681).toNat * 4)).block, (ad684.add ((t681).toNat * 4)).off + 1, none⟩ = some (.int .i64 ((rd_T90 l0 t681).f1)) ∧ w'.cell? ⟨(ad684.add ((t681).toNat * 4)).block, (ad684.add ((t681).toNat * 4)).off + 2, none⟩ = some (.int .i64 ((rd_T90 l0 t681).f2)) ∧ w'.cell? ⟨(ad684.add ((t681).toNat * 4)).block, (ad684.add ((t681).toNat * 4)).off + 3, none⟩ = some (.int .i64 ((rd_T90 l0 t681).f3)) ∧ w'.cell? (ad680.add (x7_3).toNat) = some (.int .i64 (rd l1 x7_3)) ∧ w'.cell? (ad684.add ((t686).toNat * 4)) = some (.int .i64 ((rd_T90 l0 t686).f0)) ∧ w'.cell? ⟨(ad684.add ((t686).toNat * 4)).block, (ad684.add ((t686).toNat * 4)).off + 1, none⟩ = some (.int .i64 ((rd_T90 l0 t686).f1)) ∧ w'.cell? ⟨(ad684.add ((t686).toNat * 4)).block, (ad684.add ((t686).toNat * 4)).off + 2, none⟩ = some (.int .i64 ((rd_T90 l0 t686).f2)) ∧ w'.cell? ⟨(ad684.add ((t686).toNat * 4)).block, (ad684.add ((t686).toNat * 4)).off + 3, none⟩ = some (.int .i64 ((rd_T90 l0 t686).f3))) (ds := []) (mb 14 0) (by kernel_rfl) rfl rfl ⟨(hC HB hw684_0), (hC HB hw684_1), (hC HB hw684_2), (hC HB hw684_3), (hC HB hw685_0), (hC HB hw687_0), (hC HB hw687_1), (hC HB hw687_2), (hC HB hw687_3)⟩ (fun hHeld => ?_); refine with_tabW spec_IsTogether.tab10 spec_IsTogether.bits10 (fun HT_ HW_ => ?_)
                      generalize wr.drew = w26 at HB hx684_0 hx684_1 hx684_2 hx684_3 hx685_0 hx687_0 hx687_1 hx687_2 hx687_3 hHeld ⊢
                      refine pA (i := 0) (N := some 43) (mb 14 1) HT_ ?_
                      refine pA (i := 1) (N := some 44) (mb 14 3) HT_ ?_
                      refine pA (i := 2) (N := some 45) (mb 14 7) HT_ ?_
                      refine pA (i := 4) (N := some 47) (mb 14 23) HT_ ?_
                      refine pA (i := 5) (N := some 48) (mb 14 55) HT_ ?_
                      refine pA (i := 6) (N := some 49) (mb 14 119) HT_ ?_
                      refine pA (i := 7) (N := some 50) (mb 14 247) HT_ ?_
                      refine pA (i := 8) (N := some 51) (mb 14 503) HT_ ?_
                      refine tA9 (i := 3) (N := some 46) (mb 14 511) HT_ HW_ hHeld ?_
                      refine tA9 (i := 9) (N := some 52) (mb 14 1023) HT_ HW_ hHeld ?_
                      refine oA (i := 10) (N := some 53) (mb 14 2047) HT_ (fun K hK => ?_)
                      refine gA Try.func79 #[.slice (some ad684) l0.length c0, .int .i64 (rd l1 x7_3)] ?_
                      with_reducible refine (spec_FindPath.calls k3 _ _ l0 (rd l1 x7_3) t686 _ ?side1 ?side2 A21.out).mono ?_
                      (case side1 => exact cB HR0)
                      (case side2 => exact HC0.out)
                      rintro e w' ⟨rfl, ⟨nd, rfl⟩⟩
                      refine ⟨_, rfl, ?_⟩
                      refine hK.out _ _ ⟨(hC HB hw684_0), (hC HB hw684_1), (hC HB hw684_2), (hC HB hw684_3), (hC HB hw685_0), (hC HB hw687_0), (hC HB hw687_1), (hC HB hw687_2), (hC HB hw687_3)⟩ (fun hHeld => ?_)
                      clear hK K
                      refine nA ?_
                      refine pA (i := 11) (N := some 54) (mb 14 4095) HT_ ?_
                      refine tA9 (i := 12) (N := some 55) (mb 14 8191) HT_ HW_ hHeld ?_
                      refine oA (i := 13) (N := some 56) (mb 14 16383) HT_ (fun K hK => ?_)
                      refine gA Try.func91 #[.agg #[.int .i64 ((rd_T90 l0 t681).f0), .int .i64 ((rd_T90 l0 t681).f1), .int .i64 ((rd_T90 l0 t681).f2), .int .i64 ((rd_T90 l0 t681).f3)], .agg #[.int .i64 ((rd_T90 l0 t686).f0), .int .i64 ((rd_T90 l0 t686).f1), .int .i64 ((rd_T90 l0 t686).f2), .int .i64 ((rd_T90 l0 t686).f3)]] ?_
                      with_reducible refine (spec_Conflict.calls k3 ((rd_T90 l0 t681).f0) ((rd_T90 l0 t681).f1) ((rd_T90 l0 t681).f2) ((rd_T90 l0 t681).f3) ((rd_T90 l0 t686).f0) ((rd_T90 l0 t686).f1) ((rd_T90 l0 t686).f2) ((rd_T90 l0 t686).f3) true _ A24.out).mono ?_
                      rintro e w27 ⟨rfl, hb⟩
                      refine ⟨_, rfl, ?_⟩
                      replace HB := Aside0.mk (below_step bA hb)
                      (try clear hb)
                      (try clear hb2)
                      (try clear hk)
                      (try clear hi)
                      refine hK.out _ _ ⟨(hC HB hw684_0), (hC HB hw684_1), (hC HB hw684_2), (hC HB hw684_3), (hC HB hw685_0), (hC HB hw687_0), (hC HB hw687_1), (hC HB hw687_2), (hC HB hw687_3)⟩ (fun hHeld => ?_)
                      clear hK K
                      refine nA ?_
                      refine eA HT_ ?_
                      try go_wp2
                      go_ret
                      exact ⟨rA, bA⟩
                    · replace c25 := Bool.eq_false_iff.mpr c25
                      subst c25
                      have H1 : (spec_IsTogether.l1 k3 l0 l1 x5_1 t681 (wrap64 (x7_3 + 1))) = some r := by rw [if_neg (show ¬ (false = true) by decide)] at H; exact H
                      clear H
                      have H := H1
                      clear H1
                      have H' := Aside0.mk H
                      clear H
                      try go_wp2
                      have HBo := HB
                      replace HB := Aside0.mk (below_drew1 HB.out)
                      have p684 : 0 ≤ (t681 : Int) := dA
                      have q684 : t681 < (l0.length : Int) := dA
                      obtain ⟨ad684, e684, hx684_0, hx684_1, hx684_2, hx684_3⟩ := at_T90 HR0.out t681 p684 q684
                      have hw684_3 := hx684_3
                      have hw684_2 := hx684_2
                      have hw684_1 := hx684_1
                      have hw684_0 := hx684_0
                      cases e684
                      replace hx684_0 := hC HB hx684_0
                      replace hx684_1 := hC HB hx684_1
                      replace hx684_2 := hC HB hx684_2
                      replace hx684_3 := hC HB hx684_3
                      replace p684 := eq_true p684
                      replace q684 := eq_true q684
                      have p685 : 0 ≤ (x7_3 : Int) := dA
                      have q685 : x7_3 < (l1.length : Int) := dA
                      obtain ⟨ad685, e685, hx685_0⟩ := Kd.at_int HR1.out x7_3 p685 q685
                      have hw685_0 := hx685_0
                      obtain rfl : ad680 = ad685 := (by injection e685)
                      replace hx685_0 := hC HB hx685_0
                      replace p685 := eq_true p685
                      replace q685 := eq_true q685
                      have p687 : 0 ≤ (t686 : Int) := dA
                      have q687 : t686 < (l0.length : Int) := dA
                      obtain ⟨ad687, e687, hx687_0, hx687_1, hx687_2, hx687_3⟩ := at_T90 HR0.out t686 p687 q687
                      have hw687_3 := hx687_3
                      have hw687_2 := hx687_2
                      have hw687_1 := hx687_1
                      have hw687_0 := hx687_0
                      obtain rfl : ad684 = ad687 := (by injection e687)
                      replace hx687_0 := hC HB hx687_0
                      replace hx687_1 := hC HB hx687_1
                      replace hx687_2 := hC HB hx687_2
                      replace hx687_3 := hC HB hx687_3
                      replace p687 := eq_true p687
                      replace q687 := eq_true q687
                      refine start_ (n := 14) (S := fun w' => w'.cell? (ad684.add ((t681).toNat * 4)) = some (.int .i64 ((rd_T90 l0 t681).f0)) ∧ w'.cell? ⟨(ad684.add ((t681).toNat * 4)).block, (ad684.add ((t681).toNat * 4)).off + 1, none⟩ = some (.int .i64 ((rd_T90 l0 t681).f1)) ∧ w'.cell? ⟨(ad684.add ((t681).toNat * 4)).block, (ad684.add ((t681).toNat * 4)).off + 2, none⟩ = some (.int .i64 ((rd_T90 l0 t681).f2)) ∧ w'.cell? ⟨(ad684.add ((t681).toNat * 4)).block, (ad684.add ((t681).toNat * 4)).off + 3, none⟩ = some (.int .i64 ((rd_T90 l0 t681).f3)) ∧ w'.cell? (ad680.add (x7_3).toNat) = some (.int .i64 (rd l1 x7_3)) ∧ w'.cell? (ad684.add ((t686).toNat * 4)) = some (.int .i64 ((rd_T90 l0 t686).f0)) ∧ w'.cell? ⟨(ad684.add ((t686).toNat * 4)).block, (ad684.add ((t686).toNat * 4)).off + 1, none⟩ = some (.int .i64 ((rd_T90 l0 t686).f1)) ∧ w'.cell? ⟨(ad684.add ((t686).toNat * 4)).block, (ad684.add ((t686).toNat * 4)).off + 2, none⟩ = some (.int .i64 ((rd_T90 l0 t686).f2)) ∧ w'.cell? ⟨(ad684.add ((t686).toNat * 4)).block, (ad684.add ((t686).toNat * 4)).off + 3, none⟩ = some (.int .i64 ((rd_T90 l0 t686).f3))) (ds := []) (mb 14 0) (by kernel_rfl) rfl rfl ⟨(hC HB hw684_0), (hC HB hw684_1), (hC HB hw684_2), (hC HB hw684_3), (hC HB hw685_0), (hC HB hw687_0), (hC HB hw687_1), (hC HB hw687_2), (hC HB hw687_3)⟩ (fun hHeld => ?_); refine with_tabW spec_IsTogether.tab10 spec_IsTogether.bits10 (fun HT_ HW_ => ?_)
                      generalize wr.drew = w28 at HB hx684_0 hx684_1 hx684_2 hx684_3 hx685_0 hx687_0 hx687_1 hx687_2 hx687_3 hHeld ⊢
                      refine pA (i := 0) (N := some 43) (mb 14 1) HT_ ?_
                      refine pA (i := 1) (N := some 44) (mb 14 3) HT_ ?_
                      refine pA (i := 2) (N := some 45) (mb 14 7) HT_ ?_
                      refine pA (i := 4) (N := some 47) (mb 14 23) HT_ ?_
                      refine pA (i := 5) (N := some 48) (mb 14 55) HT_ ?_
                      refine pA (i := 6) (N := some 49) (mb 14 119) HT_ ?_
                      refine pA (i := 7) (N := some 50) (mb 14 247) HT_ ?_
                      refine pA (i := 8) (N := some 51) (mb 14 503) HT_ ?_
                      refine tA9 (i := 3) (N := some 46) (mb 14 511) HT_ HW_ hHeld ?_
                      refine tA9 (i := 9) (N := some 52) (mb 14 1023) HT_ HW_ hHeld ?_
                      refine oA (i := 10) (N := some 53) (mb 14 2047) HT_ (fun K hK => ?_)
                      refine gA Try.func79 #[.slice (some ad684) l0.length c0, .int .i64 (rd l1 x7_3)] ?_
                      with_reducible refine (spec_FindPath.calls k3 _ _ l0 (rd l1 x7_3) t686 _ ?side1 ?side2 A21.out).mono ?_
                      (case side1 => exact cB HR0)
                      (case side2 => exact HC0.out)
                      rintro e w' ⟨rfl, ⟨nd, rfl⟩⟩
                      refine ⟨_, rfl, ?_⟩
                      refine hK.out _ _ ⟨(hC HB hw684_0), (hC HB hw684_1), (hC HB hw684_2), (hC HB hw684_3), (hC HB hw685_0), (hC HB hw687_0), (hC HB hw687_1), (hC HB hw687_2), (hC HB hw687_3)⟩ (fun hHeld => ?_)
                      clear hK K
                      refine nA ?_
                      refine pA (i := 11) (N := some 54) (mb 14 4095) HT_ ?_
                      refine tA9 (i := 12) (N := some 55) (mb 14 8191) HT_ HW_ hHeld ?_
                      refine oA (i := 13) (N := some 56) (mb 14 16383) HT_ (fun K hK => ?_)
                      refine gA Try.func91 #[.agg #[.int .i64 ((rd_T90 l0 t681).f0), .int .i64 ((rd_T90 l0 t681).f1), .int .i64 ((rd_T90 l0 t681).f2), .int .i64 ((rd_T90 l0 t681).f3)], .agg #[.int .i64 ((rd_T90 l0 t686).f0), .int .i64 ((rd_T90 l0 t686).f1), .int .i64 ((rd_T90 l0 t686).f2), .int .i64 ((rd_T90 l0 t686).f3)]] ?_
                      with_reducible refine (spec_Conflict.calls k3 ((rd_T90 l0 t681).f0) ((rd_T90 l0 t681).f1) ((rd_T90 l0 t681).f2) ((rd_T90 l0 t681).f3) ((rd_T90 l0 t686).f0) ((rd_T90 l0 t686).f1) ((rd_T90 l0 t686).f2) ((rd_T90 l0 t686).f3) false _ A24.out).mono ?_
                      rintro e w29 ⟨rfl, hb⟩
                      refine ⟨_, rfl, ?_⟩
                      replace HB := Aside0.mk (below_step bA hb)
                      (try clear hb)
                      (try clear hb2)
                      (try clear hk)
                      (try clear hi)
                      refine hK.out _ _ ⟨(hC HB hw684_0), (hC HB hw684_1), (hC HB hw684_2), (hC HB hw684_3), (hC HB hw685_0), (hC HB hw687_0), (hC HB hw687_1), (hC HB hw687_2), (hC HB hw687_3)⟩ (fun hHeld => ?_)
                      clear hK K
                      refine nA ?_
                      refine eA HT_ ?_
                      try go_wp2
                      go_roundg k3
                      case measure => have := HK1.out; have := HJ5.out; have := HK3.out; omega
                      case rel => exact ⟨(wrap64 (x7_3 + 1)), rS, H', ⟨by have := HK1.out; have := HJ5.out; have := HK3.out; omega⟩, ⟨bA⟩⟩
                  · rw [if_neg c16] at H
                    have c16b0 : decide (x7_3 < x5_1) = false := decide_eq_false c16
                    clear c16
                    have H' := Aside0.mk H
                    clear H
                    go_wp2
                    go_roundg k3
                    case measure => have := HK1.out; have := HJ5.out; have := HK3.out; omega
                    case rel => exact ⟨(wrap64 (x5_1 + 1)), rS, H', ⟨by have := HK1.out; have := HJ5.out; have := HK3.out; omega⟩, ⟨bA⟩⟩
      · rw [if_neg c3] at H
        have c3b0 : decide (x5_1 < (l1.length : Int)) = false := decide_eq_false c3
        clear c3
        obtain ⟨t679, A30, H⟩ := bindE H
        try dsimp only at H
        obtain rfl := Option.some.inj H
        go_wp2_with (first | ((with_reducible refine gate_callee (f := 80) rfl ?_); refine gL (some 58) Try.func80 #[.slice A0 l0.length c0] ?_; (with_reducible refine (spec_ArePaths.calls k1 _ _ l0 t679 _ ?side1 ?side2 A30.out).mono ?_); (case side1 => exact cB HR0); (case side2 => exact HC0.out); rintro e w31 ⟨rfl, hb⟩; refine ⟨_, rfl, ?_⟩; replace HB := Aside0.mk (below_step bA hb); (try clear hb); (try clear hb2); (try clear hk); (try clear hi)))
        go_ret
        exact ⟨rA, bA⟩

end Go.Proofs.Ytimmadeghcghoaa.P
