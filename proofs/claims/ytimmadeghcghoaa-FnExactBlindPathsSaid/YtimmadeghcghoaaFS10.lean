/- Printed by myprint.py (wip/tools) over the kit's print: what Go's functions compute, and that they do. Lean checks it. -/
import Derived.Test.YtimmadeghcghoaaF0
import Derived.Test.YtimmadeghcghoaaFS01
import Derived.Test.YtimmadeghcghoaaFS05
namespace Go.Proofs.Ytimmadeghcghoaa.P
open Go.RowKit Go.Proofs.YtimmadeghcghoaaW.PrintWords Go.Proofs.YtimmadeghcghoaaW.PrintLast Go.Proofs.YtimmadeghcghoaaW.PrintMore Go.Proofs.Ytimmadeghcghoaa.Sq
attribute [local go_sem] max2_int min2_int max_two min_two max_three min_three max_four min_four
set_option linter.unusedVariables false
set_option linter.unusedSimpArgs false

/-! ### spec_AreDetectors: function 40 -/
mutual
def spec_AreDetectors.l0 : Nat → List (S90) → List (S98) → Int → Option (Bool)
  | 0, _, _, _ => none
  | k + 1, x0, x1, x5 => if x5 < (x1.length : Int) then (if 0 ≤ x5 then ((spec_FindPath.f k x0 ((rd_T98 x1 x5).f0)).bind fun t354 => (if t354 < 0 then (spec_AreDetectors.j1 k x0 x1 x5 true) else ((spec_l1In.f ((rd_T98 x1 x5).f1) 0 1000).bind fun t356 => (if t356 = true then ((spec_l1In.f ((rd_T98 x1 x5).f2) 0 100000).bind fun t358 => (spec_AreDetectors.j1 k x0 x1 x5 (!t358))) else (spec_AreDetectors.j1 k x0 x1 x5 true))))) else (none)) else ((spec_ArePaths.f k x0).bind fun t352 => (if t352 = true then (some (decide ((x1.length : Int) ≤ 12))) else (some false)))
def spec_AreDetectors.j1 : Nat → List (S90) → List (S98) → Int → Bool → Option (Bool)
  | 0, _, _, _, _ => none
  | k + 1, x0, x1, x5, x38 => if x38 = true then (some false) else (spec_AreDetectors.l1 k x0 x1 x5 0)
def spec_AreDetectors.l1 : Nat → List (S90) → List (S98) → Int → Int → Option (Bool)
  | 0, _, _, _, _ => none
  | k + 1, x0, x1, x5, x6 => if x6 < x5 then (if 0 ≤ x6 then (if x6 < (x1.length : Int) then (if 0 ≤ x5 then (if x5 < (x1.length : Int) then (if ((rd_T98 x1 x6).f0) = ((rd_T98 x1 x5).f0) then (some false) else (spec_AreDetectors.l1 k x0 x1 x5 (wrap64 (x6 + 1)))) else (none)) else (none)) else (none)) else (none)) else (spec_AreDetectors.l0 k x0 x1 (wrap64 (x5 + 1)))
end
def spec_AreDetectors.f (k : Nat) (l0 : List (S90)) (l1 : List (S98)) : Option (Bool) := spec_AreDetectors.l0 k l0 l1 0
theorem spec_AreDetectors.mono_l : ∀ k, (∀ y0 y1 y2, LeO (spec_AreDetectors.l0 k y0 y1 y2) (spec_AreDetectors.l0 (k + 1) y0 y1 y2)) ∧ (∀ y0 y1 y2 y3, LeO (spec_AreDetectors.j1 k y0 y1 y2 y3) (spec_AreDetectors.j1 (k + 1) y0 y1 y2 y3)) ∧ (∀ y0 y1 y2 y3, LeO (spec_AreDetectors.l1 k y0 y1 y2 y3) (spec_AreDetectors.l1 (k + 1) y0 y1 y2 y3))
  | 0 => ⟨fun _ _ _ r h => by simp [spec_AreDetectors.l0] at h, fun _ _ _ _ r h => by simp [spec_AreDetectors.j1] at h, fun _ _ _ _ r h => by simp [spec_AreDetectors.l1] at h⟩
  | k + 1 => by
    obtain ⟨ih0, ih1, ih2⟩ := spec_AreDetectors.mono_l k
    refine ⟨?_, ?_, ?_⟩
    · intro y0 y1 y2
      unfold spec_AreDetectors.l0
      repeat' first | (with_reducible first | exact LeO.refl _ | exact LeO.none _ | refine LeO.ite ?_ ?_ | refine LeO.bind ?_ (fun _ => ?_) | exact ih0 _ _ _ | exact ih1 _ _ _ _ | exact ih2 _ _ _ _ | exact spec_ArePaths.mono _ _ | exact spec_FindPath.mono _ _ _) | exact LeO.none _ | refine LeO.ite ?_ ?_ | refine LeO.bind ?_ (fun _ => ?_) | exact ih0 _ _ _ | exact ih1 _ _ _ _ | exact ih2 _ _ _ _ | exact spec_ArePaths.mono _ _ | exact spec_FindPath.mono _ _ _
    · intro y0 y1 y2 y3
      unfold spec_AreDetectors.j1
      repeat' first | (with_reducible first | exact LeO.refl _ | exact LeO.none _ | refine LeO.ite ?_ ?_ | refine LeO.bind ?_ (fun _ => ?_) | exact ih0 _ _ _ | exact ih1 _ _ _ _ | exact ih2 _ _ _ _ | exact spec_ArePaths.mono _ _ | exact spec_FindPath.mono _ _ _) | exact LeO.none _ | refine LeO.ite ?_ ?_ | refine LeO.bind ?_ (fun _ => ?_) | exact ih0 _ _ _ | exact ih1 _ _ _ _ | exact ih2 _ _ _ _ | exact spec_ArePaths.mono _ _ | exact spec_FindPath.mono _ _ _
    · intro y0 y1 y2 y3
      unfold spec_AreDetectors.l1
      repeat' first | (with_reducible first | exact LeO.refl _ | exact LeO.none _ | refine LeO.ite ?_ ?_ | refine LeO.bind ?_ (fun _ => ?_) | exact ih0 _ _ _ | exact ih1 _ _ _ _ | exact ih2 _ _ _ _ | exact spec_ArePaths.mono _ _ | exact spec_FindPath.mono _ _ _) | exact LeO.none _ | refine LeO.ite ?_ ?_ | refine LeO.bind ?_ (fun _ => ?_) | exact ih0 _ _ _ | exact ih1 _ _ _ _ | exact ih2 _ _ _ _ | exact spec_ArePaths.mono _ _ | exact spec_FindPath.mono _ _ _
theorem spec_AreDetectors.mono : ∀ a0 a1 k, LeO (spec_AreDetectors.f k a0 a1) (spec_AreDetectors.f (k + 1) a0 a1) := by
  intro a0 a1 k
  obtain ⟨ih0, ih1, ih2⟩ := spec_AreDetectors.mono_l k
  unfold spec_AreDetectors.f
  repeat' first | (with_reducible first | exact LeO.refl _ | exact LeO.none _ | refine LeO.ite ?_ ?_ | refine LeO.bind ?_ (fun _ => ?_) | exact ih0 _ _ _ | exact ih1 _ _ _ _ | exact ih2 _ _ _ _ | exact spec_ArePaths.mono _ _ | exact spec_FindPath.mono _ _ _) | exact LeO.none _ | refine LeO.ite ?_ ?_ | refine LeO.bind ?_ (fun _ => ?_) | exact ih0 _ _ _ | exact ih1 _ _ _ _ | exact ih2 _ _ _ _ | exact spec_ArePaths.mono _ _ | exact spec_FindPath.mono _ _ _
set_option maxHeartbeats 8000000 in
set_option maxRecDepth 100000 in
theorem spec_AreDetectors.calls (k : Nat) (A0 : Option Addr) (c0 : Nat) (l0 : List (S90)) (A1 : Option Addr) (c1 : Nat) (l1 : List (S98)) (r : Bool) (w : World) (hr0 : Kd.C k90 w A0 l0.length l0) (hc0 : l0.length ≤ c0) (hr1 : Kd.C k98 w A1 l1.length l1) (hc1 : l1.length ≤ c1) (h : spec_AreDetectors.f k l0 l1 = some r) :
    Calls Try.prog 40 #[.slice A0 l0.length c0, .slice A1 l1.length c1] w fun e w' => e = .returned (.bool r) ∧ Below w.heap.size w w' := by
  have HR0 := Aside0.mk hr0
  have HC0 := Aside0.mk hc0
  clear hr0 hc0
  have HR1 := Aside0.mk hr1
  have HC1 := Aside0.mk hc1
  clear hr1 hc1
  have HB := Aside0.mk (Below.refl w.heap.size w)
  have H : (spec_AreDetectors.l0 k l0 l1 0) = some r := h
  clear h
  have H' := Aside0.mk H
  clear H
  go_enter Try.func40, Try.ntmps40
  go_wp2
  repeat (go_quiet (fail); try go_wp2)
  go_loopg [5] k (fun kq v5 w' => ∃ (x5_1 : Int), v5 = .int .i64 x5_1 ∧ Aside0 (spec_AreDetectors.l0 kq l0 l1 x5_1 = some r) ∧ Aside0 (kq ≤ k) ∧ Aside0 (Below w.heap.size w w'))
  case atStart => exact ⟨(0), rS, H', ⟨Nat.le_refl _⟩, ⟨bA⟩⟩
  case round =>
    clear H'
    try clear c1
    try clear p2
    obtain ⟨x5_1, rfl, HA, HK1, HB⟩ := hrel
    cases gk with
    | zero => exact absurd HA.out (by simp [spec_AreDetectors.l0])
    | succ k1 =>
      have H := HA.out
      clear HA
      simp only [spec_AreDetectors.l0] at H
      by_cases c3 : x5_1 < (l1.length : Int)
      · rw [if_pos c3] at H
        have c3b0 : decide (x5_1 < (l1.length : Int)) = true := decide_eq_true c3
        clear c3
        have HC4 := Aside0.mk H
        clear H
        go_upto_region 4 with (fail)
        repeat (go_quiet (fail); go_upto_region 4 with (fail))
        go_cut [38] (fun v38 wc => ∃ (kq : Nat) (x38_3 : Bool), v38 = .bool x38_3 ∧ Aside0 (spec_AreDetectors.j1 kq l0 l1 x5_1 x38_3 = some r) ∧ Aside0 (kq ≤ k1) ∧ Aside0 (Below w.heap.size w wc))
        case first =>
          have H := HC4.out
          clear HC4
          have c5 : 0 ≤ x5_1 := ifN H
          replace H := ifT H
          have c5b0 : decide (0 ≤ x5_1) = true := decide_eq_true c5
          clear c5
          (first | rw [c5b0] | (simp only [i64_w, i32_w]; rw [c5b0]) | skip)
          obtain ⟨t354, A6, H⟩ := bindE H
          try dsimp only at H
          by_cases c7 : t354 < 0
          · rw [if_pos c7] at H
            have c7b0 : decide (t354 < 0) = true := decide_eq_true c7
            clear c7
            have H' := Aside0.mk H
            clear H
            have p353 : 0 ≤ (x5_1 : Int) := dA
            have q353 : x5_1 < (l1.length : Int) := dA
            obtain ⟨ad353, e353, hx353_0, hx353_1, hx353_2, hx353_3⟩ := at_T98 HR1.out x5_1 p353 q353
            cases e353
            replace hx353_0 := hC HB hx353_0
            replace hx353_1 := hC HB hx353_1
            replace hx353_2 := hC HB hx353_2
            replace hx353_3 := hC HB hx353_3
            replace p353 := eq_true p353
            replace q353 := eq_true q353
            go_wp2_with (first | (go_at_call 79; (with_reducible refine (spec_FindPath.calls k1 _ _ l0 ((rd_T98 l1 x5_1).f0) t354 _ ?side1 ?side2 A6.out).mono ?_); (case side1 => exact cB HR0); (case side2 => exact HC0.out); rintro e w' ⟨rfl, ⟨nd, rfl⟩⟩; (try first | exact ⟨rfl, _, World.drewN_drewN _ _ _⟩ | exact ⟨rfl, _, Eq.trans (World.drewN_drewN _ _ _) (congrArg (World.drewN _) (Nat.add_assoc _ _ _))⟩)))
            repeat (go_quiet (first | (go_at_call 79; (with_reducible refine (spec_FindPath.calls k1 _ _ l0 ((rd_T98 l1 x5_1).f0) t354 _ ?side1 ?side2 A6.out).mono ?_); (case side1 => exact cB HR0); (case side2 => exact HC0.out); rintro e w' ⟨rfl, ⟨nd, rfl⟩⟩; (try first | exact ⟨rfl, _, World.drewN_drewN _ _ _⟩ | exact ⟨rfl, _, Eq.trans (World.drewN_drewN _ _ _) (congrArg (World.drewN _) (Nat.add_assoc _ _ _))⟩))); try go_wp2_with (first | (go_at_call 79; (with_reducible refine (spec_FindPath.calls k1 _ _ l0 ((rd_T98 l1 x5_1).f0) t354 _ ?side1 ?side2 A6.out).mono ?_); (case side1 => exact cB HR0); (case side2 => exact HC0.out); rintro e w' ⟨rfl, ⟨nd, rfl⟩⟩; (try first | exact ⟨rfl, _, World.drewN_drewN _ _ _⟩ | exact ⟨rfl, _, Eq.trans (World.drewN_drewN _ _ _) (congrArg (World.drewN _) (Nat.add_assoc _ _ _))⟩))))
            go_meet
            case rel => exact ⟨_, (true), rS, H', ⟨by have := HK1.out; first | omega | exact Nat.le_refl _⟩, ⟨bA⟩⟩
          · rw [if_neg c7] at H
            have c7b0 : decide (t354 < 0) = false := decide_eq_false c7
            clear c7
            obtain ⟨t356, A8, H⟩ := bindE H
            try dsimp only at H
            by_cases c9 : t356 = true
            · subst c9
              have H1 : ((spec_l1In.f ((rd_T98 l1 x5_1).f2) 0 100000).bind fun t358 => (spec_AreDetectors.j1 k1 l0 l1 x5_1 (!t358))) = some r := by rw [if_pos rfl] at H; exact H
              clear H
              have H := H1
              clear H1
              obtain ⟨t358, A10, H⟩ := bindE H
              try dsimp only at H
              have H' := Aside0.mk H
              clear H
              have p353 : 0 ≤ (x5_1 : Int) := dA
              have q353 : x5_1 < (l1.length : Int) := dA
              obtain ⟨ad353, e353, hx353_0, hx353_1, hx353_2, hx353_3⟩ := at_T98 HR1.out x5_1 p353 q353
              cases e353
              replace hx353_0 := hC HB hx353_0
              replace hx353_1 := hC HB hx353_1
              replace hx353_2 := hC HB hx353_2
              replace hx353_3 := hC HB hx353_3
              replace p353 := eq_true p353
              replace q353 := eq_true q353
              go_wp2_with (first | (go_at_call 79; (with_reducible refine (spec_FindPath.calls k1 _ _ l0 ((rd_T98 l1 x5_1).f0) t354 _ ?side1 ?side2 A6.out).mono ?_); (case side1 => exact cB HR0); (case side2 => exact HC0.out); rintro e w' ⟨rfl, ⟨nd, rfl⟩⟩; (try first | exact ⟨rfl, _, World.drewN_drewN _ _ _⟩ | exact ⟨rfl, _, Eq.trans (World.drewN_drewN _ _ _) (congrArg (World.drewN _) (Nat.add_assoc _ _ _))⟩); have p355 : 0 ≤ (x5_1 : Int) := dA; have q355 : x5_1 < (l1.length : Int) := dA; obtain ⟨ad355, e355, hx355_0, hx355_1, hx355_2, hx355_3⟩ := at_T98 HR1.out x5_1 p355 q355; obtain rfl : ad353 = ad355 := (by injection e355); replace hx355_0 := hC HB hx355_0; replace hx355_1 := hC HB hx355_1; replace hx355_2 := hC HB hx355_2; replace hx355_3 := hC HB hx355_3; replace p355 := eq_true p355; replace q355 := eq_true q355) | (go_at_call 67; (with_reducible refine (spec_l1In.calls ((rd_T98 l1 x5_1).f1) 0 1000 true _ A8.out).mono ?_); rintro e w' ⟨rfl, ⟨nd, rfl⟩⟩; (try first | exact ⟨rfl, _, World.drewN_drewN _ _ _⟩ | exact ⟨rfl, _, Eq.trans (World.drewN_drewN _ _ _) (congrArg (World.drewN _) (Nat.add_assoc _ _ _))⟩); have p357 : 0 ≤ (x5_1 : Int) := dA; have q357 : x5_1 < (l1.length : Int) := dA; obtain ⟨ad357, e357, hx357_0, hx357_1, hx357_2, hx357_3⟩ := at_T98 HR1.out x5_1 p357 q357; obtain rfl : ad353 = ad357 := (by injection e357); replace hx357_0 := hC HB hx357_0; replace hx357_1 := hC HB hx357_1; replace hx357_2 := hC HB hx357_2; replace hx357_3 := hC HB hx357_3; replace p357 := eq_true p357; replace q357 := eq_true q357) | (go_at_call 67; (with_reducible refine (spec_l1In.calls ((rd_T98 l1 x5_1).f2) 0 100000 t358 _ A10.out).mono ?_); rintro e w' ⟨rfl, ⟨nd, rfl⟩⟩; (try first | exact ⟨rfl, _, World.drewN_drewN _ _ _⟩ | exact ⟨rfl, _, Eq.trans (World.drewN_drewN _ _ _) (congrArg (World.drewN _) (Nat.add_assoc _ _ _))⟩)))
              repeat (go_quiet (first | (go_at_call 79; (with_reducible refine (spec_FindPath.calls k1 _ _ l0 ((rd_T98 l1 x5_1).f0) t354 _ ?side1 ?side2 A6.out).mono ?_); (case side1 => exact cB HR0); (case side2 => exact HC0.out); rintro e w' ⟨rfl, ⟨nd, rfl⟩⟩; (try first | exact ⟨rfl, _, World.drewN_drewN _ _ _⟩ | exact ⟨rfl, _, Eq.trans (World.drewN_drewN _ _ _) (congrArg (World.drewN _) (Nat.add_assoc _ _ _))⟩); have p355 : 0 ≤ (x5_1 : Int) := dA; have q355 : x5_1 < (l1.length : Int) := dA; obtain ⟨ad355, e355, hx355_0, hx355_1, hx355_2, hx355_3⟩ := at_T98 HR1.out x5_1 p355 q355; obtain rfl : ad353 = ad355 := (by injection e355); replace hx355_0 := hC HB hx355_0; replace hx355_1 := hC HB hx355_1; replace hx355_2 := hC HB hx355_2; replace hx355_3 := hC HB hx355_3; replace p355 := eq_true p355; replace q355 := eq_true q355) | (go_at_call 67; (with_reducible refine (spec_l1In.calls ((rd_T98 l1 x5_1).f1) 0 1000 true _ A8.out).mono ?_); rintro e w' ⟨rfl, ⟨nd, rfl⟩⟩; (try first | exact ⟨rfl, _, World.drewN_drewN _ _ _⟩ | exact ⟨rfl, _, Eq.trans (World.drewN_drewN _ _ _) (congrArg (World.drewN _) (Nat.add_assoc _ _ _))⟩); have p357 : 0 ≤ (x5_1 : Int) := dA; have q357 : x5_1 < (l1.length : Int) := dA; obtain ⟨ad357, e357, hx357_0, hx357_1, hx357_2, hx357_3⟩ := at_T98 HR1.out x5_1 p357 q357; obtain rfl : ad353 = ad357 := (by injection e357); replace hx357_0 := hC HB hx357_0; replace hx357_1 := hC HB hx357_1; replace hx357_2 := hC HB hx357_2; replace hx357_3 := hC HB hx357_3; replace p357 := eq_true p357; replace q357 := eq_true q357) | (go_at_call 67; (with_reducible refine (spec_l1In.calls ((rd_T98 l1 x5_1).f2) 0 100000 t358 _ A10.out).mono ?_); rintro e w' ⟨rfl, ⟨nd, rfl⟩⟩; (try first | exact ⟨rfl, _, World.drewN_drewN _ _ _⟩ | exact ⟨rfl, _, Eq.trans (World.drewN_drewN _ _ _) (congrArg (World.drewN _) (Nat.add_assoc _ _ _))⟩))); try go_wp2_with (first | (go_at_call 79; (with_reducible refine (spec_FindPath.calls k1 _ _ l0 ((rd_T98 l1 x5_1).f0) t354 _ ?side1 ?side2 A6.out).mono ?_); (case side1 => exact cB HR0); (case side2 => exact HC0.out); rintro e w' ⟨rfl, ⟨nd, rfl⟩⟩; (try first | exact ⟨rfl, _, World.drewN_drewN _ _ _⟩ | exact ⟨rfl, _, Eq.trans (World.drewN_drewN _ _ _) (congrArg (World.drewN _) (Nat.add_assoc _ _ _))⟩); have p355 : 0 ≤ (x5_1 : Int) := dA; have q355 : x5_1 < (l1.length : Int) := dA; obtain ⟨ad355, e355, hx355_0, hx355_1, hx355_2, hx355_3⟩ := at_T98 HR1.out x5_1 p355 q355; obtain rfl : ad353 = ad355 := (by injection e355); replace hx355_0 := hC HB hx355_0; replace hx355_1 := hC HB hx355_1; replace hx355_2 := hC HB hx355_2; replace hx355_3 := hC HB hx355_3; replace p355 := eq_true p355; replace q355 := eq_true q355) | (go_at_call 67; (with_reducible refine (spec_l1In.calls ((rd_T98 l1 x5_1).f1) 0 1000 true _ A8.out).mono ?_); rintro e w' ⟨rfl, ⟨nd, rfl⟩⟩; (try first | exact ⟨rfl, _, World.drewN_drewN _ _ _⟩ | exact ⟨rfl, _, Eq.trans (World.drewN_drewN _ _ _) (congrArg (World.drewN _) (Nat.add_assoc _ _ _))⟩); have p357 : 0 ≤ (x5_1 : Int) := dA; have q357 : x5_1 < (l1.length : Int) := dA; obtain ⟨ad357, e357, hx357_0, hx357_1, hx357_2, hx357_3⟩ := at_T98 HR1.out x5_1 p357 q357; obtain rfl : ad353 = ad357 := (by injection e357); replace hx357_0 := hC HB hx357_0; replace hx357_1 := hC HB hx357_1; replace hx357_2 := hC HB hx357_2; replace hx357_3 := hC HB hx357_3; replace p357 := eq_true p357; replace q357 := eq_true q357) | (go_at_call 67; (with_reducible refine (spec_l1In.calls ((rd_T98 l1 x5_1).f2) 0 100000 t358 _ A10.out).mono ?_); rintro e w' ⟨rfl, ⟨nd, rfl⟩⟩; (try first | exact ⟨rfl, _, World.drewN_drewN _ _ _⟩ | exact ⟨rfl, _, Eq.trans (World.drewN_drewN _ _ _) (congrArg (World.drewN _) (Nat.add_assoc _ _ _))⟩))))
              go_meet
              case rel => exact ⟨_, (!t358), rS, H', ⟨by have := HK1.out; first | omega | exact Nat.le_refl _⟩, ⟨bA⟩⟩
            · replace c9 := Bool.eq_false_iff.mpr c9
              subst c9
              have H1 : (spec_AreDetectors.j1 k1 l0 l1 x5_1 true) = some r := by rw [if_neg (show ¬ (false = true) by decide)] at H; exact H
              clear H
              have H := H1
              clear H1
              have H' := Aside0.mk H
              clear H
              have p353 : 0 ≤ (x5_1 : Int) := dA
              have q353 : x5_1 < (l1.length : Int) := dA
              obtain ⟨ad353, e353, hx353_0, hx353_1, hx353_2, hx353_3⟩ := at_T98 HR1.out x5_1 p353 q353
              cases e353
              replace hx353_0 := hC HB hx353_0
              replace hx353_1 := hC HB hx353_1
              replace hx353_2 := hC HB hx353_2
              replace hx353_3 := hC HB hx353_3
              replace p353 := eq_true p353
              replace q353 := eq_true q353
              go_wp2_with (first | (go_at_call 79; (with_reducible refine (spec_FindPath.calls k1 _ _ l0 ((rd_T98 l1 x5_1).f0) t354 _ ?side1 ?side2 A6.out).mono ?_); (case side1 => exact cB HR0); (case side2 => exact HC0.out); rintro e w' ⟨rfl, ⟨nd, rfl⟩⟩; (try first | exact ⟨rfl, _, World.drewN_drewN _ _ _⟩ | exact ⟨rfl, _, Eq.trans (World.drewN_drewN _ _ _) (congrArg (World.drewN _) (Nat.add_assoc _ _ _))⟩); have p355 : 0 ≤ (x5_1 : Int) := dA; have q355 : x5_1 < (l1.length : Int) := dA; obtain ⟨ad355, e355, hx355_0, hx355_1, hx355_2, hx355_3⟩ := at_T98 HR1.out x5_1 p355 q355; obtain rfl : ad353 = ad355 := (by injection e355); replace hx355_0 := hC HB hx355_0; replace hx355_1 := hC HB hx355_1; replace hx355_2 := hC HB hx355_2; replace hx355_3 := hC HB hx355_3; replace p355 := eq_true p355; replace q355 := eq_true q355) | (go_at_call 67; (with_reducible refine (spec_l1In.calls ((rd_T98 l1 x5_1).f1) 0 1000 false _ A8.out).mono ?_); rintro e w' ⟨rfl, ⟨nd, rfl⟩⟩; (try first | exact ⟨rfl, _, World.drewN_drewN _ _ _⟩ | exact ⟨rfl, _, Eq.trans (World.drewN_drewN _ _ _) (congrArg (World.drewN _) (Nat.add_assoc _ _ _))⟩)))
              repeat (go_quiet (first | (go_at_call 79; (with_reducible refine (spec_FindPath.calls k1 _ _ l0 ((rd_T98 l1 x5_1).f0) t354 _ ?side1 ?side2 A6.out).mono ?_); (case side1 => exact cB HR0); (case side2 => exact HC0.out); rintro e w' ⟨rfl, ⟨nd, rfl⟩⟩; (try first | exact ⟨rfl, _, World.drewN_drewN _ _ _⟩ | exact ⟨rfl, _, Eq.trans (World.drewN_drewN _ _ _) (congrArg (World.drewN _) (Nat.add_assoc _ _ _))⟩); have p355 : 0 ≤ (x5_1 : Int) := dA; have q355 : x5_1 < (l1.length : Int) := dA; obtain ⟨ad355, e355, hx355_0, hx355_1, hx355_2, hx355_3⟩ := at_T98 HR1.out x5_1 p355 q355; obtain rfl : ad353 = ad355 := (by injection e355); replace hx355_0 := hC HB hx355_0; replace hx355_1 := hC HB hx355_1; replace hx355_2 := hC HB hx355_2; replace hx355_3 := hC HB hx355_3; replace p355 := eq_true p355; replace q355 := eq_true q355) | (go_at_call 67; (with_reducible refine (spec_l1In.calls ((rd_T98 l1 x5_1).f1) 0 1000 false _ A8.out).mono ?_); rintro e w' ⟨rfl, ⟨nd, rfl⟩⟩; (try first | exact ⟨rfl, _, World.drewN_drewN _ _ _⟩ | exact ⟨rfl, _, Eq.trans (World.drewN_drewN _ _ _) (congrArg (World.drewN _) (Nat.add_assoc _ _ _))⟩))); try go_wp2_with (first | (go_at_call 79; (with_reducible refine (spec_FindPath.calls k1 _ _ l0 ((rd_T98 l1 x5_1).f0) t354 _ ?side1 ?side2 A6.out).mono ?_); (case side1 => exact cB HR0); (case side2 => exact HC0.out); rintro e w' ⟨rfl, ⟨nd, rfl⟩⟩; (try first | exact ⟨rfl, _, World.drewN_drewN _ _ _⟩ | exact ⟨rfl, _, Eq.trans (World.drewN_drewN _ _ _) (congrArg (World.drewN _) (Nat.add_assoc _ _ _))⟩); have p355 : 0 ≤ (x5_1 : Int) := dA; have q355 : x5_1 < (l1.length : Int) := dA; obtain ⟨ad355, e355, hx355_0, hx355_1, hx355_2, hx355_3⟩ := at_T98 HR1.out x5_1 p355 q355; obtain rfl : ad353 = ad355 := (by injection e355); replace hx355_0 := hC HB hx355_0; replace hx355_1 := hC HB hx355_1; replace hx355_2 := hC HB hx355_2; replace hx355_3 := hC HB hx355_3; replace p355 := eq_true p355; replace q355 := eq_true q355) | (go_at_call 67; (with_reducible refine (spec_l1In.calls ((rd_T98 l1 x5_1).f1) 0 1000 false _ A8.out).mono ?_); rintro e w' ⟨rfl, ⟨nd, rfl⟩⟩; (try first | exact ⟨rfl, _, World.drewN_drewN _ _ _⟩ | exact ⟨rfl, _, Eq.trans (World.drewN_drewN _ _ _) (congrArg (World.drewN _) (Nat.add_assoc _ _ _))⟩))))
              go_meet
              case rel => exact ⟨_, (true), rS, H', ⟨by have := HK1.out; first | omega | exact Nat.le_refl _⟩, ⟨bA⟩⟩
        case rest =>
          clear HC4
          try clear c1
          try clear p2
          try clear c3
          try clear c3b0
          try clear p3
          try clear q3
          try clear hx3
          try clear c4
          try clear c5
          try clear c5b0
          try clear c7
          try clear c7b0
          try clear c9
          try clear hx353_0
          try clear hx353_1
          try clear hx353_2
          try clear hx353_3
          try clear hx355_0
          try clear hx355_1
          try clear hx355_2
          try clear hx355_3
          try clear hx357_0
          try clear hx357_1
          try clear hx357_2
          try clear hx357_3
          try clear p2
          try clear p353
          try clear p355
          try clear p357
          try clear q353
          try clear q355
          try clear q357
          obtain ⟨kq, x38_3, rfl, HA, HJ3, HB⟩ := hcut
          cases kq with
          | zero => exact absurd HA.out (by simp [spec_AreDetectors.j1])
          | succ kj3 =>
            have H := HA.out
            clear HA
            simp only [spec_AreDetectors.j1] at H
            by_cases c11 : x38_3 = true
            · subst c11
              have H1 : (some false) = some r := by rw [if_pos rfl] at H; exact H
              clear H
              have H := H1
              clear H1
              obtain rfl := Option.some.inj H
              go_wp2
              repeat (go_quiet (fail); try go_wp2)
              go_ret
              exact ⟨rA, bA⟩
            · replace c11 := Bool.eq_false_iff.mpr c11
              subst c11
              have H1 : (spec_AreDetectors.l1 kj3 l0 l1 x5_1 0) = some r := by rw [if_neg (show ¬ (false = true) by decide)] at H; exact H
              clear H
              have H := H1
              clear H1
              have H' := Aside0.mk H
              clear H
              go_wp2
              repeat (go_quiet (fail); try go_wp2)
              go_loopg [6] kj3 (fun kq v6 w' => ∃ (x6_3 : Int), v6 = .int .i64 x6_3 ∧ Aside0 (spec_AreDetectors.l1 kq l0 l1 x5_1 x6_3 = some r) ∧ Aside0 (kq ≤ kj3) ∧ Aside0 (Below w.heap.size w w'))
              case atStart => exact ⟨(0), rS, H', ⟨Nat.le_refl _⟩, ⟨bA⟩⟩
              case round =>
                clear H'
                try clear c1
                try clear p2
                try clear c3
                try clear c3b0
                try clear p3
                try clear q3
                try clear hx3
                try clear c4
                try clear c5
                try clear c5b0
                try clear c7
                try clear c7b0
                try clear c9
                try clear c11
                try clear hx353_0
                try clear hx353_1
                try clear hx353_2
                try clear hx353_3
                try clear hx355_0
                try clear hx355_1
                try clear hx355_2
                try clear hx355_3
                try clear hx357_0
                try clear hx357_1
                try clear hx357_2
                try clear hx357_3
                try clear p2
                try clear p3
                try clear p353
                try clear p355
                try clear p357
                try clear q3
                try clear q353
                try clear q355
                try clear q357
                obtain ⟨x6_3, rfl, HA, HK3, HB⟩ := hrel
                cases gk with
                | zero => exact absurd HA.out (by simp [spec_AreDetectors.l1])
                | succ k3 =>
                  have H := HA.out
                  clear HA
                  simp only [spec_AreDetectors.l1] at H
                  by_cases c12 : x6_3 < x5_1
                  · rw [if_pos c12] at H
                    have c12b0 : decide (x6_3 < x5_1) = true := decide_eq_true c12
                    clear c12
                    have c13 : 0 ≤ x6_3 := ifN H
                    replace H := ifT H
                    have c13b0 : decide (0 ≤ x6_3) = true := decide_eq_true c13
                    clear c13
                    have c14 : x6_3 < (l1.length : Int) := ifN H
                    replace H := ifT H
                    have c14b0 : decide (x6_3 < (l1.length : Int)) = true := decide_eq_true c14
                    clear c14
                    have c15 : 0 ≤ x5_1 := ifN H
                    replace H := ifT H
                    have c15b0 : decide (0 ≤ x5_1) = true := decide_eq_true c15
                    clear c15
                    have c16 : x5_1 < (l1.length : Int) := ifN H
                    replace H := ifT H
                    have c16b0 : decide (x5_1 < (l1.length : Int)) = true := decide_eq_true c16
                    clear c16
                    by_cases c17 : ((rd_T98 l1 x6_3).f0) = ((rd_T98 l1 x5_1).f0)
                    · rw [if_pos c17] at H
                      have c17b0 : (((rd_T98 l1 x6_3).f0) == ((rd_T98 l1 x5_1).f0)) = true := beq_iff_eq.mpr c17
                      have c17b1 : (((rd_T98 l1 x6_3).f0) != ((rd_T98 l1 x5_1).f0)) = false := bne_eq_false_iff_eq.mpr c17
                      clear c17
                      obtain rfl := Option.some.inj H
                      have p359 : 0 ≤ (x6_3 : Int) := dA
                      have q359 : x6_3 < (l1.length : Int) := dA
                      obtain ⟨ad359, e359, hx359_0, hx359_1, hx359_2, hx359_3⟩ := at_T98 HR1.out x6_3 p359 q359
                      cases e359
                      replace hx359_0 := hC HB hx359_0
                      replace hx359_1 := hC HB hx359_1
                      replace hx359_2 := hC HB hx359_2
                      replace hx359_3 := hC HB hx359_3
                      replace p359 := eq_true p359
                      replace q359 := eq_true q359
                      have p360 : 0 ≤ (x5_1 : Int) := dA
                      have q360 : x5_1 < (l1.length : Int) := dA
                      obtain ⟨ad360, e360, hx360_0, hx360_1, hx360_2, hx360_3⟩ := at_T98 HR1.out x5_1 p360 q360
                      obtain rfl : ad359 = ad360 := (by injection e360)
                      replace hx360_0 := hC HB hx360_0
                      replace hx360_1 := hC HB hx360_1
                      replace hx360_2 := hC HB hx360_2
                      replace hx360_3 := hC HB hx360_3
                      replace p360 := eq_true p360
                      replace q360 := eq_true q360
                      go_wp2
                      repeat (go_quiet (fail); try go_wp2)
                      go_ret
                      exact ⟨rA, bA⟩
                    · rw [if_neg c17] at H
                      have c17b0 : (((rd_T98 l1 x6_3).f0) == ((rd_T98 l1 x5_1).f0)) = false := beq_eq_false_iff_ne.mpr c17
                      have c17b1 : (((rd_T98 l1 x6_3).f0) != ((rd_T98 l1 x5_1).f0)) = true := bne_iff_ne.mpr c17
                      have H' := Aside0.mk H
                      clear H
                      have p359 : 0 ≤ (x6_3 : Int) := dA
                      have q359 : x6_3 < (l1.length : Int) := dA
                      obtain ⟨ad359, e359, hx359_0, hx359_1, hx359_2, hx359_3⟩ := at_T98 HR1.out x6_3 p359 q359
                      cases e359
                      replace hx359_0 := hC HB hx359_0
                      replace hx359_1 := hC HB hx359_1
                      replace hx359_2 := hC HB hx359_2
                      replace hx359_3 := hC HB hx359_3
                      replace p359 := eq_true p359
                      replace q359 := eq_true q359
                      have p360 : 0 ≤ (x5_1 : Int) := dA
                      have q360 : x5_1 < (l1.length : Int) := dA
                      obtain ⟨ad360, e360, hx360_0, hx360_1, hx360_2, hx360_3⟩ := at_T98 HR1.out x5_1 p360 q360
                      obtain rfl : ad359 = ad360 := (by injection e360)
                      replace hx360_0 := hC HB hx360_0
                      replace hx360_1 := hC HB hx360_1
                      replace hx360_2 := hC HB hx360_2
                      replace hx360_3 := hC HB hx360_3
                      replace p360 := eq_true p360
                      replace q360 := eq_true q360
                      go_wp2
                      repeat (go_quiet (fail); try go_wp2)
                      go_roundg k3
                      case measure => have := HK1.out; have := HJ3.out; have := HK3.out; omega
                      case rel => exact ⟨(wrap64 (x6_3 + 1)), rS, H', ⟨by have := HK1.out; have := HJ3.out; have := HK3.out; omega⟩, ⟨bA⟩⟩
                  · rw [if_neg c12] at H
                    have c12b0 : decide (x6_3 < x5_1) = false := decide_eq_false c12
                    clear c12
                    have H' := Aside0.mk H
                    clear H
                    go_wp2
                    repeat (go_quiet (fail); try go_wp2)
                    go_roundg k3
                    case measure => have := HK1.out; have := HJ3.out; have := HK3.out; omega
                    case rel => exact ⟨(wrap64 (x5_1 + 1)), rS, H', ⟨by have := HK1.out; have := HJ3.out; have := HK3.out; omega⟩, ⟨bA⟩⟩
      · rw [if_neg c3] at H
        have c3b0 : decide (x5_1 < (l1.length : Int)) = false := decide_eq_false c3
        clear c3
        obtain ⟨t352, A18, H⟩ := bindE H
        try dsimp only at H
        by_cases c19 : t352 = true
        · subst c19
          have H1 : (some (decide ((l1.length : Int) ≤ 12))) = some r := by rw [if_pos rfl] at H; exact H
          clear H
          have H := H1
          clear H1
          obtain rfl := Option.some.inj H
          go_wp2_with (first | (go_at_call 80; (with_reducible refine (spec_ArePaths.calls k1 _ _ l0 true _ ?side1 ?side2 A18.out).mono ?_); (case side1 => exact cB HR0); (case side2 => exact HC0.out); rintro e w20 ⟨rfl, hb⟩; replace HB := Aside0.mk (below_step bA hb); (try clear hb); (try clear hb2); (try clear hk); (try clear hi)))
          repeat (go_quiet (first | (go_at_call 80; (with_reducible refine (spec_ArePaths.calls k1 _ _ l0 true _ ?side1 ?side2 A18.out).mono ?_); (case side1 => exact cB HR0); (case side2 => exact HC0.out); rintro e w20 ⟨rfl, hb⟩; replace HB := Aside0.mk (below_step bA hb); (try clear hb); (try clear hb2); (try clear hk); (try clear hi))); try go_wp2_with (first | (go_at_call 80; (with_reducible refine (spec_ArePaths.calls k1 _ _ l0 true _ ?side1 ?side2 A18.out).mono ?_); (case side1 => exact cB HR0); (case side2 => exact HC0.out); rintro e w20 ⟨rfl, hb⟩; replace HB := Aside0.mk (below_step bA hb); (try clear hb); (try clear hb2); (try clear hk); (try clear hi))))
          go_ret
          exact ⟨rA, bA⟩
        · replace c19 := Bool.eq_false_iff.mpr c19
          subst c19
          have H1 : (some false) = some r := by rw [if_neg (show ¬ (false = true) by decide)] at H; exact H
          clear H
          have H := H1
          clear H1
          obtain rfl := Option.some.inj H
          go_wp2_with (first | (go_at_call 80; (with_reducible refine (spec_ArePaths.calls k1 _ _ l0 false _ ?side1 ?side2 A18.out).mono ?_); (case side1 => exact cB HR0); (case side2 => exact HC0.out); rintro e w21 ⟨rfl, hb⟩; replace HB := Aside0.mk (below_step bA hb); (try clear hb); (try clear hb2); (try clear hk); (try clear hi)))
          repeat (go_quiet (first | (go_at_call 80; (with_reducible refine (spec_ArePaths.calls k1 _ _ l0 false _ ?side1 ?side2 A18.out).mono ?_); (case side1 => exact cB HR0); (case side2 => exact HC0.out); rintro e w21 ⟨rfl, hb⟩; replace HB := Aside0.mk (below_step bA hb); (try clear hb); (try clear hb2); (try clear hk); (try clear hi))); try go_wp2_with (first | (go_at_call 80; (with_reducible refine (spec_ArePaths.calls k1 _ _ l0 false _ ?side1 ?side2 A18.out).mono ?_); (case side1 => exact cB HR0); (case side2 => exact HC0.out); rintro e w21 ⟨rfl, hb⟩; replace HB := Aside0.mk (below_step bA hb); (try clear hb); (try clear hb2); (try clear hk); (try clear hi))))
          go_ret
          exact ⟨rA, bA⟩

/-! ### spec_IsTrusted: function 115 -/
def spec_IsTrusted.f (a0_0 : Int) (a0_1 : Int) (a0_2 : Int) (a0_3 : Bool) : Option (Bool) := if a0_3 = true then (some false) else (some (decide (a0_2 ≤ 900)))
set_option maxHeartbeats 8000000 in
set_option maxRecDepth 100000 in
theorem spec_IsTrusted.calls (a0_0 : Int) (a0_1 : Int) (a0_2 : Int) (a0_3 : Bool) (r : Bool) (w : World) (h : spec_IsTrusted.f a0_0 a0_1 a0_2 a0_3 = some r) :
    Calls Try.prog 115 #[.agg #[.int .i64 a0_0, .int .i64 a0_1, .int .i64 a0_2, .bool a0_3]] w fun e w' => e = .returned (.bool r) ∧ Below w.heap.size w w' := by
  have hu98 := Try.underlying98
  have HB := Aside0.mk (Below.refl w.heap.size w)
  have H : (if a0_3 = true then (some false) else (some (decide (a0_2 ≤ 900)))) = some r := h
  clear h
  by_cases c2 : a0_3 = true
  · subst c2
    have H1 : (some false) = some r := by rw [if_pos rfl] at H; exact H
    clear H
    have H := H1
    clear H1
    obtain rfl := Option.some.inj H
    go_enter Try.func115, Try.ntmps115
    go_wp2_with (first | ((with_reducible refine gate_dst (N := 1) rfl ?_); refine bE (N := 1) (cs := #[.int .i64 a0_0, .int .i64 a0_1, .int .i64 a0_2, .bool true]) (t := 98) ?_; intro gb414 hg w3 hbox hb; have n0_ := Aside0.mk (below_step bA hb); have n1_ := Aside0.mk (hbox); have n2_ := Aside0.mk ((by rw [hg]; exact (below_size bA) : w.heap.size ≤ gb414)); have n3_ := Aside0.mk ((by rw [hg]; exact (below_size bA) : w.heap.size ≤ gb414)); clear HB; have HB := n0_; have BK414 := n1_; have GW414 := n2_; have GE414 := n3_; clear n0_ n1_ n2_ n3_; clear hb hbox hg; obtain ⟨hcz4_0, hcz4_1, hcz4_2, hcz4_3, hfz4_0, hfz4_1, hfz4_2, hfz4_3⟩ := blkc4 BK414))
    go_ret
    exact ⟨rA, bG⟩
  · replace c2 := Bool.eq_false_iff.mpr c2
    subst c2
    have H1 : (some (decide (a0_2 ≤ 900))) = some r := by rw [if_neg (show ¬ (false = true) by decide)] at H; exact H
    clear H
    have H := H1
    clear H1
    obtain rfl := Option.some.inj H
    go_enter Try.func115, Try.ntmps115
    go_wp2_with (first | ((with_reducible refine gate_dst (N := 1) rfl ?_); refine bE (N := 1) (cs := #[.int .i64 a0_0, .int .i64 a0_1, .int .i64 a0_2, .bool false]) (t := 98) ?_; intro gb414 hg w5 hbox hb; have n0_ := Aside0.mk (below_step bA hb); have n1_ := Aside0.mk (hbox); have n2_ := Aside0.mk ((by rw [hg]; exact (below_size bA) : w.heap.size ≤ gb414)); have n3_ := Aside0.mk ((by rw [hg]; exact (below_size bA) : w.heap.size ≤ gb414)); clear HB; have HB := n0_; have BK414 := n1_; have GW414 := n2_; have GE414 := n3_; clear n0_ n1_ n2_ n3_; clear hb hbox hg; obtain ⟨hcz6_0, hcz6_1, hcz6_2, hcz6_3, hfz6_0, hfz6_1, hfz6_2, hfz6_3⟩ := blkc4 BK414))
    go_ret
    exact ⟨rA, bG⟩

/-! ### spec_l10Count: function 89 -/
def spec_l10Count.l0 : Nat → List (S98) → Int → Int → Option (Int × Bool)
  | 0, _, _, _ => none
  | k + 1, x0, x1, x6 => if x6 < (x0.length : Int) then (if 0 ≤ x6 then (if ((rd_T98 x0 x6).f0) = x1 then ((spec_IsTrusted.f ((rd_T98 x0 x6).f0) ((rd_T98 x0 x6).f1) ((rd_T98 x0 x6).f2) ((rd_T98 x0 x6).f3)).bind fun t417 => (if t417 = true then (some ((rd_T98 x0 x6).f1, true)) else (spec_l10Count.l0 k x0 x1 (wrap64 (x6 + 1))))) else (spec_l10Count.l0 k x0 x1 (wrap64 (x6 + 1)))) else (none)) else (some (0, false))
def spec_l10Count.f (k : Nat) (l0 : List (S98)) (a1 : Int) : Option (Int × Bool) := spec_l10Count.l0 k l0 a1 0
theorem spec_l10Count.mono_l : ∀ k, (∀ y0 y1 y2, LeO (spec_l10Count.l0 k y0 y1 y2) (spec_l10Count.l0 (k + 1) y0 y1 y2))
  | 0 => fun _ _ _ r h => by simp [spec_l10Count.l0] at h
  | k + 1 => by
    have ih0 := spec_l10Count.mono_l k
    · intro y0 y1 y2
      unfold spec_l10Count.l0
      repeat' first | (with_reducible first | exact LeO.refl _ | exact LeO.none _ | refine LeO.ite ?_ ?_ | refine LeO.bind ?_ (fun _ => ?_) | exact ih0 _ _ _) | exact LeO.none _ | refine LeO.ite ?_ ?_ | refine LeO.bind ?_ (fun _ => ?_) | exact ih0 _ _ _
theorem spec_l10Count.mono : ∀ a0 a1 k, LeO (spec_l10Count.f k a0 a1) (spec_l10Count.f (k + 1) a0 a1) := by
  intro a0 a1 k
  have ih0 := spec_l10Count.mono_l k
  unfold spec_l10Count.f
  repeat' first | (with_reducible first | exact LeO.refl _ | exact LeO.none _ | refine LeO.ite ?_ ?_ | refine LeO.bind ?_ (fun _ => ?_) | exact ih0 _ _ _) | exact LeO.none _ | refine LeO.ite ?_ ?_ | refine LeO.bind ?_ (fun _ => ?_) | exact ih0 _ _ _
set_option maxHeartbeats 8000000 in
set_option maxRecDepth 100000 in
theorem spec_l10Count.calls (k : Nat) (A0 : Option Addr) (c0 : Nat) (l0 : List (S98)) (a1 : Int) (r1 : Int) (r2 : Bool) (w : World) (hr0 : Kd.C k98 w A0 l0.length l0) (hc0 : l0.length ≤ c0) (h : spec_l10Count.f k l0 a1 = some (r1, r2)) :
    Calls Try.prog 89 #[.slice A0 l0.length c0, .int .i64 a1] w fun e w' => e = .returned (.tuple #[.int .i64 r1, .bool r2]) ∧ Below w.heap.size w w' := by
  have hu98 := Try.underlying98
  have HR0 := Aside0.mk hr0
  have HC0 := Aside0.mk hc0
  clear hr0 hc0
  have HB := Aside0.mk (Below.refl w.heap.size w)
  have H : (spec_l10Count.l0 k l0 a1 0) = some (r1, r2) := h
  clear h
  have H' := Aside0.mk H
  clear H
  go_enter Try.func89, Try.ntmps89
  go_wp2
  go_loopg [6] k (fun kq v6 w' => ∃ (x6_1 : Int), v6 = .int .i64 x6_1 ∧ Aside0 (spec_l10Count.l0 kq l0 a1 x6_1 = some (r1, r2)) ∧ Aside0 (kq ≤ k) ∧ Aside0 (Below w.heap.size w w'))
  case atStart => exact ⟨(0), rS, H', ⟨Nat.le_refl _⟩, ⟨bA⟩⟩
  case round =>
    clear H'
    try clear p2
    obtain ⟨x6_1, rfl, HA, HK1, HB⟩ := hrel
    cases gk with
    | zero => exact absurd HA.out (by simp [spec_l10Count.l0])
    | succ k1 =>
      have H := HA.out
      clear HA
      simp only [spec_l10Count.l0] at H
      by_cases c3 : x6_1 < (l0.length : Int)
      · rw [if_pos c3] at H
        have c3b0 : decide (x6_1 < (l0.length : Int)) = true := decide_eq_true c3
        clear c3
        have c4 : 0 ≤ x6_1 := ifN H
        replace H := ifT H
        have c4b0 : decide (0 ≤ x6_1) = true := decide_eq_true c4
        clear c4
        by_cases c5 : ((rd_T98 l0 x6_1).f0) = a1
        · rw [if_pos c5] at H
          have c5b0 : (((rd_T98 l0 x6_1).f0) == a1) = true := beq_iff_eq.mpr c5
          have c5b1 : (((rd_T98 l0 x6_1).f0) != a1) = false := bne_eq_false_iff_eq.mpr c5
          clear c5
          obtain ⟨t417, A6, H⟩ := bindE H
          try dsimp only at H
          by_cases c7 : t417 = true
          · subst c7
            have H1 : (some ((rd_T98 l0 x6_1).f1, true)) = some (r1, r2) := by rw [if_pos rfl] at H; exact H
            clear H
            have H := H1
            clear H1
            simp only [Option.some.injEq, Prod.mk.injEq] at H
            obtain ⟨rfl, rfl⟩ := H
            have p415 : 0 ≤ (x6_1 : Int) := dA
            have q415 : x6_1 < (l0.length : Int) := dA
            obtain ⟨ad415, e415, hx415_0, hx415_1, hx415_2, hx415_3⟩ := at_T98 HR0.out x6_1 p415 q415
            cases e415
            replace hx415_0 := hC HB hx415_0
            replace hx415_1 := hC HB hx415_1
            replace hx415_2 := hC HB hx415_2
            replace hx415_3 := hC HB hx415_3
            replace p415 := eq_true p415
            replace q415 := eq_true q415
            have p416 : 0 ≤ (x6_1 : Int) := dA
            have q416 : x6_1 < (l0.length : Int) := dA
            obtain ⟨ad416, e416, hx416_0, hx416_1, hx416_2, hx416_3⟩ := at_T98 HR0.out x6_1 p416 q416
            obtain rfl : ad415 = ad416 := (by injection e416)
            replace hx416_0 := hC HB hx416_0
            replace hx416_1 := hC HB hx416_1
            replace hx416_2 := hC HB hx416_2
            replace hx416_3 := hC HB hx416_3
            replace p416 := eq_true p416
            replace q416 := eq_true q416
            go_wp2_with (first | (go_at_call 115; (with_reducible refine (spec_IsTrusted.calls ((rd_T98 l0 x6_1).f0) ((rd_T98 l0 x6_1).f1) ((rd_T98 l0 x6_1).f2) ((rd_T98 l0 x6_1).f3) true _ A6.out).mono ?_); rintro e w8 ⟨rfl, hb⟩; replace HB := Aside0.mk (below_step bA hb); (try clear hb); (try clear hb2); (try clear hk); (try clear hi); have p418 : 0 ≤ (x6_1 : Int) := dA; have q418 : x6_1 < (l0.length : Int) := dA; obtain ⟨ad418, e418, hx418_0, hx418_1, hx418_2, hx418_3⟩ := at_T98 HR0.out x6_1 p418 q418; obtain rfl : ad415 = ad418 := (by injection e418); replace hx418_0 := hC HB hx418_0; replace hx418_1 := hC HB hx418_1; replace hx418_2 := hC HB hx418_2; replace hx418_3 := hC HB hx418_3; replace p418 := eq_true p418; replace q418 := eq_true q418))
            go_ret2
            exact ⟨rA, bA⟩
          · replace c7 := Bool.eq_false_iff.mpr c7
            subst c7
            have H1 : (spec_l10Count.l0 k1 l0 a1 (wrap64 (x6_1 + 1))) = some (r1, r2) := by rw [if_neg (show ¬ (false = true) by decide)] at H; exact H
            clear H
            have H := H1
            clear H1
            have H' := Aside0.mk H
            clear H
            have p415 : 0 ≤ (x6_1 : Int) := dA
            have q415 : x6_1 < (l0.length : Int) := dA
            obtain ⟨ad415, e415, hx415_0, hx415_1, hx415_2, hx415_3⟩ := at_T98 HR0.out x6_1 p415 q415
            cases e415
            replace hx415_0 := hC HB hx415_0
            replace hx415_1 := hC HB hx415_1
            replace hx415_2 := hC HB hx415_2
            replace hx415_3 := hC HB hx415_3
            replace p415 := eq_true p415
            replace q415 := eq_true q415
            have p416 : 0 ≤ (x6_1 : Int) := dA
            have q416 : x6_1 < (l0.length : Int) := dA
            obtain ⟨ad416, e416, hx416_0, hx416_1, hx416_2, hx416_3⟩ := at_T98 HR0.out x6_1 p416 q416
            obtain rfl : ad415 = ad416 := (by injection e416)
            replace hx416_0 := hC HB hx416_0
            replace hx416_1 := hC HB hx416_1
            replace hx416_2 := hC HB hx416_2
            replace hx416_3 := hC HB hx416_3
            replace p416 := eq_true p416
            replace q416 := eq_true q416
            go_wp2_with (first | (go_at_call 115; (with_reducible refine (spec_IsTrusted.calls ((rd_T98 l0 x6_1).f0) ((rd_T98 l0 x6_1).f1) ((rd_T98 l0 x6_1).f2) ((rd_T98 l0 x6_1).f3) false _ A6.out).mono ?_); rintro e w9 ⟨rfl, hb⟩; replace HB := Aside0.mk (below_step bA hb); (try clear hb); (try clear hb2); (try clear hk); (try clear hi)))
            go_roundg k1
            case measure => have := HK1.out; omega
            case rel => exact ⟨(wrap64 (x6_1 + 1)), rS, H', ⟨by have := HK1.out; omega⟩, ⟨bA⟩⟩
        · rw [if_neg c5] at H
          have c5b0 : (((rd_T98 l0 x6_1).f0) == a1) = false := beq_eq_false_iff_ne.mpr c5
          have c5b1 : (((rd_T98 l0 x6_1).f0) != a1) = true := bne_iff_ne.mpr c5
          have H' := Aside0.mk H
          clear H
          have p415 : 0 ≤ (x6_1 : Int) := dA
          have q415 : x6_1 < (l0.length : Int) := dA
          obtain ⟨ad415, e415, hx415_0, hx415_1, hx415_2, hx415_3⟩ := at_T98 HR0.out x6_1 p415 q415
          cases e415
          replace hx415_0 := hC HB hx415_0
          replace hx415_1 := hC HB hx415_1
          replace hx415_2 := hC HB hx415_2
          replace hx415_3 := hC HB hx415_3
          replace p415 := eq_true p415
          replace q415 := eq_true q415
          go_wp2
          go_roundg k1
          case measure => have := HK1.out; omega
          case rel => exact ⟨(wrap64 (x6_1 + 1)), rS, H', ⟨by have := HK1.out; omega⟩, ⟨bA⟩⟩
      · rw [if_neg c3] at H
        have c3b0 : decide (x6_1 < (l0.length : Int)) = false := decide_eq_false c3
        clear c3
        simp only [Option.some.injEq, Prod.mk.injEq] at H
        obtain ⟨rfl, rfl⟩ := H
        go_wp2
        go_ret2
        exact ⟨rA, bA⟩

/-! ### spec_BlindPaths: function 44 -/
def spec_BlindPaths.l0 : Nat → List (S90) → List (S98) → List Int → Int → Option (List Int)
  | 0, _, _, _, _ => none
  | k + 1, x0, x1, x5, x6 => if x6 < (x0.length : Int) then (if 0 ≤ x6 then ((spec_l10Count.f k x1 ((rd_T90 x0 x6).f0)).bind fun bt423 => (if bt423.2 = true then (spec_BlindPaths.l0 k x0 x1 x5 (wrap64 (x6 + 1))) else (if x5.length < 17592186044416 then (spec_BlindPaths.l0 k x0 x1 (x5 ++ [(rd_T90 x0 x6).f0]) (wrap64 (x6 + 1))) else (none)))) else (none)) else (some x5)
def spec_BlindPaths.f (k : Nat) (l0 : List (S90)) (l1 : List (S98)) : Option (List Int) := spec_BlindPaths.l0 k l0 l1 (([] : List Int)) 0
theorem spec_BlindPaths.mono_l : ∀ k, (∀ y0 y1 y2 y3, LeO (spec_BlindPaths.l0 k y0 y1 y2 y3) (spec_BlindPaths.l0 (k + 1) y0 y1 y2 y3))
  | 0 => fun _ _ _ _ r h => by simp [spec_BlindPaths.l0] at h
  | k + 1 => by
    have ih0 := spec_BlindPaths.mono_l k
    · intro y0 y1 y2 y3
      unfold spec_BlindPaths.l0
      repeat' first | (with_reducible first | exact LeO.refl _ | exact LeO.none _ | refine LeO.ite ?_ ?_ | refine LeO.bind ?_ (fun _ => ?_) | exact ih0 _ _ _ _ | exact spec_l10Count.mono _ _ _) | exact LeO.none _ | refine LeO.ite ?_ ?_ | refine LeO.bind ?_ (fun _ => ?_) | exact ih0 _ _ _ _ | exact spec_l10Count.mono _ _ _
theorem spec_BlindPaths.mono : ∀ a0 a1 k, LeO (spec_BlindPaths.f k a0 a1) (spec_BlindPaths.f (k + 1) a0 a1) := by
  intro a0 a1 k
  have ih0 := spec_BlindPaths.mono_l k
  unfold spec_BlindPaths.f
  repeat' first | (with_reducible first | exact LeO.refl _ | exact LeO.none _ | refine LeO.ite ?_ ?_ | refine LeO.bind ?_ (fun _ => ?_) | exact ih0 _ _ _ _ | exact spec_l10Count.mono _ _ _) | exact LeO.none _ | refine LeO.ite ?_ ?_ | refine LeO.bind ?_ (fun _ => ?_) | exact ih0 _ _ _ _ | exact spec_l10Count.mono _ _ _
set_option maxHeartbeats 8000000 in
set_option maxRecDepth 100000 in
theorem spec_BlindPaths.calls (k : Nat) (A0 : Option Addr) (c0 : Nat) (l0 : List (S90)) (A1 : Option Addr) (c1 : Nat) (l1 : List (S98)) (r : List Int) (w : World) (hr0 : Kd.C k90 w A0 l0.length l0) (hc0 : l0.length ≤ c0) (hr1 : Kd.C k98 w A1 l1.length l1) (hc1 : l1.length ≤ c1) (h : spec_BlindPaths.f k l0 l1 = some r) :
    Calls Try.prog 44 #[.slice A0 l0.length c0, .slice A1 l1.length c1] w fun e w' => ∃ v0_ : Value, e = .returned (v0_) ∧ Kd.R (Kd.int .i64) 3 w' w.heap.size (fun _ => True) v0_ r ∧ Below w.heap.size w w' := by
  have HR0 := Aside0.mk hr0
  have HC0 := Aside0.mk hc0
  clear hr0 hc0
  have HR1 := Aside0.mk hr1
  have HC1 := Aside0.mk hc1
  clear hr1 hc1
  have HB := Aside0.mk (Below.refl w.heap.size w)
  have H : (spec_BlindPaths.l0 k l0 l1 (([] : List Int)) 0) = some r := h
  clear h
  obtain ⟨y419, hy419⟩ : ∃ y_ : List Int, y_ = (([] : List Int)) := ⟨_, rfl⟩
  replace H : (spec_BlindPaths.l0 k l0 l1 y419 0) = some r := by first | (rw [hy419]; with_reducible exact H) | (have H2_ := (Option.bind_some _ _).symm.trans H; rw [hy419]; with_reducible exact H2_) | (have H2_ := (Option.bind_some _ _).symm.trans H; with_reducible exact H2_) | with_reducible exact H | (rw [hy419]; exact H) | exact H
  have Ny419 := Aside0.mk hy419
  clear hy419
  have H' := Aside0.mk H
  clear H
  go_enter Try.func44, Try.ntmps44
  go_wp2_with (first | ((with_reducible refine gate_dst (N := 9) rfl ?_); refine Kd.R_lit (Kd.int .i64) _ 3 ?hg (N := 9) ?hd (xs := ([] : List Int)) (inner := []) (ok := fun _ => True) (okp := fun _ => True) ?hr ?hp (fun _ hk => hk) trivial (Below.refl _ _) (Nat.le_refl _) (by simp) ?_; (case hd => rfl); (case hg => rfl); (case hr => first | (go_simp; done) | (go_simp; rfl)); (case hp => exact (Reps.none _ _)); intro v420 w3 ho4 hb hg_ hnew_; clear hg_ hnew_; (first | rw [← Ny419.out] at ho4 | (simp only [Int.reduceToNat] at ho4; rw [← Ny419.out] at ho4)); have HO421 := Aside0.mk (Kd.R_lower ho4 (below_size bA)); replace HB := Aside0.mk (below_step bA hb); clear hb ho4))
  go_loopg [5, 6] k (fun kq v5 v6 w' => ∃ (x5_1 : List Int) (x6_1 : Int), v6 = .int .i64 x6_1 ∧ Aside0 (spec_BlindPaths.l0 kq l0 l1 x5_1 x6_1 = some r) ∧ Aside0 (kq ≤ k) ∧ Aside0 (Kd.R (Kd.int .i64) 3 w' w.heap.size (fun _ => True) v5 x5_1) ∧ Aside0 (Below w.heap.size w w'))
  case atStart => exact ⟨(y419), (0), rS, H', ⟨Nat.le_refl _⟩, ⟨rK HO421⟩, ⟨bA⟩⟩
  case round =>
    clear H'
    try clear c1
    try clear p2
    try clear c4
    obtain ⟨x5_1, x6_1, rfl, HA, HK1, HO_5, HB⟩ := hrel
    cases gk with
    | zero => exact absurd HA.out (by simp [spec_BlindPaths.l0])
    | succ k1 =>
      have H := HA.out
      clear HA
      simp only [spec_BlindPaths.l0] at H
      by_cases c5 : x6_1 < (l0.length : Int)
      · rw [if_pos c5] at H
        have c5b0 : decide (x6_1 < (l0.length : Int)) = true := decide_eq_true c5
        clear c5
        have c6 : 0 ≤ x6_1 := ifN H
        replace H := ifT H
        have c6b0 : decide (0 ≤ x6_1) = true := decide_eq_true c6
        clear c6
        obtain ⟨⟨t423, t424⟩, A7, H⟩ := bindE H
        try dsimp only at H
        by_cases c8 : t424 = true
        · subst c8
          have H1 : (spec_BlindPaths.l0 k1 l0 l1 x5_1 (wrap64 (x6_1 + 1))) = some r := by rw [if_pos rfl] at H; exact H
          clear H
          have H := H1
          clear H1
          have H' := Aside0.mk H
          clear H
          have p422 : 0 ≤ (x6_1 : Int) := dA
          have q422 : x6_1 < (l0.length : Int) := dA
          obtain ⟨ad422, e422, hx422_0, hx422_1, hx422_2, hx422_3⟩ := at_T90 HR0.out x6_1 p422 q422
          cases e422
          replace hx422_0 := hC HB hx422_0
          replace hx422_1 := hC HB hx422_1
          replace hx422_2 := hC HB hx422_2
          replace hx422_3 := hC HB hx422_3
          replace p422 := eq_true p422
          replace q422 := eq_true q422
          go_wp2_with (first | ((with_reducible refine gate_callee (f := 89) rfl ?_); refine gL (some 23) Try.func89 #[.slice A1 l1.length c1, .int .i64 ((rd_T90 l0 x6_1).f0)] ?_; (with_reducible refine (spec_l10Count.calls k1 _ _ l1 ((rd_T90 l0 x6_1).f0) t423 true _ ?side1 ?side2 A7.out).mono ?_); (case side1 => exact cB HR1); (case side2 => exact HC1.out); rintro e w9 ⟨rfl, hb⟩; refine ⟨_, rfl, ?_⟩; replace HO_5 := Aside0.mk (Kd.R_below (rK HO_5) hb); replace HB := Aside0.mk (below_step bA hb); (try clear hb); (try clear hb2); (try clear hk); (try clear hi)))
          go_roundg k1
          case measure => have := HK1.out; omega
          case rel => exact ⟨(x5_1), (wrap64 (x6_1 + 1)), rS, H', ⟨by have := HK1.out; omega⟩, ⟨rK HO_5⟩, ⟨bA⟩⟩
        · replace c8 := Bool.eq_false_iff.mpr c8
          subst c8
          have H1 : (if x5_1.length < 17592186044416 then (spec_BlindPaths.l0 k1 l0 l1 (x5_1 ++ [(rd_T90 l0 x6_1).f0]) (wrap64 (x6_1 + 1))) else (none)) = some r := by rw [if_neg (show ¬ (false = true) by decide)] at H; exact H
          clear H
          have H := H1
          clear H1
          have c10 : x5_1.length < 17592186044416 := ifN H
          replace H := ifT H
          have LMc10 := Aside0.mk c10
          clear c10
          obtain ⟨y426, hy426⟩ : ∃ y_ : List Int, y_ = (x5_1 ++ [(rd_T90 l0 x6_1).f0]) := ⟨_, rfl⟩
          replace H : (spec_BlindPaths.l0 k1 l0 l1 y426 (wrap64 (x6_1 + 1))) = some r := by first | (rw [hy426]; with_reducible exact H) | (have H2_ := (Option.bind_some _ _).symm.trans H; rw [hy426]; with_reducible exact H2_) | (have H2_ := (Option.bind_some _ _).symm.trans H; with_reducible exact H2_) | with_reducible exact H | (rw [hy426]; exact H) | exact H
          have Ny426 := Aside0.mk hy426
          clear hy426
          have H' := Aside0.mk H
          clear H
          have p422 : 0 ≤ (x6_1 : Int) := dA
          have q422 : x6_1 < (l0.length : Int) := dA
          obtain ⟨ad422, e422, hx422_0, hx422_1, hx422_2, hx422_3⟩ := at_T90 HR0.out x6_1 p422 q422
          cases e422
          replace hx422_0 := hC HB hx422_0
          replace hx422_1 := hC HB hx422_1
          replace hx422_2 := hC HB hx422_2
          replace hx422_3 := hC HB hx422_3
          replace p422 := eq_true p422
          replace q422 := eq_true q422
          go_wp2_with (first | ((with_reducible refine gate_callee (f := 89) rfl ?_); refine gL (some 23) Try.func89 #[.slice A1 l1.length c1, .int .i64 ((rd_T90 l0 x6_1).f0)] ?_; (with_reducible refine (spec_l10Count.calls k1 _ _ l1 ((rd_T90 l0 x6_1).f0) t423 false _ ?side1 ?side2 A7.out).mono ?_); (case side1 => exact cB HR1); (case side2 => exact HC1.out); rintro e w11 ⟨rfl, hb⟩; refine ⟨_, rfl, ?_⟩; replace HO_5 := Aside0.mk (Kd.R_below (rK HO_5) hb); replace HB := Aside0.mk (below_step bA hb); (try clear hb); (try clear hb2); (try clear hk); (try clear hi); have p425 : 0 ≤ (x6_1 : Int) := dA; have q425 : x6_1 < (l0.length : Int) := dA; obtain ⟨ad425, e425, hx425_0, hx425_1, hx425_2, hx425_3⟩ := at_T90 HR0.out x6_1 p425 q425; obtain rfl : ad422 = ad425 := (by injection e425); replace hx425_0 := hC HB hx425_0; replace hx425_1 := hC HB hx425_1; replace hx425_2 := hC HB hx425_2; replace hx425_3 := hC HB hx425_3; replace p425 := eq_true p425; replace q425 := eq_true q425) | ((with_reducible refine gate_builtin (b := .append) (xs := #[.tmp 28, .tmp 34]) rfl ?_); at_builtin; refine Kd.R_append (Kd.int .i64) (w0 := w) w.heap.size rfl (.tmp 28) (.tmp 34) 22 3 (.int .i64 0) 8 rfl Try.underlying22 info3 rfl (by decide) (by omega) u5 x5_1 ((rd_T90 l0 x6_1).f0) [.int .i64 ((rd_T90 l0 x6_1).f0)] (fun _ => True) (fun _ => False) rfl rfl ?aP (fun _ hk => hk.elim) ?aF ?aO ?aB ?aS ?aL ?_; (case aP => exact rfl); (case aB => exact bA); (case aF => exact (fun _ _ => trivial)); (case aO => exact (rK HO_5)); (case aS => exact (below_size bA)); (case aL => have := LMc10.out; omega); intro v427 w12 ho hb hg hat; rw [← Ny426.out] at ho; have n0_ := Aside0.mk (hb); have n1_ := Aside0.mk (ho); clear HB; clear HO_5; have HB := n0_; have HO428 := n1_; clear n0_ n1_; clear ho hb hg hat))
          go_roundg k1
          case measure => have := HK1.out; omega
          case rel => exact ⟨(y426), (wrap64 (x6_1 + 1)), rS, H', ⟨by have := HK1.out; omega⟩, ⟨rK HO428⟩, ⟨bA⟩⟩
      · rw [if_neg c5] at H
        have c5b0 : decide (x6_1 < (l0.length : Int)) = false := decide_eq_false c5
        clear c5
        obtain rfl := Option.some.inj H
        go_wp2
        go_ret
        exact ⟨_, by first | rfl | (simp [errW_none, errW_some] <;> rfl) | (simp [*, errW_none, errW_some] <;> rfl), by (with_reducible repeat (first | apply Kd.R_alloc | apply Kd.R_drewN | apply Kd.R_drew)); exact HO_5.out, bA⟩

end Go.Proofs.Ytimmadeghcghoaa.P
