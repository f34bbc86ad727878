/- Printed by myprint.py (wip/tools) over the kit's print: what Go's functions compute, and that they do. Lean checks it. -/
import Derived.Test.YtimmadeghcghoaaF0
import Derived.Test.YtimmadeghcghoaaFX01
namespace Go.Proofs.Ytimmadeghcghoaa.P
open Go.RowKit Go.Proofs.YtimmadeghcghoaaW.PrintWords Go.Proofs.YtimmadeghcghoaaW.PrintLast Go.Proofs.YtimmadeghcghoaaW.PrintMore Go.Proofs.Ytimmadeghcghoaa.Sq
attribute [local go_sem] max2_int min2_int max_two min_two max_three min_three max_four min_four
set_option linter.unusedVariables false
set_option linter.unusedSimpArgs false

/-! ### spec_EqualPlans: function 25 -/
def spec_EqualPlans.l0 : Nat → List (S82) → List (S82) → Int → Option (Bool)
 | 0, _, _, _ => none
 | k + 1, x0, x1, x5 => if x5 < (x0.length : Int) then (if 0 ≤ x5 then (if x5 < (x1.length : Int) then (if ((rd_T82 x0 x5).f1) = ((rd_T82 x1 x5).f1) then ((spec_EqualInts.f k ((rd_T82 x0 x5).f0) ((rd_T82 x1 x5).f0)).bind fun t111 => (if t111 = true then (spec_EqualPlans.l0 k x0 x1 (wrap64 (x5 + 1))) else (some false))) else (some false)) else (none)) else (none)) else (some true)
def spec_EqualPlans.f (k : Nat) (l0 : List (S82)) (l1 : List (S82)) : Option (Bool) := if (l0.length : Int) = (l1.length : Int) then (spec_EqualPlans.l0 k l0 l1 0) else (some false)
theorem spec_EqualPlans.mono_l : ∀ k, (∀ y0 y1 y2, LeO (spec_EqualPlans.l0 k y0 y1 y2) (spec_EqualPlans.l0 (k + 1) y0 y1 y2))
 | 0 => fun _ _ _ r h => by simp [spec_EqualPlans.l0] at h
 | k + 1 => by
  have ih0 := spec_EqualPlans.mono_l k
  ·
   intro y0 y1 y2
   unfold spec_EqualPlans.l0
   repeat' first | (with_reducible first | exact LeO.refl _ | exact LeO.none _ | refine LeO.ite ?_ ?_ | refine LeO.bind ?_ (fun _ => ?_) | exact ih0 _ _ _ | exact spec_EqualInts.mono _ _ _) | exact LeO.none _ | refine LeO.ite ?_ ?_ | refine LeO.bind ?_ (fun _ => ?_) | exact ih0 _ _ _ | exact spec_EqualInts.mono _ _ _
theorem spec_EqualPlans.mono : ∀ a0 a1 k, LeO (spec_EqualPlans.f k a0 a1) (spec_EqualPlans.f (k + 1) a0 a1) := by
 intro a0 a1 k
 have ih0 := spec_EqualPlans.mono_l k
 unfold spec_EqualPlans.f
 repeat' first | (with_reducible first | exact LeO.refl _ | exact LeO.none _ | refine LeO.ite ?_ ?_ | refine LeO.bind ?_ (fun _ => ?_) | exact ih0 _ _ _ | exact spec_EqualInts.mono _ _ _) | exact LeO.none _ | refine LeO.ite ?_ ?_ | refine LeO.bind ?_ (fun _ => ?_) | exact ih0 _ _ _ | exact spec_EqualInts.mono _ _ _
set_option maxHeartbeats 8000000 in
set_option maxRecDepth 100000 in
theorem spec_EqualPlans.calls (k : Nat) (A0 : Option Addr) (c0 : Nat) (l0 : List (S82)) (A1 : Option Addr) (c1 : Nat) (l1 : List (S82)) (r : Bool) (w : World) (hr0 : Kd.C k82 w A0 l0.length l0) (hc0 : l0.length ≤ c0) (hr1 : Kd.C k82 w A1 l1.length l1) (hc1 : l1.length ≤ c1) (h : spec_EqualPlans.f k l0 l1 = some r) :
  Calls Try.prog 25 #[.slice A0 l0.length c0, .slice A1 l1.length c1] w fun e w' => e = .returned (.bool r) ∧ Drawn0 w w' := by
 have HR0 := Aside0.mk hr0
 have HC0 := Aside0.mk hc0
 clear hr0 hc0
 have HR1 := Aside0.mk hr1
 have HC1 := Aside0.mk hc1
 clear hr1 hc1
 have H : (if (l0.length : Int) = (l1.length : Int) then (spec_EqualPlans.l0 k l0 l1 0) else (some false)) = some r := h
 clear h
 by_cases c3 : (l0.length : Int) = (l1.length : Int)
 ·
  rw [if_pos c3] at H
  have c3b0 : ((l0.length : Int) == (l1.length : Int)) = true := beq_iff_eq.mpr c3
  have c3b1 : ((l0.length : Int) != (l1.length : Int)) = false := bne_eq_false_iff_eq.mpr c3
  have c3b2 : (l0.length == l1.length) = true := by first | simpa using c3 | (simp at c3 ⊢; omega)
  clear c3
  have H' := Aside0.mk H
  clear H
  go_enter Try.func25, Try.ntmps25
  go_wp2
  repeat (go_quiet (fail); try go_wp2)
  go_loopg [5] k (fun kq v5 w' => ∃ (x5_1 : Int), v5 = .int .i64 x5_1 ∧ Aside0 (spec_EqualPlans.l0 kq l0 l1 x5_1 = some r) ∧ Aside0 (kq ≤ k) ∧ Drawn0 w w')
  case atStart => exact ⟨(0), rS, H', ⟨Nat.le_refl _⟩, by repeat (first | exact Drawn0.refl _ | apply Drawn0.step)⟩
  case round =>
   clear H'
   try clear c1
   try clear c2
   try clear p2
   try clear c3
   try clear c3b0
   try clear c3b1
   try clear c3b2
   obtain ⟨x5_1, rfl, HA, HK1, ⟨m1, rfl⟩⟩ := hrel
   cases gk with
   | zero => exact absurd HA.out (by simp [spec_EqualPlans.l0])
   | succ k1 =>
    have H := HA.out
    clear HA
    simp only [spec_EqualPlans.l0] at H
    by_cases c4 : x5_1 < (l0.length : Int)
    ·
     rw [if_pos c4] at H
     have c4b0 : decide (x5_1 < (l0.length : Int)) = true := decide_eq_true c4
     clear c4
     have c5 : 0 ≤ x5_1 := ifN H
     replace H := ifT H
     have c5b0 : decide (0 ≤ x5_1) = true := decide_eq_true c5
     clear c5
     have c6 : x5_1 < (l1.length : Int) := ifN H
     replace H := ifT H
     have c6b0 : decide (x5_1 < (l1.length : Int)) = true := decide_eq_true c6
     clear c6
     by_cases c7 : ((rd_T82 l0 x5_1).f1) = ((rd_T82 l1 x5_1).f1)
     ·
      rw [if_pos c7] at H
      have c7b0 : (((rd_T82 l0 x5_1).f1) == ((rd_T82 l1 x5_1).f1)) = true := beq_iff_eq.mpr c7
      have c7b1 : (((rd_T82 l0 x5_1).f1) != ((rd_T82 l1 x5_1).f1)) = false := bne_eq_false_iff_eq.mpr c7
      clear c7
      obtain ⟨t111, A8, H⟩ := bindE H
      try dsimp only at H
      by_cases c9 : t111 = true
      ·
       subst c9
       have H1 : (spec_EqualPlans.l0 k1 l0 l1 (wrap64 (x5_1 + 1))) = some r := by rw [if_pos rfl] at H; exact H
       clear H
       have H := H1
       clear H1
       have H' := Aside0.mk H
       clear H
       have p107 : 0 ≤ (x5_1 : Int) := dA
       have q107 : x5_1 < (l0.length : Int) := dA
       obtain ⟨ad107, A107_0, c107_0, e107, hx107_0, hx107_1, hl107_0, hi107_0⟩ := at_T82 HR0.out x5_1 p107 q107
       cases e107
       have HR107_0 := Aside0.mk hi107_0
       have HC107_0 := Aside0.mk hl107_0
       clear hi107_0 hl107_0
       replace p107 := eq_true p107
       replace q107 := eq_true q107
       have p108 : 0 ≤ (x5_1 : Int) := dA
       have q108 : x5_1 < (l1.length : Int) := dA
       obtain ⟨ad108, A108_0, c108_0, e108, hx108_0, hx108_1, hl108_0, hi108_0⟩ := at_T82 HR1.out x5_1 p108 q108
       cases e108
       have HR108_0 := Aside0.mk hi108_0
       have HC108_0 := Aside0.mk hl108_0
       clear hi108_0 hl108_0
       replace p108 := eq_true p108
       replace q108 := eq_true q108
       have p109 : 0 ≤ (x5_1 : Int) := dA
       have q109 : x5_1 < (l0.length : Int) := dA
       obtain ⟨ad109, A109_0, c109_0, e109, hx109_0, hx109_1, hl109_0, hi109_0⟩ := at_T82 HR0.out x5_1 p109 q109
       obtain rfl : ad107 = ad109 := (by injection e109)
       have HR109_0 := Aside0.mk hi109_0
       have HC109_0 := Aside0.mk hl109_0
       clear hi109_0 hl109_0
       replace p109 := eq_true p109
       replace q109 := eq_true q109
       have ea_ := Option.some.inj (hx107_0.symm.trans hx109_0)
       injection ea_ with ea_ en_ ec_
       subst ea_
       subst ec_
       clear en_
       have p110 : 0 ≤ (x5_1 : Int) := dA
       have q110 : x5_1 < (l1.length : Int) := dA
       obtain ⟨ad110, A110_0, c110_0, e110, hx110_0, hx110_1, hl110_0, hi110_0⟩ := at_T82 HR1.out x5_1 p110 q110
       obtain rfl : ad108 = ad110 := (by injection e110)
       have HR110_0 := Aside0.mk hi110_0
       have HC110_0 := Aside0.mk hl110_0
       clear hi110_0 hl110_0
       replace p110 := eq_true p110
       replace q110 := eq_true q110
       have ea_ := Option.some.inj (hx108_0.symm.trans hx110_0)
       injection ea_ with ea_ en_ ec_
       subst ea_
       subst ec_
       clear en_
       go_wp2_with (first | (go_at_call 72; (with_reducible refine (spec_EqualInts.calls k1 _ _ ((rd_T82 l0 x5_1).f0) _ _ ((rd_T82 l1 x5_1).f0) true _ ?side1 ?side2 ?side3 ?side4 A8.out).mono ?_); (case side1 => exact cO HR109_0); (case side2 => exact HC109_0.out); (case side3 => exact cO HR110_0); (case side4 => exact HC110_0.out); rintro e w' ⟨rfl, ⟨nd, rfl⟩⟩; (try first | exact ⟨rfl, _, World.drewN_drewN _ _ _⟩ | exact ⟨rfl, _, Eq.trans (World.drewN_drewN _ _ _) (congrArg (World.drewN _) (Nat.add_assoc _ _ _))⟩)))
       repeat (go_quiet (first | (go_at_call 72; (with_reducible refine (spec_EqualInts.calls k1 _ _ ((rd_T82 l0 x5_1).f0) _ _ ((rd_T82 l1 x5_1).f0) true _ ?side1 ?side2 ?side3 ?side4 A8.out).mono ?_); (case side1 => exact cO HR109_0); (case side2 => exact HC109_0.out); (case side3 => exact cO HR110_0); (case side4 => exact HC110_0.out); rintro e w' ⟨rfl, ⟨nd, rfl⟩⟩; (try first | exact ⟨rfl, _, World.drewN_drewN _ _ _⟩ | exact ⟨rfl, _, Eq.trans (World.drewN_drewN _ _ _) (congrArg (World.drewN _) (Nat.add_assoc _ _ _))⟩))); try go_wp2_with (first | (go_at_call 72; (with_reducible refine (spec_EqualInts.calls k1 _ _ ((rd_T82 l0 x5_1).f0) _ _ ((rd_T82 l1 x5_1).f0) true _ ?side1 ?side2 ?side3 ?side4 A8.out).mono ?_); (case side1 => exact cO HR109_0); (case side2 => exact HC109_0.out); (case side3 => exact cO HR110_0); (case side4 => exact HC110_0.out); rintro e w' ⟨rfl, ⟨nd, rfl⟩⟩; (try first | exact ⟨rfl, _, World.drewN_drewN _ _ _⟩ | exact ⟨rfl, _, Eq.trans (World.drewN_drewN _ _ _) (congrArg (World.drewN _) (Nat.add_assoc _ _ _))⟩))))
       go_roundg k1
       case measure => have := HK1.out; omega
       case rel => exact ⟨(wrap64 (x5_1 + 1)), rS, H', ⟨by have := HK1.out; omega⟩, by repeat (first | exact Drawn0.refl _ | apply Drawn0.step)⟩
      ·
       replace c9 := Bool.eq_false_iff.mpr c9
       subst c9
       have H1 : (some false) = some r := by rw [if_neg (show ¬ (false = true) by decide)] at H; exact H
       clear H
       have H := H1
       clear H1
       obtain rfl := Option.some.inj H
       have p107 : 0 ≤ (x5_1 : Int) := dA
       have q107 : x5_1 < (l0.length : Int) := dA
       obtain ⟨ad107, A107_0, c107_0, e107, hx107_0, hx107_1, hl107_0, hi107_0⟩ := at_T82 HR0.out x5_1 p107 q107
       cases e107
       have HR107_0 := Aside0.mk hi107_0
       have HC107_0 := Aside0.mk hl107_0
       clear hi107_0 hl107_0
       replace p107 := eq_true p107
       replace q107 := eq_true q107
       have p108 : 0 ≤ (x5_1 : Int) := dA
       have q108 : x5_1 < (l1.length : Int) := dA
       obtain ⟨ad108, A108_0, c108_0, e108, hx108_0, hx108_1, hl108_0, hi108_0⟩ := at_T82 HR1.out x5_1 p108 q108
       cases e108
       have HR108_0 := Aside0.mk hi108_0
       have HC108_0 := Aside0.mk hl108_0
       clear hi108_0 hl108_0
       replace p108 := eq_true p108
       replace q108 := eq_true q108
       have p109 : 0 ≤ (x5_1 : Int) := dA
       have q109 : x5_1 < (l0.length : Int) := dA
       obtain ⟨ad109, A109_0, c109_0, e109, hx109_0, hx109_1, hl109_0, hi109_0⟩ := at_T82 HR0.out x5_1 p109 q109
       obtain rfl : ad107 = ad109 := (by injection e109)
       have HR109_0 := Aside0.mk hi109_0
       have HC109_0 := Aside0.mk hl109_0
       clear hi109_0 hl109_0
       replace p109 := eq_true p109
       replace q109 := eq_true q109
       have ea_ := Option.some.inj (hx107_0.symm.trans hx109_0)
       injection ea_ with ea_ en_ ec_
       subst ea_
       subst ec_
       clear en_
       have p110 : 0 ≤ (x5_1 : Int) := dA
       have q110 : x5_1 < (l1.length : Int) := dA
       obtain ⟨ad110, A110_0, c110_0, e110, hx110_0, hx110_1, hl110_0, hi110_0⟩ := at_T82 HR1.out x5_1 p110 q110
       obtain rfl : ad108 = ad110 := (by injection e110)
       have HR110_0 := Aside0.mk hi110_0
       have HC110_0 := Aside0.mk hl110_0
       clear hi110_0 hl110_0
       replace p110 := eq_true p110
       replace q110 := eq_true q110
       have ea_ := Option.some.inj (hx108_0.symm.trans hx110_0)
       injection ea_ with ea_ en_ ec_
       subst ea_
       subst ec_
       clear en_
       go_wp2_with (first | (go_at_call 72; (with_reducible refine (spec_EqualInts.calls k1 _ _ ((rd_T82 l0 x5_1).f0) _ _ ((rd_T82 l1 x5_1).f0) false _ ?side1 ?side2 ?side3 ?side4 A8.out).mono ?_); (case side1 => exact cO HR109_0); (case side2 => exact HC109_0.out); (case side3 => exact cO HR110_0); (case side4 => exact HC110_0.out); rintro e w' ⟨rfl, ⟨nd, rfl⟩⟩; (try first | exact ⟨rfl, _, World.drewN_drewN _ _ _⟩ | exact ⟨rfl, _, Eq.trans (World.drewN_drewN _ _ _) (congrArg (World.drewN _) (Nat.add_assoc _ _ _))⟩)))
       repeat (go_quiet (first | (go_at_call 72; (with_reducible refine (spec_EqualInts.calls k1 _ _ ((rd_T82 l0 x5_1).f0) _ _ ((rd_T82 l1 x5_1).f0) false _ ?side1 ?side2 ?side3 ?side4 A8.out).mono ?_); (case side1 => exact cO HR109_0); (case side2 => exact HC109_0.out); (case side3 => exact cO HR110_0); (case side4 => exact HC110_0.out); rintro e w' ⟨rfl, ⟨nd, rfl⟩⟩; (try first | exact ⟨rfl, _, World.drewN_drewN _ _ _⟩ | exact ⟨rfl, _, Eq.trans (World.drewN_drewN _ _ _) (congrArg (World.drewN _) (Nat.add_assoc _ _ _))⟩))); try go_wp2_with (first | (go_at_call 72; (with_reducible refine (spec_EqualInts.calls k1 _ _ ((rd_T82 l0 x5_1).f0) _ _ ((rd_T82 l1 x5_1).f0) false _ ?side1 ?side2 ?side3 ?side4 A8.out).mono ?_); (case side1 => exact cO HR109_0); (case side2 => exact HC109_0.out); (case side3 => exact cO HR110_0); (case side4 => exact HC110_0.out); rintro e w' ⟨rfl, ⟨nd, rfl⟩⟩; (try first | exact ⟨rfl, _, World.drewN_drewN _ _ _⟩ | exact ⟨rfl, _, Eq.trans (World.drewN_drewN _ _ _) (congrArg (World.drewN _) (Nat.add_assoc _ _ _))⟩))))
       go_ret
       exact ⟨by first | rfl | (simp; done) | (simp [*]; done), by repeat (first | exact Drawn0.refl _ | apply Drawn0.step)⟩
     ·
      rw [if_neg c7] at H
      have c7b0 : (((rd_T82 l0 x5_1).f1) == ((rd_T82 l1 x5_1).f1)) = false := beq_eq_false_iff_ne.mpr c7
      have c7b1 : (((rd_T82 l0 x5_1).f1) != ((rd_T82 l1 x5_1).f1)) = true := bne_iff_ne.mpr c7
      obtain rfl := Option.some.inj H
      have p107 : 0 ≤ (x5_1 : Int) := dA
      have q107 : x5_1 < (l0.length : Int) := dA
      obtain ⟨ad107, A107_0, c107_0, e107, hx107_0, hx107_1, hl107_0, hi107_0⟩ := at_T82 HR0.out x5_1 p107 q107
      cases e107
      have HR107_0 := Aside0.mk hi107_0
      have HC107_0 := Aside0.mk hl107_0
      clear hi107_0 hl107_0
      replace p107 := eq_true p107
      replace q107 := eq_true q107
      have p108 : 0 ≤ (x5_1 : Int) := dA
      have q108 : x5_1 < (l1.length : Int) := dA
      obtain ⟨ad108, A108_0, c108_0, e108, hx108_0, hx108_1, hl108_0, hi108_0⟩ := at_T82 HR1.out x5_1 p108 q108
      cases e108
      have HR108_0 := Aside0.mk hi108_0
      have HC108_0 := Aside0.mk hl108_0
      clear hi108_0 hl108_0
      replace p108 := eq_true p108
      replace q108 := eq_true q108
      go_wp2
      repeat (go_quiet (fail); try go_wp2)
      go_ret
      exact ⟨by first | rfl | (simp; done) | (simp [*]; done), by repeat (first | exact Drawn0.refl _ | apply Drawn0.step)⟩
    ·
     rw [if_neg c4] at H
     have c4b0 : decide (x5_1 < (l0.length : Int)) = false := decide_eq_false c4
     clear c4
     obtain rfl := Option.some.inj H
     go_wp2
     repeat (go_quiet (fail); try go_wp2)
     go_ret
     exact ⟨by first | rfl | (simp; done) | (simp [*]; done), by repeat (first | exact Drawn0.refl _ | apply Drawn0.step)⟩
 ·
  rw [if_neg c3] at H
  have c3b0 : ((l0.length : Int) == (l1.length : Int)) = false := beq_eq_false_iff_ne.mpr c3
  have c3b1 : ((l0.length : Int) != (l1.length : Int)) = true := bne_iff_ne.mpr c3
  have c3b2 : (l0.length == l1.length) = false := by first | simpa using c3 | (simp at c3 ⊢; omega)
  obtain rfl := Option.some.inj H
  go_enter Try.func25, Try.ntmps25
  go_wp2
  repeat (go_quiet (fail); try go_wp2)
  go_ret
  exact ⟨by first | rfl | (simp; done) | (simp [*]; done), by repeat (first | exact Drawn0.refl _ | apply Drawn0.step)⟩

/-! ### impl_EqualPlans_1: function 75 -/
def impl_EqualPlans_1.f (k : Nat) (l0_0 : List Int) (a0_1 : Int) (l1_0 : List Int) (a1_1 : Int) : Option (Bool) := if a0_1 = a1_1 then ((slices_Equal_int_int.f k l0_0 l1_0).bind fun t136 => (some t136)) else (some false)
theorem impl_EqualPlans_1.mono : ∀ a0 a1 a2 a3 k, LeO (impl_EqualPlans_1.f k a0 a1 a2 a3) (impl_EqualPlans_1.f (k + 1) a0 a1 a2 a3) := by
 intro a0 a1 a2 a3 k
 unfold impl_EqualPlans_1.f
 repeat' first | (with_reducible first | exact LeO.refl _ | exact LeO.none _ | refine LeO.ite ?_ ?_ | refine LeO.bind ?_ (fun _ => ?_) | exact slices_Equal_int_int.mono _ _ _) | exact LeO.none _ | refine LeO.ite ?_ ?_ | refine LeO.bind ?_ (fun _ => ?_) | exact slices_Equal_int_int.mono _ _ _
set_option maxHeartbeats 8000000 in
set_option maxRecDepth 100000 in
theorem impl_EqualPlans_1.calls (k : Nat) (A0_0 : Option Addr) (c0_0 : Nat) (l0_0 : List Int) (a0_1 : Int) (A1_0 : Option Addr) (c1_0 : Nat) (l1_0 : List Int) (a1_1 : Int) (r : Bool) (w : World) (hr0_0 : Kd.C (Kd.int .i64) w A0_0 l0_0.length l0_0) (hc0_0 : l0_0.length ≤ c0_0) (hr1_0 : Kd.C (Kd.int .i64) w A1_0 l1_0.length l1_0) (hc1_0 : l1_0.length ≤ c1_0) (h : impl_EqualPlans_1.f k l0_0 a0_1 l1_0 a1_1 = some r) :
  Calls Try.prog 75 #[.agg #[.slice A0_0 l0_0.length c0_0, .int .i64 a0_1], .agg #[.slice A1_0 l1_0.length c1_0, .int .i64 a1_1]] w fun e w' => e = .returned (.bool r) ∧ Below w.heap.size w w' := by
 have hu82 := Try.underlying82
 have HR0_0 := Aside0.mk hr0_0
 have HC0_0 := Aside0.mk hc0_0
 clear hr0_0 hc0_0
 have HR1_0 := Aside0.mk hr1_0
 have HC1_0 := Aside0.mk hc1_0
 clear hr1_0 hc1_0
 have HB := Aside0.mk (Below.refl w.heap.size w)
 have H : (if a0_1 = a1_1 then ((slices_Equal_int_int.f k l0_0 l1_0).bind fun t136 => (some t136)) else (some false)) = some r := h
 clear h
 by_cases c3 : a0_1 = a1_1
 ·
  rw [if_pos c3] at H
  have c3b0 : (a0_1 == a1_1) = true := beq_iff_eq.mpr c3
  have c3b1 : (a0_1 != a1_1) = false := bne_eq_false_iff_eq.mpr c3
  clear c3
  obtain ⟨t136, A4, H⟩ := bindE H
  try dsimp only at H
  obtain rfl := Option.some.inj H
  go_enter Try.func75, Try.ntmps75
  go_wp2_with (first | ((with_reducible refine gate_dst (N := 2) rfl ?_); refine bE (N := 2) (cs := #[.slice A0_0 l0_0.length c0_0, .int .i64 a0_1]) (t := 82) ?_; intro gb134 hg w5 hbox hb; have n0_ := Aside0.mk (below_step bA hb); have n1_ := Aside0.mk (hbox); have n2_ := Aside0.mk ((by rw [hg]; exact (below_size bA) : w.heap.size ≤ gb134)); have n3_ := Aside0.mk ((by rw [hg]; exact (below_size bA) : w.heap.size ≤ gb134)); clear HB; have HB := n0_; have BK134 := n1_; have GW134 := n2_; have GE134 := n3_; clear n0_ n1_ n2_ n3_; clear hb hbox hg) | ((with_reducible refine gate_dst (N := 3) rfl ?_); refine bE (N := 3) (cs := #[.slice A1_0 l1_0.length c1_0, .int .i64 a1_1]) (t := 82) ?_; intro gb135 hg w6 hbox hb; have n0_ := Aside0.mk (blk_below (g := gb134) (bK BK134) hb); have n1_ := Aside0.mk (below_step bG hb); have n2_ := Aside0.mk (hbox); have n3_ := Aside0.mk ((by rw [hg]; exact (below_size bG) : w.heap.size ≤ gb135)); have n4_ := Aside0.mk ((by rw [hg]; exact (below_size bG) : w.heap.size ≤ gb135)); have n5_ := Aside0.mk ((by rw [hg]; exact Nat.ne_of_lt (blk_lt (g := gb134) (o := .cells #[.slice A0_0 l0_0.length c0_0, .int .i64 a0_1] 82 (0, 0)) (bK BK134)) : gb134 ≠ gb135)); have n6_ := Aside0.mk ((by rw [hg]; exact Nat.ne_of_gt (blk_lt (g := gb134) (o := .cells #[.slice A0_0 l0_0.length c0_0, .int .i64 a0_1] 82 (0, 0)) (bK BK134)) : gb135 ≠ gb134)); clear BK134; clear HB; have BK134 := n0_; have HB := n1_; have BK135 := n2_; have GW135 := n3_; have GE135 := n4_; have NB134_135 := n5_; have NB135_134 := n6_; clear n0_ n1_ n2_ n3_ n4_ n5_ n6_; clear hb hbox hg; have hnb7 := NB134_135.out; have hnc7 := NB135_134.out; obtain ⟨hcz8_0, hcz8_1, hfz8_0, hfz8_1⟩ := blkc2 BK134; have hcz9_0 : w6.cell? ⟨gb135, 0, none⟩ = some (.slice A1_0 l1_0.length c1_0) := bC BK135 0; have hcz9_1 : w6.cell? ⟨gb135, 1, none⟩ = some (.int .i64 a1_1) := bC BK135 1; have hfz9_0 := blk_frozen BK135.out 0; have hfz9_1 := blk_frozen BK135.out 1) | (go_at_call 76; (with_reducible refine (slices_Equal_int_int.calls k _ _ l0_0 _ _ l1_0 t136 _ ?side1 ?side2 ?side3 ?side4 A4.out).mono ?_); (case side1 => exact cB HR0_0); (case side2 => exact HC0_0.out); (case side3 => exact cB HR1_0); (case side4 => exact HC1_0.out); rintro e w' ⟨rfl, ⟨nd, rfl⟩⟩))
  go_ret
  exact ⟨rA, bG⟩
 ·
  rw [if_neg c3] at H
  have c3b0 : (a0_1 == a1_1) = false := beq_eq_false_iff_ne.mpr c3
  have c3b1 : (a0_1 != a1_1) = true := bne_iff_ne.mpr c3
  obtain rfl := Option.some.inj H
  go_enter Try.func75, Try.ntmps75
  go_wp2_with (first | ((with_reducible refine gate_dst (N := 2) rfl ?_); refine bE (N := 2) (cs := #[.slice A0_0 l0_0.length c0_0, .int .i64 a0_1]) (t := 82) ?_; intro gb134 hg w10 hbox hb; have n0_ := Aside0.mk (below_step bA hb); have n1_ := Aside0.mk (hbox); have n2_ := Aside0.mk ((by rw [hg]; exact (below_size bA) : w.heap.size ≤ gb134)); have n3_ := Aside0.mk ((by rw [hg]; exact (below_size bA) : w.heap.size ≤ gb134)); clear HB; have HB := n0_; have BK134 := n1_; have GW134 := n2_; have GE134 := n3_; clear n0_ n1_ n2_ n3_; clear hb hbox hg) | ((with_reducible refine gate_dst (N := 3) rfl ?_); refine bE (N := 3) (cs := #[.slice A1_0 l1_0.length c1_0, .int .i64 a1_1]) (t := 82) ?_; intro gb135 hg w11 hbox hb; have n0_ := Aside0.mk (blk_below (g := gb134) (bK BK134) hb); have n1_ := Aside0.mk (below_step bG hb); have n2_ := Aside0.mk (hbox); have n3_ := Aside0.mk ((by rw [hg]; exact (below_size bG) : w.heap.size ≤ gb135)); have n4_ := Aside0.mk ((by rw [hg]; exact (below_size bG) : w.heap.size ≤ gb135)); have n5_ := Aside0.mk ((by rw [hg]; exact Nat.ne_of_lt (blk_lt (g := gb134) (o := .cells #[.slice A0_0 l0_0.length c0_0, .int .i64 a0_1] 82 (0, 0)) (bK BK134)) : gb134 ≠ gb135)); have n6_ := Aside0.mk ((by rw [hg]; exact Nat.ne_of_gt (blk_lt (g := gb134) (o := .cells #[.slice A0_0 l0_0.length c0_0, .int .i64 a0_1] 82 (0, 0)) (bK BK134)) : gb135 ≠ gb134)); clear BK134; clear HB; have BK134 := n0_; have HB := n1_; have BK135 := n2_; have GW135 := n3_; have GE135 := n4_; have NB134_135 := n5_; have NB135_134 := n6_; clear n0_ n1_ n2_ n3_ n4_ n5_ n6_; clear hb hbox hg; have hnb12 := NB134_135.out; have hnc12 := NB135_134.out; obtain ⟨hcz13_0, hcz13_1, hfz13_0, hfz13_1⟩ := blkc2 BK134; obtain ⟨hcz14_0, hcz14_1, hfz14_0, hfz14_1⟩ := blkc2 BK135))
  go_ret
  exact ⟨rA, bG⟩

/-! ### impl_EqualPlans: function 27 -/
def impl_EqualPlans.l0 : Nat → List S82 → List S82 → Int → Option Bool
 | 0, _, _, _ => none
 | k + 1, x, y, i => if i < (x.length : Int) then (if 0 ≤ i then ((impl_EqualPlans_1.f k (rd_T82 x i).f0 (rd_T82 x i).f1 (rd_T82 y i).f0 (rd_T82 y i).f1).bind fun t => (if t = true then (impl_EqualPlans.l0 k x y (wrap64 (i + 1))) else (some false))) else (none)) else (some true)
def impl_EqualPlans.f (k : Nat) (l0 : List S82) (l1 : List S82) : Option Bool := if (l0.length : Int) = (l1.length : Int) then (impl_EqualPlans.l0 k l0 l1 0) else (some false)
theorem impl_EqualPlans.mono_l : ∀ k, (∀ y0 y1 y2, LeO (impl_EqualPlans.l0 k y0 y1 y2) (impl_EqualPlans.l0 (k + 1) y0 y1 y2))
 | 0 => fun _ _ _ r h => by simp [impl_EqualPlans.l0] at h
 | k + 1 => by
  have ih0 := impl_EqualPlans.mono_l k
  ·
   intro y0 y1 y2
   unfold impl_EqualPlans.l0
   repeat' first | (with_reducible first | exact LeO.refl _ | exact LeO.none _ | refine LeO.ite ?_ ?_ | refine LeO.bind ?_ (fun _ => ?_) | exact ih0 _ _ _ | exact impl_EqualPlans_1.mono _ _ _ _ _) | exact LeO.none _ | refine LeO.ite ?_ ?_ | refine LeO.bind ?_ (fun _ => ?_) | exact ih0 _ _ _ | exact impl_EqualPlans_1.mono _ _ _ _ _
theorem impl_EqualPlans.mono : ∀ a0 a1 k, LeO (impl_EqualPlans.f k a0 a1) (impl_EqualPlans.f (k + 1) a0 a1) := by
 intro a0 a1 k
 have ih0 := impl_EqualPlans.mono_l k
 unfold impl_EqualPlans.f
 repeat' first | (with_reducible first | exact LeO.refl _ | exact LeO.none _ | refine LeO.ite ?_ ?_ | refine LeO.bind ?_ (fun _ => ?_) | exact ih0 _ _ _) | exact LeO.none _ | refine LeO.ite ?_ ?_ | refine LeO.bind ?_ (fun _ => ?_) | exact ih0 _ _ _
set_option maxHeartbeats 8000000 in
set_option maxRecDepth 100000 in
theorem impl_EqualPlans.eqf (k : Nat) (A0 : Option Addr) (c0 : Nat) (l0 : List S82) (A1 : Option Addr) (c1 : Nat) (l1 : List S82) (r : Bool) (w : World) (hr0 : Kd.C k82 w A0 l0.length l0) (hc0 : l0.length ≤ c0) (hr1 : Kd.C k82 w A1 l1.length l1) (hc1 : l1.length ≤ c1) (h : impl_EqualPlans.f k l0 l1 = some r) :
  Calls Try.prog 74 #[.slice A0 l0.length c0, .slice A1 l1.length c1, .func (.func 75) #[] #[]] w fun e w' => e = .returned (.bool r) ∧ Below w.heap.size w w' := by
 have hu := Try.underlying82
 have HR0 := Aside0.mk hr0
 have HC0 := Aside0.mk hc0
 have HR1 := Aside0.mk hr1
 have HC1 := Aside0.mk hc1
 have hlen : l0.length ≤ 9223372036854775807 := hr0.2.1
 clear hr0 hc0 hr1 hc1
 have HB := Aside0.mk (Below.refl w.heap.size w)
 by_cases hn : (l0.length : Int) = (l1.length : Int)
 ·
  have H : impl_EqualPlans.l0 k l0 l1 0 = some r := by unfold impl_EqualPlans.f at h; rw [if_pos hn] at h; exact h
  clear h
  have hnb : ((l0.length : Int) != (l1.length : Int)) = false := bne_eq_false_iff_eq.mpr hn
  have hnn : l0.length = l1.length := by omega
  have HN := Aside0.mk hnn
  have H' := Aside0.mk H
  clear H hn hnn
  go_enter Try.func74, Try.ntmps74
  go_wp2
  go_loopg [17] k (fun kq v17 w' => ∃ (x17 : Int), v17 = .int .i64 x17 ∧ Aside0 (impl_EqualPlans.l0 kq l0 l1 x17 = some r) ∧ Aside0 (kq ≤ k) ∧ Aside0 (Below w.heap.size w w'))
  case atStart => exact ⟨0, rfl, H', ⟨Nat.le_refl _⟩, HB⟩
  case round =>
   clear H' HB
   obtain ⟨x17, rfl, HA, HK1, HB⟩ := hrel
   cases gk with
   | zero => exact absurd HA.out (by simp [impl_EqualPlans.l0])
   | succ k1 =>
    have H := HA.out
    clear HA
    simp only [impl_EqualPlans.l0] at H
    by_cases c3 : x17 < (l0.length : Int)
    ·
     rw [if_pos c3] at H
     have c3b0 : decide (x17 < (l0.length : Int)) = true := decide_eq_true c3
     have c4 : 0 ≤ x17 := ifN H
     replace H := ifT H
     obtain ⟨t, A5, H⟩ := bindE H
     try dsimp only at H
     have p5 : 0 ≤ (x17 : Int) := c4
     have q5 : (x17 : Int) < (l0.length : Int) := c3
     have q6 : (x17 : Int) < (l1.length : Int) := by have := HN.out; omega
     obtain ⟨ad0, Ai0, ci0, e0, hx0, hy0, hl0, hi0⟩ := at_T82 HR0.out x17 p5 q5
     cases e0
     obtain ⟨ad1, Ai1, ci1, e1, hx1, hy1, hl1, hi1⟩ := at_T82 HR1.out x17 p5 q6
     cases e1
     replace hx0 := hC HB hx0
     replace hy0 := hC HB hy0
     replace hx1 := hC HB hx1
     replace hy1 := hC HB hy1
     have HI0 := Aside0.mk hi0
     have HI1 := Aside0.mk hi1
     have HL0 := Aside0.mk hl0
     have HL1 := Aside0.mk hl1
     have H' := Aside0.mk H
     clear hi0 hi1 hl0 hl1 H c3 c4
     replace p5 := eq_true p5
     replace q5 := eq_true q5
     replace q6 := eq_true q6
     have hx1a : ∀ o, (wr.alloc o).cell? (ad1.add ((x17 : Int).toNat * 2)) = some (.slice Ai1 (rd_T82 l1 x17).f0.length ci1) := fun o => (((Below.refl wr.heap.size wr).alloc (Nat.le_refl _) o).cell (World.block_lt_of_cell? wr _ hx1)).trans hx1
     have hy1a : ∀ o, (wr.alloc o).cell? ⟨(ad1.add ((x17 : Int).toNat * 2)).block, (ad1.add ((x17 : Int).toNat * 2)).off + 1, none⟩ = some (.int .i64 (rd_T82 l1 x17).f1) := fun o => (((Below.refl wr.heap.size wr).alloc (Nat.le_refl _) o).cell (World.block_lt_of_cell? wr _ hy1)).trans hy1
     cases t with
     | true =>
      go_wp2_with ((go_at_call 75; refine (impl_EqualPlans_1.calls k1 Ai0 ci0 _ _ Ai1 ci1 _ _ true _ ?s1 HL0.out ?s2 HL1.out A5.out).mono ?_; (case s1 => exact Kd.C_below HI0.out (below_alloc (below_alloc HB.out _) _)); (case s2 => exact Kd.C_below HI1.out (below_alloc (below_alloc HB.out _) _)); rintro e w1 ⟨rfl, hb1⟩))
      go_roundg k1
      case measure => have := HK1.out; omega
      case rel => exact ⟨wrap64 (x17 + 1), rfl, ⟨by have := H'.out; first | (rw [if_pos trivial] at this; exact this) | (rw [if_pos rfl] at this; exact this)⟩, ⟨by have := HK1.out; omega⟩, ⟨below_step (below_alloc (below_alloc HB.out _) _) hb1⟩⟩
     | false =>
      have hr : r = false := by
       have := H'.out
       rw [if_neg (by decide)] at this
       exact (Option.some.inj this).symm
      subst hr
      go_wp2_with ((go_at_call 75; refine (impl_EqualPlans_1.calls k1 Ai0 ci0 _ _ Ai1 ci1 _ _ false _ ?s1 HL0.out ?s2 HL1.out A5.out).mono ?_; (case s1 => exact Kd.C_below HI0.out (below_alloc (below_alloc HB.out _) _)); (case s2 => exact Kd.C_below HI1.out (below_alloc (below_alloc HB.out _) _)); rintro e w1 ⟨rfl, hb1⟩))
      go_ret
      exact ⟨rfl, below_step (below_alloc (below_alloc HB.out _) _) hb1⟩
    ·
     rw [if_neg c3] at H
     have c3b0 : decide (x17 < (l0.length : Int)) = false := decide_eq_false c3
     obtain rfl := Option.some.inj H
     go_wp2
     go_ret
     exact ⟨rfl, HB.out⟩
 ·
  have hr : r = false := by unfold impl_EqualPlans.f at h; rw [if_neg hn] at h; exact (Option.some.inj h).symm
  subst hr
  have hnb : ((l0.length : Int) != (l1.length : Int)) = true := bne_iff_ne.mpr hn
  go_enter Try.func74, Try.ntmps74
  go_wp2
  go_ret
  exact ⟨rfl, HB.out⟩
set_option maxHeartbeats 400000 in
set_option maxRecDepth 100000 in
theorem impl_EqualPlans.calls (k : Nat) (A0 : Option Addr) (c0 : Nat) (l0 : List S82) (A1 : Option Addr) (c1 : Nat) (l1 : List S82) (r : Bool) (w : World) (hr0 : Kd.C k82 w A0 l0.length l0) (hc0 : l0.length ≤ c0) (hr1 : Kd.C k82 w A1 l1.length l1) (hc1 : l1.length ≤ c1) (h : impl_EqualPlans.f k l0 l1 = some r) :
  Calls Try.prog 27 #[.slice A0 l0.length c0, .slice A1 l1.length c1] w fun e w' => e = .returned (.bool r) ∧ Below w.heap.size w w' := by
 have HR0 := Aside0.mk hr0
 have HC0 := Aside0.mk hc0
 have HR1 := Aside0.mk hr1
 have HC1 := Aside0.mk hc1
 have HH := Aside0.mk h
 clear hr0 hc0 hr1 hc1 h
 go_enter Try.func27, Try.ntmps27
 go_wp2_with (go_at_call 74; refine (impl_EqualPlans.eqf k A0 c0 l0 A1 c1 l1 r _ HR0.out HC0.out HR1.out HC1.out HH.out).mono ?_; rintro e w1 ⟨rfl, hb1⟩)
 go_ret
 exact ⟨rfl, hb1⟩

/-! ### laws_FnExactEqualPlans: function 4 -/
def laws_FnExactEqualPlans.f (k : Nat) (l0 : List (S81)) (l1 : List (S81)) : Option (Bool) := (laws_szPartS.f k l0 1048576).bind fun t145 => (if t145 < 0 then (some true) else ((laws_szPartS.f k l1 t145).bind fun t146 => (if t146 < 0 then (some true) else ((laws_toPartS.f k l0).bind fun t147 => ((laws_toPartS.f k l1).bind fun t150 => ((spec_EqualPlans.f k t147 t150).bind fun t153 => ((laws_toPartS.f k l0).bind fun t154 => ((laws_toPartS.f k l1).bind fun t157 => ((impl_EqualPlans.f k t154 t157).bind fun t160 => (if (t160 != t153) = true then (none) else ((laws_toPartS.f k l0).bind fun t161 => ((laws_eqPartS.f k t154 t161).bind fun t164 => (if t164 = true then ((laws_toPartS.f k l1).bind fun t165 => ((laws_eqPartS.f k t157 t165).bind fun t168 => (if t168 = true then (some true) else (none)))) else (none))))))))))))))
theorem laws_FnExactEqualPlans.mono : ∀ a0 a1 k, LeO (laws_FnExactEqualPlans.f k a0 a1) (laws_FnExactEqualPlans.f (k + 1) a0 a1) := by
 intro a0 a1 k
 unfold laws_FnExactEqualPlans.f
 repeat' first | (with_reducible first | exact LeO.refl _ | exact LeO.none _ | refine LeO.ite ?_ ?_ | refine LeO.bind ?_ (fun _ => ?_) | exact impl_EqualPlans.mono _ _ _ | exact laws_eqPartS.mono _ _ _ | exact laws_szPartS.mono _ _ _ | exact laws_toPartS.mono _ _ | exact spec_EqualPlans.mono _ _ _) | exact LeO.none _ | refine LeO.ite ?_ ?_ | refine LeO.bind ?_ (fun _ => ?_) | exact impl_EqualPlans.mono _ _ _ | exact laws_eqPartS.mono _ _ _ | exact laws_szPartS.mono _ _ _ | exact laws_toPartS.mono _ _ | exact spec_EqualPlans.mono _ _ _
set_option maxHeartbeats 8000000 in
set_option maxRecDepth 100000 in
theorem laws_FnExactEqualPlans.calls (k : Nat) (A0 : Option Addr) (c0 : Nat) (l0 : List (S81)) (A1 : Option Addr) (c1 : Nat) (l1 : List (S81)) (r : Bool) (w : World) (hr0 : Kd.C k81 w A0 l0.length l0) (hc0 : l0.length ≤ c0) (hr1 : Kd.C k81 w A1 l1.length l1) (hc1 : l1.length ≤ c1) (h : laws_FnExactEqualPlans.f k l0 l1 = some r) :
  Calls Try.prog 4 #[.slice A0 l0.length c0, .slice A1 l1.length c1] w fun e w' => e = .returned (.bool r) ∧ Below w.heap.size w w' := by
 have HR0 := Aside0.mk hr0
 have HC0 := Aside0.mk hc0
 clear hr0 hc0
 have HR1 := Aside0.mk hr1
 have HC1 := Aside0.mk hc1
 clear hr1 hc1
 have HB := Aside0.mk (Below.refl w.heap.size w)
 have H : ((laws_szPartS.f k l0 1048576).bind fun t145 => (if t145 < 0 then (some true) else ((laws_szPartS.f k l1 t145).bind fun t146 => (if t146 < 0 then (some true) else ((laws_toPartS.f k l0).bind fun t147 => ((laws_toPartS.f k l1).bind fun t150 => ((spec_EqualPlans.f k t147 t150).bind fun t153 => ((laws_toPartS.f k l0).bind fun t154 => ((laws_toPartS.f k l1).bind fun t157 => ((impl_EqualPlans.f k t154 t157).bind fun t160 => (if (t160 != t153) = true then (none) else ((laws_toPartS.f k l0).bind fun t161 => ((laws_eqPartS.f k t154 t161).bind fun t164 => (if t164 = true then ((laws_toPartS.f k l1).bind fun t165 => ((laws_eqPartS.f k t157 t165).bind fun t168 => (if t168 = true then (some true) else (none)))) else (none))))))))))))))) = some r := h
 clear h
 obtain ⟨t145, A3, H⟩ := bindE H
 try dsimp only at H
 by_cases c4 : t145 < 0
 ·
  rw [if_pos c4] at H
  have c4b0 : decide (t145 < 0) = true := decide_eq_true c4
  clear c4
  obtain rfl := Option.some.inj H
  go_enter Try.func4, Try.ntmps4
  go_wp2_with (first | ((with_reducible refine gate_callee (f := 24) rfl ?_); refine gL (some 12) Try.func24 #[.slice A0 l0.length c0, .int .i64 1048576] ?_; (with_reducible refine (laws_szPartS.calls k _ _ l0 1048576 t145 _ ?side1 ?side2 A3.out).mono ?_); (case side1 => exact cO HR0); (case side2 => exact HC0.out); rintro e w5 ⟨rfl, hb⟩; refine ⟨_, rfl, ?_⟩; replace HB := Aside0.mk (below_step bA hb); (try clear hb); (try clear hb2); (try clear hk); (try clear hi)))
  go_ret
  exact ⟨rA, bA⟩
 ·
  rw [if_neg c4] at H
  have c4b0 : decide (t145 < 0) = false := decide_eq_false c4
  clear c4
  obtain ⟨t146, A6, H⟩ := bindE H
  try dsimp only at H
  by_cases c7 : t146 < 0
  ·
   rw [if_pos c7] at H
   have c7b0 : decide (t146 < 0) = true := decide_eq_true c7
   clear c7
   obtain rfl := Option.some.inj H
   go_enter Try.func4, Try.ntmps4
   go_wp2_with (first | ((with_reducible refine gate_callee (f := 24) rfl ?_); refine gL (some 12) Try.func24 #[.slice A0 l0.length c0, .int .i64 1048576] ?_; (with_reducible refine (laws_szPartS.calls k _ _ l0 1048576 t145 _ ?side1 ?side2 A3.out).mono ?_); (case side1 => exact cO HR0); (case side2 => exact HC0.out); rintro e w8 ⟨rfl, hb⟩; refine ⟨_, rfl, ?_⟩; replace HB := Aside0.mk (below_step bA hb); (try clear hb); (try clear hb2); (try clear hk); (try clear hi)) | ((with_reducible refine gate_callee (f := 24) rfl ?_); refine gL (some 17) Try.func24 #[.slice A1 l1.length c1, .int .i64 t145] ?_; (with_reducible refine (laws_szPartS.calls k _ _ l1 t145 t146 _ ?side1 ?side2 A6.out).mono ?_); (case side1 => exact cB HR1); (case side2 => exact HC1.out); rintro e w9 ⟨rfl, hb⟩; refine ⟨_, rfl, ?_⟩; replace HB := Aside0.mk (below_step bA hb); (try clear hb); (try clear hb2); (try clear hk); (try clear hi)))
   go_ret
   exact ⟨rA, bA⟩
  ·
   rw [if_neg c7] at H
   have c7b0 : decide (t146 < 0) = false := decide_eq_false c7
   clear c7
   obtain ⟨t147, A10, H⟩ := bindE H
   try dsimp only at H
   obtain ⟨t150, A11, H⟩ := bindE H
   try dsimp only at H
   obtain ⟨t153, A12, H⟩ := bindE H
   try dsimp only at H
   obtain ⟨t154, A13, H⟩ := bindE H
   try dsimp only at H
   obtain ⟨t157, A14, H⟩ := bindE H
   try dsimp only at H
   obtain ⟨t160, A15, H⟩ := bindE H
   try dsimp only at H
   have c16 : ¬ ((t160 != t153) = true) := ifN' H
   replace H := ifT' H
   have c16b0 : (t160 != t153) = false := by simpa using c16
   (try (have c16b1 : decide (t160 = t153) = true := by simpa using c16))
   (try (have c16b2 : (t160 == t153) = true := by simpa using c16))
   clear c16
   obtain ⟨t161, A17, H⟩ := bindE H
   try dsimp only at H
   obtain ⟨t164, A18, H⟩ := bindE H
   try dsimp only at H
   have c19 := ifN H
   replace H := ifT H
   subst c19
   obtain ⟨t165, A20, H⟩ := bindE H
   try dsimp only at H
   obtain ⟨t168, A21, H⟩ := bindE H
   try dsimp only at H
   have c22 := ifN H
   replace H := ifT H
   subst c22
   obtain rfl := Option.some.inj H
   go_enter Try.func4, Try.ntmps4
   go_wp2_with (first | ((with_reducible refine gate_callee (f := 24) rfl ?_); refine gL (some 12) Try.func24 #[.slice A0 l0.length c0, .int .i64 1048576] ?_; (with_reducible refine (laws_szPartS.calls k _ _ l0 1048576 t145 _ ?side1 ?side2 A3.out).mono ?_); (case side1 => exact cO HR0); (case side2 => exact HC0.out); rintro e w23 ⟨rfl, hb⟩; refine ⟨_, rfl, ?_⟩; replace HB := Aside0.mk (below_step bA hb); (try clear hb); (try clear hb2); (try clear hk); (try clear hi)) | ((with_reducible refine gate_callee (f := 24) rfl ?_); refine gL (some 17) Try.func24 #[.slice A1 l1.length c1, .int .i64 t145] ?_; (with_reducible refine (laws_szPartS.calls k _ _ l1 t145 t146 _ ?side1 ?side2 A6.out).mono ?_); (case side1 => exact cB HR1); (case side2 => exact HC1.out); rintro e w24 ⟨rfl, hb⟩; refine ⟨_, rfl, ?_⟩; replace HB := Aside0.mk (below_step bA hb); (try clear hb); (try clear hb2); (try clear hk); (try clear hi)) | ((with_reducible refine gate_callee (f := 26) rfl ?_); refine gL (some 21) Try.func26 #[.slice A0 l0.length c0] ?_; (with_reducible refine (laws_toPartS.calls k _ _ l0 t147 _ ?side1 ?side2 A10.out).mono ?_); (case side1 => exact cB HR0); (case side2 => exact HC0.out); rintro e w25 ⟨v148, rfl, ho0, hb⟩; refine ⟨_, rfl, ?_⟩; have HO149 := Aside0.mk (Kd.S_lower ho0 (below_size bA)); replace HB := Aside0.mk (below_step bA hb); (try clear hb); (try clear hb2); (try clear hk); (try clear hi); (try clear ho0)) | ((with_reducible refine gate_callee (f := 26) rfl ?_); refine gL (some 23) Try.func26 #[.slice A1 l1.length c1] ?_; (with_reducible refine (laws_toPartS.calls k _ _ l1 t150 _ ?side1 ?side2 A11.out).mono ?_); (case side1 => exact cB HR1); (case side2 => exact HC1.out); rintro e w26 ⟨v151, rfl, ho0, hb⟩; refine ⟨_, rfl, ?_⟩; have HO152 := Aside0.mk (Kd.S_lower (Kd.S_new' ho0 (Kd.S_lt (sK HO149))) (below_size bA)); replace HO149 := Aside0.mk (Kd.S_elder' (sK HO149) (Kd.S_base ho0) hb); replace HB := Aside0.mk (below_step bA hb); (try clear hb); (try clear hb2); (try clear hk); (try clear hi); (try clear ho0); obtain ⟨Ao27, co27, eo27⟩ := Kd.S_slice HO149.out; subst eo27; obtain ⟨Ao28, co28, eo28⟩ := Kd.S_slice HO152.out; subst eo28) | ((with_reducible refine gate_callee (f := 25) rfl ?_); refine gL (some 24) Try.func25 #[.slice Ao27 t147.length co27, .slice Ao28 t150.length co28] ?_; (with_reducible refine (spec_EqualPlans.calls k _ _ t147 _ _ t150 t153 _ ?side1 ?side2 ?side3 ?side4 A12.out).mono ?_); (case side1 => repeat (first | exact (Kd.S_reads' HO149.out).2.2 | (with_reducible refine Kd.C_alloc ?_ _) | (with_reducible refine Kd.C_drewN ?_ _) | (with_reducible refine Kd.C_drew ?_))); (case side2 => exact (Kd.S_reads' HO149.out).2.1); (case side3 => repeat (first | exact (Kd.S_reads' HO152.out).2.2 | (with_reducible refine Kd.C_alloc ?_ _) | (with_reducible refine Kd.C_drewN ?_ _) | (with_reducible refine Kd.C_drew ?_))); (case side4 => exact (Kd.S_reads' HO152.out).2.1); rintro e w' ⟨rfl, ⟨nd, rfl⟩⟩; refine ⟨_, rfl, ?_⟩) | ((with_reducible refine gate_callee (f := 26) rfl ?_); refine gL (some 26) Try.func26 #[.slice A0 l0.length c0] ?_; (with_reducible refine (laws_toPartS.calls k _ _ l0 t154 _ ?side1 ?side2 A13.out).mono ?_); (case side1 => exact cG HR0); (case side2 => exact HC0.out); rintro e w29 ⟨v155, rfl, ho0, hb⟩; refine ⟨_, rfl, ?_⟩; have HO156 := Aside0.mk (Kd.S_lower (Kd.S_new' (Kd.S_new' ho0 (Kd.S_lt (sK HO149))) (Kd.S_lt (sK HO152))) (below_size bA)); replace HO149 := Aside0.mk (Kd.S_elder' (sK HO149) (Kd.S_base ho0) hb); replace HO152 := Aside0.mk (Kd.S_elder' (sK HO152) (Kd.S_base ho0) hb); replace HB := Aside0.mk (below_step bA hb); (try clear hb); (try clear hb2); (try clear hk); (try clear hi); (try clear ho0)) | ((with_reducible refine gate_callee (f := 26) rfl ?_); refine gL (some 28) Try.func26 #[.slice A1 l1.length c1] ?_; (with_reducible refine (laws_toPartS.calls k _ _ l1 t157 _ ?side1 ?side2 A14.out).mono ?_); (case side1 => exact cB HR1); (case side2 => exact HC1.out); rintro e w30 ⟨v158, rfl, ho0, hb⟩; refine ⟨_, rfl, ?_⟩; have HO159 := Aside0.mk (Kd.S_lower (Kd.S_new' (Kd.S_new' (Kd.S_new' ho0 (Kd.S_lt (sK HO149))) (Kd.S_lt (sK HO152))) (Kd.S_lt (sK HO156))) (below_size bA)); replace HO149 := Aside0.mk (Kd.S_elder' (sK HO149) (Kd.S_base ho0) hb); replace HO152 := Aside0.mk (Kd.S_elder' (sK HO152) (Kd.S_base ho0) hb); replace HO156 := Aside0.mk (Kd.S_elder' (sK HO156) (Kd.S_base ho0) hb); replace HB := Aside0.mk (below_step bA hb); (try clear hb); (try clear hb2); (try clear hk); (try clear hi); (try clear ho0); obtain ⟨Ao31, co31, eo31⟩ := Kd.S_slice HO156.out; subst eo31; obtain ⟨Ao32, co32, eo32⟩ := Kd.S_slice HO159.out; subst eo32) | ((with_reducible refine gate_callee (f := 27) rfl ?_); refine gL (some 31) Try.func27 #[.slice Ao31 t154.length co31, .slice Ao32 t157.length co32] ?_; (with_reducible refine (impl_EqualPlans.calls k _ _ t154 _ _ t157 t160 _ ?side1 ?side2 ?side3 ?side4 A15.out).mono ?_); (case side1 => repeat (first | exact (Kd.S_reads' HO156.out).2.2 | (with_reducible refine Kd.C_alloc ?_ _) | (with_reducible refine Kd.C_drewN ?_ _) | (with_reducible refine Kd.C_drew ?_))); (case side2 => exact (Kd.S_reads' HO156.out).2.1); (case side3 => repeat (first | exact (Kd.S_reads' HO159.out).2.2 | (with_reducible refine Kd.C_alloc ?_ _) | (with_reducible refine Kd.C_drewN ?_ _) | (with_reducible refine Kd.C_drew ?_))); (case side4 => exact (Kd.S_reads' HO159.out).2.1); rintro e w33 ⟨rfl, hb⟩; refine ⟨_, rfl, ?_⟩; replace HO149 := Aside0.mk (Kd.S_below (sK HO149) hb); replace HO152 := Aside0.mk (Kd.S_below (sK HO152) hb); replace HO156 := Aside0.mk (Kd.S_below (sK HO156) hb); replace HO159 := Aside0.mk (Kd.S_below (sK HO159) hb); replace HB := Aside0.mk (below_step bA hb); (try clear hb); (try clear hb2); (try clear hk); (try clear hi)) | ((with_reducible refine gate_callee (f := 26) rfl ?_); refine gL (some 37) Try.func26 #[.slice A0 l0.length c0] ?_; (with_reducible refine (laws_toPartS.calls k _ _ l0 t161 _ ?side1 ?side2 A17.out).mono ?_); (case side1 => exact cB HR0); (case side2 => exact HC0.out); rintro e w34 ⟨v162, rfl, ho0, hb⟩; refine ⟨_, rfl, ?_⟩; have HO163 := Aside0.mk (Kd.S_lower (Kd.S_new' (Kd.S_new' (Kd.S_new' (Kd.S_new' ho0 (Kd.S_lt (sK HO149))) (Kd.S_lt (sK HO152))) (Kd.S_lt (sK HO156))) (Kd.S_lt (sK HO159))) (below_size bA)); replace HO149 := Aside0.mk (Kd.S_elder' (sK HO149) (Kd.S_base ho0) hb); replace HO152 := Aside0.mk (Kd.S_elder' (sK HO152) (Kd.S_base ho0) hb); replace HO156 := Aside0.mk (Kd.S_elder' (sK HO156) (Kd.S_base ho0) hb); replace HO159 := Aside0.mk (Kd.S_elder' (sK HO159) (Kd.S_base ho0) hb); replace HB := Aside0.mk (below_step bA hb); (try clear hb); (try clear hb2); (try clear hk); (try clear hi); (try clear ho0); obtain ⟨Ao35, co35, eo35⟩ := Kd.S_slice HO163.out; subst eo35) | ((with_reducible refine gate_callee (f := 28) rfl ?_); refine gL (some 38) Try.func28 #[.slice Ao31 t154.length co31, .slice Ao35 t161.length co35] ?_; (with_reducible refine (laws_eqPartS.calls k _ _ t154 _ _ t161 true _ ?side1 ?side2 ?side3 ?side4 A18.out).mono ?_); (case side1 => repeat (first | exact (Kd.S_reads' HO156.out).2.2 | (with_reducible refine Kd.C_alloc ?_ _) | (with_reducible refine Kd.C_drewN ?_ _) | (with_reducible refine Kd.C_drew ?_))); (case side2 => exact (Kd.S_reads' HO156.out).2.1); (case side3 => repeat (first | exact (Kd.S_reads' HO163.out).2.2 | (with_reducible refine Kd.C_alloc ?_ _) | (with_reducible refine Kd.C_drewN ?_ _) | (with_reducible refine Kd.C_drew ?_))); (case side4 => exact (Kd.S_reads' HO163.out).2.1); rintro e w36 ⟨rfl, hb⟩; refine ⟨_, rfl, ?_⟩; replace HO149 := Aside0.mk (Kd.S_below (sK HO149) hb); replace HO152 := Aside0.mk (Kd.S_below (sK HO152) hb); replace HO156 := Aside0.mk (Kd.S_below (sK HO156) hb); replace HO159 := Aside0.mk (Kd.S_below (sK HO159) hb); replace HO163 := Aside0.mk (Kd.S_below (sK HO163) hb); replace HB := Aside0.mk (below_step bA hb); (try clear hb); (try clear hb2); (try clear hk); (try clear hi)) | ((with_reducible refine gate_callee (f := 26) rfl ?_); refine gL (some 42) Try.func26 #[.slice A1 l1.length c1] ?_; (with_reducible refine (laws_toPartS.calls k _ _ l1 t165 _ ?side1 ?side2 A20.out).mono ?_); (case side1 => exact cB HR1); (case side2 => exact HC1.out); rintro e w37 ⟨v166, rfl, ho0, hb⟩; refine ⟨_, rfl, ?_⟩; have HO167 := Aside0.mk (Kd.S_lower (Kd.S_new' (Kd.S_new' (Kd.S_new' (Kd.S_new' (Kd.S_new' ho0 (Kd.S_lt (sK HO149))) (Kd.S_lt (sK HO152))) (Kd.S_lt (sK HO156))) (Kd.S_lt (sK HO159))) (Kd.S_lt (sK HO163))) (below_size bA)); replace HO149 := Aside0.mk (Kd.S_elder' (sK HO149) (Kd.S_base ho0) hb); replace HO152 := Aside0.mk (Kd.S_elder' (sK HO152) (Kd.S_base ho0) hb); replace HO156 := Aside0.mk (Kd.S_elder' (sK HO156) (Kd.S_base ho0) hb); replace HO159 := Aside0.mk (Kd.S_elder' (sK HO159) (Kd.S_base ho0) hb); replace HO163 := Aside0.mk (Kd.S_elder' (sK HO163) (Kd.S_base ho0) hb); replace HB := Aside0.mk (below_step bA hb); (try clear hb); (try clear hb2); (try clear hk); (try clear hi); (try clear ho0); obtain ⟨Ao38, co38, eo38⟩ := Kd.S_slice HO167.out; subst eo38) | ((with_reducible refine gate_callee (f := 28) rfl ?_); refine gL (some 43) Try.func28 #[.slice Ao32 t157.length co32, .slice Ao38 t165.length co38] ?_; (with_reducible refine (laws_eqPartS.calls k _ _ t157 _ _ t165 true _ ?side1 ?side2 ?side3 ?side4 A21.out).mono ?_); (case side1 => repeat (first | exact (Kd.S_reads' HO159.out).2.2 | (with_reducible refine Kd.C_alloc ?_ _) | (with_reducible refine Kd.C_drewN ?_ _) | (with_reducible refine Kd.C_drew ?_))); (case side2 => exact (Kd.S_reads' HO159.out).2.1); (case side3 => repeat (first | exact (Kd.S_reads' HO167.out).2.2 | (with_reducible refine Kd.C_alloc ?_ _) | (with_reducible refine Kd.C_drewN ?_ _) | (with_reducible refine Kd.C_drew ?_))); (case side4 => exact (Kd.S_reads' HO167.out).2.1); rintro e w39 ⟨rfl, hb⟩; refine ⟨_, rfl, ?_⟩; replace HO149 := Aside0.mk (Kd.S_below (sK HO149) hb); replace HO152 := Aside0.mk (Kd.S_below (sK HO152) hb); replace HO156 := Aside0.mk (Kd.S_below (sK HO156) hb); replace HO159 := Aside0.mk (Kd.S_below (sK HO159) hb); replace HO163 := Aside0.mk (Kd.S_below (sK HO163) hb); replace HO167 := Aside0.mk (Kd.S_below (sK HO167) hb); replace HB := Aside0.mk (below_step bA hb); (try clear hb); (try clear hb2); (try clear hk); (try clear hi)))
   go_ret
   exact ⟨rA, bA⟩

end Go.Proofs.Ytimmadeghcghoaa.P
