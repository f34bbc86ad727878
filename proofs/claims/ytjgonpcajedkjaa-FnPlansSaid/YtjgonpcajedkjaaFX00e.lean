/- Printed by myprint.py (wip/tools) over the kit's print: what Go's functions compute, and that they do. Lean checks it. -/
import Derived.Test.YtjgonpcajedkjaaF0
import Derived.Test.YtjgonpcajedkjaaFX00
import Derived.Test.YtjgonpcajedkjaaFX00b
import Derived.Test.YtjgonpcajedkjaaFX00c
import Derived.Test.YtjgonpcajedkjaaFX00d
namespace Go.Proofs.Ytjgonpcajedkjaa.P
open Go.RowKit Go.Proofs.YtjgonpcajedkjaaW.PrintWords Go.Proofs.YtjgonpcajedkjaaW.PrintLast Go.Proofs.YtjgonpcajedkjaaW.PrintMore Go.Proofs.Ytjgonpcajedkjaa.Sq
attribute [local go_sem] max2_int min2_int max_two min_two max_three min_three max_four min_four
set_option linter.unusedVariables false
set_option linter.unusedSimpArgs false

/-! ### laws_FnPlans: function 9 -/
mutual
def laws_FnPlans.j0 : Nat → List Int → Bool → Option (Bool)
 | 0, _, _ => none
 | k + 1, x0, x27 => if x27 = true then (none) else ((spec_DrawStartOf.f k x0).bind fun bt687 => ((impl_StartOf.f k bt687.1 bt687.2.1 bt687.2.2).bind fun t694 => ((impl_Cycle.f k bt687.1 bt687.2.1).bind fun t695 => ((impl_IsPlan.f k bt687.1 bt687.2.1).bind fun t696 => (if t696 = true then (if bt687.2.2 ≥ 0 then (if ((decide (t694 ≥ 0)) != (decide (bt687.2.2 < (bt687.2.1.length : Int)))) = true then (laws_FnPlans.j1 k x0 bt687.1 bt687.2.1 bt687.2.2 t694 t695 true) else ((impl_IsPlan.f k bt687.1 bt687.2.1).bind fun t697 => (laws_FnPlans.j1 k x0 bt687.1 bt687.2.1 bt687.2.2 t694 t695 ((decide (t695 > 0)) != t697)))) else (if ((decide (t694 ≥ 0)) != false) = true then (laws_FnPlans.j1 k x0 bt687.1 bt687.2.1 bt687.2.2 t694 t695 true) else ((impl_IsPlan.f k bt687.1 bt687.2.1).bind fun t698 => (laws_FnPlans.j1 k x0 bt687.1 bt687.2.1 bt687.2.2 t694 t695 ((decide (t695 > 0)) != t698))))) else (if ((decide (t694 ≥ 0)) != false) = true then (laws_FnPlans.j1 k x0 bt687.1 bt687.2.1 bt687.2.2 t694 t695 true) else ((impl_IsPlan.f k bt687.1 bt687.2.1).bind fun t699 => (laws_FnPlans.j1 k x0 bt687.1 bt687.2.1 bt687.2.2 t694 t695 ((decide (t695 > 0)) != t699)))))))))
def laws_FnPlans.j1 : Nat → List Int → List (S50) → List (S85) → Int → Int → Int → Bool → Option (Bool)
 | 0, _, _, _, _, _, _, _ => none
 | k + 1, x0, x5, x6, x7, x8, x9, x64 => if x64 = true then (none) else (if x8 ≥ 0 then (if (wrap64 (x7 + 1)) < (x6.length : Int) then ((impl_StartOf.f k x5 x6 (wrap64 (x7 + 1))).bind fun t700 => (if 0 ≤ x7 then (if x7 < (x6.length : Int) then (if (wrap64 (t700 - x8)) < ((rd_T85 x6 x7).f1) then (none) else ((impl_LongestClear.f k x5).bind fun t703 => (if (wrap64 (t700 - x8)) > (wrap64 (((rd_T85 x6 x7).f1) + t703)) then (none) else (laws_FnPlans.j2 k x0)))) else (none)) else (none))) else (if 0 ≤ x7 then (if x7 < (x6.length : Int) then (if (wrap64 (x9 - x8)) < ((rd_T85 x6 x7).f1) then (none) else ((impl_LongestClear.f k x5).bind fun t706 => (if (wrap64 (x9 - x8)) > (wrap64 (((rd_T85 x6 x7).f1) + t706)) then (none) else (laws_FnPlans.j2 k x0)))) else (none)) else (none))) else (laws_FnPlans.j2 k x0))
def laws_FnPlans.j2 : Nat → List Int → Option (Bool)
 | 0, _ => none
 | k + 1, x0 => (spec_DrawEqualPlans.f k x0).bind fun bt707 => ((impl_EqualPlans.f k bt707.1 bt707.2).bind fun t713 => ((impl_EqualPlans.f k bt707.2 bt707.1).bind fun t714 => (if (t713 == t714) = true then ((impl_EqualPlans.f k bt707.1 bt707.1).bind fun t715 => (some t715)) else (none))))
end
def laws_FnPlans.f (k : Nat) (l0 : List Int) : Option (Bool) := (laws_big.f l0).bind fun t679 => (if t679 = true then (some true) else ((spec_DrawPlanFor.f k l0).bind fun t680 => ((impl_PlanFor.f k t680).bind fun t683 => (if (t683.length : Int) > 0 then ((impl_IsPlan.f k t680 t683).bind fun t686 => (laws_FnPlans.j0 k l0 (!t686))) else (laws_FnPlans.j0 k l0 false)))))
theorem laws_FnPlans.mono_l : ∀ k, (∀ y0 y1, LeO (laws_FnPlans.j0 k y0 y1) (laws_FnPlans.j0 (k + 1) y0 y1)) ∧ (∀ y0 y1 y2 y3 y4 y5 y6, LeO (laws_FnPlans.j1 k y0 y1 y2 y3 y4 y5 y6) (laws_FnPlans.j1 (k + 1) y0 y1 y2 y3 y4 y5 y6)) ∧ (∀ y0, LeO (laws_FnPlans.j2 k y0) (laws_FnPlans.j2 (k + 1) y0))
 | 0 => ⟨fun _ _ r h => by simp [laws_FnPlans.j0] at h, fun _ _ _ _ _ _ _ r h => by simp [laws_FnPlans.j1] at h, fun _ r h => by simp [laws_FnPlans.j2] at h⟩
 | k + 1 => by
  obtain ⟨ih0, ih1, ih2⟩ := laws_FnPlans.mono_l k
  refine ⟨?_, ?_, ?_⟩
  ·
   intro y0 y1
   unfold laws_FnPlans.j0
   repeat' first | (with_reducible first | exact LeO.refl _ | exact LeO.none _ | refine LeO.ite ?_ ?_ | refine LeO.bind ?_ (fun _ => ?_) | exact ih0 _ _ | exact ih1 _ _ _ _ _ _ _ | exact ih2 _ | exact impl_Cycle.mono _ _ _ | exact impl_EqualPlans.mono _ _ _ | exact impl_IsPlan.mono _ _ _ | exact impl_LongestClear.mono _ _ | exact impl_PlanFor.mono _ _ | exact impl_StartOf.mono _ _ _ _ | exact spec_DrawEqualPlans.mono _ _ | exact spec_DrawPlanFor.mono _ _ | exact spec_DrawStartOf.mono _ _)
  ·
   intro y0 y1 y2 y3 y4 y5 y6
   unfold laws_FnPlans.j1
   repeat' first | (with_reducible first | exact LeO.refl _ | exact LeO.none _ | refine LeO.ite ?_ ?_ | refine LeO.bind ?_ (fun _ => ?_) | exact ih0 _ _ | exact ih1 _ _ _ _ _ _ _ | exact ih2 _ | exact impl_Cycle.mono _ _ _ | exact impl_EqualPlans.mono _ _ _ | exact impl_IsPlan.mono _ _ _ | exact impl_LongestClear.mono _ _ | exact impl_PlanFor.mono _ _ | exact impl_StartOf.mono _ _ _ _ | exact spec_DrawEqualPlans.mono _ _ | exact spec_DrawPlanFor.mono _ _ | exact spec_DrawStartOf.mono _ _)
  ·
   intro y0
   unfold laws_FnPlans.j2
   repeat' first | (with_reducible first | exact LeO.refl _ | exact LeO.none _ | refine LeO.ite ?_ ?_ | refine LeO.bind ?_ (fun _ => ?_) | exact ih0 _ _ | exact ih1 _ _ _ _ _ _ _ | exact ih2 _ | exact impl_Cycle.mono _ _ _ | exact impl_EqualPlans.mono _ _ _ | exact impl_IsPlan.mono _ _ _ | exact impl_LongestClear.mono _ _ | exact impl_PlanFor.mono _ _ | exact impl_StartOf.mono _ _ _ _ | exact spec_DrawEqualPlans.mono _ _ | exact spec_DrawPlanFor.mono _ _ | exact spec_DrawStartOf.mono _ _)
theorem laws_FnPlans.mono : ∀ a0 k, LeO (laws_FnPlans.f k a0) (laws_FnPlans.f (k + 1) a0) := by
 intro a0 k
 obtain ⟨ih0, ih1, ih2⟩ := laws_FnPlans.mono_l k
 unfold laws_FnPlans.f
 repeat' first | (with_reducible first | exact LeO.refl _ | exact LeO.none _ | refine LeO.ite ?_ ?_ | refine LeO.bind ?_ (fun _ => ?_) | exact ih0 _ _ | exact ih1 _ _ _ _ _ _ _ | exact ih2 _ | exact impl_Cycle.mono _ _ _ | exact impl_EqualPlans.mono _ _ _ | exact impl_IsPlan.mono _ _ _ | exact impl_LongestClear.mono _ _ | exact impl_PlanFor.mono _ _ | exact impl_StartOf.mono _ _ _ _ | exact spec_DrawEqualPlans.mono _ _ | exact spec_DrawPlanFor.mono _ _ | exact spec_DrawStartOf.mono _ _)
def laws_FnPlans.T16 : Bool × List (List Nat × List Nat) := (true, [([], []), ([], []), ([0, 1], [0, 1]), ([], []), ([], []), ([3, 4], [3, 4]), ([5], [5]), ([6], [6]), ([2, 7], [2, 7]), ([8], [8]), ([9], [9]), ([9], [9]), ([10, 11, 9], [9, 10, 11]), ([9], [9]), ([9], [9]), ([13, 14, 9], [9, 13, 14]), ([15, 9], [9, 15]), ([16, 9], [9, 16]), ([9], [9]), ([18, 9, 9], [9, 18]), ([17, 19, 9], [9, 17, 19]), ([12, 20, 9], [9, 12, 20]), ([9, 21], [9, 21])])
def laws_FnPlans.B16 : List Nat := [0, 0, 3, 0, 0, 24, 56, 120, 255, 511, 1023, 1023, 4095, 1023, 1023, 25599, 58367, 123903, 1023, 263167, 1041407, 2097151, 4194303]
theorem laws_FnPlans.tab16 : rtab .any (opsOf Try.f9 16) = laws_FnPlans.T16 := by kernel_rfl
theorem laws_FnPlans.bits16 : waitsOk laws_FnPlans.T16.2 laws_FnPlans.B16 = true := by kernel_rfl
set_option maxHeartbeats 8000000 in
set_option maxRecDepth 100000 in
theorem laws_FnPlans.calls (k : Nat) (A0 : Option Addr) (c0 : Nat) (l0 : List Int) (r : Bool) (w : World) (hr0 : Kd.C (Kd.int .u8) w A0 l0.length l0) (hc0 : l0.length ≤ c0) (h : laws_FnPlans.f k l0 = some r) :
  Calls Try.prog 9 #[.slice A0 l0.length c0] w fun e w' => e = .returned (.bool r) ∧ Below w.heap.size w w' := by
 have HR0 := Aside0.mk hr0
 have HC0 := Aside0.mk hc0
 clear hr0 hc0
 have HB := Aside0.mk (Below.refl w.heap.size w)
 have H : ((laws_big.f l0).bind fun t679 => (if t679 = true then (some true) else ((spec_DrawPlanFor.f k l0).bind fun t680 => ((impl_PlanFor.f k t680).bind fun t683 => (if (t683.length : Int) > 0 then ((impl_IsPlan.f k t680 t683).bind fun t686 => (laws_FnPlans.j0 k l0 (!t686))) else (laws_FnPlans.j0 k l0 false)))))) = some r := h
 clear h
 obtain ⟨t679, A2, H⟩ := bindE H
 try dsimp only at H
 by_cases c3 : t679 = true
 ·
  subst c3
  have H1 : (some true) = some r := by rw [if_pos rfl] at H; exact H
  clear H
  have H := H1
  clear H1
  obtain rfl := Option.some.inj H
  go_enter Try.func9, Try.ntmps9
  go_wp2_with (first | ((with_reducible refine gate_callee (f := 10) rfl ?_); refine gL (some 14) Try.func10 #[.slice A0 l0.length c0] ?_; (with_reducible refine (laws_big.calls _ _ l0 true _ ?_ ?_ A2.out).mono ?_); exact cO HR0; exact HC0.out; rintro e w' ⟨rfl, ⟨nd, rfl⟩⟩; refine ⟨_, rfl, ?_⟩))
  go_ret
  exact ⟨rA, bA⟩
 replace c3 := Bool.eq_false_iff.mpr c3
 subst c3
 have H1 : ((spec_DrawPlanFor.f k l0).bind fun t680 => ((impl_PlanFor.f k t680).bind fun t683 => (if (t683.length : Int) > 0 then ((impl_IsPlan.f k t680 t683).bind fun t686 => (laws_FnPlans.j0 k l0 (!t686))) else (laws_FnPlans.j0 k l0 false)))) = some r := by rw [if_neg (show ¬ (false = true) by decide)] at H; exact H
 clear H
 have H := H1
 clear H1
 obtain ⟨t680, A4, H⟩ := bindE H
 try dsimp only at H
 obtain ⟨t683, A5, H⟩ := bindE H
 try dsimp only at H
 have HC6 := Aside0.mk H
 clear H
 go_enter Try.func9, Try.ntmps9
 go_upto_region 5 with (first | ((with_reducible refine gate_callee (f := 10) rfl ?_); refine gL (some 14) Try.func10 #[.slice A0 l0.length c0] ?_; (with_reducible refine (laws_big.calls _ _ l0 false _ ?_ ?_ A2.out).mono ?_); exact cO HR0; exact HC0.out; rintro e w' ⟨rfl, ⟨nd, rfl⟩⟩; refine ⟨_, rfl, ?_⟩) | ((with_reducible refine gate_callee (f := 69) rfl ?_); refine gL (some 16) Try.func69 #[.slice A0 l0.length c0] ?_; (with_reducible refine (spec_DrawPlanFor.calls k _ _ l0 t680 _ ?_ ?_ A4.out).mono ?_); exact cO HR0; exact HC0.out; rintro e w7 ⟨v681, rfl, ho0, hb⟩; refine ⟨_, rfl, ?_⟩; have HO682 := rl w ho0; replace HB := bs HB hb; (try clear hb); (try clear ho0); obtain ⟨Ao8, co8, eo8⟩ := Kd.R_slice HO682.out; subst eo8) | ((with_reducible refine gate_callee (f := 70) rfl ?_); refine gL (some 18) Try.func70 #[.slice Ao8 t680.length co8] ?_; (with_reducible refine (impl_PlanFor.calls k _ _ t680 t683 _ ?_ ?_ A5.out).mono ?_); exact cO ⟨(Kd.R_reads' HO682.out).2.2⟩; exact (Kd.R_reads' HO682.out).2.1; rintro e w9 ⟨v684, rfl, ho0, hb⟩; refine ⟨_, rfl, ?_⟩; replace HO682 := rb HO682 hb; have HO685 := sl w ho0; replace HB := bs HB hb; (try clear hb); (try clear ho0)))
 (try simp only [Act.put, List.setIfInBounds_toArray, List.set_cons_zero, List.set_cons_succ])
 go_cut [27] (fun v27 wc => ∃ (kq : Nat) (x27_5 : Bool), v27 = .bool x27_5 ∧ Aside0 (laws_FnPlans.j0 kq l0 x27_5 = some r) ∧ Aside0 (kq ≤ k) ∧ Aside0 (Below w.heap.size w wc))
 case first =>
  have H := HC6.out
  clear HC6
  by_cases c10 : (t683.length : Int) > 0
  ·
   rw [if_pos c10] at H
   have c10b0 := decide_eq_true c10
   have c10b1 : decide (0 < t683.length) = true := decide_eq_true (by omega)
   clear c10
   (first | rw [c10b0] | (simp only [i64_w, i32_w]; rw [c10b0]) | skip)
   obtain ⟨t686, A11, H⟩ := bindE H
   try dsimp only at H
   have H' := Aside0.mk H
   clear H
   obtain ⟨Ao12, co12, eo12⟩ := Kd.S_slice HO685.out
   subst eo12
   go_wp2_with (first | (go_at_call 15; (with_reducible refine (impl_IsPlan.calls k _ _ t680 (fun k_ => (True ∧ some k_ ≠ (.slice Ao8 t680.length co8 : Value).ownBlock)) _ _ t683 t686 _ ?_ ?_ ?_ A11.out).mono ?_); exact cO ⟨(Kd.R_reads' HO682.out).2.2⟩; exact (Kd.R_reads' HO682.out).2.1; exact Kd.S_V (Kd.S_apart' (HO685.out) (Kd.R_typed HO682.out) (by decide)); rintro e w13 ⟨rfl, hb⟩; replace HO682 := rb HO682 hb; replace HO685 := sb HO685 hb; replace HB := bs HB hb; (try clear hb)))
   go_meet
   case rel => exact ⟨_, (!t686), rS, H', ⟨oL⟩, ⟨bA⟩⟩
  rw [if_neg c10] at H
  have c10b0 := decide_eq_false c10
  have c10b1 : decide (0 < t683.length) = false := decide_eq_false (by omega)
  clear c10
  (first | rw [c10b0] | (simp only [i64_w, i32_w]; rw [c10b0]) | skip)
  have H' := Aside0.mk H
  clear H
  obtain ⟨Ao14, co14, eo14⟩ := Kd.S_slice HO685.out
  subst eo14
  go_wp2
  go_meet
  case rel => exact ⟨_, (false), rS, H', ⟨oL⟩, ⟨bA⟩⟩
 case rest =>
  clear HC6
  obtain ⟨kq, x27_5, rfl, HA, HJ5, HB⟩ := hcut
  cases kq with
  | zero => exact absurd HA.out (by simp [laws_FnPlans.j0])
  | succ kj5 =>
   have H := HA.out
   clear HA
   simp only [laws_FnPlans.j0] at H
   have c15 := ifN' H
   replace H := ifT' H
   replace c15 := Bool.eq_false_iff.mpr c15
   subst c15
   obtain ⟨⟨t687, t690, t693⟩, A16, H⟩ := bindE H
   try dsimp only at H
   obtain ⟨t694, A17, H⟩ := bindE H
   try dsimp only at H
   obtain ⟨t695, A18, H⟩ := bindE H
   try dsimp only at H
   have HC19 := Aside0.mk H
   clear H
   go_upto_region 10 with (first | ((with_reducible refine gate_callee (f := 71) rfl ?_); refine gL (some 30) Try.func71 #[.slice A0 l0.length c0] ?_; (with_reducible refine (spec_DrawStartOf.calls kj5 _ _ l0 t687 t690 t693 _ ?_ ?_ A16.out).mono ?_); exact cB HR0; exact HC0.out; rintro e w20 ⟨v688, v691, rfl, ho0, ho1, hb⟩; refine ⟨_, rfl, ?_⟩; have HO689 := rl w (Kd.R_mono (ok' := fun k_ => True) ho0 (fun _ hk_ => trivial)); have HO692 := Aside0.mk (Kd.V_lower (Kd.V_mono (ok' := n1 v688) ho1 (fun k_ hk_ => hk_.2)) (below_size bA)); replace HB := bs HB hb; (try clear hb); (try clear ho0); (try clear ho1); obtain ⟨Ao21, co21, eo21⟩ := Kd.R_slice HO689.out; subst eo21; obtain ⟨Ao22, co22, eo22⟩ := Kd.V_slice HO692.out; subst eo22) | ((with_reducible refine gate_callee (f := 63) rfl ?_); refine gL (some 37) Try.func63 #[.slice Ao21 t687.length co21, .slice Ao22 t690.length co22, .int .i64 t693] ?_; (with_reducible refine (impl_StartOf.calls kj5 _ _ t687 _ _ t690 t693 t694 _ ?_ ?_ ?_ ?_ A17.out).mono ?_); exact cO ⟨(Kd.R_reads' HO689.out).2.2⟩; exact (Kd.R_reads' HO689.out).2.1; (focus repeat (first | exact (Kd.V_reads' HO692.out).2.2 | (with_reducible refine Kd.C_alloc ?_ _) | (with_reducible refine Kd.C_drewN ?_ _) | (with_reducible refine Kd.C_drew ?_))); exact (Kd.V_reads' HO692.out).2.1; rintro e w23 ⟨rfl, hb⟩; refine ⟨_, rfl, ?_⟩; have n0_ := rb HO689 hb; have n1_ := Aside0.mk (Kd.V_below (by (with_reducible repeat (first | apply Kd.V_alloc | apply Kd.V_drewN | apply Kd.V_drew)); exact HO692.out) hb); have n2_ := bs HB hb; clear HO689; clear HO692; clear HB; have HO689 := n0_; have HO692 := n1_; have HB := n2_; clear n0_ n1_ n2_; (try clear hb)) | ((with_reducible refine gate_callee (f := 56) rfl ?_); refine gL (some 40) Try.func56 #[.slice Ao21 t687.length co21, .slice Ao22 t690.length co22] ?_; (with_reducible refine (impl_Cycle.calls kj5 _ _ t687 _ _ t690 t695 _ ?_ ?_ ?_ ?_ A18.out).mono ?_); exact cO ⟨(Kd.R_reads' HO689.out).2.2⟩; exact (Kd.R_reads' HO689.out).2.1; (focus repeat (first | exact (Kd.V_reads' HO692.out).2.2 | (with_reducible refine Kd.C_alloc ?_ _) | (with_reducible refine Kd.C_drewN ?_ _) | (with_reducible refine Kd.C_drew ?_))); exact (Kd.V_reads' HO692.out).2.1; rintro e w24 ⟨rfl, hb⟩; refine ⟨_, rfl, ?_⟩; have n0_ := rb HO689 hb; have n1_ := Aside0.mk (Kd.V_below (by (with_reducible repeat (first | apply Kd.V_alloc | apply Kd.V_drewN | apply Kd.V_drew)); exact HO692.out) hb); have n2_ := bs HB hb; clear HO689; clear HO692; clear HB; have HO689 := n0_; have HO692 := n1_; have HB := n2_; clear n0_ n1_ n2_; (try clear hb)))
   (try simp only [Act.put, List.setIfInBounds_toArray, List.set_cons_zero, List.set_cons_succ])
   go_cut [64] (fun v64 wc => ∃ (kq : Nat) (x64_18 : Bool), v64 = .bool x64_18 ∧ Aside0 (laws_FnPlans.j1 kq l0 t687 t690 t693 t694 t695 x64_18 = some r) ∧ Aside0 (kq ≤ kj5) ∧ Aside0 (Kd.R k50 50 wc w.heap.size (fun _ => True) (.slice Ao21 t687.length co21) t687) ∧ Aside0 (Kd.V k85 85 wc w.heap.size (n1 (.slice Ao21 t687.length co21)) (.slice Ao22 t690.length co22) t690) ∧ Aside0 (Below w.heap.size w wc))
   case first =>
    have H := HC19.out
    clear HC19
    obtain ⟨t696, A25, H⟩ := bindE H
    try dsimp only at H
    by_cases c26 : t696 = true
    ·
     subst c26
     have H1 : (if t693 ≥ 0 then (if ((decide (t694 ≥ 0)) != (decide (t693 < (t690.length : Int)))) = true then (laws_FnPlans.j1 kj5 l0 t687 t690 t693 t694 t695 true) else ((impl_IsPlan.f kj5 t687 t690).bind fun t697 => (laws_FnPlans.j1 kj5 l0 t687 t690 t693 t694 t695 ((decide (t695 > 0)) != t697)))) else (if ((decide (t694 ≥ 0)) != false) = true then (laws_FnPlans.j1 kj5 l0 t687 t690 t693 t694 t695 true) else ((impl_IsPlan.f kj5 t687 t690).bind fun t698 => (laws_FnPlans.j1 kj5 l0 t687 t690 t693 t694 t695 ((decide (t695 > 0)) != t698))))) = some r := by rw [if_pos rfl] at H; exact H
     clear H
     have H := H1
     clear H1
     by_cases c27 : t693 ≥ 0
     ·
      rw [if_pos c27] at H
      have c27b0 := decide_eq_true c27
      clear c27
      (first | rw [c27b0] | (simp only [i64_w, i32_w]; rw [c27b0]) | skip)
      by_cases c28 : ((decide (t694 ≥ 0)) != (decide (t693 < (t690.length : Int)))) = true
      ·
       rw [if_pos c28] at H
       have c28b0 : ((decide (t694 ≥ 0)) != (decide (t693 < (t690.length : Int)))) = true := c28
       (try (have c28b1 : decide ((decide (t694 ≥ 0)) = (decide (t693 < (t690.length : Int)))) = false := by simpa using c28))
       (try (have c28b2 : ((decide (t694 ≥ 0)) == (decide (t693 < (t690.length : Int)))) = false := by simpa using c28))
       (try (have c28b3 : ¬ ((decide (t694 ≥ 0)) = (decide (t693 < (t690.length : Int)))) := by simpa using c28))
       clear c28
       have H' := Aside0.mk H
       clear H
       go_wp2_with (first | ((with_reducible refine gate_callee (f := 15) rfl ?_); refine gL (some 45) Try.func15 #[.slice Ao21 t687.length co21, .slice Ao22 t690.length co22] ?_; (with_reducible refine (impl_IsPlan.calls kj5 _ _ t687 (n1 (.slice Ao21 t687.length co21)) _ _ t690 true _ ?_ ?_ ?_ A25.out).mono ?_); exact cO ⟨(Kd.R_reads' HO689.out).2.2⟩; exact (Kd.R_reads' HO689.out).2.1; exact HO692.out; rintro e w29 ⟨rfl, hb⟩; refine ⟨_, rfl, ?_⟩; have n0_ := rb HO689 hb; have n1_ := Aside0.mk (Kd.V_below (by (with_reducible repeat (first | apply Kd.V_alloc | apply Kd.V_drewN | apply Kd.V_drew)); exact HO692.out) hb); have n2_ := bs HB hb; clear HO689; clear HO692; clear HB; have HO689 := n0_; have HO692 := n1_; have HB := n2_; clear n0_ n1_ n2_; (try clear hb)))
       go_meet
       case rel => exact ⟨_, (true), rS, H', ⟨by have := HJ5.out; first | omega | exact Nat.le_refl _⟩, ⟨rK HO689⟩, ⟨by (with_reducible repeat (first | apply Kd.V_alloc | apply Kd.V_drewN | apply Kd.V_drew)); exact HO692.out⟩, ⟨bA⟩⟩
      rw [if_neg c28] at H
      have c28b0 : ((decide (t694 ≥ 0)) != (decide (t693 < (t690.length : Int)))) = false := by simpa using c28
      (try (have c28b1 : decide ((decide (t694 ≥ 0)) = (decide (t693 < (t690.length : Int)))) = true := by simpa using c28))
      (try (have c28b2 : ((decide (t694 ≥ 0)) == (decide (t693 < (t690.length : Int)))) = true := by simpa using c28))
      clear c28
      obtain ⟨t697, A30, H⟩ := bindE H
      try dsimp only at H
      have H' := Aside0.mk H
      clear H
      go_wp2_with (first | ((with_reducible refine gate_callee (f := 15) rfl ?_); refine gL (some 45) Try.func15 #[.slice Ao21 t687.length co21, .slice Ao22 t690.length co22] ?_; (with_reducible refine (impl_IsPlan.calls kj5 _ _ t687 (n1 (.slice Ao21 t687.length co21)) _ _ t690 true _ ?_ ?_ ?_ A25.out).mono ?_); exact cO ⟨(Kd.R_reads' HO689.out).2.2⟩; exact (Kd.R_reads' HO689.out).2.1; exact HO692.out; rintro e w31 ⟨rfl, hb⟩; refine ⟨_, rfl, ?_⟩; have n0_ := rb HO689 hb; have n1_ := Aside0.mk (Kd.V_below (by (with_reducible repeat (first | apply Kd.V_alloc | apply Kd.V_drewN | apply Kd.V_drew)); exact HO692.out) hb); have n2_ := bs HB hb; clear HO689; clear HO692; clear HB; have HO689 := n0_; have HO692 := n1_; have HB := n2_; clear n0_ n1_ n2_; (try clear hb)) | (go_at_call 15; (with_reducible refine (impl_IsPlan.calls kj5 _ _ t687 (n1 (.slice Ao21 t687.length co21)) _ _ t690 t697 _ ?_ ?_ ?_ A30.out).mono ?_); exact cO ⟨(Kd.R_reads' HO689.out).2.2⟩; exact (Kd.R_reads' HO689.out).2.1; exact HO692.out; rintro e w32 ⟨rfl, hb⟩; have n0_ := rb HO689 hb; have n1_ := Aside0.mk (Kd.V_below (by (with_reducible repeat (first | apply Kd.V_alloc | apply Kd.V_drewN | apply Kd.V_drew)); exact HO692.out) hb); have n2_ := bs HB hb; clear HO689; clear HO692; clear HB; have HO689 := n0_; have HO692 := n1_; have HB := n2_; clear n0_ n1_ n2_; (try clear hb)))
      go_meet
      case rel => exact ⟨_, (((decide (t695 > 0)) != t697)), rS, H', ⟨by have := HJ5.out; first | omega | exact Nat.le_refl _⟩, ⟨rK HO689⟩, ⟨by (with_reducible repeat (first | apply Kd.V_alloc | apply Kd.V_drewN | apply Kd.V_drew)); exact HO692.out⟩, ⟨bA⟩⟩
     rw [if_neg c27] at H
     have c27b0 := decide_eq_false c27
     clear c27
     (first | rw [c27b0] | (simp only [i64_w, i32_w]; rw [c27b0]) | skip)
     by_cases c33 : ((decide (t694 ≥ 0)) != false) = true
     ·
      rw [if_pos c33] at H
      have c33b0 : ((decide (t694 ≥ 0)) != false) = true := c33
      (try (have c33b1 : decide ((decide (t694 ≥ 0)) = false) = false := by simpa using c33))
      (try (have c33b2 : ((decide (t694 ≥ 0)) == false) = false := by simpa using c33))
      (try (have c33b3 : ¬ ((decide (t694 ≥ 0)) = false) := by simpa using c33))
      clear c33
      have H' := Aside0.mk H
      clear H
      go_wp2_with (first | ((with_reducible refine gate_callee (f := 15) rfl ?_); refine gL (some 45) Try.func15 #[.slice Ao21 t687.length co21, .slice Ao22 t690.length co22] ?_; (with_reducible refine (impl_IsPlan.calls kj5 _ _ t687 (n1 (.slice Ao21 t687.length co21)) _ _ t690 true _ ?_ ?_ ?_ A25.out).mono ?_); exact cO ⟨(Kd.R_reads' HO689.out).2.2⟩; exact (Kd.R_reads' HO689.out).2.1; exact HO692.out; rintro e w34 ⟨rfl, hb⟩; refine ⟨_, rfl, ?_⟩; have n0_ := rb HO689 hb; have n1_ := Aside0.mk (Kd.V_below (by (with_reducible repeat (first | apply Kd.V_alloc | apply Kd.V_drewN | apply Kd.V_drew)); exact HO692.out) hb); have n2_ := bs HB hb; clear HO689; clear HO692; clear HB; have HO689 := n0_; have HO692 := n1_; have HB := n2_; clear n0_ n1_ n2_; (try clear hb)))
      go_meet
      case rel => exact ⟨_, (true), rS, H', ⟨by have := HJ5.out; first | omega | exact Nat.le_refl _⟩, ⟨rK HO689⟩, ⟨by (with_reducible repeat (first | apply Kd.V_alloc | apply Kd.V_drewN | apply Kd.V_drew)); exact HO692.out⟩, ⟨bA⟩⟩
     rw [if_neg c33] at H
     have c33b0 : ((decide (t694 ≥ 0)) != false) = false := by simpa using c33
     (try (have c33b1 : decide ((decide (t694 ≥ 0)) = false) = true := by simpa using c33))
     (try (have c33b2 : ((decide (t694 ≥ 0)) == false) = true := by simpa using c33))
     clear c33
     obtain ⟨t698, A35, H⟩ := bindE H
     try dsimp only at H
     have H' := Aside0.mk H
     clear H
     go_wp2_with (first | ((with_reducible refine gate_callee (f := 15) rfl ?_); refine gL (some 45) Try.func15 #[.slice Ao21 t687.length co21, .slice Ao22 t690.length co22] ?_; (with_reducible refine (impl_IsPlan.calls kj5 _ _ t687 (n1 (.slice Ao21 t687.length co21)) _ _ t690 true _ ?_ ?_ ?_ A25.out).mono ?_); exact cO ⟨(Kd.R_reads' HO689.out).2.2⟩; exact (Kd.R_reads' HO689.out).2.1; exact HO692.out; rintro e w36 ⟨rfl, hb⟩; refine ⟨_, rfl, ?_⟩; have n0_ := rb HO689 hb; have n1_ := Aside0.mk (Kd.V_below (by (with_reducible repeat (first | apply Kd.V_alloc | apply Kd.V_drewN | apply Kd.V_drew)); exact HO692.out) hb); have n2_ := bs HB hb; clear HO689; clear HO692; clear HB; have HO689 := n0_; have HO692 := n1_; have HB := n2_; clear n0_ n1_ n2_; (try clear hb)) | (go_at_call 15; (with_reducible refine (impl_IsPlan.calls kj5 _ _ t687 (n1 (.slice Ao21 t687.length co21)) _ _ t690 t698 _ ?_ ?_ ?_ A35.out).mono ?_); exact cO ⟨(Kd.R_reads' HO689.out).2.2⟩; exact (Kd.R_reads' HO689.out).2.1; exact HO692.out; rintro e w37 ⟨rfl, hb⟩; have n0_ := rb HO689 hb; have n1_ := Aside0.mk (Kd.V_below (by (with_reducible repeat (first | apply Kd.V_alloc | apply Kd.V_drewN | apply Kd.V_drew)); exact HO692.out) hb); have n2_ := bs HB hb; clear HO689; clear HO692; clear HB; have HO689 := n0_; have HO692 := n1_; have HB := n2_; clear n0_ n1_ n2_; (try clear hb)))
     go_meet
     case rel => exact ⟨_, (((decide (t695 > 0)) != t698)), rS, H', ⟨by have := HJ5.out; first | omega | exact Nat.le_refl _⟩, ⟨rK HO689⟩, ⟨by (with_reducible repeat (first | apply Kd.V_alloc | apply Kd.V_drewN | apply Kd.V_drew)); exact HO692.out⟩, ⟨bA⟩⟩
    replace c26 := Bool.eq_false_iff.mpr c26
    subst c26
    have H1 : (if ((decide (t694 ≥ 0)) != false) = true then (laws_FnPlans.j1 kj5 l0 t687 t690 t693 t694 t695 true) else ((impl_IsPlan.f kj5 t687 t690).bind fun t699 => (laws_FnPlans.j1 kj5 l0 t687 t690 t693 t694 t695 ((decide (t695 > 0)) != t699)))) = some r := by rw [if_neg (show ¬ (false = true) by decide)] at H; exact H
    clear H
    have H := H1
    clear H1
    by_cases c38 : ((decide (t694 ≥ 0)) != false) = true
    ·
     rw [if_pos c38] at H
     have c38b0 : ((decide (t694 ≥ 0)) != false) = true := c38
     (try (have c38b1 : decide ((decide (t694 ≥ 0)) = false) = false := by simpa using c38))
     (try (have c38b2 : ((decide (t694 ≥ 0)) == false) = false := by simpa using c38))
     (try (have c38b3 : ¬ ((decide (t694 ≥ 0)) = false) := by simpa using c38))
     clear c38
     have H' := Aside0.mk H
     clear H
     go_wp2_with (first | ((with_reducible refine gate_callee (f := 15) rfl ?_); refine gL (some 45) Try.func15 #[.slice Ao21 t687.length co21, .slice Ao22 t690.length co22] ?_; (with_reducible refine (impl_IsPlan.calls kj5 _ _ t687 (n1 (.slice Ao21 t687.length co21)) _ _ t690 false _ ?_ ?_ ?_ A25.out).mono ?_); exact cO ⟨(Kd.R_reads' HO689.out).2.2⟩; exact (Kd.R_reads' HO689.out).2.1; exact HO692.out; rintro e w39 ⟨rfl, hb⟩; refine ⟨_, rfl, ?_⟩; have n0_ := rb HO689 hb; have n1_ := Aside0.mk (Kd.V_below (by (with_reducible repeat (first | apply Kd.V_alloc | apply Kd.V_drewN | apply Kd.V_drew)); exact HO692.out) hb); have n2_ := bs HB hb; clear HO689; clear HO692; clear HB; have HO689 := n0_; have HO692 := n1_; have HB := n2_; clear n0_ n1_ n2_; (try clear hb)))
     go_meet
     case rel => exact ⟨_, (true), rS, H', ⟨by have := HJ5.out; first | omega | exact Nat.le_refl _⟩, ⟨rK HO689⟩, ⟨by (with_reducible repeat (first | apply Kd.V_alloc | apply Kd.V_drewN | apply Kd.V_drew)); exact HO692.out⟩, ⟨bA⟩⟩
    rw [if_neg c38] at H
    have c38b0 : ((decide (t694 ≥ 0)) != false) = false := by simpa using c38
    (try (have c38b1 : decide ((decide (t694 ≥ 0)) = false) = true := by simpa using c38))
    (try (have c38b2 : ((decide (t694 ≥ 0)) == false) = true := by simpa using c38))
    clear c38
    obtain ⟨t699, A40, H⟩ := bindE H
    try dsimp only at H
    have H' := Aside0.mk H
    clear H
    go_wp2_with (first | ((with_reducible refine gate_callee (f := 15) rfl ?_); refine gL (some 45) Try.func15 #[.slice Ao21 t687.length co21, .slice Ao22 t690.length co22] ?_; (with_reducible refine (impl_IsPlan.calls kj5 _ _ t687 (n1 (.slice Ao21 t687.length co21)) _ _ t690 false _ ?_ ?_ ?_ A25.out).mono ?_); exact cO ⟨(Kd.R_reads' HO689.out).2.2⟩; exact (Kd.R_reads' HO689.out).2.1; exact HO692.out; rintro e w41 ⟨rfl, hb⟩; refine ⟨_, rfl, ?_⟩; have n0_ := rb HO689 hb; have n1_ := Aside0.mk (Kd.V_below (by (with_reducible repeat (first | apply Kd.V_alloc | apply Kd.V_drewN | apply Kd.V_drew)); exact HO692.out) hb); have n2_ := bs HB hb; clear HO689; clear HO692; clear HB; have HO689 := n0_; have HO692 := n1_; have HB := n2_; clear n0_ n1_ n2_; (try clear hb)) | (go_at_call 15; (with_reducible refine (impl_IsPlan.calls kj5 _ _ t687 (n1 (.slice Ao21 t687.length co21)) _ _ t690 t699 _ ?_ ?_ ?_ A40.out).mono ?_); exact cO ⟨(Kd.R_reads' HO689.out).2.2⟩; exact (Kd.R_reads' HO689.out).2.1; exact HO692.out; rintro e w42 ⟨rfl, hb⟩; have n0_ := rb HO689 hb; have n1_ := Aside0.mk (Kd.V_below (by (with_reducible repeat (first | apply Kd.V_alloc | apply Kd.V_drewN | apply Kd.V_drew)); exact HO692.out) hb); have n2_ := bs HB hb; clear HO689; clear HO692; clear HB; have HO689 := n0_; have HO692 := n1_; have HB := n2_; clear n0_ n1_ n2_; (try clear hb)))
    go_meet
    case rel => exact ⟨_, (((decide (t695 > 0)) != t699)), rS, H', ⟨by have := HJ5.out; first | omega | exact Nat.le_refl _⟩, ⟨rK HO689⟩, ⟨by (with_reducible repeat (first | apply Kd.V_alloc | apply Kd.V_drewN | apply Kd.V_drew)); exact HO692.out⟩, ⟨bA⟩⟩
   case rest =>
    clear HC19
    obtain ⟨kq, x64_18, rfl, HA, HJ18, HO_5, HO_6, HB⟩ := hcut
    cases kq with
    | zero => exact absurd HA.out (by simp [laws_FnPlans.j1])
    | succ kj18 =>
     have H := HA.out
     clear HA
     simp only [laws_FnPlans.j1] at H
     have c43 := ifN' H
     replace H := ifT' H
     replace c43 := Bool.eq_false_iff.mpr c43
     subst c43
     have HC44 := Aside0.mk H
     clear H
     go_upto_if 66 with (fail)
     go_cut [] (fun wc => ∃ (kq : Nat), Aside0 (laws_FnPlans.j2 kq l0 = some r) ∧ Aside0 (kq ≤ kj18) ∧ Aside0 (Below w.heap.size w wc))
     case first =>
      have H := HC44.out
      clear HC44
      by_cases c45 : t694 ≥ 0
      ·
       rw [if_pos c45] at H
       have c45b0 := decide_eq_true c45
       clear c45
       (first | rw [c45b0] | (simp only [i64_w, i32_w]; rw [c45b0]) | skip)
       by_cases c46 : (wrap64 (t693 + 1)) < (t690.length : Int)
       ·
        rw [if_pos c46] at H
        have c46b0 := decide_eq_true c46
        clear c46
        obtain ⟨t700, A47, H⟩ := bindE H
        try dsimp only at H
        have c48 : 0 ≤ t693 := ifN H
        replace H := ifT H
        have c48b0 := decide_eq_true c48
        clear c48
        have c49 : t693 < (t690.length : Int) := ifN H
        replace H := ifT H
        have c49b0 := decide_eq_true c49
        clear c49
        by_cases c50 : (wrap64 (t700 - t694)) < ((rd_T85 t690 t693).f1)
        ·
         rw [if_pos c50] at H
         have c50b0 := decide_eq_true c50
         clear c50
         exact absurd H (by simp)
        rw [if_neg c50] at H
        have c50b0 := decide_eq_false c50
        clear c50
        obtain ⟨t703, A51, H⟩ := bindE H
        try dsimp only at H
        have c52 : ¬ ((wrap64 (t700 - t694)) > (wrap64 (((rd_T85 t690 t693).f1) + t703))) := ifN' H
        replace H := ifT' H
        have c52b0 := decide_eq_false c52
        clear c52
        have H' := Aside0.mk H
        clear H
        try go_wp2_with (first | ((with_reducible refine gate_callee (f := 63) rfl ?_); refine gL (some 77) Try.func63 #[.slice Ao21 t687.length co21, .slice Ao22 t690.length co22, .int .i64 (wrap64 (t693 + 1))] ?_; (with_reducible refine (impl_StartOf.calls kj18 _ _ t687 _ _ t690 (wrap64 (t693 + 1)) t700 _ ?_ ?_ ?_ ?_ A47.out).mono ?_); exact cO ⟨(Kd.R_reads' HO_5.out).2.2⟩; exact (Kd.R_reads' HO_5.out).2.1; (focus repeat (first | exact (Kd.V_reads' HO_6.out).2.2 | (with_reducible refine Kd.C_alloc ?_ _) | (with_reducible refine Kd.C_drewN ?_ _) | (with_reducible refine Kd.C_drew ?_))); exact (Kd.V_reads' HO_6.out).2.1; rintro e w53 ⟨rfl, hb⟩; refine ⟨_, rfl, ?_⟩; have n0_ := rb HO_5 hb; have n1_ := Aside0.mk (Kd.V_below (by (with_reducible repeat (first | apply Kd.V_alloc | apply Kd.V_drewN | apply Kd.V_drew)); exact HO_6.out) hb); have n2_ := bs HB hb; clear HO_5; clear HO_6; clear HB; have HO_5 := n0_; have HO_6 := n1_; have HB := n2_; clear n0_ n1_ n2_; (try clear hb)))
        replace HO_5 := dr HO_5
        replace HO_6 := dv HO_6
        have HBo := HB
        replace HB := db HB
        obtain ⟨p701, q701⟩ : 0 ≤ (t693 : Int) ∧ t693 < (t690.length : Int) := ⟨dA, dA⟩
        obtain ⟨ad701, A701_0, c701_0, e701, hx701_0, hx701_1, hl701_0, hi701_0⟩ := at_T85 (Kd.V_reads' HO_6.out).2.2 t693 p701 q701
        cases e701
        obtain ⟨ce701, hce701, hMe701, hcc701⟩ := Kd.V_get HO_6.out z85 t693 p701 (by first | exact q701 | exact dA | (have e_ := (Kd.V_reads' HO_6.out).1; omega))
        obtain ⟨ua701_0, uc701_0, rfl, ul701_0, ge701_0⟩ := k85_openF hMe701
        have hv701_0 := hcc701 0 _ rfl
        rw [Nat.add_zero] at hv701_0
        replace hv701_0 := Option.some.inj (hv701_0.symm.trans hx701_0)
        injection hv701_0 with hva_ hvn_ hvc_
        rw [hva_] at ge701_0
        rw [hvc_] at ul701_0
        have HL701_0 := Aside0.mk (show Kd.V (Kd.int .i64) 3 _ w.heap.size _ _ ((rd_T85 t690 t693).f0) from Kd.V_mk ul701_0 ge701_0)
        clear hva_ hvn_ hvc_ ge701_0 ul701_0
        clear hcc701 hce701
        have HR701_0 := Aside0.mk hi701_0
        have HC701_0 := Aside0.mk hl701_0
        clear hi701_0 hl701_0
        obtain ⟨p701, q701⟩ := eT p701 q701
        obtain ⟨p702, q702⟩ : 0 ≤ (t693 : Int) ∧ t693 < (t690.length : Int) := ⟨dA, dA⟩
        obtain ⟨ad702, A702_0, c702_0, e702, hx702_0, hx702_1, hl702_0, hi702_0⟩ := at_T85 (Kd.V_reads' HO_6.out).2.2 t693 p702 q702
        obtain rfl : ad701 = ad702 := (by injection e702)
        obtain ⟨ce702, hce702, hMe702, hcc702⟩ := Kd.V_get HO_6.out z85 t693 p702 (by first | exact q702 | exact dA | (have e_ := (Kd.V_reads' HO_6.out).1; omega))
        obtain ⟨ua702_0, uc702_0, rfl, ul702_0, ge702_0⟩ := k85_openF hMe702
        have hv702_0 := hcc702 0 _ rfl
        rw [Nat.add_zero] at hv702_0
        replace hv702_0 := Option.some.inj (hv702_0.symm.trans hx702_0)
        injection hv702_0 with hva_ hvn_ hvc_
        rw [hva_] at ge702_0
        rw [hvc_] at ul702_0
        have HL702_0 := Aside0.mk (show Kd.V (Kd.int .i64) 3 _ w.heap.size _ _ ((rd_T85 t690 t693).f0) from Kd.V_mk ul702_0 ge702_0)
        clear hva_ hvn_ hvc_ ge702_0 ul702_0
        clear hcc702 hce702
        have HR702_0 := Aside0.mk hi702_0
        have HC702_0 := Aside0.mk hl702_0
        clear hi702_0 hl702_0
        obtain ⟨p702, q702⟩ := eT p702 q702
        have ea_ := Option.some.inj (hx701_0.symm.trans hx702_0)
        injection ea_ with ea_ en_ ec_
        subst ea_
        subst ec_
        clear en_
        refine start_ (n := 23) (S := fun w' => w'.cell? (ad701.add ((t693).toNat * 2)) = some (.slice A701_0 ((rd_T85 t690 t693).f0).length c701_0) ∧ w'.cell? ⟨(ad701.add ((t693).toNat * 2)).block, (ad701.add ((t693).toNat * 2)).off + 1, none⟩ = some (.int .i64 ((rd_T85 t690 t693).f1)) ∧ w'.cell? (ad701.add ((t693).toNat * 2)) = some (.slice A701_0 ((rd_T85 t690 t693).f0).length c701_0) ∧ w'.cell? ⟨(ad701.add ((t693).toNat * 2)).block, (ad701.add ((t693).toNat * 2)).off + 1, none⟩ = some (.int .i64 ((rd_T85 t690 t693).f1))) (ds := []) (mb 23 0) (by kernel_rfl) rfl rfl ⟨hx701_0, hx701_1, hx702_0, hx702_1⟩ (fun hHeld => ?_); refine with_tabW laws_FnPlans.tab16 laws_FnPlans.bits16 (fun HT_ HW_ => ?_)
        generalize w53.drew = w54 at HO_5 HO_6 HB HL701_0 HL702_0 HR701_0 HR702_0 hx701_0 hx701_1 hx702_0 hx702_1 hHeld ⊢
        refine pa 0 78 (mb 23 1) HT_ ?_
        refine pa 1 79 (mb 23 3) HT_ ?_
        refine pa 2 80 (mb 23 7) HT_ ?_
        refine pa 3 81 (mb 23 15) HT_ ?_
        refine pa 4 82 (mb 23 31) HT_ ?_
        refine pa 5 83 (mb 23 63) HT_ ?_
        refine pa 6 84 (mb 23 127) HT_ ?_
        refine ta4 7 85 (mb 23 255) HT_ HW_ hHeld ?_
        refine pa 8 86 (mb 23 511) HT_ ?_
        refine pa 9 87 (mb 23 1023) HT_ ?_
        refine pa 10 88 (mb 23 2047) HT_ ?_
        refine pa 11 89 (mb 23 4095) HT_ ?_
        refine pa 12 90 (mb 23 8191) HT_ ?_
        refine pa 13 91 (mb 23 16383) HT_ ?_
        refine pa 14 92 (mb 23 32767) HT_ ?_
        refine pa 15 93 (mb 23 65535) HT_ ?_
        refine pa 16 94 (mb 23 131071) HT_ ?_
        refine pa 18 96 (mb 23 393215) HT_ ?_
        refine ta4 17 95 (mb 23 524287) HT_ HW_ hHeld ?_
        refine oa 19 97 (mb 23 1048575) HT_ (fun K hK => ?_)
        refine gA Try.func72 #[.slice Ao21 t687.length co21] ?_
        with_reducible refine (impl_LongestClear.calls kj18 _ _ t687 t703 _ ?side1 ?side2 A51.out).mono ?_
        (case side1 => exact cO ⟨(Kd.R_reads' HO_5.out).2.2⟩)
        (case side2 => exact (Kd.R_reads' HO_5.out).2.1)
        rintro e w55 ⟨rfl, hb⟩
        have HS0_ := (hb.cell (World.block_lt_of_cell? _ _ (hHeld.1))).trans (hHeld.1)
        have HS1_ := (hb.cell (World.block_lt_of_cell? _ _ (hHeld.2.1))).trans (hHeld.2.1)
        have HS2_ := (hb.cell (World.block_lt_of_cell? _ _ (hHeld.2.2.1))).trans (hHeld.2.2.1)
        have HS3_ := (hb.cell (World.block_lt_of_cell? _ _ (hHeld.2.2.2))).trans (hHeld.2.2.2)
        refine ⟨_, rfl, ?_⟩
        replace HO_5 := rb HO_5 hb
        replace HO_6 := Aside0.mk (Kd.V_below (by (with_reducible repeat (first | apply Kd.V_alloc | apply Kd.V_drewN | apply Kd.V_drew)); exact HO_6.out) hb)
        replace HL701_0 := Aside0.mk (Kd.V_below (by (with_reducible repeat (first | apply Kd.V_alloc | apply Kd.V_drewN | apply Kd.V_drew)); exact HL701_0.out) hb)
        replace HL702_0 := Aside0.mk (Kd.V_below (by (with_reducible repeat (first | apply Kd.V_alloc | apply Kd.V_drewN | apply Kd.V_drew)); exact HL702_0.out) hb)
        replace HR701_0 := Aside0.mk (Kd.C_below (by repeat (first | (with_reducible exact HR701_0.out) | (with_reducible refine Kd.C_alloc ?_ _) | (with_reducible refine Kd.C_drewN ?_ _) | (with_reducible refine Kd.C_drew ?_) | exact HR701_0.out)) hb)
        replace HR702_0 := Aside0.mk (Kd.C_below (by repeat (first | (with_reducible exact HR702_0.out) | (with_reducible refine Kd.C_alloc ?_ _) | (with_reducible refine Kd.C_drewN ?_ _) | (with_reducible refine Kd.C_drew ?_) | exact HR702_0.out)) hb)
        replace HB := bs HB hb
        (try clear hb)
        (try clear hb2)
        (try clear hk)
        (try clear hi)
        refine hK.out _ _ ⟨HS0_, HS1_, HS2_, HS3_⟩ (fun hHeld => ?_)
        clear hK K
        refine nB ?_
        refine pa 20 98 (mb 23 2097151) HT_ ?_
        refine pa 21 99 (mb 23 4194303) HT_ ?_
        refine pa 22 100 (mb 23 8388607) HT_ ?_
        refine eA HT_ ?_
        try go_wp2
        go_meet
        case rel => exact ⟨_, H', ⟨by have := HJ5.out; have := HJ18.out; first | omega | exact Nat.le_refl _⟩, ⟨bA⟩⟩
       rw [if_neg c46] at H
       have c46b0 := decide_eq_false c46
       clear c46
       have c56 : 0 ≤ t693 := ifN H
       replace H := ifT H
       have c56b0 := decide_eq_true c56
       clear c56
       have c57 : t693 < (t690.length : Int) := ifN H
       replace H := ifT H
       have c57b0 := decide_eq_true c57
       clear c57
       by_cases c58 : (wrap64 (t695 - t694)) < ((rd_T85 t690 t693).f1)
       ·
        rw [if_pos c58] at H
        have c58b0 := decide_eq_true c58
        clear c58
        exact absurd H (by simp)
       rw [if_neg c58] at H
       have c58b0 := decide_eq_false c58
       clear c58
       obtain ⟨t706, A59, H⟩ := bindE H
       try dsimp only at H
       have c60 : ¬ ((wrap64 (t695 - t694)) > (wrap64 (((rd_T85 t690 t693).f1) + t706))) := ifN' H
       replace H := ifT' H
       have c60b0 := decide_eq_false c60
       clear c60
       have H' := Aside0.mk H
       clear H
       try go_wp2
       replace HO_5 := dr HO_5
       replace HO_6 := dv HO_6
       have HBo := HB
       replace HB := db HB
       obtain ⟨p704, q704⟩ : 0 ≤ (t693 : Int) ∧ t693 < (t690.length : Int) := ⟨dA, dA⟩
       obtain ⟨ad704, A704_0, c704_0, e704, hx704_0, hx704_1, hl704_0, hi704_0⟩ := at_T85 (Kd.V_reads' HO_6.out).2.2 t693 p704 q704
       cases e704
       obtain ⟨ce704, hce704, hMe704, hcc704⟩ := Kd.V_get HO_6.out z85 t693 p704 (by first | exact q704 | exact dA | (have e_ := (Kd.V_reads' HO_6.out).1; omega))
       obtain ⟨ua704_0, uc704_0, rfl, ul704_0, ge704_0⟩ := k85_openF hMe704
       have hv704_0 := hcc704 0 _ rfl
       rw [Nat.add_zero] at hv704_0
       replace hv704_0 := Option.some.inj (hv704_0.symm.trans hx704_0)
       injection hv704_0 with hva_ hvn_ hvc_
       rw [hva_] at ge704_0
       rw [hvc_] at ul704_0
       have HL704_0 := Aside0.mk (show Kd.V (Kd.int .i64) 3 _ w.heap.size _ _ ((rd_T85 t690 t693).f0) from Kd.V_mk ul704_0 ge704_0)
       clear hva_ hvn_ hvc_ ge704_0 ul704_0
       clear hcc704 hce704
       have HR704_0 := Aside0.mk hi704_0
       have HC704_0 := Aside0.mk hl704_0
       clear hi704_0 hl704_0
       obtain ⟨p704, q704⟩ := eT p704 q704
       obtain ⟨p705, q705⟩ : 0 ≤ (t693 : Int) ∧ t693 < (t690.length : Int) := ⟨dA, dA⟩
       obtain ⟨ad705, A705_0, c705_0, e705, hx705_0, hx705_1, hl705_0, hi705_0⟩ := at_T85 (Kd.V_reads' HO_6.out).2.2 t693 p705 q705
       obtain rfl : ad704 = ad705 := (by injection e705)
       obtain ⟨ce705, hce705, hMe705, hcc705⟩ := Kd.V_get HO_6.out z85 t693 p705 (by first | exact q705 | exact dA | (have e_ := (Kd.V_reads' HO_6.out).1; omega))
       obtain ⟨ua705_0, uc705_0, rfl, ul705_0, ge705_0⟩ := k85_openF hMe705
       have hv705_0 := hcc705 0 _ rfl
       rw [Nat.add_zero] at hv705_0
       replace hv705_0 := Option.some.inj (hv705_0.symm.trans hx705_0)
       injection hv705_0 with hva_ hvn_ hvc_
       rw [hva_] at ge705_0
       rw [hvc_] at ul705_0
       have HL705_0 := Aside0.mk (show Kd.V (Kd.int .i64) 3 _ w.heap.size _ _ ((rd_T85 t690 t693).f0) from Kd.V_mk ul705_0 ge705_0)
       clear hva_ hvn_ hvc_ ge705_0 ul705_0
       clear hcc705 hce705
       have HR705_0 := Aside0.mk hi705_0
       have HC705_0 := Aside0.mk hl705_0
       clear hi705_0 hl705_0
       obtain ⟨p705, q705⟩ := eT p705 q705
       have ea_ := Option.some.inj (hx704_0.symm.trans hx705_0)
       injection ea_ with ea_ en_ ec_
       subst ea_
       subst ec_
       clear en_
       refine start_ (n := 23) (S := fun w' => w'.cell? (ad704.add ((t693).toNat * 2)) = some (.slice A704_0 ((rd_T85 t690 t693).f0).length c704_0) ∧ w'.cell? ⟨(ad704.add ((t693).toNat * 2)).block, (ad704.add ((t693).toNat * 2)).off + 1, none⟩ = some (.int .i64 ((rd_T85 t690 t693).f1)) ∧ w'.cell? (ad704.add ((t693).toNat * 2)) = some (.slice A704_0 ((rd_T85 t690 t693).f0).length c704_0) ∧ w'.cell? ⟨(ad704.add ((t693).toNat * 2)).block, (ad704.add ((t693).toNat * 2)).off + 1, none⟩ = some (.int .i64 ((rd_T85 t690 t693).f1))) (ds := []) (mb 23 0) (by kernel_rfl) rfl rfl ⟨hx704_0, hx704_1, hx705_0, hx705_1⟩ (fun hHeld => ?_); refine with_tabW laws_FnPlans.tab16 laws_FnPlans.bits16 (fun HT_ HW_ => ?_)
       generalize wc.drew = w61 at HO_5 HO_6 HB HL704_0 HL705_0 HR704_0 HR705_0 hx704_0 hx704_1 hx705_0 hx705_1 hHeld ⊢
       refine pa 0 78 (mb 23 1) HT_ ?_
       refine pa 1 79 (mb 23 3) HT_ ?_
       refine pa 2 80 (mb 23 7) HT_ ?_
       refine pa 3 81 (mb 23 15) HT_ ?_
       refine pa 4 82 (mb 23 31) HT_ ?_
       refine pa 5 83 (mb 23 63) HT_ ?_
       refine pa 6 84 (mb 23 127) HT_ ?_
       refine ta4 7 85 (mb 23 255) HT_ HW_ hHeld ?_
       refine pa 8 86 (mb 23 511) HT_ ?_
       refine pa 9 87 (mb 23 1023) HT_ ?_
       refine pa 10 88 (mb 23 2047) HT_ ?_
       refine pa 11 89 (mb 23 4095) HT_ ?_
       refine pa 12 90 (mb 23 8191) HT_ ?_
       refine pa 13 91 (mb 23 16383) HT_ ?_
       refine pa 14 92 (mb 23 32767) HT_ ?_
       refine pa 15 93 (mb 23 65535) HT_ ?_
       refine pa 16 94 (mb 23 131071) HT_ ?_
       refine pa 18 96 (mb 23 393215) HT_ ?_
       refine ta4 17 95 (mb 23 524287) HT_ HW_ hHeld ?_
       refine oa 19 97 (mb 23 1048575) HT_ (fun K hK => ?_)
       refine gA Try.func72 #[.slice Ao21 t687.length co21] ?_
       with_reducible refine (impl_LongestClear.calls kj18 _ _ t687 t706 _ ?side1 ?side2 A59.out).mono ?_
       (case side1 => exact cO ⟨(Kd.R_reads' HO_5.out).2.2⟩)
       (case side2 => exact (Kd.R_reads' HO_5.out).2.1)
       rintro e w62 ⟨rfl, hb⟩
       have HS0_ := (hb.cell (World.block_lt_of_cell? _ _ (hHeld.1))).trans (hHeld.1)
       have HS1_ := (hb.cell (World.block_lt_of_cell? _ _ (hHeld.2.1))).trans (hHeld.2.1)
       have HS2_ := (hb.cell (World.block_lt_of_cell? _ _ (hHeld.2.2.1))).trans (hHeld.2.2.1)
       have HS3_ := (hb.cell (World.block_lt_of_cell? _ _ (hHeld.2.2.2))).trans (hHeld.2.2.2)
       refine ⟨_, rfl, ?_⟩
       replace HO_5 := rb HO_5 hb
       replace HO_6 := Aside0.mk (Kd.V_below (by (with_reducible repeat (first | apply Kd.V_alloc | apply Kd.V_drewN | apply Kd.V_drew)); exact HO_6.out) hb)
       replace HL704_0 := Aside0.mk (Kd.V_below (by (with_reducible repeat (first | apply Kd.V_alloc | apply Kd.V_drewN | apply Kd.V_drew)); exact HL704_0.out) hb)
       replace HL705_0 := Aside0.mk (Kd.V_below (by (with_reducible repeat (first | apply Kd.V_alloc | apply Kd.V_drewN | apply Kd.V_drew)); exact HL705_0.out) hb)
       replace HR704_0 := Aside0.mk (Kd.C_below (by repeat (first | (with_reducible exact HR704_0.out) | (with_reducible refine Kd.C_alloc ?_ _) | (with_reducible refine Kd.C_drewN ?_ _) | (with_reducible refine Kd.C_drew ?_) | exact HR704_0.out)) hb)
       replace HR705_0 := Aside0.mk (Kd.C_below (by repeat (first | (with_reducible exact HR705_0.out) | (with_reducible refine Kd.C_alloc ?_ _) | (with_reducible refine Kd.C_drewN ?_ _) | (with_reducible refine Kd.C_drew ?_) | exact HR705_0.out)) hb)
       replace HB := bs HB hb
       (try clear hb)
       (try clear hb2)
       (try clear hk)
       (try clear hi)
       refine hK.out _ _ ⟨HS0_, HS1_, HS2_, HS3_⟩ (fun hHeld => ?_)
       clear hK K
       refine nB ?_
       refine pa 20 98 (mb 23 2097151) HT_ ?_
       refine pa 21 99 (mb 23 4194303) HT_ ?_
       refine pa 22 100 (mb 23 8388607) HT_ ?_
       refine eA HT_ ?_
       try go_wp2
       go_meet
       case rel => exact ⟨_, H', ⟨by have := HJ5.out; have := HJ18.out; first | omega | exact Nat.le_refl _⟩, ⟨bA⟩⟩
      rw [if_neg c45] at H
      have c45b0 := decide_eq_false c45
      clear c45
      (first | rw [c45b0] | (simp only [i64_w, i32_w]; rw [c45b0]) | skip)
      have H' := Aside0.mk H
      clear H
      go_wp2
      go_meet
      case rel => exact ⟨_, H', ⟨by have := HJ5.out; have := HJ18.out; first | omega | exact Nat.le_refl _⟩, ⟨bA⟩⟩
     case rest =>
      clear HC44
      obtain ⟨kq, HA, HJ43, HB⟩ := hcut
      cases kq with
      | zero => exact absurd HA.out (by simp [laws_FnPlans.j2])
      | succ kj43 =>
       have H := HA.out
       clear HA
       simp only [laws_FnPlans.j2] at H
       obtain ⟨⟨t707, t710⟩, A63, H⟩ := bindE H
       try dsimp only at H
       obtain ⟨t713, A64, H⟩ := bindE H
       try dsimp only at H
       obtain ⟨t714, A65, H⟩ := bindE H
       try dsimp only at H
       have c66 : (t713 == t714) = true := ifN H
       replace H := ifT H
       have c66b0 : (t713 == t714) = true := c66
       (try (have c66b1 : decide (t713 = t714) = true := by simpa using c66))
       (try (have c66b2 : (t713 == t714) = true := by simpa using c66))
       clear c66
       obtain ⟨t715, A67, H⟩ := bindE H
       try dsimp only at H
       obtain rfl := Option.some.inj H
       go_wp2_with (first | ((with_reducible refine gate_callee (f := 73) rfl ?_); refine gL (some 103) Try.func73 #[.slice A0 l0.length c0] ?_; (with_reducible refine (spec_DrawEqualPlans.calls kj43 _ _ l0 t707 t710 _ ?_ ?_ A63.out).mono ?_); exact cB HR0; exact HC0.out; rintro e w68 ⟨v708, v711, rfl, ho0, ho1, hb⟩; refine ⟨_, rfl, ?_⟩; have HO709 := Aside0.mk (Kd.V_lower (Kd.V_mono (ok' := fun k_ => True) ho0 (fun k_ hk_ => trivial)) (below_size bA)); have HO712 := Aside0.mk (Kd.V_lower (Kd.V_mono (ok' := fun k_ => True) ho1 (fun k_ hk_ => trivial)) (below_size bA)); replace HB := bs HB hb; (try clear hb); (try clear ho0); (try clear ho1); obtain ⟨Ao69, co69, eo69⟩ := Kd.V_slice HO709.out; subst eo69; obtain ⟨Ao70, co70, eo70⟩ := Kd.V_slice HO712.out; subst eo70) | ((with_reducible refine gate_callee (f := 58) rfl ?_); refine gL (some 108) Try.func58 #[.slice Ao69 t707.length co69, .slice Ao70 t710.length co70] ?_; (with_reducible refine (impl_EqualPlans.calls kj43 _ _ t707 _ _ t710 t713 _ ?_ ?_ ?_ ?_ A64.out).mono ?_); (focus repeat (first | exact (Kd.V_reads' HO709.out).2.2 | (with_reducible refine Kd.C_alloc ?_ _) | (with_reducible refine Kd.C_drewN ?_ _) | (with_reducible refine Kd.C_drew ?_))); exact (Kd.V_reads' HO709.out).2.1; (focus repeat (first | exact (Kd.V_reads' HO712.out).2.2 | (with_reducible refine Kd.C_alloc ?_ _) | (with_reducible refine Kd.C_drewN ?_ _) | (with_reducible refine Kd.C_drew ?_))); exact (Kd.V_reads' HO712.out).2.1; rintro e w71 ⟨rfl, hb⟩; refine ⟨_, rfl, ?_⟩; have n0_ := Aside0.mk (Kd.V_below (by (with_reducible repeat (first | apply Kd.V_alloc | apply Kd.V_drewN | apply Kd.V_drew)); exact HO709.out) hb); have n1_ := Aside0.mk (Kd.V_below (by (with_reducible repeat (first | apply Kd.V_alloc | apply Kd.V_drewN | apply Kd.V_drew)); exact HO712.out) hb); have n2_ := bs HB hb; clear HO709; clear HO712; clear HB; have HO709 := n0_; have HO712 := n1_; have HB := n2_; clear n0_ n1_ n2_; (try clear hb)) | ((with_reducible refine gate_callee (f := 58) rfl ?_); refine gL (some 111) Try.func58 #[.slice Ao70 t710.length co70, .slice Ao69 t707.length co69] ?_; (with_reducible refine (impl_EqualPlans.calls kj43 _ _ t710 _ _ t707 t714 _ ?_ ?_ ?_ ?_ A65.out).mono ?_); (focus repeat (first | exact (Kd.V_reads' HO712.out).2.2 | (with_reducible refine Kd.C_alloc ?_ _) | (with_reducible refine Kd.C_drewN ?_ _) | (with_reducible refine Kd.C_drew ?_))); exact (Kd.V_reads' HO712.out).2.1; (focus repeat (first | exact (Kd.V_reads' HO709.out).2.2 | (with_reducible refine Kd.C_alloc ?_ _) | (with_reducible refine Kd.C_drewN ?_ _) | (with_reducible refine Kd.C_drew ?_))); exact (Kd.V_reads' HO709.out).2.1; rintro e w72 ⟨rfl, hb⟩; refine ⟨_, rfl, ?_⟩; have n0_ := Aside0.mk (Kd.V_below (by (with_reducible repeat (first | apply Kd.V_alloc | apply Kd.V_drewN | apply Kd.V_drew)); exact HO709.out) hb); have n1_ := Aside0.mk (Kd.V_below (by (with_reducible repeat (first | apply Kd.V_alloc | apply Kd.V_drewN | apply Kd.V_drew)); exact HO712.out) hb); have n2_ := bs HB hb; clear HO709; clear HO712; clear HB; have HO709 := n0_; have HO712 := n1_; have HB := n2_; clear n0_ n1_ n2_; (try clear hb)) | (go_at_call 58; (with_reducible refine (impl_EqualPlans.calls kj43 _ _ t707 _ _ t707 t715 _ ?_ ?_ ?_ ?_ A67.out).mono ?_); (focus repeat (first | exact (Kd.V_reads' HO709.out).2.2 | (with_reducible refine Kd.C_alloc ?_ _) | (with_reducible refine Kd.C_drewN ?_ _) | (with_reducible refine Kd.C_drew ?_))); exact (Kd.V_reads' HO709.out).2.1; (focus repeat (first | exact (Kd.V_reads' HO709.out).2.2 | (with_reducible refine Kd.C_alloc ?_ _) | (with_reducible refine Kd.C_drewN ?_ _) | (with_reducible refine Kd.C_drew ?_))); exact (Kd.V_reads' HO709.out).2.1; rintro e w73 ⟨rfl, hb⟩; have n0_ := Aside0.mk (Kd.V_below (by (with_reducible repeat (first | apply Kd.V_alloc | apply Kd.V_drewN | apply Kd.V_drew)); exact HO709.out) hb); have n1_ := Aside0.mk (Kd.V_below (by (with_reducible repeat (first | apply Kd.V_alloc | apply Kd.V_drewN | apply Kd.V_drew)); exact HO712.out) hb); have n2_ := bs HB hb; clear HO709; clear HO712; clear HB; have HO709 := n0_; have HO712 := n1_; have HB := n2_; clear n0_ n1_ n2_; (try clear hb)))
       go_ret
       exact ⟨rA, bA⟩

end Go.Proofs.Ytjgonpcajedkjaa.P
