/- Printed by myprint.py (wip/tools) over the kit's print: what Go's functions compute, and that they do. Lean checks it. -/
import Derived.Test.YtjgonpcajedkjaaF0
import Derived.Test.YtjgonpcajedkjaaFX00
import Derived.Test.YtjgonpcajedkjaaFX00b
import Derived.Test.YtjgonpcajedkjaaFX00c
import Derived.Test.YtjgonpcajedkjaaFX00d
namespace Go.Proofs.Ytjgonpcajedkjaa.P
open Go.RowKit Go.Proofs.YtjgonpcajedkjaaW.PrintWords Go.Proofs.YtjgonpcajedkjaaW.PrintLast Go.Proofs.YtjgonpcajedkjaaW.PrintMore Go.Proofs.Ytjgonpcajedkjaa.Sq
attribute [local go_sem] max2_int min2_int max_two min_two max_three min_three max_four min_four
set_option linter.unusedVariables false
set_option linter.unusedSimpArgs false

/-! ### laws_FnLights: function 8 -/
mutual
def laws_FnLights.j3 : Nat → List Int → Option (Bool)
 | 0, _ => none
 | k + 1, x0 => (spec_DrawIsSafeLights.f k x0).bind fun bt765 => ((impl_IsSafeLights.f k bt765.1 bt765.2).bind fun t771 => (if t771 = true then (laws_FnLights.l1 k bt765.1 bt765.2 (([] : List Int)) 0) else (some true)))
def laws_FnLights.l1 : Nat → List (S50) → List Int → List Int → Int → Option (Bool)
 | 0, _, _, _, _ => none
 | k + 1, x12, x13, x14, x15 => if x15 < (x12.length : Int) then (if 0 ≤ x15 then (if x15 < (x13.length : Int) then (if (rd x13 x15) = 0 then (laws_FnLights.l1 k x12 x13 x14 (wrap64 (x15 + 1))) else (if x14.length < 17592186044416 then (laws_FnLights.l1 k x12 x13 (x14 ++ [(rd_T50 x12 x15).f0]) (wrap64 (x15 + 1))) else (none))) else (none)) else (none)) else ((impl_IsTogether.f k x12 x14).bind fun t780 => (some t780))
def laws_FnLights.j0 : Nat → List Int → List (S50) → List (S85) → Int → List Int → Int → Bool → Option (Bool)
 | 0, _, _, _, _, _, _, _ => none
 | k + 1, x0, x3, x4, x5, x6, x7, x65 => if x65 = true then (none) else ((impl_PartAt.f k x3 x4 x5).bind fun bt752 => (if bt752.1 ≥ 0 then ((impl_StartOf.f k x3 x4 bt752.1).bind fun t754 => (if x7 = 0 then (none) else (if (wrap64 (t754 + bt752.2)) = (Int.tmod x5 x7) then (if 0 ≤ bt752.1 then (if bt752.1 < (x4.length : Int) then (if bt752.2 < ((rd_T85 x4 bt752.1).f1) then ((laws_greens.f k x3 x6).bind fun t757 => ((laws_within.f k ((rd_T85 x4 bt752.1).f0) t757).bind fun t760 => (laws_FnLights.j1 k x0 x3 x4 x7 (!t760)))) else (laws_FnLights.j1 k x0 x3 x4 x7 false)) else (none)) else (none)) else (laws_FnLights.j1 k x0 x3 x4 x7 true)))) else (laws_FnLights.j1 k x0 x3 x4 x7 false)))
def laws_FnLights.j1 : Nat → List Int → List (S50) → List (S85) → Int → Bool → Option (Bool)
 | 0, _, _, _, _, _ => none
 | k + 1, x0, x3, x4, x7, x107 => if x107 = true then (none) else (laws_FnLights.l0 k x0 x3 x4 x7 0)
def laws_FnLights.l0 : Nat → List Int → List (S50) → List (S85) → Int → Int → Option (Bool)
 | 0, _, _, _, _, _ => none
 | k + 1, x0, x3, x4, x7, x10 => if x10 < (x3.length : Int) then (if 0 ≤ x10 then ((impl_GreenOf.f k x3 x4 ((rd_T50 x3 x10).f0)).bind fun t762 => (if t762 < 5 then (none) else ((impl_WaitOf.f k x3 x4 ((rd_T50 x3 x10).f0)).bind fun t764 => (if t764 > (wrap64 (x7 - t762)) then (none) else (laws_FnLights.l0 k x0 x3 x4 x7 (wrap64 (x10 + 1))))))) else (none)) else (laws_FnLights.j3 k x0)
end
def laws_FnLights.f (k : Nat) (l0 : List Int) : Option (Bool) := (laws_big.f l0).bind fun t732 => (if t732 = true then (some true) else ((spec_DrawLightsAt.f k l0).bind fun bt733 => ((impl_LightsAt.f k bt733.1 bt733.2.1 bt733.2.2).bind fun t740 => ((impl_IsPlan.f k bt733.1 bt733.2.1).bind fun t743 => ((spec_IsPlan.f k bt733.1 bt733.2.1).bind fun t744 => (if (t743 != t744) = true then (none) else ((impl_IsPlan.f k bt733.1 bt733.2.1).bind fun t745 => (if t745 = true then ((impl_Cycle.f k bt733.1 bt733.2.1).bind fun t746 => ((impl_IsSafeLights.f k bt733.1 t740).bind fun t747 => (if t747 = true then (if bt733.2.2 ≥ 0 then (if (wrap64 (bt733.2.2 + t746)) ≤ 1000000 then ((impl_LightsAt.f k bt733.1 bt733.2.1 (wrap64 (bt733.2.2 + t746))).bind fun t748 => ((laws_sameInts.f k t740 t748).bind fun t751 => (laws_FnLights.j0 k l0 bt733.1 bt733.2.1 bt733.2.2 t740 t746 (!t751)))) else (laws_FnLights.j0 k l0 bt733.1 bt733.2.1 bt733.2.2 t740 t746 false)) else (laws_FnLights.j0 k l0 bt733.1 bt733.2.1 bt733.2.2 t740 t746 false)) else (laws_FnLights.j0 k l0 bt733.1 bt733.2.1 bt733.2.2 t740 t746 true)))) else (laws_FnLights.j3 k l0)))))))))
theorem laws_FnLights.mono_l : ∀ k, (∀ y0, LeO (laws_FnLights.j3 k y0) (laws_FnLights.j3 (k + 1) y0)) ∧ (∀ y0 y1 y2 y3, LeO (laws_FnLights.l1 k y0 y1 y2 y3) (laws_FnLights.l1 (k + 1) y0 y1 y2 y3)) ∧ (∀ y0 y1 y2 y3 y4 y5 y6, LeO (laws_FnLights.j0 k y0 y1 y2 y3 y4 y5 y6) (laws_FnLights.j0 (k + 1) y0 y1 y2 y3 y4 y5 y6)) ∧ (∀ y0 y1 y2 y3 y4, LeO (laws_FnLights.j1 k y0 y1 y2 y3 y4) (laws_FnLights.j1 (k + 1) y0 y1 y2 y3 y4)) ∧ (∀ y0 y1 y2 y3 y4, LeO (laws_FnLights.l0 k y0 y1 y2 y3 y4) (laws_FnLights.l0 (k + 1) y0 y1 y2 y3 y4))
 | 0 => ⟨fun _ r h => by simp [laws_FnLights.j3] at h, fun _ _ _ _ r h => by simp [laws_FnLights.l1] at h, fun _ _ _ _ _ _ _ r h => by simp [laws_FnLights.j0] at h, fun _ _ _ _ _ r h => by simp [laws_FnLights.j1] at h, fun _ _ _ _ _ r h => by simp [laws_FnLights.l0] at h⟩
 | k + 1 => by
  obtain ⟨ih0, ih1, ih2, ih3, ih4⟩ := laws_FnLights.mono_l k
  refine ⟨?_, ?_, ?_, ?_, ?_⟩
  ·
   intro y0
   unfold laws_FnLights.j3
   repeat' first | (with_reducible first | exact LeO.refl _ | exact LeO.none _ | refine LeO.ite ?_ ?_ | refine LeO.bind ?_ (fun _ => ?_) | exact ih0 _ | exact ih1 _ _ _ _ | exact ih2 _ _ _ _ _ _ _ | exact ih3 _ _ _ _ _ | exact ih4 _ _ _ _ _ | exact impl_Cycle.mono _ _ _ | exact impl_GreenOf.mono _ _ _ _ | exact impl_IsPlan.mono _ _ _ | exact impl_IsSafeLights.mono _ _ _ | exact impl_IsTogether.mono _ _ _ | exact impl_LightsAt.mono _ _ _ _ | exact impl_PartAt.mono _ _ _ _ | exact impl_StartOf.mono _ _ _ _ | exact impl_WaitOf.mono _ _ _ _ | exact laws_greens.mono _ _ _ | exact laws_sameInts.mono _ _ _ | exact laws_within.mono _ _ _ | exact spec_DrawIsSafeLights.mono _ _ | exact spec_DrawLightsAt.mono _ _ | exact spec_IsPlan.mono _ _ _)
  ·
   intro y0 y1 y2 y3
   unfold laws_FnLights.l1
   repeat' first | (with_reducible first | exact LeO.refl _ | exact LeO.none _ | refine LeO.ite ?_ ?_ | refine LeO.bind ?_ (fun _ => ?_) | exact ih0 _ | exact ih1 _ _ _ _ | exact ih2 _ _ _ _ _ _ _ | exact ih3 _ _ _ _ _ | exact ih4 _ _ _ _ _ | exact impl_Cycle.mono _ _ _ | exact impl_GreenOf.mono _ _ _ _ | exact impl_IsPlan.mono _ _ _ | exact impl_IsSafeLights.mono _ _ _ | exact impl_IsTogether.mono _ _ _ | exact impl_LightsAt.mono _ _ _ _ | exact impl_PartAt.mono _ _ _ _ | exact impl_StartOf.mono _ _ _ _ | exact impl_WaitOf.mono _ _ _ _ | exact laws_greens.mono _ _ _ | exact laws_sameInts.mono _ _ _ | exact laws_within.mono _ _ _ | exact spec_DrawIsSafeLights.mono _ _ | exact spec_DrawLightsAt.mono _ _ | exact spec_IsPlan.mono _ _ _)
  ·
   intro y0 y1 y2 y3 y4 y5 y6
   unfold laws_FnLights.j0
   repeat' first | (with_reducible first | exact LeO.refl _ | exact LeO.none _ | refine LeO.ite ?_ ?_ | refine LeO.bind ?_ (fun _ => ?_) | exact ih0 _ | exact ih1 _ _ _ _ | exact ih2 _ _ _ _ _ _ _ | exact ih3 _ _ _ _ _ | exact ih4 _ _ _ _ _ | exact impl_Cycle.mono _ _ _ | exact impl_GreenOf.mono _ _ _ _ | exact impl_IsPlan.mono _ _ _ | exact impl_IsSafeLights.mono _ _ _ | exact impl_IsTogether.mono _ _ _ | exact impl_LightsAt.mono _ _ _ _ | exact impl_PartAt.mono _ _ _ _ | exact impl_StartOf.mono _ _ _ _ | exact impl_WaitOf.mono _ _ _ _ | exact laws_greens.mono _ _ _ | exact laws_sameInts.mono _ _ _ | exact laws_within.mono _ _ _ | exact spec_DrawIsSafeLights.mono _ _ | exact spec_DrawLightsAt.mono _ _ | exact spec_IsPlan.mono _ _ _)
  ·
   intro y0 y1 y2 y3 y4
   unfold laws_FnLights.j1
   repeat' first | (with_reducible first | exact LeO.refl _ | exact LeO.none _ | refine LeO.ite ?_ ?_ | refine LeO.bind ?_ (fun _ => ?_) | exact ih0 _ | exact ih1 _ _ _ _ | exact ih2 _ _ _ _ _ _ _ | exact ih3 _ _ _ _ _ | exact ih4 _ _ _ _ _ | exact impl_Cycle.mono _ _ _ | exact impl_GreenOf.mono _ _ _ _ | exact impl_IsPlan.mono _ _ _ | exact impl_IsSafeLights.mono _ _ _ | exact impl_IsTogether.mono _ _ _ | exact impl_LightsAt.mono _ _ _ _ | exact impl_PartAt.mono _ _ _ _ | exact impl_StartOf.mono _ _ _ _ | exact impl_WaitOf.mono _ _ _ _ | exact laws_greens.mono _ _ _ | exact laws_sameInts.mono _ _ _ | exact laws_within.mono _ _ _ | exact spec_DrawIsSafeLights.mono _ _ | exact spec_DrawLightsAt.mono _ _ | exact spec_IsPlan.mono _ _ _)
  ·
   intro y0 y1 y2 y3 y4
   unfold laws_FnLights.l0
   repeat' first | (with_reducible first | exact LeO.refl _ | exact LeO.none _ | refine LeO.ite ?_ ?_ | refine LeO.bind ?_ (fun _ => ?_) | exact ih0 _ | exact ih1 _ _ _ _ | exact ih2 _ _ _ _ _ _ _ | exact ih3 _ _ _ _ _ | exact ih4 _ _ _ _ _ | exact impl_Cycle.mono _ _ _ | exact impl_GreenOf.mono _ _ _ _ | exact impl_IsPlan.mono _ _ _ | exact impl_IsSafeLights.mono _ _ _ | exact impl_IsTogether.mono _ _ _ | exact impl_LightsAt.mono _ _ _ _ | exact impl_PartAt.mono _ _ _ _ | exact impl_StartOf.mono _ _ _ _ | exact impl_WaitOf.mono _ _ _ _ | exact laws_greens.mono _ _ _ | exact laws_sameInts.mono _ _ _ | exact laws_within.mono _ _ _ | exact spec_DrawIsSafeLights.mono _ _ | exact spec_DrawLightsAt.mono _ _ | exact spec_IsPlan.mono _ _ _)
theorem laws_FnLights.mono : ∀ a0 k, LeO (laws_FnLights.f k a0) (laws_FnLights.f (k + 1) a0) := by
 intro a0 k
 obtain ⟨ih0, ih1, ih2, ih3, ih4⟩ := laws_FnLights.mono_l k
 unfold laws_FnLights.f
 repeat' first | (with_reducible first | exact LeO.refl _ | exact LeO.none _ | refine LeO.ite ?_ ?_ | refine LeO.bind ?_ (fun _ => ?_) | exact ih0 _ | exact ih1 _ _ _ _ | exact ih2 _ _ _ _ _ _ _ | exact ih3 _ _ _ _ _ | exact ih4 _ _ _ _ _ | exact impl_Cycle.mono _ _ _ | exact impl_GreenOf.mono _ _ _ _ | exact impl_IsPlan.mono _ _ _ | exact impl_IsSafeLights.mono _ _ _ | exact impl_IsTogether.mono _ _ _ | exact impl_LightsAt.mono _ _ _ _ | exact impl_PartAt.mono _ _ _ _ | exact impl_StartOf.mono _ _ _ _ | exact impl_WaitOf.mono _ _ _ _ | exact laws_greens.mono _ _ _ | exact laws_sameInts.mono _ _ _ | exact laws_within.mono _ _ _ | exact spec_DrawIsSafeLights.mono _ _ | exact spec_DrawLightsAt.mono _ _ | exact spec_IsPlan.mono _ _ _)
def laws_FnLights.T12 : Bool × List (List Nat × List Nat) := (true, [([], []), ([0], [0]), ([1], [1]), ([2], [2]), ([2], [2]), ([2], [2]), ([3, 4, 5, 2, 2], [2, 3, 4, 5]), ([2], [2]), ([6, 7, 2], [2, 6, 7]), ([2], [2]), ([2], [2]), ([9, 10, 2], [2, 9, 10]), ([8, 11, 2], [2, 8, 11]), ([12, 6, 2], [2, 12]), ([13], [13]), ([13], [13]), ([13], [13]), ([15, 16, 13], [13, 15, 16]), ([17, 13], [13, 17]), ([18, 13], [13, 18]), ([14, 19, 13], [13, 14, 19]), ([20, 13, 13], [13, 20]), ([21], [21]), ([21], [21]), ([22, 23, 21], [21, 22, 23]), ([24, 21], [21, 24]), ([25, 21], [21, 25]), ([21], [21]), ([21], [21]), ([27, 28, 21, 21], [21, 27, 28]), ([26, 29, 29, 21], [21, 26, 29]), ([30, 21], [21, 30]), ([21, 31, 13], [13, 21, 31]), ([13, 32, 2], [2, 13, 32]), ([2, 33], [2, 33])])
def laws_FnLights.B12 : List Nat := [0, 1, 3, 7, 7, 7, 63, 7, 255, 7, 7, 1543, 4095, 8191, 16383, 16383, 16383, 114687, 245759, 507903, 1048575, 2097151, 4194303, 4194303, 16777215, 33554431, 67108863, 4194303, 4194303, 406847487, 1073741823, 2147483647, 4294967295, 8589934591, 17179869183]
theorem laws_FnLights.tab12 : rtab .any (opsOf Try.f8 12) = laws_FnLights.T12 := by kernel_rfl
theorem laws_FnLights.bits12 : waitsOk laws_FnLights.T12.2 laws_FnLights.B12 = true := by kernel_rfl
set_option maxHeartbeats 8000000 in
set_option maxRecDepth 100000 in
theorem laws_FnLights.calls (k : Nat) (A0 : Option Addr) (c0 : Nat) (l0 : List Int) (r : Bool) (w : World) (hr0 : Kd.C (Kd.int .u8) w A0 l0.length l0) (hc0 : l0.length ≤ c0) (h : laws_FnLights.f k l0 = some r) :
  Calls Try.prog 8 #[.slice A0 l0.length c0] w fun e w' => e = .returned (.bool r) ∧ Below w.heap.size w w' := by
 have HR0 := Aside0.mk hr0
 have HC0 := Aside0.mk hc0
 clear hr0 hc0
 have HB := Aside0.mk (Below.refl w.heap.size w)
 have H : ((laws_big.f l0).bind fun t732 => (if t732 = true then (some true) else ((spec_DrawLightsAt.f k l0).bind fun bt733 => ((impl_LightsAt.f k bt733.1 bt733.2.1 bt733.2.2).bind fun t740 => ((impl_IsPlan.f k bt733.1 bt733.2.1).bind fun t743 => ((spec_IsPlan.f k bt733.1 bt733.2.1).bind fun t744 => (if (t743 != t744) = true then (none) else ((impl_IsPlan.f k bt733.1 bt733.2.1).bind fun t745 => (if t745 = true then ((impl_Cycle.f k bt733.1 bt733.2.1).bind fun t746 => ((impl_IsSafeLights.f k bt733.1 t740).bind fun t747 => (if t747 = true then (if bt733.2.2 ≥ 0 then (if (wrap64 (bt733.2.2 + t746)) ≤ 1000000 then ((impl_LightsAt.f k bt733.1 bt733.2.1 (wrap64 (bt733.2.2 + t746))).bind fun t748 => ((laws_sameInts.f k t740 t748).bind fun t751 => (laws_FnLights.j0 k l0 bt733.1 bt733.2.1 bt733.2.2 t740 t746 (!t751)))) else (laws_FnLights.j0 k l0 bt733.1 bt733.2.1 bt733.2.2 t740 t746 false)) else (laws_FnLights.j0 k l0 bt733.1 bt733.2.1 bt733.2.2 t740 t746 false)) else (laws_FnLights.j0 k l0 bt733.1 bt733.2.1 bt733.2.2 t740 t746 true)))) else (laws_FnLights.j3 k l0)))))))))) = some r := h
 clear h
 obtain ⟨t732, A2, H⟩ := bindE H
 try dsimp only at H
 by_cases c3 : t732 = true
 ·
  subst c3
  have H1 : (some true) = some r := by rw [if_pos rfl] at H; exact H
  clear H
  have H := H1
  clear H1
  obtain rfl := Option.some.inj H
  go_enter Try.func8, Try.ntmps8
  go_wp2_with (first | ((with_reducible refine gate_callee (f := 10) rfl ?_); refine gL (some 17) Try.func10 #[.slice A0 l0.length c0] ?_; (with_reducible refine (laws_big.calls _ _ l0 true _ ?_ ?_ A2.out).mono ?_); exact cO HR0; exact HC0.out; rintro e w' ⟨rfl, ⟨nd, rfl⟩⟩; refine ⟨_, rfl, ?_⟩))
  go_ret
  exact ⟨rA, bA⟩
 replace c3 := Bool.eq_false_iff.mpr c3
 subst c3
 have H1 : ((spec_DrawLightsAt.f k l0).bind fun bt733 => ((impl_LightsAt.f k bt733.1 bt733.2.1 bt733.2.2).bind fun t740 => ((impl_IsPlan.f k bt733.1 bt733.2.1).bind fun t743 => ((spec_IsPlan.f k bt733.1 bt733.2.1).bind fun t744 => (if (t743 != t744) = true then (none) else ((impl_IsPlan.f k bt733.1 bt733.2.1).bind fun t745 => (if t745 = true then ((impl_Cycle.f k bt733.1 bt733.2.1).bind fun t746 => ((impl_IsSafeLights.f k bt733.1 t740).bind fun t747 => (if t747 = true then (if bt733.2.2 ≥ 0 then (if (wrap64 (bt733.2.2 + t746)) ≤ 1000000 then ((impl_LightsAt.f k bt733.1 bt733.2.1 (wrap64 (bt733.2.2 + t746))).bind fun t748 => ((laws_sameInts.f k t740 t748).bind fun t751 => (laws_FnLights.j0 k l0 bt733.1 bt733.2.1 bt733.2.2 t740 t746 (!t751)))) else (laws_FnLights.j0 k l0 bt733.1 bt733.2.1 bt733.2.2 t740 t746 false)) else (laws_FnLights.j0 k l0 bt733.1 bt733.2.1 bt733.2.2 t740 t746 false)) else (laws_FnLights.j0 k l0 bt733.1 bt733.2.1 bt733.2.2 t740 t746 true)))) else (laws_FnLights.j3 k l0)))))))) = some r := by rw [if_neg (show ¬ (false = true) by decide)] at H; exact H
 clear H
 have H := H1
 clear H1
 obtain ⟨⟨t733, t736, t739⟩, A4, H⟩ := bindE H
 try dsimp only at H
 obtain ⟨t740, A5, H⟩ := bindE H
 try dsimp only at H
 obtain ⟨t743, A6, H⟩ := bindE H
 try dsimp only at H
 obtain ⟨t744, A7, H⟩ := bindE H
 try dsimp only at H
 have c8 : ¬ ((t743 != t744) = true) := ifN' H
 replace H := ifT' H
 have c8b0 : (t743 != t744) = false := by simpa using c8
 (try (have c8b1 : decide (t743 = t744) = true := by simpa using c8))
 (try (have c8b2 : (t743 == t744) = true := by simpa using c8))
 clear c8
 obtain ⟨t745, A9, H⟩ := bindE H
 try dsimp only at H
 have HC10 := Aside0.mk H
 clear H
 go_enter Try.func8, Try.ntmps8
 go_upto_if 37 with (first | ((with_reducible refine gate_callee (f := 10) rfl ?_); refine gL (some 17) Try.func10 #[.slice A0 l0.length c0] ?_; (with_reducible refine (laws_big.calls _ _ l0 false _ ?_ ?_ A2.out).mono ?_); exact cO HR0; exact HC0.out; rintro e w' ⟨rfl, ⟨nd, rfl⟩⟩; refine ⟨_, rfl, ?_⟩) | ((with_reducible refine gate_callee (f := 59) rfl ?_); refine gL (some 20) Try.func59 #[.slice A0 l0.length c0] ?_; (with_reducible refine (spec_DrawLightsAt.calls k _ _ l0 t733 t736 t739 _ ?_ ?_ A4.out).mono ?_); exact cO HR0; exact HC0.out; rintro e w11 ⟨v734, v737, rfl, ho0, ho1, hb⟩; refine ⟨_, rfl, ?_⟩; have HO735 := rl w (Kd.R_mono (ok' := fun k_ => True) ho0 (fun _ hk_ => trivial)); have HO738 := Aside0.mk (Kd.V_lower (Kd.V_mono (ok' := n1 v734) ho1 (fun k_ hk_ => hk_.2)) (below_size bA)); replace HB := bs HB hb; (try clear hb); (try clear ho0); (try clear ho1); obtain ⟨Ao12, co12, eo12⟩ := Kd.R_slice HO735.out; subst eo12; obtain ⟨Ao13, co13, eo13⟩ := Kd.V_slice HO738.out; subst eo13) | ((with_reducible refine gate_callee (f := 60) rfl ?_); refine gL (some 27) Try.func60 #[.slice Ao12 t733.length co12, .slice Ao13 t736.length co13, .int .i64 t739] ?_; (with_reducible refine (impl_LightsAt.calls k _ _ t733 _ _ t736 t739 t740 _ ?_ ?_ ?_ ?_ A5.out).mono ?_); exact cO ⟨(Kd.R_reads' HO735.out).2.2⟩; exact (Kd.R_reads' HO735.out).2.1; (focus repeat (first | exact (Kd.V_reads' HO738.out).2.2 | (with_reducible refine Kd.C_alloc ?_ _) | (with_reducible refine Kd.C_drewN ?_ _) | (with_reducible refine Kd.C_drew ?_))); exact (Kd.V_reads' HO738.out).2.1; rintro e w14 ⟨v741, rfl, ho0, hb⟩; refine ⟨_, rfl, ?_⟩; have n0_ := rb HO735 hb; have n1_ := Aside0.mk (Kd.V_elder' (by (with_reducible repeat (first | apply Kd.V_alloc | apply Kd.V_drewN | apply Kd.V_drew)); exact HO738.out) (Kd.R_base ho0) hb); have n2_ := rl w ho0; have n3_ := bs HB hb; clear HO735; clear HO738; clear HB; have HO735 := n0_; have HO738 := n1_; have HO742 := n2_; have HB := n3_; clear n0_ n1_ n2_ n3_; (try clear hb); (try clear ho0)) | ((with_reducible refine gate_callee (f := 15) rfl ?_); refine gL (some 30) Try.func15 #[.slice Ao12 t733.length co12, .slice Ao13 t736.length co13] ?_; (with_reducible refine (impl_IsPlan.calls k _ _ t733 (fun k_ => (some k_ ≠ (.slice Ao12 t733.length co12 : Value).ownBlock ∧ some k_ ≠ (v741 : Value).ownBlock)) _ _ t736 t743 _ ?_ ?_ ?_ A6.out).mono ?_); exact cO ⟨(Kd.R_reads' HO735.out).2.2⟩; exact (Kd.R_reads' HO735.out).2.1; exact HO738.out; rintro e w15 ⟨rfl, hb⟩; refine ⟨_, rfl, ?_⟩; have n0_ := rb HO735 hb; have n1_ := Aside0.mk (Kd.V_below (by (with_reducible repeat (first | apply Kd.V_alloc | apply Kd.V_drewN | apply Kd.V_drew)); exact HO738.out) hb); have n2_ := rb HO742 hb; have n3_ := bs HB hb; clear HO735; clear HO738; clear HO742; clear HB; have HO735 := n0_; have HO738 := n1_; have HO742 := n2_; have HB := n3_; clear n0_ n1_ n2_ n3_; (try clear hb)) | ((with_reducible refine gate_callee (f := 61) rfl ?_); refine gL (some 33) Try.func61 #[.slice Ao12 t733.length co12, .slice Ao13 t736.length co13] ?_; (with_reducible refine (spec_IsPlan.calls k _ _ t733 _ _ t736 t744 _ ?_ ?_ ?_ ?_ A7.out).mono ?_); exact cO ⟨(Kd.R_reads' HO735.out).2.2⟩; exact (Kd.R_reads' HO735.out).2.1; (focus repeat (first | exact (Kd.V_reads' HO738.out).2.2 | (with_reducible refine Kd.C_alloc ?_ _) | (with_reducible refine Kd.C_drewN ?_ _) | (with_reducible refine Kd.C_drew ?_))); exact (Kd.V_reads' HO738.out).2.1; rintro e w16 ⟨rfl, hb⟩; refine ⟨_, rfl, ?_⟩; have n0_ := rb HO735 hb; have n1_ := Aside0.mk (Kd.V_below (by (with_reducible repeat (first | apply Kd.V_alloc | apply Kd.V_drewN | apply Kd.V_drew)); exact HO738.out) hb); have n2_ := rb HO742 hb; have n3_ := bs HB hb; clear HO735; clear HO738; clear HO742; clear HB; have HO735 := n0_; have HO738 := n1_; have HO742 := n2_; have HB := n3_; clear n0_ n1_ n2_ n3_; (try clear hb)) | ((with_reducible refine gate_callee (f := 15) rfl ?_); refine gL (some 37) Try.func15 #[.slice Ao12 t733.length co12, .slice Ao13 t736.length co13] ?_; (with_reducible refine (impl_IsPlan.calls k _ _ t733 (fun k_ => (some k_ ≠ (.slice Ao12 t733.length co12 : Value).ownBlock ∧ some k_ ≠ (v741 : Value).ownBlock)) _ _ t736 t745 _ ?_ ?_ ?_ A9.out).mono ?_); exact cO ⟨(Kd.R_reads' HO735.out).2.2⟩; exact (Kd.R_reads' HO735.out).2.1; exact HO738.out; rintro e w17 ⟨rfl, hb⟩; refine ⟨_, rfl, ?_⟩; have n0_ := rb HO735 hb; have n1_ := Aside0.mk (Kd.V_below (by (with_reducible repeat (first | apply Kd.V_alloc | apply Kd.V_drewN | apply Kd.V_drew)); exact HO738.out) hb); have n2_ := rb HO742 hb; have n3_ := bs HB hb; clear HO735; clear HO738; clear HO742; clear HB; have HO735 := n0_; have HO738 := n1_; have HO742 := n2_; have HB := n3_; clear n0_ n1_ n2_ n3_; (try clear hb)))
 (try simp only [Act.put, List.setIfInBounds_toArray, List.set_cons_zero, List.set_cons_succ])
 go_cut [] (fun wc => ∃ (kq : Nat), Aside0 (laws_FnLights.j3 kq l0 = some r) ∧ Aside0 (kq ≤ k) ∧ Aside0 (Below w.heap.size w wc))
 case first =>
  have H := HC10.out
  clear HC10
  by_cases c18 : t745 = true
  ·
   subst c18
   have H1 : ((impl_Cycle.f k t733 t736).bind fun t746 => ((impl_IsSafeLights.f k t733 t740).bind fun t747 => (if t747 = true then (if t739 ≥ 0 then (if (wrap64 (t739 + t746)) ≤ 1000000 then ((impl_LightsAt.f k t733 t736 (wrap64 (t739 + t746))).bind fun t748 => ((laws_sameInts.f k t740 t748).bind fun t751 => (laws_FnLights.j0 k l0 t733 t736 t739 t740 t746 (!t751)))) else (laws_FnLights.j0 k l0 t733 t736 t739 t740 t746 false)) else (laws_FnLights.j0 k l0 t733 t736 t739 t740 t746 false)) else (laws_FnLights.j0 k l0 t733 t736 t739 t740 t746 true)))) = some r := by rw [if_pos rfl] at H; exact H
   clear H
   have H := H1
   clear H1
   obtain ⟨t746, A19, H⟩ := bindE H
   try dsimp only at H
   have HC20 := Aside0.mk H
   clear H
   go_upto_region 9 with (first | ((with_reducible refine gate_callee (f := 56) rfl ?_); refine gL (some 40) Try.func56 #[.slice Ao12 t733.length co12, .slice Ao13 t736.length co13] ?_; (with_reducible refine (impl_Cycle.calls k _ _ t733 _ _ t736 t746 _ ?_ ?_ ?_ ?_ A19.out).mono ?_); exact cO ⟨(Kd.R_reads' HO735.out).2.2⟩; exact (Kd.R_reads' HO735.out).2.1; (focus repeat (first | exact (Kd.V_reads' HO738.out).2.2 | (with_reducible refine Kd.C_alloc ?_ _) | (with_reducible refine Kd.C_drewN ?_ _) | (with_reducible refine Kd.C_drew ?_))); exact (Kd.V_reads' HO738.out).2.1; rintro e w21 ⟨rfl, hb⟩; refine ⟨_, rfl, ?_⟩; have n0_ := rb HO735 hb; have n1_ := Aside0.mk (Kd.V_below (by (with_reducible repeat (first | apply Kd.V_alloc | apply Kd.V_drewN | apply Kd.V_drew)); exact HO738.out) hb); have n2_ := rb HO742 hb; have n3_ := bs HB hb; clear HO735; clear HO738; clear HO742; clear HB; have HO735 := n0_; have HO738 := n1_; have HO742 := n2_; have HB := n3_; clear n0_ n1_ n2_ n3_; (try clear hb)))
   (try simp only [Act.put, List.setIfInBounds_toArray, List.set_cons_zero, List.set_cons_succ])
   go_cut [65] (fun v65 wc => ∃ (kq : Nat) (x65_19 : Bool), v65 = .bool x65_19 ∧ Aside0 (laws_FnLights.j0 kq l0 t733 t736 t739 t740 t746 x65_19 = some r) ∧ Aside0 (kq ≤ k) ∧ Aside0 (Kd.R k50 50 wc w.heap.size (fun _ => True) (.slice Ao12 t733.length co12) t733) ∧ Aside0 (Kd.V k85 85 wc w.heap.size (n2 (.slice Ao12 t733.length co12) v741) (.slice Ao13 t736.length co13) t736) ∧ Aside0 (Kd.R (Kd.int .i64) 3 wc w.heap.size (fun _ => True) v741 t740) ∧ Aside0 (Below w.heap.size w wc))
   case first =>
    have H := HC20.out
    clear HC20
    obtain ⟨t747, A22, H⟩ := bindE H
    try dsimp only at H
    by_cases c23 : t747 = true
    ·
     subst c23
     have H1 : (if t739 ≥ 0 then (if (wrap64 (t739 + t746)) ≤ 1000000 then ((impl_LightsAt.f k t733 t736 (wrap64 (t739 + t746))).bind fun t748 => ((laws_sameInts.f k t740 t748).bind fun t751 => (laws_FnLights.j0 k l0 t733 t736 t739 t740 t746 (!t751)))) else (laws_FnLights.j0 k l0 t733 t736 t739 t740 t746 false)) else (laws_FnLights.j0 k l0 t733 t736 t739 t740 t746 false)) = some r := by rw [if_pos rfl] at H; exact H
     clear H
     have H := H1
     clear H1
     by_cases c24 : t739 ≥ 0
     ·
      rw [if_pos c24] at H
      have c24b0 := decide_eq_true c24
      clear c24
      (first | rw [c24b0] | (simp only [i64_w, i32_w]; rw [c24b0]) | skip)
      by_cases c25 : (wrap64 (t739 + t746)) ≤ 1000000
      ·
       rw [if_pos c25] at H
       have c25b0 := decide_eq_true c25
       clear c25
       obtain ⟨t748, A26, H⟩ := bindE H
       try dsimp only at H
       obtain ⟨t751, A27, H⟩ := bindE H
       try dsimp only at H
       have H' := Aside0.mk H
       clear H
       obtain ⟨Ao28, co28, eo28⟩ := Kd.R_slice HO742.out
       subst eo28
       go_wp2_with (first | ((with_reducible refine gate_callee (f := 49) rfl ?_); refine gL (some 43) Try.func49 #[.slice Ao12 t733.length co12, .slice Ao28 t740.length co28] ?_; (with_reducible refine (impl_IsSafeLights.calls k _ _ t733 _ _ t740 true _ ?_ ?_ ?_ ?_ A22.out).mono ?_); exact cO ⟨(Kd.R_reads' HO735.out).2.2⟩; exact (Kd.R_reads' HO735.out).2.1; exact cO ⟨(Kd.R_reads' HO742.out).2.2⟩; exact (Kd.R_reads' HO742.out).2.1; rintro e w29 ⟨rfl, hb⟩; refine ⟨_, rfl, ?_⟩; have n0_ := rb HO735 hb; have n1_ := Aside0.mk (Kd.V_below (by (with_reducible repeat (first | apply Kd.V_alloc | apply Kd.V_drewN | apply Kd.V_drew)); exact HO738.out) hb); have n2_ := rb HO742 hb; have n3_ := bs HB hb; clear HO735; clear HO738; clear HO742; clear HB; have HO735 := n0_; have HO738 := n1_; have HO742 := n2_; have HB := n3_; clear n0_ n1_ n2_ n3_; (try clear hb)) | (go_at_call 60; (with_reducible refine (impl_LightsAt.calls k _ _ t733 _ _ t736 (wrap64 (t739 + t746)) t748 _ ?_ ?_ ?_ ?_ A26.out).mono ?_); exact cO ⟨(Kd.R_reads' HO735.out).2.2⟩; exact (Kd.R_reads' HO735.out).2.1; (focus repeat (first | exact (Kd.V_reads' HO738.out).2.2 | (with_reducible refine Kd.C_alloc ?_ _) | (with_reducible refine Kd.C_drewN ?_ _) | (with_reducible refine Kd.C_drew ?_))); exact (Kd.V_reads' HO738.out).2.1; rintro e w30 ⟨v749, rfl, ho0, hb⟩; have n0_ := rb HO735 hb; have n1_ := Aside0.mk (Kd.V_elder' (by (with_reducible repeat (first | apply Kd.V_alloc | apply Kd.V_drewN | apply Kd.V_drew)); exact HO738.out) (Kd.R_base ho0) hb); have n2_ := re HO742 ho0 hb; have n3_ := rl w (rn ho0 HO742); have n4_ := bs HB hb; clear HO735; clear HO738; clear HO742; clear HB; have HO735 := n0_; have HO738 := n1_; have HO742 := n2_; have HO750 := n3_; have HB := n4_; clear n0_ n1_ n2_ n3_ n4_; (try clear hb); (try clear ho0); obtain ⟨Ao31, co31, eo31⟩ := Kd.R_slice HO750.out; subst eo31) | (go_at_call 47; (with_reducible refine (laws_sameInts.calls k _ _ t740 _ _ t748 t751 _ ?_ ?_ ?_ ?_ A27.out).mono ?_); exact cO ⟨(Kd.R_reads' HO742.out).2.2⟩; exact (Kd.R_reads' HO742.out).2.1; exact cO ⟨(Kd.R_reads' HO750.out).2.2⟩; exact (Kd.R_reads' HO750.out).2.1; rintro e w' ⟨rfl, ⟨nd, rfl⟩⟩))
       go_meet
       case rel => exact ⟨_, (!t751), rS, H', ⟨oL⟩, ⟨rK HO735⟩, ⟨by (with_reducible repeat (first | apply Kd.V_alloc | apply Kd.V_drewN | apply Kd.V_drew)); exact Kd.V_mono HO738.out (fun _ hk => ⟨hk.1.1, hk.1.2⟩)⟩, ⟨rm HO742 (fun _ hk => trivial)⟩, ⟨bA⟩⟩
      rw [if_neg c25] at H
      have c25b0 := decide_eq_false c25
      clear c25
      have H' := Aside0.mk H
      clear H
      obtain ⟨Ao32, co32, eo32⟩ := Kd.R_slice HO742.out
      subst eo32
      go_wp2_with (first | ((with_reducible refine gate_callee (f := 49) rfl ?_); refine gL (some 43) Try.func49 #[.slice Ao12 t733.length co12, .slice Ao32 t740.length co32] ?_; (with_reducible refine (impl_IsSafeLights.calls k _ _ t733 _ _ t740 true _ ?_ ?_ ?_ ?_ A22.out).mono ?_); exact cO ⟨(Kd.R_reads' HO735.out).2.2⟩; exact (Kd.R_reads' HO735.out).2.1; exact cO ⟨(Kd.R_reads' HO742.out).2.2⟩; exact (Kd.R_reads' HO742.out).2.1; rintro e w33 ⟨rfl, hb⟩; refine ⟨_, rfl, ?_⟩; have n0_ := rb HO735 hb; have n1_ := Aside0.mk (Kd.V_below (by (with_reducible repeat (first | apply Kd.V_alloc | apply Kd.V_drewN | apply Kd.V_drew)); exact HO738.out) hb); have n2_ := rb HO742 hb; have n3_ := bs HB hb; clear HO735; clear HO738; clear HO742; clear HB; have HO735 := n0_; have HO738 := n1_; have HO742 := n2_; have HB := n3_; clear n0_ n1_ n2_ n3_; (try clear hb)))
      go_meet
      case rel => exact ⟨_, (false), rS, H', ⟨oL⟩, ⟨rK HO735⟩, ⟨by (with_reducible repeat (first | apply Kd.V_alloc | apply Kd.V_drewN | apply Kd.V_drew)); exact HO738.out⟩, ⟨rK HO742⟩, ⟨bA⟩⟩
     rw [if_neg c24] at H
     have c24b0 := decide_eq_false c24
     clear c24
     (first | rw [c24b0] | (simp only [i64_w, i32_w]; rw [c24b0]) | skip)
     have H' := Aside0.mk H
     clear H
     obtain ⟨Ao34, co34, eo34⟩ := Kd.R_slice HO742.out
     subst eo34
     go_wp2_with (first | ((with_reducible refine gate_callee (f := 49) rfl ?_); refine gL (some 43) Try.func49 #[.slice Ao12 t733.length co12, .slice Ao34 t740.length co34] ?_; (with_reducible refine (impl_IsSafeLights.calls k _ _ t733 _ _ t740 true _ ?_ ?_ ?_ ?_ A22.out).mono ?_); exact cO ⟨(Kd.R_reads' HO735.out).2.2⟩; exact (Kd.R_reads' HO735.out).2.1; exact cO ⟨(Kd.R_reads' HO742.out).2.2⟩; exact (Kd.R_reads' HO742.out).2.1; rintro e w35 ⟨rfl, hb⟩; refine ⟨_, rfl, ?_⟩; have n0_ := rb HO735 hb; have n1_ := Aside0.mk (Kd.V_below (by (with_reducible repeat (first | apply Kd.V_alloc | apply Kd.V_drewN | apply Kd.V_drew)); exact HO738.out) hb); have n2_ := rb HO742 hb; have n3_ := bs HB hb; clear HO735; clear HO738; clear HO742; clear HB; have HO735 := n0_; have HO738 := n1_; have HO742 := n2_; have HB := n3_; clear n0_ n1_ n2_ n3_; (try clear hb)))
     go_meet
     case rel => exact ⟨_, (false), rS, H', ⟨oL⟩, ⟨rK HO735⟩, ⟨by (with_reducible repeat (first | apply Kd.V_alloc | apply Kd.V_drewN | apply Kd.V_drew)); exact HO738.out⟩, ⟨rK HO742⟩, ⟨bA⟩⟩
    replace c23 := Bool.eq_false_iff.mpr c23
    subst c23
    have H1 : (laws_FnLights.j0 k l0 t733 t736 t739 t740 t746 true) = some r := by rw [if_neg (show ¬ (false = true) by decide)] at H; exact H
    clear H
    have H := H1
    clear H1
    have H' := Aside0.mk H
    clear H
    obtain ⟨Ao36, co36, eo36⟩ := Kd.R_slice HO742.out
    subst eo36
    go_wp2_with (first | ((with_reducible refine gate_callee (f := 49) rfl ?_); refine gL (some 43) Try.func49 #[.slice Ao12 t733.length co12, .slice Ao36 t740.length co36] ?_; (with_reducible refine (impl_IsSafeLights.calls k _ _ t733 _ _ t740 false _ ?_ ?_ ?_ ?_ A22.out).mono ?_); exact cO ⟨(Kd.R_reads' HO735.out).2.2⟩; exact (Kd.R_reads' HO735.out).2.1; exact cO ⟨(Kd.R_reads' HO742.out).2.2⟩; exact (Kd.R_reads' HO742.out).2.1; rintro e w37 ⟨rfl, hb⟩; refine ⟨_, rfl, ?_⟩; have n0_ := rb HO735 hb; have n1_ := Aside0.mk (Kd.V_below (by (with_reducible repeat (first | apply Kd.V_alloc | apply Kd.V_drewN | apply Kd.V_drew)); exact HO738.out) hb); have n2_ := rb HO742 hb; have n3_ := bs HB hb; clear HO735; clear HO738; clear HO742; clear HB; have HO735 := n0_; have HO738 := n1_; have HO742 := n2_; have HB := n3_; clear n0_ n1_ n2_ n3_; (try clear hb)))
    go_meet
    case rel => exact ⟨_, (true), rS, H', ⟨oL⟩, ⟨rK HO735⟩, ⟨by (with_reducible repeat (first | apply Kd.V_alloc | apply Kd.V_drewN | apply Kd.V_drew)); exact HO738.out⟩, ⟨rK HO742⟩, ⟨bA⟩⟩
   case rest =>
    clear HC20
    obtain ⟨kq, x65_19, rfl, HA, HJ19, HO_3, HO_4, HO_6, HB⟩ := hcut
    cases kq with
    | zero => exact absurd HA.out (by simp [laws_FnLights.j0])
    | succ kj19 =>
     have H := HA.out
     clear HA
     simp only [laws_FnLights.j0] at H
     have c38 := ifN' H
     replace H := ifT' H
     replace c38 := Bool.eq_false_iff.mpr c38
     subst c38
     obtain ⟨⟨t752, t753⟩, A39, H⟩ := bindE H
     try dsimp only at H
     have HC40 := Aside0.mk H
     clear H
     go_upto_region 12 with (first | ((with_reducible refine gate_callee (f := 62) rfl ?_); refine gL (some 70) Try.func62 #[.slice Ao12 t733.length co12, .slice Ao13 t736.length co13, .int .i64 t739] ?_; (with_reducible refine (impl_PartAt.calls kj19 _ _ t733 _ _ t736 t739 t752 t753 _ ?_ ?_ ?_ ?_ A39.out).mono ?_); exact cO ⟨(Kd.R_reads' HO_3.out).2.2⟩; exact (Kd.R_reads' HO_3.out).2.1; (focus repeat (first | exact (Kd.V_reads' HO_4.out).2.2 | (with_reducible refine Kd.C_alloc ?_ _) | (with_reducible refine Kd.C_drewN ?_ _) | (with_reducible refine Kd.C_drew ?_))); exact (Kd.V_reads' HO_4.out).2.1; rintro e w41 ⟨rfl, hb⟩; refine ⟨_, rfl, ?_⟩; have n0_ := rb HO_3 hb; have n1_ := Aside0.mk (Kd.V_below (by (with_reducible repeat (first | apply Kd.V_alloc | apply Kd.V_drewN | apply Kd.V_drew)); exact HO_4.out) hb); have n2_ := rb HO_6 hb; have n3_ := bs HB hb; clear HO_3; clear HO_4; clear HO_6; clear HB; have HO_3 := n0_; have HO_4 := n1_; have HO_6 := n2_; have HB := n3_; clear n0_ n1_ n2_ n3_; (try clear hb)))
     (try simp only [Act.put, List.setIfInBounds_toArray, List.set_cons_zero, List.set_cons_succ])
     go_cut [107] (fun v107 wc => ∃ (kq : Nat) (x107_39 : Bool), v107 = .bool x107_39 ∧ Aside0 (laws_FnLights.j1 kq l0 t733 t736 t746 x107_39 = some r) ∧ Aside0 (kq ≤ kj19) ∧ Aside0 (Kd.R k50 50 wc w.heap.size (fun _ => True) (.slice Ao12 t733.length co12) t733) ∧ Aside0 (Kd.V k85 85 wc w.heap.size (n1 (.slice Ao12 t733.length co12)) (.slice Ao13 t736.length co13) t736) ∧ Aside0 (Below w.heap.size w wc))
     case first =>
      have H := HC40.out
      clear HC40
      by_cases c42 : t752 ≥ 0
      ·
       rw [if_pos c42] at H
       have c42b0 := decide_eq_true c42
       clear c42
       (first | rw [c42b0] | (simp only [i64_w, i32_w]; rw [c42b0]) | skip)
       obtain ⟨t754, A43, H⟩ := bindE H
       try dsimp only at H
       have c44 : ¬ (t746 = 0) := ifN' H
       replace H := ifT' H
       have c44b0 : (t746 == 0) = false := beq_eq_false_iff_ne.mpr c44
       have c44b1 : (t746 != 0) = true := bne_iff_ne.mpr c44
       by_cases c45 : (wrap64 (t754 + t753)) = (Int.tmod t739 t746)
       ·
        rw [if_pos c45] at H
        have c45b0 : ((wrap64 (t754 + t753)) == (Int.tmod t739 t746)) = true := beq_iff_eq.mpr c45
        have c45b1 : ((wrap64 (t754 + t753)) != (Int.tmod t739 t746)) = false := bne_eq_false_iff_eq.mpr c45
        clear c45
        have c46 : 0 ≤ t752 := ifN H
        replace H := ifT H
        have c46b0 := decide_eq_true c46
        clear c46
        have c47 : t752 < (t736.length : Int) := ifN H
        replace H := ifT H
        have c47b0 := decide_eq_true c47
        clear c47
        by_cases c48 : t753 < ((rd_T85 t736 t752).f1)
        ·
         rw [if_pos c48] at H
         have c48b0 := decide_eq_true c48
         clear c48
         obtain ⟨t757, A49, H⟩ := bindE H
         try dsimp only at H
         obtain ⟨t760, A50, H⟩ := bindE H
         try dsimp only at H
         have H' := Aside0.mk H
         clear H
         try go_wp2
         replace HO_3 := dr HO_3
         replace HO_4 := dv HO_4
         replace HO_6 := dr HO_6
         have HBo := HB
         replace HB := db HB
         obtain ⟨p755, q755⟩ : 0 ≤ (t752 : Int) ∧ t752 < (t736.length : Int) := ⟨dA, dA⟩
         obtain ⟨ad755, A755_0, c755_0, e755, hx755_0, hx755_1, hl755_0, hi755_0⟩ := at_T85 (Kd.V_reads' HO_4.out).2.2 t752 p755 q755
         cases e755
         obtain ⟨ce755, hce755, hMe755, hcc755⟩ := Kd.V_get HO_4.out z85 t752 p755 (by first | exact q755 | exact dA | (have e_ := (Kd.V_reads' HO_4.out).1; omega))
         obtain ⟨ua755_0, uc755_0, rfl, ul755_0, ge755_0⟩ := k85_openF hMe755
         have hv755_0 := hcc755 0 _ rfl
         rw [Nat.add_zero] at hv755_0
         replace hv755_0 := Option.some.inj (hv755_0.symm.trans hx755_0)
         injection hv755_0 with hva_ hvn_ hvc_
         rw [hva_] at ge755_0
         rw [hvc_] at ul755_0
         have HL755_0 := Aside0.mk (show Kd.V (Kd.int .i64) 3 _ w.heap.size _ _ ((rd_T85 t736 t752).f0) from Kd.V_mk ul755_0 ge755_0)
         clear hva_ hvn_ hvc_ ge755_0 ul755_0
         clear hcc755 hce755
         have HR755_0 := Aside0.mk hi755_0
         have HC755_0 := Aside0.mk hl755_0
         clear hi755_0 hl755_0
         obtain ⟨p755, q755⟩ := eT p755 q755
         obtain ⟨p756, q756⟩ : 0 ≤ (t752 : Int) ∧ t752 < (t736.length : Int) := ⟨dA, dA⟩
         obtain ⟨ad756, A756_0, c756_0, e756, hx756_0, hx756_1, hl756_0, hi756_0⟩ := at_T85 (Kd.V_reads' HO_4.out).2.2 t752 p756 q756
         obtain rfl : ad755 = ad756 := (by injection e756)
         obtain ⟨ce756, hce756, hMe756, hcc756⟩ := Kd.V_get HO_4.out z85 t752 p756 (by first | exact q756 | exact dA | (have e_ := (Kd.V_reads' HO_4.out).1; omega))
         obtain ⟨ua756_0, uc756_0, rfl, ul756_0, ge756_0⟩ := k85_openF hMe756
         have hv756_0 := hcc756 0 _ rfl
         rw [Nat.add_zero] at hv756_0
         replace hv756_0 := Option.some.inj (hv756_0.symm.trans hx756_0)
         injection hv756_0 with hva_ hvn_ hvc_
         rw [hva_] at ge756_0
         rw [hvc_] at ul756_0
         have HL756_0 := Aside0.mk (show Kd.V (Kd.int .i64) 3 _ w.heap.size _ _ ((rd_T85 t736 t752).f0) from Kd.V_mk ul756_0 ge756_0)
         clear hva_ hvn_ hvc_ ge756_0 ul756_0
         clear hcc756 hce756
         have HR756_0 := Aside0.mk hi756_0
         have HC756_0 := Aside0.mk hl756_0
         clear hi756_0 hl756_0
         obtain ⟨p756, q756⟩ := eT p756 q756
         have ea_ := Option.some.inj (hx755_0.symm.trans hx756_0)
         injection ea_ with ea_ en_ ec_
         subst ea_
         subst ec_
         clear en_
         refine sw (ds := []) 35 (mb 35 0) laws_FnLights.tab12 laws_FnLights.bits12 (h1c hx755_0 (h1c hx755_1 (h1c hx756_0 (h1 hx756_1)))) (fun hHeld HT_ HW_ => ?_)
         generalize w41.drew = w51 at HO_3 HO_4 HO_6 HB HL755_0 HL756_0 HR755_0 HR756_0 hx755_0 hx755_1 hx756_0 hx756_1 hHeld ⊢
         refine pa 0 73 (mb 35 1) HT_ ?_
         refine pa 1 74 (mb 35 3) HT_ ?_
         refine pa 2 75 (mb 35 7) HT_ ?_
         refine pa 3 76 (mb 35 15) HT_ ?_
         refine pa 4 77 (mb 35 31) HT_ ?_
         refine pa 5 78 (mb 35 63) HT_ ?_
         refine pa 7 80 (mb 35 191) HT_ ?_
         refine pa 9 82 (mb 35 703) HT_ ?_
         refine pa 10 83 (mb 35 1727) HT_ ?_
         refine pa 11 84 (mb 35 3775) HT_ ?_
         refine oa 6 79 (mb 35 3839) HT_ (fun K hK => ?_)
         refine gA Try.func63 #[.slice Ao12 t733.length co12, .slice (some ad755) t736.length co13, .int .i64 t752] ?_
         with_reducible refine (impl_StartOf.calls kj19 _ _ t733 _ _ t736 t752 t754 _ ?side1 ?side2 ?side3 ?side4 A43.out).mono ?_
         (case side1 => exact cO ⟨(Kd.R_reads' HO_3.out).2.2⟩)
         (case side2 => exact (Kd.R_reads' HO_3.out).2.1)
         (case side3 => repeat (first | exact (Kd.V_reads' HO_4.out).2.2 | (with_reducible refine Kd.C_alloc ?_ _) | (with_reducible refine Kd.C_drewN ?_ _) | (with_reducible refine Kd.C_drew ?_)))
         (case side4 => exact (Kd.V_reads' HO_4.out).2.1)
         rintro e w52 ⟨rfl, hb⟩
         have HS0_ := (hb.cell (World.block_lt_of_cell? _ _ (hHeld.1))).trans (hHeld.1)
         have HS1_ := (hb.cell (World.block_lt_of_cell? _ _ (hHeld.2.1))).trans (hHeld.2.1)
         have HS2_ := (hb.cell (World.block_lt_of_cell? _ _ (hHeld.2.2.1))).trans (hHeld.2.2.1)
         have HS3_ := (hb.cell (World.block_lt_of_cell? _ _ (hHeld.2.2.2))).trans (hHeld.2.2.2)
         refine ⟨_, rfl, ?_⟩
         replace HO_3 := rb HO_3 hb
         replace HO_4 := Aside0.mk (Kd.V_below (by (with_reducible repeat (first | apply Kd.V_alloc | apply Kd.V_drewN | apply Kd.V_drew)); exact HO_4.out) hb)
         replace HO_6 := rb HO_6 hb
         replace HL755_0 := Aside0.mk (Kd.V_below (by (with_reducible repeat (first | apply Kd.V_alloc | apply Kd.V_drewN | apply Kd.V_drew)); exact HL755_0.out) hb)
         replace HR755_0 := Aside0.mk (Kd.C_below (by repeat (first | (with_reducible exact HR755_0.out) | (with_reducible refine Kd.C_alloc ?_ _) | (with_reducible refine Kd.C_drewN ?_ _) | (with_reducible refine Kd.C_drew ?_) | exact HR755_0.out)) hb)
         replace HL756_0 := Aside0.mk (Kd.V_below (by (with_reducible repeat (first | apply Kd.V_alloc | apply Kd.V_drewN | apply Kd.V_drew)); exact HL756_0.out) hb)
         replace HR756_0 := Aside0.mk (Kd.C_below (by repeat (first | (with_reducible exact HR756_0.out) | (with_reducible refine Kd.C_alloc ?_ _) | (with_reducible refine Kd.C_drewN ?_ _) | (with_reducible refine Kd.C_drew ?_) | exact HR756_0.out)) hb)
         replace HB := bs HB hb
         (try clear hb)
         (try clear hb2)
         (try clear hk)
         (try clear hi)
         obtain ⟨Ao53, co53, eo53⟩ := Kd.R_slice HO_6.out
         (first | subst eo53 | (injection eo53 with f1_ f2_ f3_; have f4_ := f1_.symm; have f5_ := f3_.symm; clear f1_ f2_ f3_; subst f4_; subst f5_))
         refine hK.out _ _ ⟨HS0_, HS1_, HS2_, HS3_⟩ (fun hHeld => ?_)
         clear hK K
         refine nB ?_
         refine pa 8 81 (mb 35 4095) HT_ ?_
         refine pa 12 85 (mb 35 8191) HT_ ?_
         refine pa 13 86 (mb 35 16383) HT_ ?_
         refine pa 14 87 (mb 35 32767) HT_ ?_
         refine pa 15 88 (mb 35 65535) HT_ ?_
         refine pa 16 89 (mb 35 131071) HT_ ?_
         refine pa 17 90 (mb 35 262143) HT_ ?_
         refine pa 18 91 (mb 35 524287) HT_ ?_
         refine ta4 19 92 (mb 35 1048575) HT_ HW_ hHeld ?_
         refine pa 20 93 (mb 35 2097151) HT_ ?_
         refine pa 21 94 (mb 35 4194303) HT_ ?_
         refine pa 22 95 (mb 35 8388607) HT_ ?_
         refine pa 23 96 (mb 35 16777215) HT_ ?_
         refine pa 24 97 (mb 35 33554431) HT_ ?_
         refine pa 25 98 (mb 35 67108863) HT_ ?_
         refine pa 27 100 (mb 35 201326591) HT_ ?_
         refine pa 28 101 (mb 35 469762047) HT_ ?_
         refine ta4 26 99 (mb 35 536870911) HT_ HW_ hHeld ?_
         refine oa 29 102 (mb 35 1073741823) HT_ (fun K hK => ?_)
         refine gA Try.func65 #[.slice Ao12 t733.length co12, .slice Ao53 t740.length co53] ?_
         with_reducible refine (laws_greens.calls kj19 _ _ t733 _ _ t740 t757 _ ?side1 ?side2 ?side3 ?side4 A49.out).mono ?_
         (case side1 => exact cO ⟨(Kd.R_reads' HO_3.out).2.2⟩)
         (case side2 => exact (Kd.R_reads' HO_3.out).2.1)
         (case side3 => exact cO ⟨(Kd.R_reads' HO_6.out).2.2⟩)
         (case side4 => exact (Kd.R_reads' HO_6.out).2.1)
         rintro e w54 ⟨v758, rfl, ho0, hb⟩
         have HS0_ := (hb.cell (World.block_lt_of_cell? _ _ (hHeld.1))).trans (hHeld.1)
         have HS1_ := (hb.cell (World.block_lt_of_cell? _ _ (hHeld.2.1))).trans (hHeld.2.1)
         have HS2_ := (hb.cell (World.block_lt_of_cell? _ _ (hHeld.2.2.1))).trans (hHeld.2.2.1)
         have HS3_ := (hb.cell (World.block_lt_of_cell? _ _ (hHeld.2.2.2))).trans (hHeld.2.2.2)
         refine ⟨_, rfl, ?_⟩
         replace HO_3 := rb HO_3 hb
         replace HO_4 := Aside0.mk (Kd.V_elder' (by (with_reducible repeat (first | apply Kd.V_alloc | apply Kd.V_drewN | apply Kd.V_drew)); exact HO_4.out) (Kd.R_base ho0) hb)
         replace HL755_0 := Aside0.mk (Kd.V_elder' (by (with_reducible repeat (first | apply Kd.V_alloc | apply Kd.V_drewN | apply Kd.V_drew)); exact HL755_0.out) (Kd.R_base ho0) hb)
         replace HL756_0 := Aside0.mk (Kd.V_elder' (by (with_reducible repeat (first | apply Kd.V_alloc | apply Kd.V_drewN | apply Kd.V_drew)); exact HL756_0.out) (Kd.R_base ho0) hb)
         have HO759 := rl w (rn ho0 HO_6)
         replace HO_6 := re HO_6 ho0 hb
         replace HR755_0 := Aside0.mk (Kd.C_below (by repeat (first | (with_reducible exact HR755_0.out) | (with_reducible refine Kd.C_alloc ?_ _) | (with_reducible refine Kd.C_drewN ?_ _) | (with_reducible refine Kd.C_drew ?_) | exact HR755_0.out)) hb)
         replace HR756_0 := Aside0.mk (Kd.C_below (by repeat (first | (with_reducible exact HR756_0.out) | (with_reducible refine Kd.C_alloc ?_ _) | (with_reducible refine Kd.C_drewN ?_ _) | (with_reducible refine Kd.C_drew ?_) | exact HR756_0.out)) hb)
         replace HB := bs HB hb
         (try clear hb)
         (try clear hb2)
         (try clear hk)
         (try clear hi)
         (try clear ho0)
         obtain ⟨Ao55, co55, eo55⟩ := Kd.R_slice HO759.out
         (first | subst eo55 | (injection eo55 with f1_ f2_ f3_; have f4_ := f1_.symm; have f5_ := f3_.symm; clear f1_ f2_ f3_; subst f4_; subst f5_))
         refine hK.out _ _ ⟨HS0_, HS1_, HS2_, HS3_⟩ (fun hHeld => ?_)
         clear hK K
         refine nB ?_
         refine oa 30 103 (mb 35 2147483647) HT_ (fun K hK => ?_)
         refine gA Try.func64 #[.slice A755_0 ((rd_T85 t736 t752).f0).length c755_0, .slice Ao55 t757.length co55] ?_
         with_reducible refine (laws_within.calls kj19 _ _ ((rd_T85 t736 t752).f0) _ _ t757 t760 _ ?side1 ?side2 ?side3 ?side4 A50.out).mono ?_
         (case side1 => repeat (first | exact (by repeat (first | (with_reducible exact HR756_0.out) | (with_reducible refine Kd.C_alloc ?_ _) | (with_reducible refine Kd.C_drewN ?_ _) | (with_reducible refine Kd.C_drew ?_) | exact HR756_0.out)) | (with_reducible refine Kd.C_alloc ?_ _) | (with_reducible refine Kd.C_drewN ?_ _) | (with_reducible refine Kd.C_drew ?_)))
         (case side2 => exact HC756_0.out)
         (case side3 => exact cO ⟨(Kd.R_reads' HO759.out).2.2⟩)
         (case side4 => exact (Kd.R_reads' HO759.out).2.1)
         rintro e w' ⟨rfl, ⟨nd, rfl⟩⟩
         refine ⟨_, rfl, ?_⟩
         refine hK.out _ _ ⟨hHeld.1, hHeld.2.1, hHeld.2.2.1, hHeld.2.2.2⟩ (fun hHeld => ?_)
         clear hK K
         refine nB ?_
         refine pa 31 104 (mb 35 4294967295) HT_ ?_
         refine pa 32 105 (mb 35 8589934591) HT_ ?_
         refine pa 33 106 (mb 35 17179869183) HT_ ?_
         refine pa 34 107 (mb 35 34359738367) HT_ ?_
         refine eA HT_ ?_
         try go_wp2
         go_meet
         case rel => exact ⟨_, (!t760), rS, H', ⟨by have := HJ19.out; first | omega | exact Nat.le_refl _⟩, ⟨rK HO_3⟩, ⟨by (with_reducible repeat (first | apply Kd.V_alloc | apply Kd.V_drewN | apply Kd.V_drew)); exact Kd.V_mono HO_4.out (fun _ hk => hk.1.1)⟩, ⟨bA⟩⟩
        rw [if_neg c48] at H
        have c48b0 := decide_eq_false c48
        clear c48
        have H' := Aside0.mk H
        clear H
        try go_wp2
        replace HO_3 := dr HO_3
        replace HO_4 := dv HO_4
        replace HO_6 := dr HO_6
        have HBo := HB
        replace HB := db HB
        obtain ⟨p755, q755⟩ : 0 ≤ (t752 : Int) ∧ t752 < (t736.length : Int) := ⟨dA, dA⟩
        obtain ⟨ad755, A755_0, c755_0, e755, hx755_0, hx755_1, hl755_0, hi755_0⟩ := at_T85 (Kd.V_reads' HO_4.out).2.2 t752 p755 q755
        cases e755
        obtain ⟨ce755, hce755, hMe755, hcc755⟩ := Kd.V_get HO_4.out z85 t752 p755 (by first | exact q755 | exact dA | (have e_ := (Kd.V_reads' HO_4.out).1; omega))
        obtain ⟨ua755_0, uc755_0, rfl, ul755_0, ge755_0⟩ := k85_openF hMe755
        have hv755_0 := hcc755 0 _ rfl
        rw [Nat.add_zero] at hv755_0
        replace hv755_0 := Option.some.inj (hv755_0.symm.trans hx755_0)
        injection hv755_0 with hva_ hvn_ hvc_
        rw [hva_] at ge755_0
        rw [hvc_] at ul755_0
        have HL755_0 := Aside0.mk (show Kd.V (Kd.int .i64) 3 _ w.heap.size _ _ ((rd_T85 t736 t752).f0) from Kd.V_mk ul755_0 ge755_0)
        clear hva_ hvn_ hvc_ ge755_0 ul755_0
        clear hcc755 hce755
        have HR755_0 := Aside0.mk hi755_0
        have HC755_0 := Aside0.mk hl755_0
        clear hi755_0 hl755_0
        obtain ⟨p755, q755⟩ := eT p755 q755
        refine sw (ds := []) 35 (mb 35 0) laws_FnLights.tab12 laws_FnLights.bits12 (h1c hx755_0 (h1 hx755_1)) (fun hHeld HT_ HW_ => ?_)
        generalize w41.drew = w56 at HO_3 HO_4 HO_6 HB HL755_0 HR755_0 hx755_0 hx755_1 hHeld ⊢
        refine pa 0 73 (mb 35 1) HT_ ?_
        refine pa 1 74 (mb 35 3) HT_ ?_
        refine pa 2 75 (mb 35 7) HT_ ?_
        refine pa 3 76 (mb 35 15) HT_ ?_
        refine pa 4 77 (mb 35 31) HT_ ?_
        refine pa 5 78 (mb 35 63) HT_ ?_
        refine pa 7 80 (mb 35 191) HT_ ?_
        refine pa 9 82 (mb 35 703) HT_ ?_
        refine pa 10 83 (mb 35 1727) HT_ ?_
        refine pa 11 84 (mb 35 3775) HT_ ?_
        refine oa 6 79 (mb 35 3839) HT_ (fun K hK => ?_)
        refine gA Try.func63 #[.slice Ao12 t733.length co12, .slice (some ad755) t736.length co13, .int .i64 t752] ?_
        with_reducible refine (impl_StartOf.calls kj19 _ _ t733 _ _ t736 t752 t754 _ ?side1 ?side2 ?side3 ?side4 A43.out).mono ?_
        (case side1 => exact cO ⟨(Kd.R_reads' HO_3.out).2.2⟩)
        (case side2 => exact (Kd.R_reads' HO_3.out).2.1)
        (case side3 => repeat (first | exact (Kd.V_reads' HO_4.out).2.2 | (with_reducible refine Kd.C_alloc ?_ _) | (with_reducible refine Kd.C_drewN ?_ _) | (with_reducible refine Kd.C_drew ?_)))
        (case side4 => exact (Kd.V_reads' HO_4.out).2.1)
        rintro e w57 ⟨rfl, hb⟩
        have HS0_ := (hb.cell (World.block_lt_of_cell? _ _ (hHeld.1))).trans (hHeld.1)
        have HS1_ := (hb.cell (World.block_lt_of_cell? _ _ (hHeld.2))).trans (hHeld.2)
        refine ⟨_, rfl, ?_⟩
        replace HO_3 := rb HO_3 hb
        replace HO_4 := Aside0.mk (Kd.V_below (by (with_reducible repeat (first | apply Kd.V_alloc | apply Kd.V_drewN | apply Kd.V_drew)); exact HO_4.out) hb)
        replace HO_6 := rb HO_6 hb
        replace HB := bs HB hb
        (try clear hb)
        (try clear hb2)
        (try clear hk)
        (try clear hi)
        refine hK.out _ _ ⟨HS0_, HS1_⟩ (fun hHeld => ?_)
        clear hK K
        refine nB ?_
        refine pa 8 81 (mb 35 4095) HT_ ?_
        refine pa 12 85 (mb 35 8191) HT_ ?_
        refine pa 13 86 (mb 35 16383) HT_ ?_
        refine pa 14 87 (mb 35 32767) HT_ ?_
        refine pa 15 88 (mb 35 65535) HT_ ?_
        refine pa 16 89 (mb 35 131071) HT_ ?_
        refine pa 17 90 (mb 35 262143) HT_ ?_
        refine pa 18 91 (mb 35 524287) HT_ ?_
        refine ta2 19 92 (mb 35 1048575) HT_ HW_ hHeld ?_
        refine pa 20 93 (mb 35 2097151) HT_ ?_
        refine pa 21 94 (mb 35 4194303) HT_ ?_
        refine pu 22 95 (mb 35 8388607) HT_ ?_
        refine pu 23 96 (mb 35 16777215) HT_ ?_
        refine pu 24 97 (mb 35 33554431) HT_ ?_
        refine pu 25 98 (mb 35 67108863) HT_ ?_
        refine pu 26 99 (mb 35 134217727) HT_ ?_
        refine pu 27 100 (mb 35 268435455) HT_ ?_
        refine pu 28 101 (mb 35 536870911) HT_ ?_
        refine pu 29 102 (mb 35 1073741823) HT_ ?_
        refine pu 30 103 (mb 35 2147483647) HT_ ?_
        refine pu 31 104 (mb 35 4294967295) HT_ ?_
        refine pa 32 105 (mb 35 8589934591) HT_ ?_
        refine pa 33 106 (mb 35 17179869183) HT_ ?_
        refine pa 34 107 (mb 35 34359738367) HT_ ?_
        refine eA HT_ ?_
        try go_wp2
        go_meet
        case rel => exact ⟨_, (false), rS, H', ⟨by have := HJ19.out; first | omega | exact Nat.le_refl _⟩, ⟨rK HO_3⟩, ⟨by (with_reducible repeat (first | apply Kd.V_alloc | apply Kd.V_drewN | apply Kd.V_drew)); exact Kd.V_mono HO_4.out (fun _ hk => hk.1)⟩, ⟨bA⟩⟩
       rw [if_neg c45] at H
       have c45b0 : ((wrap64 (t754 + t753)) == (Int.tmod t739 t746)) = false := beq_eq_false_iff_ne.mpr c45
       have c45b1 : ((wrap64 (t754 + t753)) != (Int.tmod t739 t746)) = true := bne_iff_ne.mpr c45
       have H' := Aside0.mk H
       clear H
       try go_wp2
       replace HO_3 := dr HO_3
       replace HO_4 := dv HO_4
       replace HO_6 := dr HO_6
       have HBo := HB
       replace HB := db HB
       refine sw (ds := []) 35 (mb 35 0) laws_FnLights.tab12 laws_FnLights.bits12 h0 (fun hHeld HT_ HW_ => ?_)
       generalize w41.drew = w58 at HO_3 HO_4 HO_6 HB hHeld ⊢
       refine pa 0 73 (mb 35 1) HT_ ?_
       refine pa 1 74 (mb 35 3) HT_ ?_
       refine pa 2 75 (mb 35 7) HT_ ?_
       refine pa 3 76 (mb 35 15) HT_ ?_
       refine pa 4 77 (mb 35 31) HT_ ?_
       refine pa 5 78 (mb 35 63) HT_ ?_
       refine pa 7 80 (mb 35 191) HT_ ?_
       refine pa 9 82 (mb 35 703) HT_ ?_
       refine pa 10 83 (mb 35 1727) HT_ ?_
       refine pa 11 84 (mb 35 3775) HT_ ?_
       refine oa 6 79 (mb 35 3839) HT_ (fun K hK => ?_)
       refine gA Try.func63 #[.slice Ao12 t733.length co12, .slice Ao13 t736.length co13, .int .i64 t752] ?_
       with_reducible refine (impl_StartOf.calls kj19 _ _ t733 _ _ t736 t752 t754 _ ?side1 ?side2 ?side3 ?side4 A43.out).mono ?_
       (case side1 => exact cO ⟨(Kd.R_reads' HO_3.out).2.2⟩)
       (case side2 => exact (Kd.R_reads' HO_3.out).2.1)
       (case side3 => repeat (first | exact (Kd.V_reads' HO_4.out).2.2 | (with_reducible refine Kd.C_alloc ?_ _) | (with_reducible refine Kd.C_drewN ?_ _) | (with_reducible refine Kd.C_drew ?_)))
       (case side4 => exact (Kd.V_reads' HO_4.out).2.1)
       rintro e w59 ⟨rfl, hb⟩
       refine ⟨_, rfl, ?_⟩
       replace HO_3 := rb HO_3 hb
       replace HO_4 := Aside0.mk (Kd.V_below (by (with_reducible repeat (first | apply Kd.V_alloc | apply Kd.V_drewN | apply Kd.V_drew)); exact HO_4.out) hb)
       replace HO_6 := rb HO_6 hb
       replace HB := bs HB hb
       (try clear hb)
       (try clear hb2)
       (try clear hk)
       (try clear hi)
       refine hK.out _ _ trivial (fun hHeld => ?_)
       clear hK K
       refine nB ?_
       refine pa 8 81 (mb 35 4095) HT_ ?_
       refine pa 12 85 (mb 35 8191) HT_ ?_
       refine pa 13 86 (mb 35 16383) HT_ ?_
       refine pu 14 87 (mb 35 32767) HT_ ?_
       refine pu 15 88 (mb 35 65535) HT_ ?_
       refine pu 16 89 (mb 35 131071) HT_ ?_
       refine pu 17 90 (mb 35 262143) HT_ ?_
       refine pu 18 91 (mb 35 524287) HT_ ?_
       refine pu 19 92 (mb 35 1048575) HT_ ?_
       refine pu 20 93 (mb 35 2097151) HT_ ?_
       refine pu 21 94 (mb 35 4194303) HT_ ?_
       refine pu 22 95 (mb 35 8388607) HT_ ?_
       refine pu 23 96 (mb 35 16777215) HT_ ?_
       refine pu 24 97 (mb 35 33554431) HT_ ?_
       refine pu 25 98 (mb 35 67108863) HT_ ?_
       refine pu 26 99 (mb 35 134217727) HT_ ?_
       refine pu 27 100 (mb 35 268435455) HT_ ?_
       refine pu 28 101 (mb 35 536870911) HT_ ?_
       refine pu 29 102 (mb 35 1073741823) HT_ ?_
       refine pu 30 103 (mb 35 2147483647) HT_ ?_
       refine pu 31 104 (mb 35 4294967295) HT_ ?_
       refine pu 32 105 (mb 35 8589934591) HT_ ?_
       refine pa 33 106 (mb 35 17179869183) HT_ ?_
       refine pa 34 107 (mb 35 34359738367) HT_ ?_
       refine eA HT_ ?_
       try go_wp2
       go_meet
       case rel => exact ⟨_, (true), rS, H', ⟨by have := HJ19.out; first | omega | exact Nat.le_refl _⟩, ⟨rK HO_3⟩, ⟨by (with_reducible repeat (first | apply Kd.V_alloc | apply Kd.V_drewN | apply Kd.V_drew)); exact Kd.V_mono HO_4.out (fun _ hk => hk.1)⟩, ⟨bA⟩⟩
      rw [if_neg c42] at H
      have c42b0 := decide_eq_false c42
      clear c42
      (first | rw [c42b0] | (simp only [i64_w, i32_w]; rw [c42b0]) | skip)
      have H' := Aside0.mk H
      clear H
      try go_wp2
      replace HO_3 := dr HO_3
      replace HO_4 := dv HO_4
      replace HO_6 := dr HO_6
      have HBo := HB
      replace HB := db HB
      refine sw (ds := []) 35 (mb 35 0) laws_FnLights.tab12 laws_FnLights.bits12 h0 (fun hHeld HT_ HW_ => ?_)
      generalize w41.drew = w60 at HO_3 HO_4 HO_6 HB hHeld ⊢
      refine pa 0 73 (mb 35 1) HT_ ?_
      refine pa 1 74 (mb 35 3) HT_ ?_
      refine pa 2 75 (mb 35 7) HT_ ?_
      refine pu 3 76 (mb 35 15) HT_ ?_
      refine pu 4 77 (mb 35 31) HT_ ?_
      refine pu 5 78 (mb 35 63) HT_ ?_
      refine pu 6 79 (mb 35 127) HT_ ?_
      refine pu 7 80 (mb 35 255) HT_ ?_
      refine pu 8 81 (mb 35 511) HT_ ?_
      refine pu 9 82 (mb 35 1023) HT_ ?_
      refine pu 10 83 (mb 35 2047) HT_ ?_
      refine pu 11 84 (mb 35 4095) HT_ ?_
      refine pu 12 85 (mb 35 8191) HT_ ?_
      refine pu 13 86 (mb 35 16383) HT_ ?_
      refine pu 14 87 (mb 35 32767) HT_ ?_
      refine pu 15 88 (mb 35 65535) HT_ ?_
      refine pu 16 89 (mb 35 131071) HT_ ?_
      refine pu 17 90 (mb 35 262143) HT_ ?_
      refine pu 18 91 (mb 35 524287) HT_ ?_
      refine pu 19 92 (mb 35 1048575) HT_ ?_
      refine pu 20 93 (mb 35 2097151) HT_ ?_
      refine pu 21 94 (mb 35 4194303) HT_ ?_
      refine pu 22 95 (mb 35 8388607) HT_ ?_
      refine pu 23 96 (mb 35 16777215) HT_ ?_
      refine pu 24 97 (mb 35 33554431) HT_ ?_
      refine pu 25 98 (mb 35 67108863) HT_ ?_
      refine pu 26 99 (mb 35 134217727) HT_ ?_
      refine pu 27 100 (mb 35 268435455) HT_ ?_
      refine pu 28 101 (mb 35 536870911) HT_ ?_
      refine pu 29 102 (mb 35 1073741823) HT_ ?_
      refine pu 30 103 (mb 35 2147483647) HT_ ?_
      refine pu 31 104 (mb 35 4294967295) HT_ ?_
      refine pu 32 105 (mb 35 8589934591) HT_ ?_
      refine pu 33 106 (mb 35 17179869183) HT_ ?_
      refine pa 34 107 (mb 35 34359738367) HT_ ?_
      refine eA HT_ ?_
      try go_wp2
      go_meet
      case rel => exact ⟨_, (false), rS, H', ⟨by have := HJ19.out; first | omega | exact Nat.le_refl _⟩, ⟨rK HO_3⟩, ⟨by (with_reducible repeat (first | apply Kd.V_alloc | apply Kd.V_drewN | apply Kd.V_drew)); exact Kd.V_mono HO_4.out (fun _ hk => hk.1)⟩, ⟨bA⟩⟩
     case rest =>
      clear HC40
      obtain ⟨kq, x107_39, rfl, HA, HJ39, HO_3, HO_4, HB⟩ := hcut
      cases kq with
      | zero => exact absurd HA.out (by simp [laws_FnLights.j1])
      | succ kj39 =>
       have H := HA.out
       clear HA
       simp only [laws_FnLights.j1] at H
       have c61 := ifN' H
       replace H := ifT' H
       replace c61 := Bool.eq_false_iff.mpr c61
       subst c61
       have H' := Aside0.mk H
       clear H
       go_wp2
       go_loopg [10] kj39 (fun kq v10 w' => ∃ (x10_3 : Int), v10 = .int .i64 x10_3 ∧ Aside0 (laws_FnLights.l0 kq l0 t733 t736 t746 x10_3 = some r) ∧ Aside0 (kq ≤ kj39) ∧ Aside0 (Kd.R k50 50 w' w.heap.size (fun _ => True) (.slice Ao12 t733.length co12) t733) ∧ Aside0 (Kd.V k85 85 w' w.heap.size (n1 (.slice Ao12 t733.length co12)) (.slice Ao13 t736.length co13) t736) ∧ Aside0 (Below w.heap.size w w'))
       case atStart => exact ⟨(0), rS, H', ⟨Nat.le_refl _⟩, ⟨rK HO_3⟩, ⟨by (with_reducible repeat (first | apply Kd.V_alloc | apply Kd.V_drewN | apply Kd.V_drew)); exact HO_4.out⟩, ⟨bA⟩⟩
       case round =>
        clear H'
        obtain ⟨x10_3, rfl, HA, HK3, HO_3, HO_4, HB⟩ := hrel
        cases gk with
        | zero => exact absurd HA.out (by simp [laws_FnLights.l0])
        | succ k3 =>
         have H := HA.out
         clear HA
         simp only [laws_FnLights.l0] at H
         by_cases c62 : x10_3 < (t733.length : Int)
         ·
          rw [if_pos c62] at H
          have c62b0 := decide_eq_true c62
          clear c62
          have c63 : 0 ≤ x10_3 := ifN H
          replace H := ifT H
          have c63b0 := decide_eq_true c63
          clear c63
          obtain ⟨t762, A64, H⟩ := bindE H
          try dsimp only at H
          have c65 : ¬ (t762 < 5) := ifN' H
          replace H := ifT' H
          have c65b0 := decide_eq_false c65
          clear c65
          obtain ⟨t764, A66, H⟩ := bindE H
          try dsimp only at H
          have c67 : ¬ (t764 > (wrap64 (t746 - t762))) := ifN' H
          replace H := ifT' H
          have c67b0 := decide_eq_false c67
          clear c67
          have H' := Aside0.mk H
          clear H
          obtain ⟨p761, q761⟩ : 0 ≤ (x10_3 : Int) ∧ x10_3 < (t733.length : Int) := ⟨dA, dA⟩
          obtain ⟨ad761, e761, hx761_0, hx761_1, hx761_2, hx761_3⟩ := at_T50 (Kd.R_reads' HO_3.out).2.2 x10_3 p761 q761
          cases e761
          obtain ⟨p761, q761⟩ := eT p761 q761
          go_wp2_with (first | ((with_reducible refine gate_callee (f := 66) rfl ?_); refine gL (some 121) Try.func66 #[.slice (some ad761) t733.length co12, .slice Ao13 t736.length co13, .int .i64 ((rd_T50 t733 x10_3).f0)] ?_; (with_reducible refine (impl_GreenOf.calls k3 _ _ t733 _ _ t736 ((rd_T50 t733 x10_3).f0) t762 _ ?_ ?_ ?_ ?_ A64.out).mono ?_); exact cO ⟨(Kd.R_reads' HO_3.out).2.2⟩; exact (Kd.R_reads' HO_3.out).2.1; (focus repeat (first | exact (Kd.V_reads' HO_4.out).2.2 | (with_reducible refine Kd.C_alloc ?_ _) | (with_reducible refine Kd.C_drewN ?_ _) | (with_reducible refine Kd.C_drew ?_))); exact (Kd.V_reads' HO_4.out).2.1; rintro e w68 ⟨rfl, hb⟩; refine ⟨_, rfl, ?_⟩; have n0_ := rb HO_3 hb; have n1_ := Aside0.mk (Kd.V_below (by (with_reducible repeat (first | apply Kd.V_alloc | apply Kd.V_drewN | apply Kd.V_drew)); exact HO_4.out) hb); have n2_ := bs HB hb; clear HO_3; clear HO_4; clear HB; have HO_3 := n0_; have HO_4 := n1_; have HB := n2_; clear n0_ n1_ n2_; (try clear hb); have p763 : 0 ≤ (x10_3 : Int) := dA; have q763 : x10_3 < (t733.length : Int) := dA; obtain ⟨ad763, e763, hx763_0, hx763_1, hx763_2, hx763_3⟩ := at_T50 (Kd.R_reads' HO_3.out).2.2 x10_3 p763 q763; obtain rfl : ad761 = ad763 := (by injection e763); replace p763 := eq_true p763; replace q763 := eq_true q763) | (go_at_call 13; (with_reducible refine (impl_WaitOf.calls k3 _ _ t733 _ _ t736 ((rd_T50 t733 x10_3).f0) t764 _ ?_ ?_ ?_ ?_ A66.out).mono ?_); exact cO ⟨(Kd.R_reads' HO_3.out).2.2⟩; exact (Kd.R_reads' HO_3.out).2.1; (focus repeat (first | exact (Kd.V_reads' HO_4.out).2.2 | (with_reducible refine Kd.C_alloc ?_ _) | (with_reducible refine Kd.C_drewN ?_ _) | (with_reducible refine Kd.C_drew ?_))); exact (Kd.V_reads' HO_4.out).2.1; rintro e w69 ⟨rfl, hb⟩; have n0_ := rb HO_3 hb; have n1_ := Aside0.mk (Kd.V_below (by (with_reducible repeat (first | apply Kd.V_alloc | apply Kd.V_drewN | apply Kd.V_drew)); exact HO_4.out) hb); have n2_ := bs HB hb; clear HO_3; clear HO_4; clear HB; have HO_3 := n0_; have HO_4 := n1_; have HB := n2_; clear n0_ n1_ n2_; (try clear hb)))
          go_roundg k3
          case measure => have := HJ19.out; have := HJ39.out; have := HK3.out; omega
          case rel => exact ⟨(wrap64 (x10_3 + 1)), rS, H', ⟨by have := HJ19.out; have := HJ39.out; have := HK3.out; omega⟩, ⟨rK HO_3⟩, ⟨by (with_reducible repeat (first | apply Kd.V_alloc | apply Kd.V_drewN | apply Kd.V_drew)); exact HO_4.out⟩, ⟨bA⟩⟩
         rw [if_neg c62] at H
         have c62b0 := decide_eq_false c62
         clear c62
         have H' := Aside0.mk H
         clear H
         go_wp2
         go_meet
         case rel => exact ⟨_, H', ⟨by have := HJ19.out; have := HJ39.out; have := HK3.out; first | omega | exact Nat.le_refl _⟩, ⟨bA⟩⟩
  replace c18 := Bool.eq_false_iff.mpr c18
  subst c18
  have H1 : (laws_FnLights.j3 k l0) = some r := by rw [if_neg (show ¬ (false = true) by decide)] at H; exact H
  clear H
  have H := H1
  clear H1
  have H' := Aside0.mk H
  clear H
  go_wp2
  go_meet
  case rel => exact ⟨_, H', ⟨oL⟩, ⟨bA⟩⟩
 case rest =>
  clear HC10
  obtain ⟨kq, HA, HJ9, HB⟩ := hcut
  cases kq with
  | zero => exact absurd HA.out (by simp [laws_FnLights.j3])
  | succ kj9 =>
   have H := HA.out
   clear HA
   simp only [laws_FnLights.j3] at H
   obtain ⟨⟨t765, t766⟩, A70, H⟩ := bindE H
   try dsimp only at H
   obtain ⟨t771, A71, H⟩ := bindE H
   try dsimp only at H
   by_cases c72 : t771 = true
   ·
    subst c72
    have H1 : (laws_FnLights.l1 kj9 t765 t766 (([] : List Int)) 0) = some r := by rw [if_pos rfl] at H; exact H
    clear H
    have H := H1
    clear H1
    obtain ⟨y772, hy772⟩ : ∃ y_ : List Int, y_ = (([] : List Int)) := ⟨_, rfl⟩
    replace H : (laws_FnLights.l1 kj9 t765 t766 y772 0) = some r := rH H hy772
    have Ny772 := Aside0.mk hy772
    clear hy772
    have H' := Aside0.mk H
    clear H
    go_wp2_with (first | ((with_reducible refine gate_callee (f := 67) rfl ?_); refine gL (some 140) Try.func67 #[.slice A0 l0.length c0] ?_; (with_reducible refine (spec_DrawIsSafeLights.calls kj9 _ _ l0 t765 t766 _ ?_ ?_ A70.out).mono ?_); exact cB HR0; exact HC0.out; rintro e w73 ⟨v767, v769, rfl, ho0, ho1, hb⟩; refine ⟨_, rfl, ?_⟩; have HO768 := rl w ho0; have HO770 := rl w ho1; replace HB := bs HB hb; (try clear hb); (try clear ho0); (try clear ho1); obtain ⟨Ao74, co74, eo74⟩ := Kd.R_slice HO768.out; subst eo74; obtain ⟨Ao75, co75, eo75⟩ := Kd.R_slice HO770.out; subst eo75) | ((with_reducible refine gate_callee (f := 49) rfl ?_); refine gL (some 145) Try.func49 #[.slice Ao74 t765.length co74, .slice Ao75 t766.length co75] ?_; (with_reducible refine (impl_IsSafeLights.calls kj9 _ _ t765 _ _ t766 true _ ?_ ?_ ?_ ?_ A71.out).mono ?_); exact cO ⟨(Kd.R_reads' HO768.out).2.2⟩; exact (Kd.R_reads' HO768.out).2.1; exact cO ⟨(Kd.R_reads' HO770.out).2.2⟩; exact (Kd.R_reads' HO770.out).2.1; rintro e w76 ⟨rfl, hb⟩; refine ⟨_, rfl, ?_⟩; replace HO768 := rb HO768 hb; replace HO770 := rb HO770 hb; replace HB := bs HB hb; (try clear hb)) | ((with_reducible refine gate_dst (N := 146) rfl ?_); refine Kd.R_lit (Kd.int .i64) _ 3 ?hg (N := 146) ?hd (xs := ([] : List Int)) (inner := []) (ok := fun _ => True) (okp := fun _ => True) ?hr ?hp (fun _ hk => hk) trivial (Below.refl _ _) (Nat.le_refl _) (by simp) ?_; (case hd => rfl); (case hg => rfl); (case hr => first | (go_simp; done) | (go_simp; rfl)); (case hp => exact (Reps.none _ _)); intro v773 w77 ho78 hb hg_ hnew_; clear hg_ hnew_; (first | rw [← Ny772.out] at ho78 | (simp only [Int.reduceToNat] at ho78; rw [← Ny772.out] at ho78)); replace HO768 := rb HO768 hb; have HO774 := rl w (rn ho78 HO770); replace HO770 := re HO770 ho78 hb; replace HB := bs HB hb; clear hb ho78))
    go_loopg [14, 15] kj9 (fun kq v14 v15 w' => ∃ (x14_2 : List Int) (x15_2 : Int), v15 = .int .i64 x15_2 ∧ Aside0 (laws_FnLights.l1 kq t765 t766 x14_2 x15_2 = some r) ∧ Aside0 (kq ≤ kj9) ∧ Aside0 (Kd.R k50 50 w' w.heap.size (fun _ => True) (.slice Ao74 t765.length co74) t765) ∧ Aside0 (Kd.R (Kd.int .i64) 3 w' w.heap.size (n1 v14) (.slice Ao75 t766.length co75) t766) ∧ Aside0 (Kd.R (Kd.int .i64) 3 w' w.heap.size (n1 (.slice Ao75 t766.length co75)) v14 x14_2) ∧ Aside0 (Below w.heap.size w w'))
    case atStart => exact ⟨(y772), (0), rS, H', ⟨Nat.le_refl _⟩, ⟨rK HO768⟩, ⟨rm HO770 (fun _ hk => hk.2)⟩, ⟨rm HO774 (fun _ hk => hk.2)⟩, ⟨bA⟩⟩
    case round =>
     clear H'
     obtain ⟨x14_2, x15_2, rfl, HA, HK2, HO_12, HO_13, HO_14, HB⟩ := hrel
     cases gk with
     | zero => exact absurd HA.out (by simp [laws_FnLights.l1])
     | succ k2 =>
      have H := HA.out
      clear HA
      simp only [laws_FnLights.l1] at H
      by_cases c79 : x15_2 < (t765.length : Int)
      ·
       rw [if_pos c79] at H
       have c79b0 := decide_eq_true c79
       clear c79
       have c80 : 0 ≤ x15_2 := ifN H
       replace H := ifT H
       have c80b0 := decide_eq_true c80
       clear c80
       have c81 : x15_2 < (t766.length : Int) := ifN H
       replace H := ifT H
       have c81b0 := decide_eq_true c81
       clear c81
       by_cases c82 : (rd t766 x15_2) = 0
       ·
        rw [if_pos c82] at H
        have c82b0 : ((rd t766 x15_2) == 0) = true := beq_iff_eq.mpr c82
        have c82b1 : ((rd t766 x15_2) != 0) = false := bne_eq_false_iff_eq.mpr c82
        clear c82
        have H' := Aside0.mk H
        clear H
        obtain ⟨p775, q775⟩ : 0 ≤ (x15_2 : Int) ∧ x15_2 < (t766.length : Int) := ⟨dA, dA⟩
        obtain ⟨ad775, e775, hx775_0⟩ := Kd.at_int (Kd.R_reads' HO_13.out).2.2 x15_2 p775 q775
        cases e775
        obtain ⟨p775, q775⟩ := eT p775 q775
        go_wp2
        go_roundg k2
        case measure => have := HJ9.out; have := HK2.out; omega
        case rel => exact ⟨(x14_2), (wrap64 (x15_2 + 1)), rS, H', ⟨by have := HJ9.out; have := HK2.out; omega⟩, ⟨rK HO_12⟩, ⟨rK HO_13⟩, ⟨rK HO_14⟩, ⟨bA⟩⟩
       rw [if_neg c82] at H
       have c82b0 : ((rd t766 x15_2) == 0) = false := beq_eq_false_iff_ne.mpr c82
       have c82b1 : ((rd t766 x15_2) != 0) = true := bne_iff_ne.mpr c82
       have c83 : x14_2.length < 17592186044416 := ifN H
       replace H := ifT H
       have LMc83 := Aside0.mk c83
       clear c83
       obtain ⟨y777, hy777⟩ : ∃ y_ : List Int, y_ = (x14_2 ++ [(rd_T50 t765 x15_2).f0]) := ⟨_, rfl⟩
       replace H : (laws_FnLights.l1 k2 t765 t766 y777 (wrap64 (x15_2 + 1))) = some r := rH H hy777
       have Ny777 := Aside0.mk hy777
       clear hy777
       have H' := Aside0.mk H
       clear H
       obtain ⟨p775, q775⟩ : 0 ≤ (x15_2 : Int) ∧ x15_2 < (t766.length : Int) := ⟨dA, dA⟩
       obtain ⟨ad775, e775, hx775_0⟩ := Kd.at_int (Kd.R_reads' HO_13.out).2.2 x15_2 p775 q775
       cases e775
       obtain ⟨p775, q775⟩ := eT p775 q775
       obtain ⟨p776, q776⟩ : 0 ≤ (x15_2 : Int) ∧ x15_2 < (t765.length : Int) := ⟨dA, dA⟩
       obtain ⟨ad776, e776, hx776_0, hx776_1, hx776_2, hx776_3⟩ := at_T50 (Kd.R_reads' HO_12.out).2.2 x15_2 p776 q776
       cases e776
       obtain ⟨p776, q776⟩ := eT p776 q776
       go_wp2_with (first | ((with_reducible refine gate_builtin (b := .append) (xs := #[.tmp 158, .tmp 164]) rfl ?_); at_builtin; refine Kd.R_append (Kd.int .i64) (w0 := w) w.heap.size rfl (.tmp 158) (.tmp 164) 35 3 (.int .i64 0) 8 rfl Try.underlying35 info3 rfl (by decide) (by omega) u14 x14_2 ((rd_T50 t765 x15_2).f0) [.int .i64 ((rd_T50 t765 x15_2).f0)] (n1 (.slice (some ad775) t766.length co75)) (fun _ => False) rfl rfl ?aP (fun _ hk => hk.elim) ?aF ?aO ?aB ?aS ?aL ?_; (case aP => exact rfl); (case aB => exact bA); (case aF => exact (fun k_ hk => Kd.fresh' (Kd.R_lt (rK HO_13)) k_ hk)); (case aO => exact (rK HO_14)); (case aS => exact (below_size bA)); (case aL => have := LMc83.out; omega); intro v778 w84 ho hb hg hat; rw [← Ny777.out] at ho; have n0_ := Aside0.mk (Kd.R_over' (rK HO_12) (Kd.R_typed (rK HO_14)) (by decide) hg); have n1_ := Aside0.mk (Kd.R_after (ok := (fun _ => True)) (rm HO_13 (fun _ hk => ⟨trivial, hk⟩)) hg hat); have n2_ := Aside0.mk (hb); have n3_ := Aside0.mk (ho); clear HO_12; clear HO_13; clear HB; clear HO_14; have HO_12 := n0_; have HO_13 := n1_; have HB := n2_; have HO779 := n3_; clear n0_ n1_ n2_ n3_; clear ho hb hg hat))
       go_roundg k2
       case measure => have := HJ9.out; have := HK2.out; omega
       case rel => exact ⟨(y777), (wrap64 (x15_2 + 1)), rS, H', ⟨by have := HJ9.out; have := HK2.out; omega⟩, ⟨rK HO_12⟩, ⟨rm HO_13 (fun _ hk => hk.2)⟩, ⟨rK HO779⟩, ⟨bA⟩⟩
      rw [if_neg c79] at H
      have c79b0 := decide_eq_false c79
      clear c79
      obtain ⟨t780, A85, H⟩ := bindE H
      try dsimp only at H
      obtain rfl := Option.some.inj H
      obtain ⟨Ao86, co86, eo86⟩ := Kd.R_slice HO_14.out
      subst eo86
      go_wp2_with (first | ((with_reducible refine gate_callee (f := 68) rfl ?_); refine gL (some 168) Try.func68 #[.slice Ao74 t765.length co74, .slice Ao86 x14_2.length co86] ?_; (with_reducible refine (impl_IsTogether.calls k2 _ _ t765 _ _ x14_2 t780 _ ?_ ?_ ?_ ?_ A85.out).mono ?_); exact cO ⟨(Kd.R_reads' HO_12.out).2.2⟩; exact (Kd.R_reads' HO_12.out).2.1; exact cO ⟨(Kd.R_reads' HO_14.out).2.2⟩; exact (Kd.R_reads' HO_14.out).2.1; rintro e w87 ⟨rfl, hb⟩; refine ⟨_, rfl, ?_⟩; replace HO_12 := rb HO_12 hb; replace HO_13 := rb HO_13 hb; replace HO_14 := rb HO_14 hb; replace HB := bs HB hb; (try clear hb)))
      go_ret
      exact ⟨rA, bA⟩
   replace c72 := Bool.eq_false_iff.mpr c72
   subst c72
   have H1 : (some true) = some r := by rw [if_neg (show ¬ (false = true) by decide)] at H; exact H
   clear H
   have H := H1
   clear H1
   obtain rfl := Option.some.inj H
   go_wp2_with (first | ((with_reducible refine gate_callee (f := 67) rfl ?_); refine gL (some 140) Try.func67 #[.slice A0 l0.length c0] ?_; (with_reducible refine (spec_DrawIsSafeLights.calls kj9 _ _ l0 t765 t766 _ ?_ ?_ A70.out).mono ?_); exact cB HR0; exact HC0.out; rintro e w88 ⟨v767, v769, rfl, ho0, ho1, hb⟩; refine ⟨_, rfl, ?_⟩; have HO768 := rl w ho0; have HO770 := rl w ho1; replace HB := bs HB hb; (try clear hb); (try clear ho0); (try clear ho1); obtain ⟨Ao89, co89, eo89⟩ := Kd.R_slice HO768.out; subst eo89; obtain ⟨Ao90, co90, eo90⟩ := Kd.R_slice HO770.out; subst eo90) | ((with_reducible refine gate_callee (f := 49) rfl ?_); refine gL (some 145) Try.func49 #[.slice Ao89 t765.length co89, .slice Ao90 t766.length co90] ?_; (with_reducible refine (impl_IsSafeLights.calls kj9 _ _ t765 _ _ t766 false _ ?_ ?_ ?_ ?_ A71.out).mono ?_); exact cO ⟨(Kd.R_reads' HO768.out).2.2⟩; exact (Kd.R_reads' HO768.out).2.1; exact cO ⟨(Kd.R_reads' HO770.out).2.2⟩; exact (Kd.R_reads' HO770.out).2.1; rintro e w91 ⟨rfl, hb⟩; refine ⟨_, rfl, ?_⟩; replace HO768 := rb HO768 hb; replace HO770 := rb HO770 hb; replace HB := bs HB hb; (try clear hb)))
   go_ret
   exact ⟨rA, bA⟩

end Go.Proofs.Ytjgonpcajedkjaa.P
