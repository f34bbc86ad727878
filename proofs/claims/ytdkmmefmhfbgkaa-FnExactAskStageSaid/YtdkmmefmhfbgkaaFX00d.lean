/- Printed by myprint.py (wip/tools) over the kit's print: what Go's functions compute, and that they do. Lean checks it. -/
import Derived.Test.YtdkmmefmhfbgkaaF0
import Derived.Test.YtdkmmefmhfbgkaaFX00
import Derived.Test.YtdkmmefmhfbgkaaFX00b
import Derived.Test.YtdkmmefmhfbgkaaFX00c
namespace Go.Proofs.Ytdkmmefmhfbgkaa.P
open Go.RowKit Go.Proofs.YtdkmmefmhfbgkaaW.PrintWords Go.Proofs.YtdkmmefmhfbgkaaW.PrintLast Go.Proofs.YtdkmmefmhfbgkaaW.PrintMore Go.Proofs.Ytdkmmefmhfbgkaa.Sq
attribute [local go_sem] max2_int min2_int max_two min_two max_three min_three max_four min_four
set_option linter.unusedVariables false
set_option linter.unusedSimpArgs false

/-! ### laws_FnExactAskStage: function 7 -/
mutual
def laws_FnExactAskStage.j0 : Nat → List (S91) → List Int → Bool → List (S89) → List Int → Bool → Bool → List Int → Int → List Int → Int → List Int → Int → List Int → Int → List Int → Int → List Int → Int → List Int → Int → List Int → Int → Option (Bool)
 | 0, _, _, _, _, _, _, _, _, _, _, _, _, _, _, _, _, _, _, _, _, _, _, _ => none
 | k + 1, x0, x2, x9, x10, x12, x14, x64, x398000, x398001, x398002, x398003, x424000, x424001, x424002, x424003, x436000, x436001, x436002, x436003, x449000, x449001, x449002, x449003 => if x64 = true then (none) else ((laws_toPathS.f k x0).bind fun t450 => ((laws_eqPathS.f k x10 t450).bind fun t453 => (if t453 = true then ((laws_toControl.f k x398000 x398001 x398002 x398003).bind fun bt454 => ((laws_eqControl.f k x436000 x436001 x436002 x436003 bt454.1 bt454.2.1 bt454.2.2.1 bt454.2.2.2).bind fun t462 => (if t462 = true then ((laws_toIntS.f k x2).bind fun t463 => ((laws_eqIntS.f k x12 t463).bind fun t466 => (if t466 = true then ((laws_markPathS.f k x10 1).bind fun bt467 => ((laws_markControl.f k x436000 x436001 x436002 x436003 bt467.1).bind fun bt469 => ((laws_markIntS.f k x12 bt469.1).bind fun bt472 => (if bt472.1 < 0 then (laws_FnExactAskStage.j1 k x0 x2 x9 true x398000 x398001 x398002 x398003 x424000 x424001 x424002 x424003 x449000 x449001 x449002 x449003) else ((laws_eqControl.f k x449000 x449001 x449002 x449003 x424000 x424001 x424002 x424003).bind fun t474 => (if t474 = true then (laws_FnExactAskStage.j1 k x0 x2 x9 (x14 != x9) x398000 x398001 x398002 x398003 x424000 x424001 x424002 x424003 x449000 x449001 x449002 x449003) else (laws_FnExactAskStage.j1 k x0 x2 x9 true x398000 x398001 x398002 x398003 x424000 x424001 x424002 x424003 x449000 x449001 x449002 x449003))))))) else (none)))) else (none)))) else (none))))
def laws_FnExactAskStage.j1 : Nat → List (S91) → List Int → Bool → Bool → List Int → Int → List Int → Int → List Int → Int → List Int → Int → List Int → Int → List Int → Int → Option (Bool)
 | 0, _, _, _, _, _, _, _, _, _, _, _, _, _, _, _, _ => none
 | k + 1, x0, x2, x9, x101, x398000, x398001, x398002, x398003, x424000, x424001, x424002, x424003, x449000, x449001, x449002, x449003 => if x101 = true then (none) else ((laws_markControl.f k x449000 x449001 x449002 x449003 1).bind fun bt475 => ((laws_heldControl.f k bt475.2.1 x449001 bt475.2.2 x449003 1).bind fun t478 => (if t478 < 0 then (none) else (if t478 = bt475.1 then ((laws_toPathS.f k x0).bind fun t479 => ((laws_toControl.f k x398000 x398001 x398002 x398003).bind fun bt482 => ((laws_toIntS.f k x2).bind fun t490 => ((impl_AskStage.f k t479 bt482.1 bt482.2.1 bt482.2.2.1 bt482.2.2.2 t490).bind fun bt493 => ((laws_eqControl.f k bt493.1 bt493.2.1 bt493.2.2.1 bt493.2.2.2.1 x424000 x424001 x424002 x424003).bind fun t503 => (if t503 = true then (laws_FnExactAskStage.j2 k bt475.1 (bt493.2.2.2.2 != x9) bt475.2.1 x449001 bt475.2.2 x449003) else (laws_FnExactAskStage.j2 k bt475.1 true bt475.2.1 x449001 bt475.2.2 x449003))))))) else (none)))))
def laws_FnExactAskStage.j2 : Nat → Int → Bool → List Int → Int → List Int → Int → Option (Bool)
 | 0, _, _, _, _, _, _ => none
 | k + 1, x16, x131, x449000, x449001, x449002, x449003 => if x131 = true then (none) else ((laws_heldControl.f k x449000 x449001 x449002 x449003 1).bind fun t504 => (if t504 < 0 then (none) else (if t504 = x16 then (some true) else (none))))
end
def laws_FnExactAskStage.f (k : Nat) (l0 : List (S91)) (l1_0 : List Int) (a1_1 : Int) (l1_2 : List Int) (a1_3 : Int) (l2 : List Int) : Option (Bool) := if (l2.length : Int) > 1048576 then (some true) else ((laws_szPathS.f l0 1048576).bind fun t398 => (if t398 < 0 then (some true) else ((laws_szControl.f l1_0 a1_1 l1_2 a1_3 t398).bind fun t399 => (if t399 < 0 then (some true) else ((laws_toPathS.f k l0).bind fun t400 => ((laws_toControl.f k l1_0 a1_1 l1_2 a1_3).bind fun bt403 => ((laws_toIntS.f k l2).bind fun t411 => ((spec_AskStage.f k t400 bt403.1 bt403.2.1 bt403.2.2.1 bt403.2.2.2 t411).bind fun bt414 => ((laws_toPathS.f k l0).bind fun t424 => ((laws_toControl.f k l1_0 a1_1 l1_2 a1_3).bind fun bt427 => ((laws_toIntS.f k l2).bind fun t436 => ((impl_AskStage.f k t424 bt427.1 bt427.2.1 bt427.2.2.1 bt427.2.2.2 t436).bind fun bt439 => ((laws_eqControl.f k bt439.1 bt439.2.1 bt439.2.2.1 bt439.2.2.2.1 bt414.1 bt414.2.1 bt414.2.2.1 bt414.2.2.2.1).bind fun t449 => (if t449 = true then (laws_FnExactAskStage.j0 k l0 l2 bt414.2.2.2.2 t424 t436 bt439.2.2.2.2 (bt439.2.2.2.2 != bt414.2.2.2.2) l1_0 a1_1 l1_2 a1_3 bt414.1 bt414.2.1 bt414.2.2.1 bt414.2.2.2.1 bt427.1 bt427.2.1 bt427.2.2.1 bt427.2.2.2 bt439.1 bt439.2.1 bt439.2.2.1 bt439.2.2.2.1) else (laws_FnExactAskStage.j0 k l0 l2 bt414.2.2.2.2 t424 t436 bt439.2.2.2.2 true l1_0 a1_1 l1_2 a1_3 bt414.1 bt414.2.1 bt414.2.2.1 bt414.2.2.2.1 bt427.1 bt427.2.1 bt427.2.2.1 bt427.2.2.2 bt439.1 bt439.2.1 bt439.2.2.1 bt439.2.2.2.1)))))))))))))))
theorem laws_FnExactAskStage.mono_l : ∀ k, (∀ y0 y1 y2 y3 y4 y5 y6 y7 y8 y9 y10 y11 y12 y13 y14 y15 y16 y17 y18 y19 y20 y21 y22, LeO (laws_FnExactAskStage.j0 k y0 y1 y2 y3 y4 y5 y6 y7 y8 y9 y10 y11 y12 y13 y14 y15 y16 y17 y18 y19 y20 y21 y22) (laws_FnExactAskStage.j0 (k + 1) y0 y1 y2 y3 y4 y5 y6 y7 y8 y9 y10 y11 y12 y13 y14 y15 y16 y17 y18 y19 y20 y21 y22)) ∧ (∀ y0 y1 y2 y3 y4 y5 y6 y7 y8 y9 y10 y11 y12 y13 y14 y15, LeO (laws_FnExactAskStage.j1 k y0 y1 y2 y3 y4 y5 y6 y7 y8 y9 y10 y11 y12 y13 y14 y15) (laws_FnExactAskStage.j1 (k + 1) y0 y1 y2 y3 y4 y5 y6 y7 y8 y9 y10 y11 y12 y13 y14 y15)) ∧ (∀ y0 y1 y2 y3 y4 y5, LeO (laws_FnExactAskStage.j2 k y0 y1 y2 y3 y4 y5) (laws_FnExactAskStage.j2 (k + 1) y0 y1 y2 y3 y4 y5))
 | 0 => ⟨fun _ _ _ _ _ _ _ _ _ _ _ _ _ _ _ _ _ _ _ _ _ _ _ r h => by simp [laws_FnExactAskStage.j0] at h, fun _ _ _ _ _ _ _ _ _ _ _ _ _ _ _ _ r h => by simp [laws_FnExactAskStage.j1] at h, fun _ _ _ _ _ _ r h => by simp [laws_FnExactAskStage.j2] at h⟩
 | k + 1 => by
  obtain ⟨ih0, ih1, ih2⟩ := laws_FnExactAskStage.mono_l k
  refine ⟨?_, ?_, ?_⟩
  ·
   intro y0 y1 y2 y3 y4 y5 y6 y7 y8 y9 y10 y11 y12 y13 y14 y15 y16 y17 y18 y19 y20 y21 y22
   unfold laws_FnExactAskStage.j0
   repeat' first | (with_reducible first | exact LeO.refl _ | exact LeO.none _ | refine LeO.ite ?_ ?_ | refine LeO.bind ?_ (fun _ => ?_) | exact ih0 _ _ _ _ _ _ _ _ _ _ _ _ _ _ _ _ _ _ _ _ _ _ _ | exact ih1 _ _ _ _ _ _ _ _ _ _ _ _ _ _ _ _ | exact ih2 _ _ _ _ _ _ | exact impl_AskStage.mono _ _ _ _ _ _ _ | exact laws_eqControl.mono _ _ _ _ _ _ _ _ _ | exact laws_eqIntS.mono _ _ _ | exact laws_eqPathS.mono _ _ _ | exact laws_heldControl.mono _ _ _ _ _ _ | exact laws_markControl.mono _ _ _ _ _ _ | exact laws_markIntS.mono _ _ _ | exact laws_markPathS.mono _ _ _ | exact laws_toControl.mono _ _ _ _ _ | exact laws_toIntS.mono _ _ | exact laws_toPathS.mono _ _ | exact spec_AskStage.mono _ _ _ _ _ _ _)
  ·
   intro y0 y1 y2 y3 y4 y5 y6 y7 y8 y9 y10 y11 y12 y13 y14 y15
   unfold laws_FnExactAskStage.j1
   repeat' first | (with_reducible first | exact LeO.refl _ | exact LeO.none _ | refine LeO.ite ?_ ?_ | refine LeO.bind ?_ (fun _ => ?_) | exact ih0 _ _ _ _ _ _ _ _ _ _ _ _ _ _ _ _ _ _ _ _ _ _ _ | exact ih1 _ _ _ _ _ _ _ _ _ _ _ _ _ _ _ _ | exact ih2 _ _ _ _ _ _ | exact impl_AskStage.mono _ _ _ _ _ _ _ | exact laws_eqControl.mono _ _ _ _ _ _ _ _ _ | exact laws_eqIntS.mono _ _ _ | exact laws_eqPathS.mono _ _ _ | exact laws_heldControl.mono _ _ _ _ _ _ | exact laws_markControl.mono _ _ _ _ _ _ | exact laws_markIntS.mono _ _ _ | exact laws_markPathS.mono _ _ _ | exact laws_toControl.mono _ _ _ _ _ | exact laws_toIntS.mono _ _ | exact laws_toPathS.mono _ _ | exact spec_AskStage.mono _ _ _ _ _ _ _)
  ·
   intro y0 y1 y2 y3 y4 y5
   unfold laws_FnExactAskStage.j2
   repeat' first | (with_reducible first | exact LeO.refl _ | exact LeO.none _ | refine LeO.ite ?_ ?_ | refine LeO.bind ?_ (fun _ => ?_) | exact ih0 _ _ _ _ _ _ _ _ _ _ _ _ _ _ _ _ _ _ _ _ _ _ _ | exact ih1 _ _ _ _ _ _ _ _ _ _ _ _ _ _ _ _ | exact ih2 _ _ _ _ _ _ | exact impl_AskStage.mono _ _ _ _ _ _ _ | exact laws_eqControl.mono _ _ _ _ _ _ _ _ _ | exact laws_eqIntS.mono _ _ _ | exact laws_eqPathS.mono _ _ _ | exact laws_heldControl.mono _ _ _ _ _ _ | exact laws_markControl.mono _ _ _ _ _ _ | exact laws_markIntS.mono _ _ _ | exact laws_markPathS.mono _ _ _ | exact laws_toControl.mono _ _ _ _ _ | exact laws_toIntS.mono _ _ | exact laws_toPathS.mono _ _ | exact spec_AskStage.mono _ _ _ _ _ _ _)
theorem laws_FnExactAskStage.mono : ∀ a0 a1 a2 a3 a4 a5 k, LeO (laws_FnExactAskStage.f k a0 a1 a2 a3 a4 a5) (laws_FnExactAskStage.f (k + 1) a0 a1 a2 a3 a4 a5) := by
 intro a0 a1 a2 a3 a4 a5 k
 obtain ⟨ih0, ih1, ih2⟩ := laws_FnExactAskStage.mono_l k
 unfold laws_FnExactAskStage.f
 repeat' first | (with_reducible first | exact LeO.refl _ | exact LeO.none _ | refine LeO.ite ?_ ?_ | refine LeO.bind ?_ (fun _ => ?_) | exact ih0 _ _ _ _ _ _ _ _ _ _ _ _ _ _ _ _ _ _ _ _ _ _ _ | exact ih1 _ _ _ _ _ _ _ _ _ _ _ _ _ _ _ _ | exact ih2 _ _ _ _ _ _ | exact impl_AskStage.mono _ _ _ _ _ _ _ | exact laws_eqControl.mono _ _ _ _ _ _ _ _ _ | exact laws_eqIntS.mono _ _ _ | exact laws_eqPathS.mono _ _ _ | exact laws_heldControl.mono _ _ _ _ _ _ | exact laws_markControl.mono _ _ _ _ _ _ | exact laws_markIntS.mono _ _ _ | exact laws_markPathS.mono _ _ _ | exact laws_toControl.mono _ _ _ _ _ | exact laws_toIntS.mono _ _ | exact laws_toPathS.mono _ _ | exact spec_AskStage.mono _ _ _ _ _ _ _)
def laws_FnExactAskStage.T10 : Bool × List (List Nat × List Nat) := (true, [([], []), ([0], [0]), ([], []), ([2, 1], [2]), ([], []), ([4, 3], [4]), ([1, 3, 5, 5], [1, 3, 5]), ([6], [6]), ([7], [7]), ([7], [7]), ([], []), ([10, 8, 6, 0, 1, 2, 3, 4, 5, 6, 7, 8, 10], [8, 10]), ([9, 11, 0, 1, 2, 3, 4, 5, 6, 7, 8, 9, 10, 11], [9])])
def laws_FnExactAskStage.B10 : List Nat := [0, 1, 0, 7, 0, 31, 63, 127, 255, 255, 0, 1535, 4095]
theorem laws_FnExactAskStage.tab10 : rtab .any (opsOf Try.f7 10) = laws_FnExactAskStage.T10 := by kernel_rfl
theorem laws_FnExactAskStage.bits10 : waitsOk laws_FnExactAskStage.T10.2 laws_FnExactAskStage.B10 = true := by kernel_rfl
def laws_FnExactAskStage.T37 : Bool × List (List Nat × List Nat) := (true, [([], []), ([0], [0]), ([], []), ([2, 1], [2]), ([], []), ([4, 3], [4]), ([1, 3, 5, 5], [1, 3, 5]), ([6], [6]), ([7], [7]), ([7], [7]), ([], []), ([10, 8, 6, 0, 1, 2, 3, 4, 5, 6, 7, 8, 10], [8, 10]), ([9, 11, 0, 1, 2, 3, 4, 5, 6, 7, 8, 9, 10, 11], [9])])
def laws_FnExactAskStage.B37 : List Nat := [0, 1, 0, 7, 0, 31, 63, 127, 255, 255, 0, 1535, 4095]
theorem laws_FnExactAskStage.tab37 : rtab .any (opsOf Try.f7 37) = laws_FnExactAskStage.T37 := by kernel_rfl
theorem laws_FnExactAskStage.bits37 : waitsOk laws_FnExactAskStage.T37.2 laws_FnExactAskStage.B37 = true := by kernel_rfl
set_option maxHeartbeats 8000000 in
set_option maxRecDepth 100000 in
theorem laws_FnExactAskStage.calls (k : Nat) (A0 : Option Addr) (c0 : Nat) (l0 : List (S91)) (A1_0 : Option Addr) (c1_0 : Nat) (l1_0 : List Int) (a1_1 : Int) (A1_2 : Option Addr) (c1_2 : Nat) (l1_2 : List Int) (a1_3 : Int) (A2 : Option Addr) (c2 : Nat) (l2 : List Int) (r : Bool) (w : World) (hr0 : Kd.C k91 w A0 l0.length l0) (hc0 : l0.length ≤ c0) (hr1_0 : Kd.C (Kd.int .i64) w A1_0 l1_0.length l1_0) (hc1_0 : l1_0.length ≤ c1_0) (hr1_2 : Kd.C (Kd.int .i64) w A1_2 l1_2.length l1_2) (hc1_2 : l1_2.length ≤ c1_2) (hr2 : Kd.C (Kd.int .i64) w A2 l2.length l2) (hc2 : l2.length ≤ c2) (h : laws_FnExactAskStage.f k l0 l1_0 a1_1 l1_2 a1_3 l2 = some r) :
  Calls Try.prog 7 #[.slice A0 l0.length c0, .agg #[.slice A1_0 l1_0.length c1_0, .int .i64 a1_1, .slice A1_2 l1_2.length c1_2, .int .i64 a1_3], .slice A2 l2.length c2] w fun e w' => e = .returned (.bool r) ∧ Below w.heap.size w w' := by
 have hu55 := Try.underlying55
 have hu57 := Try.underlying57
 have HR0 := Aside0.mk hr0
 have HC0 := Aside0.mk hc0
 clear hr0 hc0
 have HR1_0 := Aside0.mk hr1_0
 have HC1_0 := Aside0.mk hc1_0
 clear hr1_0 hc1_0
 have HR1_2 := Aside0.mk hr1_2
 have HC1_2 := Aside0.mk hc1_2
 clear hr1_2 hc1_2
 have HR2 := Aside0.mk hr2
 have HC2 := Aside0.mk hc2
 clear hr2 hc2
 have HB := Aside0.mk (Below.refl w.heap.size w)
 have H : (if (l2.length : Int) > 1048576 then (some true) else ((laws_szPathS.f l0 1048576).bind fun t398 => (if t398 < 0 then (some true) else ((laws_szControl.f l1_0 a1_1 l1_2 a1_3 t398).bind fun t399 => (if t399 < 0 then (some true) else ((laws_toPathS.f k l0).bind fun t400 => ((laws_toControl.f k l1_0 a1_1 l1_2 a1_3).bind fun bt403 => ((laws_toIntS.f k l2).bind fun t411 => ((spec_AskStage.f k t400 bt403.1 bt403.2.1 bt403.2.2.1 bt403.2.2.2 t411).bind fun bt414 => ((laws_toPathS.f k l0).bind fun t424 => ((laws_toControl.f k l1_0 a1_1 l1_2 a1_3).bind fun bt427 => ((laws_toIntS.f k l2).bind fun t436 => ((impl_AskStage.f k t424 bt427.1 bt427.2.1 bt427.2.2.1 bt427.2.2.2 t436).bind fun bt439 => ((laws_eqControl.f k bt439.1 bt439.2.1 bt439.2.2.1 bt439.2.2.2.1 bt414.1 bt414.2.1 bt414.2.2.1 bt414.2.2.2.1).bind fun t449 => (if t449 = true then (laws_FnExactAskStage.j0 k l0 l2 bt414.2.2.2.2 t424 t436 bt439.2.2.2.2 (bt439.2.2.2.2 != bt414.2.2.2.2) l1_0 a1_1 l1_2 a1_3 bt414.1 bt414.2.1 bt414.2.2.1 bt414.2.2.2.1 bt427.1 bt427.2.1 bt427.2.2.1 bt427.2.2.2 bt439.1 bt439.2.1 bt439.2.2.1 bt439.2.2.2.1) else (laws_FnExactAskStage.j0 k l0 l2 bt414.2.2.2.2 t424 t436 bt439.2.2.2.2 true l1_0 a1_1 l1_2 a1_3 bt414.1 bt414.2.1 bt414.2.2.1 bt414.2.2.2.1 bt427.1 bt427.2.1 bt427.2.2.1 bt427.2.2.2 bt439.1 bt439.2.1 bt439.2.2.1 bt439.2.2.2.1)))))))))))))))) = some r := h
 clear h
 by_cases c4 : (l2.length : Int) > 1048576
 ·
  rw [if_pos c4] at H
  have c4b0 := decide_eq_true c4
  have c4b1 : decide (1048576 < l2.length) = true := decide_eq_true (by omega)
  clear c4
  obtain rfl := Option.some.inj H
  go_enter Try.func7, Try.ntmps7
  go_wp2_with (first | ((with_reducible refine gate_dst (N := 4) rfl ?_); refine bE (N := 4) (cs := #[.slice A1_0 l1_0.length c1_0, .int .i64 a1_1, .slice A1_2 l1_2.length c1_2, .int .i64 a1_3]) (t := 55) ?_; intro gb397 hg w5 hbox hb; have BK397 := Aside0.mk (hbox); have GW397 := gw w hg; have GE397 := gw w hg; replace HB := bs HB hb; clear hb hbox hg))
  go_ret
  exact ⟨rA, bG⟩
 rw [if_neg c4] at H
 have c4b0 := decide_eq_false c4
 have c4b1 : decide (1048576 < l2.length) = false := decide_eq_false (by omega)
 clear c4
 obtain ⟨t398, A6, H⟩ := bindE H
 try dsimp only at H
 by_cases c7 : t398 < 0
 ·
  rw [if_pos c7] at H
  have c7b0 := decide_eq_true c7
  clear c7
  obtain rfl := Option.some.inj H
  go_enter Try.func7, Try.ntmps7
  go_wp2_with (first | ((with_reducible refine gate_dst (N := 4) rfl ?_); refine bE (N := 4) (cs := #[.slice A1_0 l1_0.length c1_0, .int .i64 a1_1, .slice A1_2 l1_2.length c1_2, .int .i64 a1_3]) (t := 55) ?_; intro gb397 hg w8 hbox hb; have BK397 := Aside0.mk (hbox); have GW397 := gw w hg; have GE397 := gw w hg; replace HB := bs HB hb; clear hb hbox hg) | ((with_reducible refine gate_callee (f := 11) rfl ?_); refine gL (some 25) Try.func11 #[.slice A0 l0.length c0, .int .i64 1048576] ?_; (with_reducible refine (laws_szPathS.calls _ _ l0 1048576 t398 _ ?_ ?_ A6.out).mono ?_); exact cB HR0; exact HC0.out; rintro e w' ⟨rfl, ⟨nd, rfl⟩⟩; refine ⟨_, rfl, ?_⟩))
  go_ret
  exact ⟨rA, bG⟩
 rw [if_neg c7] at H
 have c7b0 := decide_eq_false c7
 clear c7
 obtain ⟨t399, A9, H⟩ := bindE H
 try dsimp only at H
 by_cases c10 : t399 < 0
 ·
  rw [if_pos c10] at H
  have c10b0 := decide_eq_true c10
  clear c10
  obtain rfl := Option.some.inj H
  go_enter Try.func7, Try.ntmps7
  go_wp2_with (first | ((with_reducible refine gate_dst (N := 4) rfl ?_); refine bE (N := 4) (cs := #[.slice A1_0 l1_0.length c1_0, .int .i64 a1_1, .slice A1_2 l1_2.length c1_2, .int .i64 a1_3]) (t := 55) ?_; intro gb397 hg w11 hbox hb; have BK397 := Aside0.mk (hbox); have GW397 := gw w hg; have GE397 := gw w hg; replace HB := bs HB hb; clear hb hbox hg) | ((with_reducible refine gate_callee (f := 11) rfl ?_); refine gL (some 25) Try.func11 #[.slice A0 l0.length c0, .int .i64 1048576] ?_; (with_reducible refine (laws_szPathS.calls _ _ l0 1048576 t398 _ ?_ ?_ A6.out).mono ?_); exact cB HR0; exact HC0.out; rintro e w' ⟨rfl, ⟨nd, rfl⟩⟩; refine ⟨_, rfl, ?_⟩; have hcz12_0 : w11.cell? ⟨gb397, 0, none⟩ = some (.slice A1_0 l1_0.length c1_0) := bC BK397 0; have hcz12_1 : w11.cell? ⟨gb397, 1, none⟩ = some (.int .i64 a1_1) := bC BK397 1; have hcz12_2 : w11.cell? ⟨gb397, 2, none⟩ = some (.slice A1_2 l1_2.length c1_2) := bC BK397 2; have hcz12_3 : w11.cell? ⟨gb397, 3, none⟩ = some (.int .i64 a1_3) := bC BK397 3; have hfz12_0 := blk_frozen BK397.out 0; have hfz12_1 := blk_frozen BK397.out 1; have hfz12_2 := blk_frozen BK397.out 2; have hfz12_3 := blk_frozen BK397.out 3) | ((with_reducible refine gate_callee (f := 38) rfl ?_); refine gL (some 30) Try.func38 #[.agg #[.slice A1_0 l1_0.length c1_0, .int .i64 a1_1, .slice A1_2 l1_2.length c1_2, .int .i64 a1_3], .int .i64 t398] ?_; (with_reducible refine (laws_szControl.calls _ _ l1_0 a1_1 _ _ l1_2 a1_3 t398 t399 _ ?_ ?_ ?_ ?_ A9.out).mono ?_); exact cG HR1_0; exact HC1_0.out; exact cG HR1_2; exact HC1_2.out; rintro e w13 ⟨rfl, hb⟩; refine ⟨_, rfl, ?_⟩; replace BK397 := kb BK397 hb; replace HB := bs HB hb; (try clear hb)))
  go_ret
  exact ⟨rA, bG⟩
 rw [if_neg c10] at H
 have c10b0 := decide_eq_false c10
 clear c10
 obtain ⟨t400, A14, H⟩ := bindE H
 try dsimp only at H
 obtain ⟨⟨t403, t406, t407, t410⟩, A15, H⟩ := bindE H
 try dsimp only at H
 obtain ⟨t411, A16, H⟩ := bindE H
 try dsimp only at H
 obtain ⟨⟨t414, t417, t418, t421, t422⟩, A17, H⟩ := bindE H
 try dsimp only at H
 obtain ⟨t424, A18, H⟩ := bindE H
 try dsimp only at H
 obtain ⟨⟨t427, t430, t431, t434⟩, A19, H⟩ := bindE H
 try dsimp only at H
 obtain ⟨t436, A20, H⟩ := bindE H
 try dsimp only at H
 obtain ⟨⟨t439, t442, t443, t446, t447⟩, A21, H⟩ := bindE H
 try dsimp only at H
 have HC22 := Aside0.mk H
 clear H
 go_enter Try.func7, Try.ntmps7
 try go_wp2_with (first | ((with_reducible refine gate_dst (N := 4) rfl ?_); refine bE (N := 4) (cs := #[.slice A1_0 l1_0.length c1_0, .int .i64 a1_1, .slice A1_2 l1_2.length c1_2, .int .i64 a1_3]) (t := 55) ?_; intro gb397 hg w23 hbox hb; have BK397 := Aside0.mk (hbox); have GW397 := gw w hg; have GE397 := gw w hg; replace HB := bs HB hb; clear hb hbox hg) | ((with_reducible refine gate_callee (f := 11) rfl ?_); refine gL (some 25) Try.func11 #[.slice A0 l0.length c0, .int .i64 1048576] ?_; (with_reducible refine (laws_szPathS.calls _ _ l0 1048576 t398 _ ?_ ?_ A6.out).mono ?_); exact cB HR0; exact HC0.out; rintro e w' ⟨rfl, ⟨nd, rfl⟩⟩; refine ⟨_, rfl, ?_⟩; (try (rw [drewN_self w23]; generalize hq_ : World.drewN w23 _ = w23; have n0_ : Aside0 (w23.heap[gb397]? = some (.cells #[.slice A1_0 l1_0.length c1_0, .int .i64 a1_1, .slice A1_2 l1_2.length c1_2, .int .i64 a1_3] 55 (0, 0))) := ⟨by rw [← hq_]; exact (bK BK397)⟩; have n1_ : Aside0 (Below w.heap.size w w23) := ⟨by rw [← hq_]; exact bG⟩; clear BK397 HB hq_; have BK397 := n0_; have HB := n1_; clear n0_ n1_)); have hcz24_0 : w23.cell? ⟨gb397, 0, none⟩ = some (.slice A1_0 l1_0.length c1_0) := bC BK397 0; have hcz24_1 : w23.cell? ⟨gb397, 1, none⟩ = some (.int .i64 a1_1) := bC BK397 1; have hcz24_2 : w23.cell? ⟨gb397, 2, none⟩ = some (.slice A1_2 l1_2.length c1_2) := bC BK397 2; have hcz24_3 : w23.cell? ⟨gb397, 3, none⟩ = some (.int .i64 a1_3) := bC BK397 3; have hfz24_0 := blk_frozen BK397.out 0; have hfz24_1 := blk_frozen BK397.out 1; have hfz24_2 := blk_frozen BK397.out 2; have hfz24_3 := blk_frozen BK397.out 3) | ((with_reducible refine gate_callee (f := 38) rfl ?_); refine gL (some 30) Try.func38 #[.agg #[.slice A1_0 l1_0.length c1_0, .int .i64 a1_1, .slice A1_2 l1_2.length c1_2, .int .i64 a1_3], .int .i64 t398] ?_; (with_reducible refine (laws_szControl.calls _ _ l1_0 a1_1 _ _ l1_2 a1_3 t398 t399 _ ?_ ?_ ?_ ?_ A9.out).mono ?_); exact cB HR1_0; exact HC1_0.out; exact cB HR1_2; exact HC1_2.out; rintro e w25 ⟨rfl, hb⟩; refine ⟨_, rfl, ?_⟩; replace BK397 := kb BK397 hb; replace HB := bs HB hb; (try clear hb)))
 replace BK397 := dk BK397
 have HBo := HB
 replace HB := db HB
 refine start_ (n := 13) (S := fun w' => w'.cell? ⟨gb397, 0, none⟩ = some (.slice A1_0 l1_0.length c1_0) ∧ w'.cell? ⟨gb397, 1, none⟩ = some (.int .i64 a1_1) ∧ w'.cell? ⟨gb397, 2, none⟩ = some (.slice A1_2 l1_2.length c1_2) ∧ w'.cell? ⟨gb397, 3, none⟩ = some (.int .i64 a1_3)) (ds := []) (mb 13 0) (by kernel_rfl) rfl rfl (cn4 BK397) (fun hHeld => ?_); refine with_tabW laws_FnExactAskStage.tab10 laws_FnExactAskStage.bits10 (fun HT_ HW_ => ?_)
 generalize w25.drew = w26 at BK397 HB hHeld ⊢
 refine pa 0 34 (mb 13 1) HT_ ?_
 refine pa 4 38 (mb 13 17) HT_ ?_
 refine ta4 2 36 (mb 13 21) HT_ HW_ hHeld ?_
 refine join_ (σ := Value × Value × Value × Value × Value × Value × Nat) 2 (mb 13 2047) (fun s_ => [(35, s_.1), (37, .agg #[s_.2.1, .int .i64 t406, s_.2.2.1, .int .i64 t410]), (39, s_.2.2.2.1), (40, .tuple #[.agg #[s_.2.2.2.2.1, .int .i64 t417, s_.2.2.2.2.2.1, .int .i64 t421], .bool t422]), (8, .pointer (some ⟨s_.2.2.2.2.2.2, 0, none⟩)), (33, .tuple #[.agg #[s_.2.2.2.2.1, .int .i64 t417, s_.2.2.2.2.2.1, .int .i64 t421], .bool t422]), (41, .agg #[s_.2.2.2.2.1, .int .i64 t417, s_.2.2.2.2.2.1, .int .i64 t421]), (42, .bool t422)]) (fun s_ w' => (w'.cell? ⟨gb397, 0, none⟩ = some (.slice A1_0 l1_0.length c1_0) ∧ w'.cell? ⟨gb397, 1, none⟩ = some (.int .i64 a1_1) ∧ w'.cell? ⟨gb397, 2, none⟩ = some (.slice A1_2 l1_2.length c1_2) ∧ w'.cell? ⟨gb397, 3, none⟩ = some (.int .i64 a1_3)) ∧ (Kd.R k89 89 w' w.heap.size (fun _ => True) s_.1 t400) ∧ (Kd.R (Kd.int .i64) 3 w' w.heap.size (n4 s_.2.2.1 s_.2.2.2.1 s_.2.2.2.2.1 s_.2.2.2.2.2.1) s_.2.1 t403) ∧ (Kd.R (Kd.int .i64) 3 w' w.heap.size (n4 s_.2.1 s_.2.2.2.1 s_.2.2.2.2.1 s_.2.2.2.2.2.1) s_.2.2.1 t407) ∧ (Kd.R (Kd.int .i64) 3 w' w.heap.size (n4 s_.2.1 s_.2.2.1 s_.2.2.2.2.1 s_.2.2.2.2.2.1) s_.2.2.2.1 t411) ∧ (Kd.R (Kd.int .i64) 3 w' w.heap.size (n4 s_.2.1 s_.2.2.1 s_.2.2.2.1 s_.2.2.2.2.2.1) s_.2.2.2.2.1 t414) ∧ (Kd.R (Kd.int .i64) 3 w' w.heap.size (n4 s_.2.1 s_.2.2.1 s_.2.2.2.1 s_.2.2.2.2.1) s_.2.2.2.2.2.1 t418) ∧ (w'.heap[gb397]? = some (.cells #[.slice A1_0 l1_0.length c1_0, .int .i64 a1_1, .slice A1_2 l1_2.length c1_2, .int .i64 a1_3] 55 (0, 0))) ∧ (w'.heap[s_.2.2.2.2.2.2]? = some (.cells #[.slice none 0 0, .int .i64 0, .slice none 0 0, .int .i64 0] 57 (0, 0))) ∧ (w.heap.size ≤ s_.2.2.2.2.2.2) ∧ (w.heap.size ≤ s_.2.2.2.2.2.2) ∧ (gb397 ≠ s_.2.2.2.2.2.2) ∧ (s_.2.2.2.2.2.2 ≠ gb397) ∧ (Below w.heap.size w w')) ?_ ?_
 rotate_left
 ·
  intro hJ1_3_5_6_10
  refine join_ (σ := Value × Value × Value × Value × Value × Value) 3 (mb 13 1023) (fun s_ => [(35, s_.1), (37, .agg #[s_.2.1, .int .i64 t406, s_.2.2.1, .int .i64 t410]), (39, s_.2.2.2.1), (40, .tuple #[.agg #[s_.2.2.2.2.1, .int .i64 t417, s_.2.2.2.2.2, .int .i64 t421], .bool t422]), (33, .tuple #[.agg #[s_.2.2.2.2.1, .int .i64 t417, s_.2.2.2.2.2, .int .i64 t421], .bool t422]), (41, .agg #[s_.2.2.2.2.1, .int .i64 t417, s_.2.2.2.2.2, .int .i64 t421]), (42, .bool t422)]) (fun s_ w' => (w'.cell? ⟨gb397, 0, none⟩ = some (.slice A1_0 l1_0.length c1_0) ∧ w'.cell? ⟨gb397, 1, none⟩ = some (.int .i64 a1_1) ∧ w'.cell? ⟨gb397, 2, none⟩ = some (.slice A1_2 l1_2.length c1_2) ∧ w'.cell? ⟨gb397, 3, none⟩ = some (.int .i64 a1_3)) ∧ (Kd.R k89 89 w' w.heap.size (fun _ => True) s_.1 t400) ∧ (Kd.R (Kd.int .i64) 3 w' w.heap.size (n4 s_.2.2.1 s_.2.2.2.1 s_.2.2.2.2.1 s_.2.2.2.2.2) s_.2.1 t403) ∧ (Kd.R (Kd.int .i64) 3 w' w.heap.size (n4 s_.2.1 s_.2.2.2.1 s_.2.2.2.2.1 s_.2.2.2.2.2) s_.2.2.1 t407) ∧ (Kd.R (Kd.int .i64) 3 w' w.heap.size (n4 s_.2.1 s_.2.2.1 s_.2.2.2.2.1 s_.2.2.2.2.2) s_.2.2.2.1 t411) ∧ (Kd.R (Kd.int .i64) 3 w' w.heap.size (n4 s_.2.1 s_.2.2.1 s_.2.2.2.1 s_.2.2.2.2.2) s_.2.2.2.2.1 t414) ∧ (Kd.R (Kd.int .i64) 3 w' w.heap.size (n4 s_.2.1 s_.2.2.1 s_.2.2.2.1 s_.2.2.2.2.1) s_.2.2.2.2.2 t418) ∧ (w'.heap[gb397]? = some (.cells #[.slice A1_0 l1_0.length c1_0, .int .i64 a1_1, .slice A1_2 l1_2.length c1_2, .int .i64 a1_3] 55 (0, 0))) ∧ (Below w.heap.size w w')) ?_ ?_
  rotate_left
  ·
   intro hJ1_3_5_6
   refine join_ (σ := Value × Value × Value × Value × Nat) 6 (mb 13 1087) (fun s_ => [(35, s_.1), (37, .agg #[s_.2.1, .int .i64 t406, s_.2.2.1, .int .i64 t410]), (39, s_.2.2.2.1), (8, .pointer (some ⟨s_.2.2.2.2, 0, none⟩))]) (fun s_ w' => (w'.cell? ⟨gb397, 0, none⟩ = some (.slice A1_0 l1_0.length c1_0) ∧ w'.cell? ⟨gb397, 1, none⟩ = some (.int .i64 a1_1) ∧ w'.cell? ⟨gb397, 2, none⟩ = some (.slice A1_2 l1_2.length c1_2) ∧ w'.cell? ⟨gb397, 3, none⟩ = some (.int .i64 a1_3)) ∧ (Kd.R k89 89 w' w.heap.size (fun _ => True) s_.1 t400) ∧ (Kd.R (Kd.int .i64) 3 w' w.heap.size (n2 s_.2.2.1 s_.2.2.2.1) s_.2.1 t403) ∧ (Kd.R (Kd.int .i64) 3 w' w.heap.size (n2 s_.2.1 s_.2.2.2.1) s_.2.2.1 t407) ∧ (Kd.R (Kd.int .i64) 3 w' w.heap.size (n2 s_.2.1 s_.2.2.1) s_.2.2.2.1 t411) ∧ (w'.heap[gb397]? = some (.cells #[.slice A1_0 l1_0.length c1_0, .int .i64 a1_1, .slice A1_2 l1_2.length c1_2, .int .i64 a1_3] 55 (0, 0))) ∧ (w'.heap[s_.2.2.2.2]? = some (.cells #[.slice none 0 0, .int .i64 0, .slice none 0 0, .int .i64 0] 57 (0, 0))) ∧ (w.heap.size ≤ s_.2.2.2.2) ∧ (w.heap.size ≤ s_.2.2.2.2) ∧ (gb397 ≠ s_.2.2.2.2) ∧ (s_.2.2.2.2 ≠ gb397) ∧ (Below w.heap.size w w')) ?_ ?_
   rotate_left
   ·
    intro hJ1_3_5_10
    refine join_ (σ := Value × Value × Value × Value) 7 (mb 13 63) (fun s_ => [(35, s_.1), (37, .agg #[s_.2.1, .int .i64 t406, s_.2.2.1, .int .i64 t410]), (39, s_.2.2.2)]) (fun s_ w' => (w'.cell? ⟨gb397, 0, none⟩ = some (.slice A1_0 l1_0.length c1_0) ∧ w'.cell? ⟨gb397, 1, none⟩ = some (.int .i64 a1_1) ∧ w'.cell? ⟨gb397, 2, none⟩ = some (.slice A1_2 l1_2.length c1_2) ∧ w'.cell? ⟨gb397, 3, none⟩ = some (.int .i64 a1_3)) ∧ (Kd.R k89 89 w' w.heap.size (fun _ => True) s_.1 t400) ∧ (Kd.R (Kd.int .i64) 3 w' w.heap.size (n2 s_.2.2.1 s_.2.2.2) s_.2.1 t403) ∧ (Kd.R (Kd.int .i64) 3 w' w.heap.size (n2 s_.2.1 s_.2.2.2) s_.2.2.1 t407) ∧ (Kd.R (Kd.int .i64) 3 w' w.heap.size (n2 s_.2.1 s_.2.2.1) s_.2.2.2 t411) ∧ (w'.heap[gb397]? = some (.cells #[.slice A1_0 l1_0.length c1_0, .int .i64 a1_1, .slice A1_2 l1_2.length c1_2, .int .i64 a1_3] 55 (0, 0))) ∧ (Below w.heap.size w w')) ?_ ?_
    rotate_left
    ·
     intro hJ1_3_5
     refine join_ (σ := Value × Value × Value × Nat) 7 (mb 13 1055) (fun s_ => [(35, s_.1), (37, .agg #[s_.2.1, .int .i64 t406, s_.2.2.1, .int .i64 t410]), (8, .pointer (some ⟨s_.2.2.2, 0, none⟩))]) (fun s_ w' => (w'.cell? ⟨gb397, 0, none⟩ = some (.slice A1_0 l1_0.length c1_0) ∧ w'.cell? ⟨gb397, 1, none⟩ = some (.int .i64 a1_1) ∧ w'.cell? ⟨gb397, 2, none⟩ = some (.slice A1_2 l1_2.length c1_2) ∧ w'.cell? ⟨gb397, 3, none⟩ = some (.int .i64 a1_3)) ∧ (Kd.R k89 89 w' w.heap.size (fun _ => True) s_.1 t400) ∧ (Kd.R (Kd.int .i64) 3 w' w.heap.size (n1 s_.2.2.1) s_.2.1 t403) ∧ (Kd.R (Kd.int .i64) 3 w' w.heap.size (n1 s_.2.1) s_.2.2.1 t407) ∧ (w'.heap[gb397]? = some (.cells #[.slice A1_0 l1_0.length c1_0, .int .i64 a1_1, .slice A1_2 l1_2.length c1_2, .int .i64 a1_3] 55 (0, 0))) ∧ (w'.heap[s_.2.2.2]? = some (.cells #[.slice none 0 0, .int .i64 0, .slice none 0 0, .int .i64 0] 57 (0, 0))) ∧ (w.heap.size ≤ s_.2.2.2) ∧ (w.heap.size ≤ s_.2.2.2) ∧ (gb397 ≠ s_.2.2.2) ∧ (s_.2.2.2 ≠ gb397) ∧ (Below w.heap.size w w')) ?_ ?_
     rotate_left
     ·
      intro hJ1_3_10
      refine join_ (σ := Value × Value × Value) 8 (mb 13 31) (fun s_ => [(35, s_.1), (37, .agg #[s_.2.1, .int .i64 t406, s_.2.2, .int .i64 t410])]) (fun s_ w' => (w'.cell? ⟨gb397, 0, none⟩ = some (.slice A1_0 l1_0.length c1_0) ∧ w'.cell? ⟨gb397, 1, none⟩ = some (.int .i64 a1_1) ∧ w'.cell? ⟨gb397, 2, none⟩ = some (.slice A1_2 l1_2.length c1_2) ∧ w'.cell? ⟨gb397, 3, none⟩ = some (.int .i64 a1_3)) ∧ (Kd.R k89 89 w' w.heap.size (fun _ => True) s_.1 t400) ∧ (Kd.R (Kd.int .i64) 3 w' w.heap.size (n1 s_.2.2) s_.2.1 t403) ∧ (Kd.R (Kd.int .i64) 3 w' w.heap.size (n1 s_.2.1) s_.2.2 t407) ∧ (w'.heap[gb397]? = some (.cells #[.slice A1_0 l1_0.length c1_0, .int .i64 a1_1, .slice A1_2 l1_2.length c1_2, .int .i64 a1_3] 55 (0, 0))) ∧ (Below w.heap.size w w')) ?_ ?_
      rotate_left
      ·
       intro hJ1_3
       refine join_ (σ := Value × Nat) 8 (mb 13 1047) (fun s_ => [(35, s_.1), (8, .pointer (some ⟨s_.2, 0, none⟩))]) (fun s_ w' => (w'.cell? ⟨gb397, 0, none⟩ = some (.slice A1_0 l1_0.length c1_0) ∧ w'.cell? ⟨gb397, 1, none⟩ = some (.int .i64 a1_1) ∧ w'.cell? ⟨gb397, 2, none⟩ = some (.slice A1_2 l1_2.length c1_2) ∧ w'.cell? ⟨gb397, 3, none⟩ = some (.int .i64 a1_3)) ∧ (Kd.R k89 89 w' w.heap.size (fun _ => True) s_.1 t400) ∧ (w'.heap[gb397]? = some (.cells #[.slice A1_0 l1_0.length c1_0, .int .i64 a1_1, .slice A1_2 l1_2.length c1_2, .int .i64 a1_3] 55 (0, 0))) ∧ (w'.heap[s_.2]? = some (.cells #[.slice none 0 0, .int .i64 0, .slice none 0 0, .int .i64 0] 57 (0, 0))) ∧ (w.heap.size ≤ s_.2) ∧ (w.heap.size ≤ s_.2) ∧ (gb397 ≠ s_.2) ∧ (s_.2 ≠ gb397) ∧ (Below w.heap.size w w')) ?_ ?_
       rotate_left
       ·
        intro hJ1_10
        refine join_ (σ := Value) 9 (mb 13 23) (fun s_ => [(35, s_)]) (fun s_ w' => (w'.cell? ⟨gb397, 0, none⟩ = some (.slice A1_0 l1_0.length c1_0) ∧ w'.cell? ⟨gb397, 1, none⟩ = some (.int .i64 a1_1) ∧ w'.cell? ⟨gb397, 2, none⟩ = some (.slice A1_2 l1_2.length c1_2) ∧ w'.cell? ⟨gb397, 3, none⟩ = some (.int .i64 a1_3)) ∧ (Kd.R k89 89 w' w.heap.size (fun _ => True) s_ t400) ∧ (w'.heap[gb397]? = some (.cells #[.slice A1_0 l1_0.length c1_0, .int .i64 a1_1, .slice A1_2 l1_2.length c1_2, .int .i64 a1_3] 55 (0, 0))) ∧ (Below w.heap.size w w')) ?_ ?_
        rotate_left
        ·
         intro hJ1
         refine join_ (σ := Nat) 9 (mb 13 1045) (fun s_ => [(8, .pointer (some ⟨s_, 0, none⟩))]) (fun s_ w' => (w'.cell? ⟨gb397, 0, none⟩ = some (.slice A1_0 l1_0.length c1_0) ∧ w'.cell? ⟨gb397, 1, none⟩ = some (.int .i64 a1_1) ∧ w'.cell? ⟨gb397, 2, none⟩ = some (.slice A1_2 l1_2.length c1_2) ∧ w'.cell? ⟨gb397, 3, none⟩ = some (.int .i64 a1_3)) ∧ (w'.heap[gb397]? = some (.cells #[.slice A1_0 l1_0.length c1_0, .int .i64 a1_1, .slice A1_2 l1_2.length c1_2, .int .i64 a1_3] 55 (0, 0))) ∧ (w'.heap[s_]? = some (.cells #[.slice none 0 0, .int .i64 0, .slice none 0 0, .int .i64 0] 57 (0, 0))) ∧ (w.heap.size ≤ s_) ∧ (w.heap.size ≤ s_) ∧ (gb397 ≠ s_) ∧ (s_ ≠ gb397) ∧ (Below w.heap.size w w')) ?_ ?_
         rotate_left
         ·
          intro hJ10
          refine two_ (i := 1) (j := 10) (Ni := some 35) (Nj := some 8) (mb 13 23) (mb 13 1045) rfl rfl rfl rfl (two_of HT_.out (by kernel_rfl)) (by decide) (by decide) (fun K hK => ?_) (fun K hK => ?_)
          ·
           skip
           refine gA Try.func14 #[.slice A0 l0.length c0] ?_
           with_reducible refine (laws_toPathS.calls k _ _ l0 t400 _ ?side1 ?side2 A14.out).mono ?_
           (case side1 => exact cB HR0)
           (case side2 => exact HC0.out)
           rintro e w27 ⟨v401, rfl, ho0, hb⟩
           refine ⟨_, rfl, ?_⟩
           have HO402 := rl w ho0
           replace BK397 := kb BK397 hb
           replace HB := bs HB hb
           (try clear hb)
           (try clear hb2)
           (try clear hk)
           (try clear hi)
           (try clear ho0)
           refine hK.out _ _ (cn4 BK397) (fun hHeld => ?_)
           clear hK K
           refine nB ?_
           exact nM (hJ1 (v401) _ ⟨hHeld, (rK HO402), (bK BK397), bG⟩)
          ·
           skip
           refine box_step ?hg (N := 8) ?hd (cs := #[.slice none 0 0, .int .i64 0, .slice none 0 0, .int .i64 0]) (t := 57) ?hr ?_; (case hd => rfl); (case hg => rfl); (case hr => first | (go_simp; done) | (go_simp; rfl))
           intro gb423 hg w27 hbox hb
           have BK423 := Aside0.mk (hbox)
           have GW423 := gw w hg
           have GE423 := gw w hg
           replace HB := bs HB hb
           have NB397_423 := nl BK397 hg
           have NB423_397 := nr BK397 hg
           replace BK397 := kb BK397 hb
           clear hb hbox hg
           refine hK.out _ _ (cn4 BK397) (fun hHeld => ?_)
           clear hK K
           refine nB ?_
           exact nM (hJ10 (gb423) _ ⟨hHeld, (bK BK397), (bK BK423), GW423.out, GE423.out, NB397_423.out, NB423_397.out, bG⟩)
         ·
          skip
          clear BK397 HB
          rintro gb423 w28 ⟨hHeld, h0_, h1_, h2_, h3_, h4_, h5_, h6_⟩
          try dsimp only at hHeld h0_ h1_ h2_ h3_ h4_ h5_ h6_
          obtain ⟨BK397, BK423, GW423, GE423, NB397_423, NB423_397, HB⟩ := as7 h0_ h1_ h2_ h3_ h4_ h5_ h6_
          clear h0_ h1_ h2_ h3_ h4_ h5_ h6_
          refine norm_ (a' := ?_) ?_ ?_
          rotate_left
          ·
           simp only [putAll, Act.put, List.setIfInBounds_toArray, List.set_cons_zero, List.set_cons_succ]
           rfl
          refine oa 1 35 (mb 13 1047) HT_ (fun K hK => ?_)
          refine gA Try.func14 #[.slice A0 l0.length c0] ?_
          with_reducible refine (laws_toPathS.calls k _ _ l0 t400 _ ?side1 ?side2 A14.out).mono ?_
          (case side1 => exact cB HR0)
          (case side2 => exact HC0.out)
          rintro e w29 ⟨v401, rfl, ho0, hb⟩
          refine ⟨_, rfl, ?_⟩
          have HO402 := rl w ho0
          replace BK397 := kb BK397 hb
          replace BK423 := kb BK423 hb
          replace HB := bs HB hb
          (try clear hb)
          (try clear hb2)
          (try clear hk)
          (try clear hi)
          (try clear ho0)
          refine hK.out _ _ (cn4 BK397) (fun hHeld => ?_)
          clear hK K
          refine nB ?_
          exact nM (hJ1_10 (v401, gb423) _ ⟨hHeld, (rK HO402), (bK BK397), (bK BK423), GW423.out, GE423.out, NB397_423.out, NB423_397.out, bG⟩)
        ·
         skip
         clear BK397 HB
         rintro v401 w28 ⟨hHeld, h0_, h1_, h2_⟩
         try dsimp only at hHeld h0_ h1_ h2_
         obtain ⟨HO402, BK397, HB⟩ := as3 h0_ h1_ h2_
         clear h0_ h1_ h2_
         refine norm_ (a' := ?_) ?_ ?_
         rotate_left
         ·
          simp only [putAll, Act.put, List.setIfInBounds_toArray, List.set_cons_zero, List.set_cons_succ]
          rfl
         refine two_ (i := 3) (j := 10) (Ni := some 37) (Nj := some 8) (mb 13 31) (mb 13 1047) rfl rfl rfl rfl (two_of HT_.out (by kernel_rfl)) (by decide) (by decide) (fun K hK => ?_) (fun K hK => ?_)
         ·
          skip
          refine gA Try.func40 #[.agg #[.slice A1_0 l1_0.length c1_0, .int .i64 a1_1, .slice A1_2 l1_2.length c1_2, .int .i64 a1_3]] ?_
          with_reducible refine (laws_toControl.calls k _ _ l1_0 a1_1 _ _ l1_2 a1_3 t403 t406 t407 t410 _ ?side1 ?side2 ?side3 ?side4 A15.out).mono ?_
          (case side1 => exact cB HR1_0)
          (case side2 => exact HC1_0.out)
          (case side3 => exact cB HR1_2)
          (case side4 => exact HC1_2.out)
          rintro e w29 ⟨v404, v408, rfl, ho0, ho1, hb⟩
          refine ⟨_, rfl, ?_⟩
          replace HO402 := rb HO402 hb
          have HO405 := rl w ho0
          have HO409 := rl w ho1
          replace BK397 := kb BK397 hb
          replace HB := bs HB hb
          (try clear hb)
          (try clear hb2)
          (try clear hk)
          (try clear hi)
          (try clear ho0)
          (try clear ho1)
          refine hK.out _ _ (cn4 BK397) (fun hHeld => ?_)
          clear hK K
          refine nB ?_
          exact nM (hJ1_3 (v401, v404, v408) _ ⟨hHeld, (rK HO402), (rK HO405), (rK HO409), (bK BK397), bG⟩)
         ·
          skip
          refine box_step ?hg (N := 8) ?hd (cs := #[.slice none 0 0, .int .i64 0, .slice none 0 0, .int .i64 0]) (t := 57) ?hr ?_; (case hd => rfl); (case hg => rfl); (case hr => first | (go_simp; done) | (go_simp; rfl))
          intro gb423 hg w29 hbox hb
          replace HO402 := rb HO402 hb
          have BK423 := Aside0.mk (hbox)
          have GW423 := gw w hg
          have GE423 := gw w hg
          replace HB := bs HB hb
          have NB397_423 := nl BK397 hg
          have NB423_397 := nr BK397 hg
          replace BK397 := kb BK397 hb
          clear hb hbox hg
          refine hK.out _ _ (cn4 BK397) (fun hHeld => ?_)
          clear hK K
          refine nB ?_
          exact nM (hJ1_10 (v401, gb423) _ ⟨hHeld, (rK HO402), (bK BK397), (bK BK423), GW423.out, GE423.out, NB397_423.out, NB423_397.out, bG⟩)
       ·
        skip
        clear BK397 HB
        rintro ⟨v401, gb423⟩ w29 ⟨hHeld, h0_, h1_, h2_, h3_, h4_, h5_, h6_, h7_⟩
        try dsimp only at hHeld h0_ h1_ h2_ h3_ h4_ h5_ h6_ h7_
        obtain ⟨HO402, BK397, BK423, GW423, GE423, NB397_423, NB423_397, HB⟩ := as8 h0_ h1_ h2_ h3_ h4_ h5_ h6_ h7_
        clear h0_ h1_ h2_ h3_ h4_ h5_ h6_ h7_
        refine norm_ (a' := ?_) ?_ ?_
        rotate_left
        ·
         simp only [putAll, Act.put, List.setIfInBounds_toArray, List.set_cons_zero, List.set_cons_succ]
         rfl
        refine oa 3 37 (mb 13 1055) HT_ (fun K hK => ?_)
        refine gA Try.func40 #[.agg #[.slice A1_0 l1_0.length c1_0, .int .i64 a1_1, .slice A1_2 l1_2.length c1_2, .int .i64 a1_3]] ?_
        with_reducible refine (laws_toControl.calls k _ _ l1_0 a1_1 _ _ l1_2 a1_3 t403 t406 t407 t410 _ ?side1 ?side2 ?side3 ?side4 A15.out).mono ?_
        (case side1 => exact cB HR1_0)
        (case side2 => exact HC1_0.out)
        (case side3 => exact cB HR1_2)
        (case side4 => exact HC1_2.out)
        rintro e w30 ⟨v404, v408, rfl, ho0, ho1, hb⟩
        refine ⟨_, rfl, ?_⟩
        replace HO402 := rb HO402 hb
        have HO405 := rl w ho0
        have HO409 := rl w ho1
        replace BK397 := kb BK397 hb
        replace BK423 := kb BK423 hb
        replace HB := bs HB hb
        (try clear hb)
        (try clear hb2)
        (try clear hk)
        (try clear hi)
        (try clear ho0)
        (try clear ho1)
        refine hK.out _ _ (cn4 BK397) (fun hHeld => ?_)
        clear hK K
        refine nB ?_
        exact nM (hJ1_3_10 (v401, v404, v408, gb423) _ ⟨hHeld, (rK HO402), (rK HO405), (rK HO409), (bK BK397), (bK BK423), GW423.out, GE423.out, NB397_423.out, NB423_397.out, bG⟩)
      ·
       skip
       clear BK397 HB
       rintro ⟨v401, v404, v408⟩ w29 ⟨hHeld, h0_, h1_, h2_, h3_, h4_⟩
       try dsimp only at hHeld h0_ h1_ h2_ h3_ h4_
       obtain ⟨HO402, HO405, HO409, BK397, HB⟩ := as5 h0_ h1_ h2_ h3_ h4_
       clear h0_ h1_ h2_ h3_ h4_
       refine norm_ (a' := ?_) ?_ ?_
       rotate_left
       ·
        simp only [putAll, Act.put, List.setIfInBounds_toArray, List.set_cons_zero, List.set_cons_succ]
        rfl
       refine two_ (i := 5) (j := 10) (Ni := some 39) (Nj := some 8) (mb 13 63) (mb 13 1055) rfl rfl rfl rfl (two_of HT_.out (by kernel_rfl)) (by decide) (by decide) (fun K hK => ?_) (fun K hK => ?_)
       ·
        skip
        refine gA Try.func41 #[.slice A2 l2.length c2] ?_
        with_reducible refine (laws_toIntS.calls k _ _ l2 t411 _ ?side1 ?side2 A16.out).mono ?_
        (case side1 => exact cB HR2)
        (case side2 => exact HC2.out)
        rintro e w30 ⟨v412, rfl, ho0, hb⟩
        refine ⟨_, rfl, ?_⟩
        replace HO402 := rb HO402 hb
        have HO413 := rl w (rn (rn ho0 HO405) HO409)
        replace HO405 := re HO405 ho0 hb
        replace HO409 := re HO409 ho0 hb
        replace BK397 := kb BK397 hb
        replace HB := bs HB hb
        (try clear hb)
        (try clear hb2)
        (try clear hk)
        (try clear hi)
        (try clear ho0)
        refine hK.out _ _ (cn4 BK397) (fun hHeld => ?_)
        clear hK K
        refine nB ?_
        exact nM (hJ1_3_5 (v401, v404, v408, v412) _ ⟨hHeld, (rK HO402), (rK HO405), (rK HO409), (rm HO413 (fun _ hk => ⟨hk.1.2, hk.2⟩)), (bK BK397), bG⟩)
       ·
        skip
        refine box_step ?hg (N := 8) ?hd (cs := #[.slice none 0 0, .int .i64 0, .slice none 0 0, .int .i64 0]) (t := 57) ?hr ?_; (case hd => rfl); (case hg => rfl); (case hr => first | (go_simp; done) | (go_simp; rfl))
        intro gb423 hg w30 hbox hb
        replace HO402 := rb HO402 hb
        replace HO405 := rb HO405 hb
        replace HO409 := rb HO409 hb
        have BK423 := Aside0.mk (hbox)
        have GW423 := gw w hg
        have GE423 := gw w hg
        replace HB := bs HB hb
        have NB397_423 := nl BK397 hg
        have NB423_397 := nr BK397 hg
        replace BK397 := kb BK397 hb
        clear hb hbox hg
        refine hK.out _ _ (cn4 BK397) (fun hHeld => ?_)
        clear hK K
        refine nB ?_
        exact nM (hJ1_3_10 (v401, v404, v408, gb423) _ ⟨hHeld, (rK HO402), (rK HO405), (rK HO409), (bK BK397), (bK BK423), GW423.out, GE423.out, NB397_423.out, NB423_397.out, bG⟩)
     ·
      skip
      clear BK397 HB
      rintro ⟨v401, v404, v408, gb423⟩ w30 ⟨hHeld, h0_, h1_, h2_, h3_, h4_, h5_, h6_, h7_, h8_, h9_⟩
      try dsimp only at hHeld h0_ h1_ h2_ h3_ h4_ h5_ h6_ h7_ h8_ h9_
      obtain ⟨HO402, HO405, HO409, BK397, BK423, GW423, GE423, NB397_423, NB423_397, HB⟩ := as10 h0_ h1_ h2_ h3_ h4_ h5_ h6_ h7_ h8_ h9_
      clear h0_ h1_ h2_ h3_ h4_ h5_ h6_ h7_ h8_ h9_
      refine norm_ (a' := ?_) ?_ ?_
      rotate_left
      ·
       simp only [putAll, Act.put, List.setIfInBounds_toArray, List.set_cons_zero, List.set_cons_succ]
       rfl
      refine oa 5 39 (mb 13 1087) HT_ (fun K hK => ?_)
      refine gA Try.func41 #[.slice A2 l2.length c2] ?_
      with_reducible refine (laws_toIntS.calls k _ _ l2 t411 _ ?side1 ?side2 A16.out).mono ?_
      (case side1 => exact cB HR2)
      (case side2 => exact HC2.out)
      rintro e w31 ⟨v412, rfl, ho0, hb⟩
      refine ⟨_, rfl, ?_⟩
      replace HO402 := rb HO402 hb
      have HO413 := rl w (rn (rn ho0 HO405) HO409)
      replace HO405 := re HO405 ho0 hb
      replace HO409 := re HO409 ho0 hb
      replace BK397 := kb BK397 hb
      replace BK423 := kb BK423 hb
      replace HB := bs HB hb
      (try clear hb)
      (try clear hb2)
      (try clear hk)
      (try clear hi)
      (try clear ho0)
      refine hK.out _ _ (cn4 BK397) (fun hHeld => ?_)
      clear hK K
      refine nB ?_
      exact nM (hJ1_3_5_10 (v401, v404, v408, v412, gb423) _ ⟨hHeld, (rK HO402), (rK HO405), (rK HO409), (rm HO413 (fun _ hk => ⟨hk.1.2, hk.2⟩)), (bK BK397), (bK BK423), GW423.out, GE423.out, NB397_423.out, NB423_397.out, bG⟩)
    ·
     skip
     clear BK397 HB
     rintro ⟨v401, v404, v408, v412⟩ w30 ⟨hHeld, h0_, h1_, h2_, h3_, h4_, h5_⟩
     try dsimp only at hHeld h0_ h1_ h2_ h3_ h4_ h5_
     obtain ⟨HO402, HO405, HO409, HO413, BK397, HB⟩ := as6 h0_ h1_ h2_ h3_ h4_ h5_
     clear h0_ h1_ h2_ h3_ h4_ h5_
     obtain ⟨Ao31, co31, eo31⟩ := Kd.R_slice HO402.out
     (first | subst eo31 | (injection eo31 with f1_ f2_ f3_; have f4_ := f1_.symm; have f5_ := f3_.symm; clear f1_ f2_ f3_; subst f4_; subst f5_))
     obtain ⟨Ao32, co32, eo32⟩ := Kd.R_slice HO405.out
     (first | subst eo32 | (injection eo32 with f1_ f2_ f3_; have f4_ := f1_.symm; have f5_ := f3_.symm; clear f1_ f2_ f3_; subst f4_; subst f5_))
     obtain ⟨Ao33, co33, eo33⟩ := Kd.R_slice HO409.out
     (first | subst eo33 | (injection eo33 with f1_ f2_ f3_; have f4_ := f1_.symm; have f5_ := f3_.symm; clear f1_ f2_ f3_; subst f4_; subst f5_))
     obtain ⟨Ao34, co34, eo34⟩ := Kd.R_slice HO413.out
     (first | subst eo34 | (injection eo34 with f1_ f2_ f3_; have f4_ := f1_.symm; have f5_ := f3_.symm; clear f1_ f2_ f3_; subst f4_; subst f5_))
     refine norm_ (a' := ?_) ?_ ?_
     rotate_left
     ·
      simp only [putAll, Act.put, List.setIfInBounds_toArray, List.set_cons_zero, List.set_cons_succ]
      rfl
     refine two_ (i := 6) (j := 10) (Ni := some 40) (Nj := some 8) (mb 13 127) (mb 13 1087) rfl rfl rfl rfl (two_of HT_.out (by kernel_rfl)) (by decide) (by decide) (fun K hK => ?_) (fun K hK => ?_)
     ·
      skip
      refine gA Try.func39 #[.slice Ao31 t400.length co31, .agg #[.slice Ao32 t403.length co32, .int .i64 t406, .slice Ao33 t407.length co33, .int .i64 t410], .slice Ao34 t411.length co34] ?_
      with_reducible refine (spec_AskStage.calls k _ _ t400 _ _ t403 t406 _ _ t407 t410 _ _ t411 t414 t417 t418 t421 t422 _ ?side1 ?side2 ?side3 ?side4 ?side5 ?side6 ?side7 ?side8 A17.out).mono ?_
      (case side1 => exact cO ⟨(Kd.R_reads' HO402.out).2.2⟩)
      (case side2 => exact (Kd.R_reads' HO402.out).2.1)
      (case side3 => exact cO ⟨(Kd.R_reads' HO405.out).2.2⟩)
      (case side4 => exact (Kd.R_reads' HO405.out).2.1)
      (case side5 => exact cO ⟨(Kd.R_reads' HO409.out).2.2⟩)
      (case side6 => exact (Kd.R_reads' HO409.out).2.1)
      (case side7 => exact cO ⟨(Kd.R_reads' HO413.out).2.2⟩)
      (case side8 => exact (Kd.R_reads' HO413.out).2.1)
      rintro e w35 ⟨v415, v419, rfl, ho0, ho1, hb⟩
      refine ⟨_, rfl, ?_⟩
      replace HO402 := rb HO402 hb
      have HO416 := rl w (rn (rn (rn ho0 HO405) HO409) HO413)
      have HO420 := rl w (rn (rn (rn ho1 HO405) HO409) HO413)
      replace HO405 := rt2 HO405 hb ho0 ho1
      replace HO409 := rt2 HO409 hb ho0 ho1
      replace HO413 := rt2 HO413 hb ho0 ho1
      replace BK397 := kb BK397 hb
      replace HB := bs HB hb
      (try clear hb)
      (try clear hb2)
      (try clear hk)
      (try clear hi)
      (try clear ho0)
      (try clear ho1)
      refine hK.out _ _ (cn4 BK397) (fun hHeld => ?_)
      clear hK K
      refine nB ?_
      refine pa 7 33 (mb 13 255) HT_ ?_
      refine pa 8 41 (mb 13 511) HT_ ?_
      refine pa 9 42 (mb 13 1023) HT_ ?_
      exact nM (hJ1_3_5_6 (.slice Ao31 t400.length co31, .slice Ao32 t403.length co32, .slice Ao33 t407.length co33, .slice Ao34 t411.length co34, v415, v419) _ ⟨hHeld, (rK HO402), (rm HO405 (fun _ hk => ⟨hk.1.1.1, ⟨hk.1.1.2, ⟨hk.1.2, hk.2⟩⟩⟩)), (rm HO409 (fun _ hk => ⟨hk.1.1.1, ⟨hk.1.1.2, ⟨hk.1.2, hk.2⟩⟩⟩)), (rm HO413 (fun _ hk => ⟨hk.1.1.1, ⟨hk.1.1.2, ⟨hk.1.2, hk.2⟩⟩⟩)), (rm HO416 (fun _ hk => ⟨hk.1.1.2, ⟨hk.1.2, ⟨hk.2, hk.1.1.1⟩⟩⟩)), (rm HO420 (fun _ hk => ⟨hk.1.1.2, ⟨hk.1.2, ⟨hk.2, hk.1.1.1⟩⟩⟩)), (bK BK397), bG⟩)
     ·
      skip
      refine box_step ?hg (N := 8) ?hd (cs := #[.slice none 0 0, .int .i64 0, .slice none 0 0, .int .i64 0]) (t := 57) ?hr ?_; (case hd => rfl); (case hg => rfl); (case hr => first | (go_simp; done) | (go_simp; rfl))
      intro gb423 hg w31 hbox hb
      replace HO402 := rb HO402 hb
      replace HO405 := rb HO405 hb
      replace HO409 := rb HO409 hb
      replace HO413 := rb HO413 hb
      have BK423 := Aside0.mk (hbox)
      have GW423 := gw w hg
      have GE423 := gw w hg
      replace HB := bs HB hb
      have NB397_423 := nl BK397 hg
      have NB423_397 := nr BK397 hg
      replace BK397 := kb BK397 hb
      clear hb hbox hg
      refine hK.out _ _ (cn4 BK397) (fun hHeld => ?_)
      clear hK K
      refine nB ?_
      exact nM (hJ1_3_5_10 ((.slice Ao31 t400.length co31), (.slice Ao32 t403.length co32), (.slice Ao33 t407.length co33), (.slice Ao34 t411.length co34), gb423) _ ⟨hHeld, (rK HO402), (rK HO405), (rK HO409), (rK HO413), (bK BK397), (bK BK423), GW423.out, GE423.out, NB397_423.out, NB423_397.out, bG⟩)
   ·
    skip
    clear BK397 HB
    rintro ⟨v401, v404, v408, v412, gb423⟩ w31 ⟨hHeld, h0_, h1_, h2_, h3_, h4_, h5_, h6_, h7_, h8_, h9_, h10_⟩
    try dsimp only at hHeld h0_ h1_ h2_ h3_ h4_ h5_ h6_ h7_ h8_ h9_ h10_
    obtain ⟨HO402, HO405, HO409, HO413, BK397, BK423, GW423, GE423, NB397_423, NB423_397, HB⟩ := as11 h0_ h1_ h2_ h3_ h4_ h5_ h6_ h7_ h8_ h9_ h10_
    clear h0_ h1_ h2_ h3_ h4_ h5_ h6_ h7_ h8_ h9_ h10_
    obtain ⟨Ao32, co32, eo32⟩ := Kd.R_slice HO402.out
    (first | subst eo32 | (injection eo32 with f1_ f2_ f3_; have f4_ := f1_.symm; have f5_ := f3_.symm; clear f1_ f2_ f3_; subst f4_; subst f5_))
    obtain ⟨Ao33, co33, eo33⟩ := Kd.R_slice HO405.out
    (first | subst eo33 | (injection eo33 with f1_ f2_ f3_; have f4_ := f1_.symm; have f5_ := f3_.symm; clear f1_ f2_ f3_; subst f4_; subst f5_))
    obtain ⟨Ao34, co34, eo34⟩ := Kd.R_slice HO409.out
    (first | subst eo34 | (injection eo34 with f1_ f2_ f3_; have f4_ := f1_.symm; have f5_ := f3_.symm; clear f1_ f2_ f3_; subst f4_; subst f5_))
    obtain ⟨Ao35, co35, eo35⟩ := Kd.R_slice HO413.out
    (first | subst eo35 | (injection eo35 with f1_ f2_ f3_; have f4_ := f1_.symm; have f5_ := f3_.symm; clear f1_ f2_ f3_; subst f4_; subst f5_))
    refine norm_ (a' := ?_) ?_ ?_
    rotate_left
    ·
     simp only [putAll, Act.put, List.setIfInBounds_toArray, List.set_cons_zero, List.set_cons_succ]
     rfl
    refine oa 6 40 (mb 13 1151) HT_ (fun K hK => ?_)
    refine gA Try.func39 #[.slice Ao32 t400.length co32, .agg #[.slice Ao33 t403.length co33, .int .i64 t406, .slice Ao34 t407.length co34, .int .i64 t410], .slice Ao35 t411.length co35] ?_
    with_reducible refine (spec_AskStage.calls k _ _ t400 _ _ t403 t406 _ _ t407 t410 _ _ t411 t414 t417 t418 t421 t422 _ ?side1 ?side2 ?side3 ?side4 ?side5 ?side6 ?side7 ?side8 A17.out).mono ?_
    (case side1 => exact cO ⟨(Kd.R_reads' HO402.out).2.2⟩)
    (case side2 => exact (Kd.R_reads' HO402.out).2.1)
    (case side3 => exact cO ⟨(Kd.R_reads' HO405.out).2.2⟩)
    (case side4 => exact (Kd.R_reads' HO405.out).2.1)
    (case side5 => exact cO ⟨(Kd.R_reads' HO409.out).2.2⟩)
    (case side6 => exact (Kd.R_reads' HO409.out).2.1)
    (case side7 => exact cO ⟨(Kd.R_reads' HO413.out).2.2⟩)
    (case side8 => exact (Kd.R_reads' HO413.out).2.1)
    rintro e w36 ⟨v415, v419, rfl, ho0, ho1, hb⟩
    refine ⟨_, rfl, ?_⟩
    replace HO402 := rb HO402 hb
    have HO416 := rl w (rn (rn (rn ho0 HO405) HO409) HO413)
    have HO420 := rl w (rn (rn (rn ho1 HO405) HO409) HO413)
    replace HO405 := rt2 HO405 hb ho0 ho1
    replace HO409 := rt2 HO409 hb ho0 ho1
    replace HO413 := rt2 HO413 hb ho0 ho1
    replace BK397 := kb BK397 hb
    replace BK423 := kb BK423 hb
    replace HB := bs HB hb
    (try clear hb)
    (try clear hb2)
    (try clear hk)
    (try clear hi)
    (try clear ho0)
    (try clear ho1)
    refine hK.out _ _ (cn4 BK397) (fun hHeld => ?_)
    clear hK K
    refine nB ?_
    refine pa 7 33 (mb 13 1279) HT_ ?_
    refine pa 8 41 (mb 13 1535) HT_ ?_
    refine pa 9 42 (mb 13 2047) HT_ ?_
    exact nM (hJ1_3_5_6_10 (.slice Ao32 t400.length co32, .slice Ao33 t403.length co33, .slice Ao34 t407.length co34, .slice Ao35 t411.length co35, v415, v419, gb423) _ ⟨hHeld, (rK HO402), (rm HO405 (fun _ hk => ⟨hk.1.1.1, ⟨hk.1.1.2, ⟨hk.1.2, hk.2⟩⟩⟩)), (rm HO409 (fun _ hk => ⟨hk.1.1.1, ⟨hk.1.1.2, ⟨hk.1.2, hk.2⟩⟩⟩)), (rm HO413 (fun _ hk => ⟨hk.1.1.1, ⟨hk.1.1.2, ⟨hk.1.2, hk.2⟩⟩⟩)), (rm HO416 (fun _ hk => ⟨hk.1.1.2, ⟨hk.1.2, ⟨hk.2, hk.1.1.1⟩⟩⟩)), (rm HO420 (fun _ hk => ⟨hk.1.1.2, ⟨hk.1.2, ⟨hk.2, hk.1.1.1⟩⟩⟩)), (bK BK397), (bK BK423), GW423.out, GE423.out, NB397_423.out, NB423_397.out, bG⟩)
  ·
   skip
   clear BK397 HB
   rintro ⟨v401, v404, v408, v412, v415, v419⟩ w35 ⟨hHeld, h0_, h1_, h2_, h3_, h4_, h5_, h6_, h7_⟩
   try dsimp only at hHeld h0_ h1_ h2_ h3_ h4_ h5_ h6_ h7_
   obtain ⟨HO402, HO405, HO409, HO413, HO416, HO420, BK397, HB⟩ := as8 h0_ h1_ h2_ h3_ h4_ h5_ h6_ h7_
   clear h0_ h1_ h2_ h3_ h4_ h5_ h6_ h7_
   refine norm_ (a' := ?_) ?_ ?_
   rotate_left
   ·
    simp only [putAll, Act.put, List.setIfInBounds_toArray, List.set_cons_zero, List.set_cons_succ]
    rfl
   refine oa 10 8 (mb 13 2047) HT_ (fun K hK => ?_)
   refine box_step ?hg (N := 8) ?hd (cs := #[.slice none 0 0, .int .i64 0, .slice none 0 0, .int .i64 0]) (t := 57) ?hr ?_; (case hd => rfl); (case hg => rfl); (case hr => first | (go_simp; done) | (go_simp; rfl))
   intro gb423 hg w36 hbox hb
   replace HO402 := rb HO402 hb
   replace HO405 := rb HO405 hb
   replace HO409 := rb HO409 hb
   replace HO413 := rb HO413 hb
   replace HO416 := rb HO416 hb
   replace HO420 := rb HO420 hb
   have BK423 := Aside0.mk (hbox)
   have GW423 := gw w hg
   have GE423 := gw w hg
   replace HB := bs HB hb
   have NB397_423 := nl BK397 hg
   have NB423_397 := nr BK397 hg
   replace BK397 := kb BK397 hb
   clear hb hbox hg
   refine hK.out _ _ (cn4 BK397) (fun hHeld => ?_)
   clear hK K
   refine nB ?_
   exact nM (hJ1_3_5_6_10 (v401, v404, v408, v412, v415, v419, gb423) _ ⟨hHeld, (rK HO402), (rK HO405), (rK HO409), (rK HO413), (rK HO416), (rK HO420), (bK BK397), (bK BK423), GW423.out, GE423.out, NB397_423.out, NB423_397.out, bG⟩)
 clear BK397 HB
 rintro ⟨v401, v404, v408, v412, v415, v419, gb423⟩ w36 ⟨hHeld, h0_, h1_, h2_, h3_, h4_, h5_, h6_, h7_, h8_, h9_, h10_, h11_, h12_⟩
 try dsimp only at hHeld h0_ h1_ h2_ h3_ h4_ h5_ h6_ h7_ h8_ h9_ h10_ h11_ h12_
 obtain ⟨HO402, HO405, HO409, HO413, HO416, HO420, BK397, BK423, GW423, GE423, NB397_423, NB423_397, HB⟩ := as13 h0_ h1_ h2_ h3_ h4_ h5_ h6_ h7_ h8_ h9_ h10_ h11_ h12_
 clear h0_ h1_ h2_ h3_ h4_ h5_ h6_ h7_ h8_ h9_ h10_ h11_ h12_
 obtain ⟨Ao37, co37, eo37⟩ := Kd.R_slice HO416.out
 (first | subst eo37 | (injection eo37 with f1_ f2_ f3_; have f4_ := f1_.symm; have f5_ := f3_.symm; clear f1_ f2_ f3_; subst f4_; subst f5_))
 obtain ⟨Ao40, co40, eo40⟩ := Kd.R_slice HO420.out
 (first | subst eo40 | (injection eo40 with f1_ f2_ f3_; have f4_ := f1_.symm; have f5_ := f3_.symm; clear f1_ f2_ f3_; subst f4_; subst f5_))
 refine norm_ (a' := ?_) ?_ ?_
 rotate_left
 ·
  simp only [putAll, Act.put, List.setIfInBounds_toArray, List.set_cons_zero, List.set_cons_succ]
  rfl
 refine oA (i := 11) (N := none) (mb 13 4095) HT_ (fun K hK => ?_)
 have hs38 : w36.cell? ⟨gb423, 0, none⟩ = some (.slice none 0 0) := bC BK423 0
 have hfs38 := blk_frozen BK423.out 0
 have hns38_0 := NB397_423.out
 have hms38_0 := NB423_397.out
 have hs39 : w36.cell? ⟨gb423, 1, none⟩ = some (.int .i64 0) := bC BK423 1
 have hfs39 := blk_frozen BK423.out 1
 have hns39_0 := NB397_423.out
 have hms39_0 := NB423_397.out
 have hs41 : w36.cell? ⟨gb423, 2, none⟩ = some (.slice none 0 0) := bC BK423 2
 have hfs41 := blk_frozen BK423.out 2
 have hns41_0 := NB397_423.out
 have hms41_0 := NB423_397.out
 have hs42 : w36.cell? ⟨gb423, 3, none⟩ = some (.int .i64 0) := bC BK423 3
 have hfs42 := blk_frozen BK423.out 3
 have hns42_0 := NB397_423.out
 have hms42_0 := NB423_397.out
 refine skip_ (w1 := ?_) (by rfl) rfl ?_ ?_
 rotate_left
 ·
  go_simp
  rfl
 refine hK.out _ _ ⟨((cell_far (p := ⟨gb423, _, none⟩) NB397_423.out _).trans (((cell_far (p := ⟨gb423, _, none⟩) NB397_423.out _).trans (((cell_far (p := ⟨gb423, _, none⟩) NB397_423.out _).trans (((cell_far (p := ⟨gb423, _, none⟩) NB397_423.out _).trans (hHeld.1)))))))), ((cell_far (p := ⟨gb423, _, none⟩) NB397_423.out _).trans (((cell_far (p := ⟨gb423, _, none⟩) NB397_423.out _).trans (((cell_far (p := ⟨gb423, _, none⟩) NB397_423.out _).trans (((cell_far (p := ⟨gb423, _, none⟩) NB397_423.out _).trans (hHeld.2.1)))))))), ((cell_far (p := ⟨gb423, _, none⟩) NB397_423.out _).trans (((cell_far (p := ⟨gb423, _, none⟩) NB397_423.out _).trans (((cell_far (p := ⟨gb423, _, none⟩) NB397_423.out _).trans (((cell_far (p := ⟨gb423, _, none⟩) NB397_423.out _).trans (hHeld.2.2.1)))))))), ((cell_far (p := ⟨gb423, _, none⟩) NB397_423.out _).trans (((cell_far (p := ⟨gb423, _, none⟩) NB397_423.out _).trans (((cell_far (p := ⟨gb423, _, none⟩) NB397_423.out _).trans (((cell_far (p := ⟨gb423, _, none⟩) NB397_423.out _).trans (hHeld.2.2.2))))))))⟩ (fun hHeld => ?_)
 clear hK K
 refine pa 12 9 (mb 13 8191) HT_ ?_
 refine eA HT_ ?_
 go_upto_region 15 with (first | ((with_reducible refine gate_callee (f := 14) rfl ?_); refine gL (some 44) Try.func14 #[.slice A0 l0.length c0] ?_; (with_reducible refine (laws_toPathS.calls k _ _ l0 t424 _ ?_ ?_ A18.out).mono ?_); exact Kd.C_below HR0.out bG; exact HC0.out; rintro e w43 ⟨v425, rfl, ho0, hb⟩; refine ⟨_, rfl, ?_⟩; replace HO405 := Aside0.mk (Kd.R_below (rf HO405 BK423) hb); replace HO409 := Aside0.mk (Kd.R_below (rf HO409 BK423) hb); replace HO413 := Aside0.mk (Kd.R_below (rf HO413 BK423) hb); replace HO416 := Aside0.mk (Kd.R_below (rf HO416 BK423) hb); replace HO420 := Aside0.mk (Kd.R_below (rf HO420 BK423) hb); have HO426 := rl w (Kd.R_new' ho0 (Kd.R_lt (rf HO402 BK423))); replace HO402 := Aside0.mk (Kd.R_elder' (rf HO402 BK423) (Kd.R_base ho0) hb); replace BK397 := kc (kf BK397 NB397_423) hb; replace BK423 := kc (o := .cells #[.slice Ao37 t414.length co37, .int .i64 t417, .slice Ao40 t418.length co40, .int .i64 t421] 57 (0, 0)) (kp BK423) hb; replace HB := bs HB hb; (try clear hb); (try clear ho0); have hnb44 := NB397_423.out; have hnc44 := NB423_397.out; have hcz45_0 : w43.cell? ⟨gb397, 0, none⟩ = some (.slice A1_0 l1_0.length c1_0) := bC BK397 0; have hcz45_1 : w43.cell? ⟨gb397, 1, none⟩ = some (.int .i64 a1_1) := bC BK397 1; have hcz45_2 : w43.cell? ⟨gb397, 2, none⟩ = some (.slice A1_2 l1_2.length c1_2) := bC BK397 2; have hcz45_3 : w43.cell? ⟨gb397, 3, none⟩ = some (.int .i64 a1_3) := bC BK397 3; have hfz45_0 := blk_frozen BK397.out 0; have hfz45_1 := blk_frozen BK397.out 1; have hfz45_2 := blk_frozen BK397.out 2; have hfz45_3 := blk_frozen BK397.out 3) | ((with_reducible refine gate_callee (f := 40) rfl ?_); refine gL (some 46) Try.func40 #[.agg #[.slice A1_0 l1_0.length c1_0, .int .i64 a1_1, .slice A1_2 l1_2.length c1_2, .int .i64 a1_3]] ?_; (with_reducible refine (laws_toControl.calls k _ _ l1_0 a1_1 _ _ l1_2 a1_3 t427 t430 t431 t434 _ ?_ ?_ ?_ ?_ A19.out).mono ?_); exact cB HR1_0; exact HC1_0.out; exact cB HR1_2; exact HC1_2.out; rintro e w46 ⟨v428, v432, rfl, ho0, ho1, hb⟩; refine ⟨_, rfl, ?_⟩; replace HO402 := rb HO402 hb; replace HO426 := rb HO426 hb; have HO429 := rl w (rn (rn (rn (rn (rn ho0 HO405) HO409) HO413) HO416) HO420); have HO433 := rl w (rn (rn (rn (rn (rn ho1 HO405) HO409) HO413) HO416) HO420); replace HO405 := rt2 HO405 hb ho0 ho1; replace HO409 := rt2 HO409 hb ho0 ho1; replace HO413 := rt2 HO413 hb ho0 ho1; replace HO416 := rt2 HO416 hb ho0 ho1; replace HO420 := rt2 HO420 hb ho0 ho1; replace BK397 := kb BK397 hb; replace BK423 := kb BK423 hb; replace HB := bs HB hb; (try clear hb); (try clear ho0); (try clear ho1)) | ((with_reducible refine gate_dst (N := 11) rfl ?_); refine bE (N := 11) (cs := #[.slice none 0 0, .int .i64 0, .slice none 0 0, .int .i64 0]) (t := 57) ?_; intro gb435 hg w47 hbox hb; replace HO402 := rb HO402 hb; replace HO405 := rb HO405 hb; replace HO409 := rb HO409 hb; replace HO413 := rb HO413 hb; replace HO416 := rb HO416 hb; replace HO420 := rb HO420 hb; replace HO426 := rb HO426 hb; replace HO429 := rb HO429 hb; replace HO433 := rb HO433 hb; have BK435 := Aside0.mk (hbox); have GW435 := gw w hg; have GE435 := gw w hg; replace HB := bs HB hb; have NB397_435 := nl BK397 hg; have NB435_397 := nr BK397 hg; replace BK397 := kb BK397 hb; have NB423_435 := nl BK423 hg; have NB435_423 := nr BK423 hg; replace BK423 := kb BK423 hb; clear hb hbox hg; obtain ⟨Ao48, co48, eo48⟩ := Kd.R_slice HO429.out; subst eo48; have hnb49 := NB435_397.out; have hnc49 := NB397_435.out; have hnb50 := NB435_423.out; have hnc50 := NB423_435.out; obtain ⟨_, _, _, _, _, _, _, _⟩ := blkc4 BK435; obtain ⟨Ao52, co52, eo52⟩ := Kd.R_slice HO433.out; subst eo52) | ((with_reducible refine gate_callee (f := 41) rfl ?_); refine gL (some 48) Try.func41 #[.slice A2 l2.length c2] ?_; (with_reducible refine (laws_toIntS.calls k _ _ l2 t436 _ ?_ ?_ A20.out).mono ?_); exact Kd.C_below HR2.out bG; exact HC2.out; rintro e w53 ⟨v437, rfl, ho0, hb⟩; refine ⟨_, rfl, ?_⟩; replace HO402 := Aside0.mk (Kd.R_below (rf HO402 BK435) hb); replace HO426 := Aside0.mk (Kd.R_below (rf HO426 BK435) hb); have HO438 := rl w (Kd.R_new' (Kd.R_new' (Kd.R_new' (Kd.R_new' (Kd.R_new' (Kd.R_new' (Kd.R_new' ho0 (Kd.R_lt (rf HO405 BK435))) (Kd.R_lt (rf HO409 BK435))) (Kd.R_lt (rf HO413 BK435))) (Kd.R_lt (rf HO416 BK435))) (Kd.R_lt (rf HO420 BK435))) (Kd.R_lt (rf HO429 BK435))) (Kd.R_lt (rf HO433 BK435))); replace HO405 := Aside0.mk (Kd.R_elder' (rf HO405 BK435) (Kd.R_base ho0) hb); replace HO409 := Aside0.mk (Kd.R_elder' (rf HO409 BK435) (Kd.R_base ho0) hb); replace HO413 := Aside0.mk (Kd.R_elder' (rf HO413 BK435) (Kd.R_base ho0) hb); replace HO416 := Aside0.mk (Kd.R_elder' (rf HO416 BK435) (Kd.R_base ho0) hb); replace HO420 := Aside0.mk (Kd.R_elder' (rf HO420 BK435) (Kd.R_base ho0) hb); replace HO429 := Aside0.mk (Kd.R_elder' (rf HO429 BK435) (Kd.R_base ho0) hb); replace HO433 := Aside0.mk (Kd.R_elder' (rf HO433 BK435) (Kd.R_base ho0) hb); replace BK397 := kc (kf BK397 NB397_435) hb; replace BK423 := kc (kf BK423 NB423_435) hb; replace BK435 := kc (o := .cells #[.slice Ao48 t427.length co48, .int .i64 t430, .slice Ao52 t431.length co52, .int .i64 t434] 57 (0, 0)) (kp BK435) hb; replace HB := bs HB hb; (try clear hb); (try clear ho0); obtain ⟨_, _, _, _, _, _, _, _⟩ := blkc4 BK435; obtain ⟨Ao55, co55, eo55⟩ := Kd.R_slice HO426.out; subst eo55; obtain ⟨Ao56, co56, eo56⟩ := Kd.R_slice HO438.out; subst eo56) | ((with_reducible refine gate_callee (f := 42) rfl ?_); refine gL (some 53) Try.func42 #[.slice Ao55 t424.length co55, .agg #[.slice Ao48 t427.length co48, .int .i64 t430, .slice Ao52 t431.length co52, .int .i64 t434], .slice Ao56 t436.length co56] ?_; (with_reducible refine (impl_AskStage.calls k _ _ t424 _ _ t427 t430 _ _ t431 t434 _ _ t436 t439 t442 t443 t446 t447 _ ?_ ?_ ?_ ?_ ?_ ?_ ?_ ?_ A21.out).mono ?_); exact cO ⟨(Kd.R_reads' HO426.out).2.2⟩; exact (Kd.R_reads' HO426.out).2.1; exact cO ⟨(Kd.R_reads' HO429.out).2.2⟩; exact (Kd.R_reads' HO429.out).2.1; exact cO ⟨(Kd.R_reads' HO433.out).2.2⟩; exact (Kd.R_reads' HO433.out).2.1; exact cO ⟨(Kd.R_reads' HO438.out).2.2⟩; exact (Kd.R_reads' HO438.out).2.1; rintro e w57 ⟨v440, v444, rfl, ho0, ho1, hb⟩; refine ⟨_, rfl, ?_⟩; replace HO402 := rb HO402 hb; replace HO426 := rb HO426 hb; have HO441 := rl w (rn (rn (rn (rn (rn (rn (rn (rn ho0 HO405) HO409) HO413) HO416) HO420) HO429) HO433) HO438); have HO445 := rl w (rn (rn (rn (rn (rn (rn (rn (rn ho1 HO405) HO409) HO413) HO416) HO420) HO429) HO433) HO438); replace HO405 := rt2 HO405 hb ho0 ho1; replace HO409 := rt2 HO409 hb ho0 ho1; replace HO413 := rt2 HO413 hb ho0 ho1; replace HO416 := rt2 HO416 hb ho0 ho1; replace HO420 := rt2 HO420 hb ho0 ho1; replace HO429 := rt2 HO429 hb ho0 ho1; replace HO433 := rt2 HO433 hb ho0 ho1; replace HO438 := rt2 HO438 hb ho0 ho1; replace BK397 := kb BK397 hb; replace BK423 := kb BK423 hb; replace BK435 := kb BK435 hb; replace HB := bs HB hb; (try clear hb); (try clear ho0); (try clear ho1)) | ((with_reducible refine gate_dst (N := 13) rfl ?_); refine bE (N := 13) (cs := #[.slice none 0 0, .int .i64 0, .slice none 0 0, .int .i64 0]) (t := 57) ?_; intro gb448 hg w58 hbox hb; replace HO402 := rb HO402 hb; replace HO405 := rb HO405 hb; replace HO409 := rb HO409 hb; replace HO413 := rb HO413 hb; replace HO416 := rb HO416 hb; replace HO420 := rb HO420 hb; replace HO426 := rb HO426 hb; replace HO429 := rb HO429 hb; replace HO433 := rb HO433 hb; replace HO438 := rb HO438 hb; replace HO441 := rb HO441 hb; replace HO445 := rb HO445 hb; have BK448 := Aside0.mk (hbox); have GW448 := gw w hg; have GE448 := gw w hg; replace HB := bs HB hb; have NB397_448 := nl BK397 hg; have NB448_397 := nr BK397 hg; replace BK397 := kb BK397 hb; have NB423_448 := nl BK423 hg; have NB448_423 := nr BK423 hg; replace BK423 := kb BK423 hb; have NB435_448 := nl BK435 hg; have NB448_435 := nr BK435 hg; replace BK435 := kb BK435 hb; clear hb hbox hg; obtain ⟨Ao59, co59, eo59⟩ := Kd.R_slice HO441.out; subst eo59; have hnb60 := NB448_397.out; have hnc60 := NB397_448.out; have hnb61 := NB448_423.out; have hnc61 := NB423_448.out; have hnb62 := NB448_435.out; have hnc62 := NB435_448.out; obtain ⟨_, _, _, _, _, _, _, _⟩ := blkc4 BK448; obtain ⟨Ao64, co64, eo64⟩ := Kd.R_slice HO445.out; subst eo64))
 (try simp only [Act.put, List.setIfInBounds_toArray, List.set_cons_zero, List.set_cons_succ])
 go_cut [64] (fun v64 wc => ∃ (kq : Nat) (x64_21 : Bool), v64 = .bool x64_21 ∧ Aside0 (laws_FnExactAskStage.j0 kq l0 l2 t422 t424 t436 t447 x64_21 l1_0 a1_1 l1_2 a1_3 t414 t417 t418 t421 t427 t430 t431 t434 t439 t442 t443 t446 = some r) ∧ Aside0 (kq ≤ k) ∧ Aside0 (Kd.R k89 89 wc w.heap.size (fun _ => True) (.slice Ao55 t424.length co55) t424) ∧ Aside0 (Kd.R (Kd.int .i64) 3 wc w.heap.size (n6 (.slice Ao37 t414.length co37) (.slice Ao40 t418.length co40) (.slice Ao48 t427.length co48) (.slice Ao52 t431.length co52) (.slice Ao59 t439.length co59) (.slice Ao64 t443.length co64)) (.slice Ao56 t436.length co56) t436) ∧ Aside0 (Kd.R (Kd.int .i64) 3 wc w.heap.size (n6 (.slice Ao56 t436.length co56) (.slice Ao40 t418.length co40) (.slice Ao48 t427.length co48) (.slice Ao52 t431.length co52) (.slice Ao59 t439.length co59) (.slice Ao64 t443.length co64)) (.slice Ao37 t414.length co37) t414) ∧ Aside0 (Kd.R (Kd.int .i64) 3 wc w.heap.size (n6 (.slice Ao56 t436.length co56) (.slice Ao37 t414.length co37) (.slice Ao48 t427.length co48) (.slice Ao52 t431.length co52) (.slice Ao59 t439.length co59) (.slice Ao64 t443.length co64)) (.slice Ao40 t418.length co40) t418) ∧ Aside0 (Kd.R (Kd.int .i64) 3 wc w.heap.size (n6 (.slice Ao56 t436.length co56) (.slice Ao37 t414.length co37) (.slice Ao40 t418.length co40) (.slice Ao52 t431.length co52) (.slice Ao59 t439.length co59) (.slice Ao64 t443.length co64)) (.slice Ao48 t427.length co48) t427) ∧ Aside0 (Kd.R (Kd.int .i64) 3 wc w.heap.size (n6 (.slice Ao56 t436.length co56) (.slice Ao37 t414.length co37) (.slice Ao40 t418.length co40) (.slice Ao48 t427.length co48) (.slice Ao59 t439.length co59) (.slice Ao64 t443.length co64)) (.slice Ao52 t431.length co52) t431) ∧ Aside0 (Kd.R (Kd.int .i64) 3 wc w.heap.size (n6 (.slice Ao56 t436.length co56) (.slice Ao37 t414.length co37) (.slice Ao40 t418.length co40) (.slice Ao48 t427.length co48) (.slice Ao52 t431.length co52) (.slice Ao64 t443.length co64)) (.slice Ao59 t439.length co59) t439) ∧ Aside0 (Kd.R (Kd.int .i64) 3 wc w.heap.size (n6 (.slice Ao56 t436.length co56) (.slice Ao37 t414.length co37) (.slice Ao40 t418.length co40) (.slice Ao48 t427.length co48) (.slice Ao52 t431.length co52) (.slice Ao59 t439.length co59)) (.slice Ao64 t443.length co64) t443) ∧ Aside0 (wc.heap[gb397]? = some (.cells #[(.slice A1_0 l1_0.length c1_0), .int .i64 a1_1, (.slice A1_2 l1_2.length c1_2), .int .i64 a1_3] 55 (0, 0))) ∧ Aside0 (wc.heap[gb423]? = some (.cells #[(.slice Ao37 t414.length co37), .int .i64 t417, (.slice Ao40 t418.length co40), .int .i64 t421] 57 (0, 0))) ∧ Aside0 (wc.heap[gb435]? = some (.cells #[(.slice Ao48 t427.length co48), .int .i64 t430, (.slice Ao52 t431.length co52), .int .i64 t434] 57 (0, 0))) ∧ Aside0 (wc.heap[gb448]? = some (.cells #[(.slice Ao59 t439.length co59), .int .i64 t442, (.slice Ao64 t443.length co64), .int .i64 t446] 57 (0, 0))) ∧ Aside0 (Below w.heap.size w wc))
 case first =>
  have H := HC22.out
  clear HC22
  obtain ⟨t449, A65, H⟩ := bindE H
  try dsimp only at H
  by_cases c66 : t449 = true
  ·
   subst c66
   have H1 : (laws_FnExactAskStage.j0 k l0 l2 t422 t424 t436 t447 (t447 != t422) l1_0 a1_1 l1_2 a1_3 t414 t417 t418 t421 t427 t430 t431 t434 t439 t442 t443 t446) = some r := by rw [if_pos rfl] at H; exact H
   clear H
   have H := H1
   clear H1
   have H' := Aside0.mk H
   clear H
   have hnb67 := NB448_397.out
   have hnc67 := NB397_448.out
   have hnb68 := NB448_423.out
   have hnc68 := NB423_448.out
   have hnb69 := NB448_435.out
   have hnc69 := NB435_448.out
   obtain ⟨_, _, _, _, _, _, _, _⟩ := blkc4 BK448
   have hnb71 := NB423_397.out
   have hnc71 := NB397_423.out
   have hnb72 := NB423_435.out
   have hnc72 := NB435_423.out
   obtain ⟨_, _, _, _, _, _, _, _⟩ := blkc4 BK423
   go_wp2_with (first | ((with_reducible refine gate_callee (f := 43) rfl ?_); refine gL (some 58) Try.func43 #[.agg #[.slice Ao59 t439.length co59, .int .i64 t442, .slice Ao64 t443.length co64, .int .i64 t446], .agg #[.slice Ao37 t414.length co37, .int .i64 t417, .slice Ao40 t418.length co40, .int .i64 t421]] ?_; (with_reducible refine (laws_eqControl.calls k _ _ t439 t442 _ _ t443 t446 _ _ t414 t417 _ _ t418 t421 true _ ?_ ?_ ?_ ?_ ?_ ?_ ?_ ?_ A65.out).mono ?_); (focus refine (Kd.R_reads' (e := 3) (base := w.heap.size) (ok := fun k_ => ((((((((some k_ ≠ (.slice Ao64 t443.length co64 : Value).ownBlock ∧ some k_ ≠ (v404 : Value).ownBlock) ∧ some k_ ≠ (v408 : Value).ownBlock) ∧ some k_ ≠ (v412 : Value).ownBlock) ∧ some k_ ≠ (.slice Ao37 t414.length co37 : Value).ownBlock) ∧ some k_ ≠ (.slice Ao40 t418.length co40 : Value).ownBlock) ∧ some k_ ≠ (.slice Ao48 t427.length co48 : Value).ownBlock) ∧ some k_ ≠ (.slice Ao52 t431.length co52 : Value).ownBlock) ∧ some k_ ≠ (.slice Ao56 t436.length co56 : Value).ownBlock)) (n := t439.length) (c := co59) ?_).2.2; exact (rf HO441 BK448)); exact (Kd.R_reads' HO441.out).2.1; (focus refine (Kd.R_reads' (e := 3) (base := w.heap.size) (ok := fun k_ => ((((((((some k_ ≠ (.slice Ao59 t439.length co59 : Value).ownBlock ∧ some k_ ≠ (v404 : Value).ownBlock) ∧ some k_ ≠ (v408 : Value).ownBlock) ∧ some k_ ≠ (v412 : Value).ownBlock) ∧ some k_ ≠ (.slice Ao37 t414.length co37 : Value).ownBlock) ∧ some k_ ≠ (.slice Ao40 t418.length co40 : Value).ownBlock) ∧ some k_ ≠ (.slice Ao48 t427.length co48 : Value).ownBlock) ∧ some k_ ≠ (.slice Ao52 t431.length co52 : Value).ownBlock) ∧ some k_ ≠ (.slice Ao56 t436.length co56 : Value).ownBlock)) (n := t443.length) (c := co64) ?_).2.2; exact (rf HO445 BK448)); exact (Kd.R_reads' HO445.out).2.1; (focus refine (Kd.R_reads' (e := 3) (base := w.heap.size) (ok := fun k_ => ((((((some k_ ≠ (v404 : Value).ownBlock ∧ (some k_ ≠ (v408 : Value).ownBlock ∧ (some k_ ≠ (v412 : Value).ownBlock ∧ some k_ ≠ (.slice Ao40 t418.length co40 : Value).ownBlock))) ∧ some k_ ≠ (.slice Ao48 t427.length co48 : Value).ownBlock) ∧ some k_ ≠ (.slice Ao52 t431.length co52 : Value).ownBlock) ∧ some k_ ≠ (.slice Ao56 t436.length co56 : Value).ownBlock) ∧ some k_ ≠ (.slice Ao59 t439.length co59 : Value).ownBlock) ∧ some k_ ≠ (.slice Ao64 t443.length co64 : Value).ownBlock)) (n := t414.length) (c := co37) ?_).2.2; exact (rf HO416 BK448)); exact (Kd.R_reads' HO416.out).2.1; (focus refine (Kd.R_reads' (e := 3) (base := w.heap.size) (ok := fun k_ => ((((((some k_ ≠ (v404 : Value).ownBlock ∧ (some k_ ≠ (v408 : Value).ownBlock ∧ (some k_ ≠ (v412 : Value).ownBlock ∧ some k_ ≠ (.slice Ao37 t414.length co37 : Value).ownBlock))) ∧ some k_ ≠ (.slice Ao48 t427.length co48 : Value).ownBlock) ∧ some k_ ≠ (.slice Ao52 t431.length co52 : Value).ownBlock) ∧ some k_ ≠ (.slice Ao56 t436.length co56 : Value).ownBlock) ∧ some k_ ≠ (.slice Ao59 t439.length co59 : Value).ownBlock) ∧ some k_ ≠ (.slice Ao64 t443.length co64 : Value).ownBlock)) (n := t418.length) (c := co40) ?_).2.2; exact (rf HO420 BK448)); exact (Kd.R_reads' HO420.out).2.1; rintro e w74 ⟨rfl, hb⟩; refine ⟨_, rfl, ?_⟩; replace HO402 := Aside0.mk (Kd.R_below (rf HO402 BK448) hb); replace HO405 := Aside0.mk (Kd.R_below (rf HO405 BK448) hb); replace HO409 := Aside0.mk (Kd.R_below (rf HO409 BK448) hb); replace HO413 := Aside0.mk (Kd.R_below (rf HO413 BK448) hb); replace HO416 := Aside0.mk (Kd.R_below (rf HO416 BK448) hb); replace HO420 := Aside0.mk (Kd.R_below (rf HO420 BK448) hb); replace HO426 := Aside0.mk (Kd.R_below (rf HO426 BK448) hb); replace HO429 := Aside0.mk (Kd.R_below (rf HO429 BK448) hb); replace HO433 := Aside0.mk (Kd.R_below (rf HO433 BK448) hb); replace HO438 := Aside0.mk (Kd.R_below (rf HO438 BK448) hb); replace HO441 := Aside0.mk (Kd.R_below (rf HO441 BK448) hb); replace HO445 := Aside0.mk (Kd.R_below (rf HO445 BK448) hb); replace BK397 := kc (kf BK397 NB397_448) hb; replace BK423 := kc (kf BK423 NB423_448) hb; replace BK435 := kc (kf BK435 NB435_448) hb; replace BK448 := kc (o := .cells #[.slice Ao59 t439.length co59, .int .i64 t442, .slice Ao64 t443.length co64, .int .i64 t446] 57 (0, 0)) (kp BK448) hb; replace HB := bs HB hb; (try clear hb)))
   go_meet
   case rel => exact ⟨_, ((t447 != t422)), rS, H', ⟨oL⟩, ⟨rm HO426 (fun _ hk => trivial)⟩, ⟨rm HO438 (fun _ hk => ⟨hk.1.1.1.1.1.2, ⟨hk.1.1.1.1.2, ⟨hk.1.1.1.2, ⟨hk.1.1.2, ⟨hk.1.2, hk.2⟩⟩⟩⟩⟩)⟩, ⟨rm HO416 (fun _ hk => ⟨hk.1.1.2, ⟨hk.1.1.1.1.1.2.2.2, ⟨hk.1.1.1.1.2, ⟨hk.1.1.1.2, ⟨hk.1.2, hk.2⟩⟩⟩⟩⟩)⟩, ⟨rm HO420 (fun _ hk => ⟨hk.1.1.2, ⟨hk.1.1.1.1.1.2.2.2, ⟨hk.1.1.1.1.2, ⟨hk.1.1.1.2, ⟨hk.1.2, hk.2⟩⟩⟩⟩⟩)⟩, ⟨rm HO429 (fun _ hk => ⟨hk.1.1.2, ⟨hk.1.1.1.1.2, ⟨hk.1.1.1.2, ⟨hk.1.1.1.1.1.1.1.1, ⟨hk.1.2, hk.2⟩⟩⟩⟩⟩)⟩, ⟨rm HO433 (fun _ hk => ⟨hk.1.1.2, ⟨hk.1.1.1.1.2, ⟨hk.1.1.1.2, ⟨hk.1.1.1.1.1.1.1.1, ⟨hk.1.2, hk.2⟩⟩⟩⟩⟩)⟩, ⟨rm HO441 (fun _ hk => ⟨hk.2, ⟨hk.1.1.1.1.2, ⟨hk.1.1.1.2, ⟨hk.1.1.2, ⟨hk.1.2, hk.1.1.1.1.1.1.1.1⟩⟩⟩⟩⟩)⟩, ⟨rm HO445 (fun _ hk => ⟨hk.2, ⟨hk.1.1.1.1.2, ⟨hk.1.1.1.2, ⟨hk.1.1.2, ⟨hk.1.2, hk.1.1.1.1.1.1.1.1⟩⟩⟩⟩⟩)⟩, ⟨bK BK397⟩, ⟨bK BK423⟩, ⟨bK BK435⟩, ⟨bK BK448⟩, ⟨bG⟩⟩
  replace c66 := Bool.eq_false_iff.mpr c66
  subst c66
  have H1 : (laws_FnExactAskStage.j0 k l0 l2 t422 t424 t436 t447 true l1_0 a1_1 l1_2 a1_3 t414 t417 t418 t421 t427 t430 t431 t434 t439 t442 t443 t446) = some r := by rw [if_neg (show ¬ (false = true) by decide)] at H; exact H
  clear H
  have H := H1
  clear H1
  have H' := Aside0.mk H
  clear H
  have hnb75 := NB448_397.out
  have hnc75 := NB397_448.out
  have hnb76 := NB448_423.out
  have hnc76 := NB423_448.out
  have hnb77 := NB448_435.out
  have hnc77 := NB435_448.out
  obtain ⟨_, _, _, _, _, _, _, _⟩ := blkc4 BK448
  have hnb79 := NB423_397.out
  have hnc79 := NB397_423.out
  have hnb80 := NB423_435.out
  have hnc80 := NB435_423.out
  obtain ⟨_, _, _, _, _, _, _, _⟩ := blkc4 BK423
  go_wp2_with (first | ((with_reducible refine gate_callee (f := 43) rfl ?_); refine gL (some 58) Try.func43 #[.agg #[.slice Ao59 t439.length co59, .int .i64 t442, .slice Ao64 t443.length co64, .int .i64 t446], .agg #[.slice Ao37 t414.length co37, .int .i64 t417, .slice Ao40 t418.length co40, .int .i64 t421]] ?_; (with_reducible refine (laws_eqControl.calls k _ _ t439 t442 _ _ t443 t446 _ _ t414 t417 _ _ t418 t421 false _ ?_ ?_ ?_ ?_ ?_ ?_ ?_ ?_ A65.out).mono ?_); (focus refine (Kd.R_reads' (e := 3) (base := w.heap.size) (ok := fun k_ => ((((((((some k_ ≠ (.slice Ao64 t443.length co64 : Value).ownBlock ∧ some k_ ≠ (v404 : Value).ownBlock) ∧ some k_ ≠ (v408 : Value).ownBlock) ∧ some k_ ≠ (v412 : Value).ownBlock) ∧ some k_ ≠ (.slice Ao37 t414.length co37 : Value).ownBlock) ∧ some k_ ≠ (.slice Ao40 t418.length co40 : Value).ownBlock) ∧ some k_ ≠ (.slice Ao48 t427.length co48 : Value).ownBlock) ∧ some k_ ≠ (.slice Ao52 t431.length co52 : Value).ownBlock) ∧ some k_ ≠ (.slice Ao56 t436.length co56 : Value).ownBlock)) (n := t439.length) (c := co59) ?_).2.2; exact (rf HO441 BK448)); exact (Kd.R_reads' HO441.out).2.1; (focus refine (Kd.R_reads' (e := 3) (base := w.heap.size) (ok := fun k_ => ((((((((some k_ ≠ (.slice Ao59 t439.length co59 : Value).ownBlock ∧ some k_ ≠ (v404 : Value).ownBlock) ∧ some k_ ≠ (v408 : Value).ownBlock) ∧ some k_ ≠ (v412 : Value).ownBlock) ∧ some k_ ≠ (.slice Ao37 t414.length co37 : Value).ownBlock) ∧ some k_ ≠ (.slice Ao40 t418.length co40 : Value).ownBlock) ∧ some k_ ≠ (.slice Ao48 t427.length co48 : Value).ownBlock) ∧ some k_ ≠ (.slice Ao52 t431.length co52 : Value).ownBlock) ∧ some k_ ≠ (.slice Ao56 t436.length co56 : Value).ownBlock)) (n := t443.length) (c := co64) ?_).2.2; exact (rf HO445 BK448)); exact (Kd.R_reads' HO445.out).2.1; (focus refine (Kd.R_reads' (e := 3) (base := w.heap.size) (ok := fun k_ => ((((((some k_ ≠ (v404 : Value).ownBlock ∧ (some k_ ≠ (v408 : Value).ownBlock ∧ (some k_ ≠ (v412 : Value).ownBlock ∧ some k_ ≠ (.slice Ao40 t418.length co40 : Value).ownBlock))) ∧ some k_ ≠ (.slice Ao48 t427.length co48 : Value).ownBlock) ∧ some k_ ≠ (.slice Ao52 t431.length co52 : Value).ownBlock) ∧ some k_ ≠ (.slice Ao56 t436.length co56 : Value).ownBlock) ∧ some k_ ≠ (.slice Ao59 t439.length co59 : Value).ownBlock) ∧ some k_ ≠ (.slice Ao64 t443.length co64 : Value).ownBlock)) (n := t414.length) (c := co37) ?_).2.2; exact (rf HO416 BK448)); exact (Kd.R_reads' HO416.out).2.1; (focus refine (Kd.R_reads' (e := 3) (base := w.heap.size) (ok := fun k_ => ((((((some k_ ≠ (v404 : Value).ownBlock ∧ (some k_ ≠ (v408 : Value).ownBlock ∧ (some k_ ≠ (v412 : Value).ownBlock ∧ some k_ ≠ (.slice Ao37 t414.length co37 : Value).ownBlock))) ∧ some k_ ≠ (.slice Ao48 t427.length co48 : Value).ownBlock) ∧ some k_ ≠ (.slice Ao52 t431.length co52 : Value).ownBlock) ∧ some k_ ≠ (.slice Ao56 t436.length co56 : Value).ownBlock) ∧ some k_ ≠ (.slice Ao59 t439.length co59 : Value).ownBlock) ∧ some k_ ≠ (.slice Ao64 t443.length co64 : Value).ownBlock)) (n := t418.length) (c := co40) ?_).2.2; exact (rf HO420 BK448)); exact (Kd.R_reads' HO420.out).2.1; rintro e w82 ⟨rfl, hb⟩; refine ⟨_, rfl, ?_⟩; replace HO402 := Aside0.mk (Kd.R_below (rf HO402 BK448) hb); replace HO405 := Aside0.mk (Kd.R_below (rf HO405 BK448) hb); replace HO409 := Aside0.mk (Kd.R_below (rf HO409 BK448) hb); replace HO413 := Aside0.mk (Kd.R_below (rf HO413 BK448) hb); replace HO416 := Aside0.mk (Kd.R_below (rf HO416 BK448) hb); replace HO420 := Aside0.mk (Kd.R_below (rf HO420 BK448) hb); replace HO426 := Aside0.mk (Kd.R_below (rf HO426 BK448) hb); replace HO429 := Aside0.mk (Kd.R_below (rf HO429 BK448) hb); replace HO433 := Aside0.mk (Kd.R_below (rf HO433 BK448) hb); replace HO438 := Aside0.mk (Kd.R_below (rf HO438 BK448) hb); replace HO441 := Aside0.mk (Kd.R_below (rf HO441 BK448) hb); replace HO445 := Aside0.mk (Kd.R_below (rf HO445 BK448) hb); replace BK397 := kc (kf BK397 NB397_448) hb; replace BK423 := kc (kf BK423 NB423_448) hb; replace BK435 := kc (kf BK435 NB435_448) hb; replace BK448 := kc (o := .cells #[.slice Ao59 t439.length co59, .int .i64 t442, .slice Ao64 t443.length co64, .int .i64 t446] 57 (0, 0)) (kp BK448) hb; replace HB := bs HB hb; (try clear hb)))
  go_meet
  case rel => exact ⟨_, (true), rS, H', ⟨oL⟩, ⟨rm HO426 (fun _ hk => trivial)⟩, ⟨rm HO438 (fun _ hk => ⟨hk.1.1.1.1.1.2, ⟨hk.1.1.1.1.2, ⟨hk.1.1.1.2, ⟨hk.1.1.2, ⟨hk.1.2, hk.2⟩⟩⟩⟩⟩)⟩, ⟨rm HO416 (fun _ hk => ⟨hk.1.1.2, ⟨hk.1.1.1.1.1.2.2.2, ⟨hk.1.1.1.1.2, ⟨hk.1.1.1.2, ⟨hk.1.2, hk.2⟩⟩⟩⟩⟩)⟩, ⟨rm HO420 (fun _ hk => ⟨hk.1.1.2, ⟨hk.1.1.1.1.1.2.2.2, ⟨hk.1.1.1.1.2, ⟨hk.1.1.1.2, ⟨hk.1.2, hk.2⟩⟩⟩⟩⟩)⟩, ⟨rm HO429 (fun _ hk => ⟨hk.1.1.2, ⟨hk.1.1.1.1.2, ⟨hk.1.1.1.2, ⟨hk.1.1.1.1.1.1.1.1, ⟨hk.1.2, hk.2⟩⟩⟩⟩⟩)⟩, ⟨rm HO433 (fun _ hk => ⟨hk.1.1.2, ⟨hk.1.1.1.1.2, ⟨hk.1.1.1.2, ⟨hk.1.1.1.1.1.1.1.1, ⟨hk.1.2, hk.2⟩⟩⟩⟩⟩)⟩, ⟨rm HO441 (fun _ hk => ⟨hk.2, ⟨hk.1.1.1.1.2, ⟨hk.1.1.1.2, ⟨hk.1.1.2, ⟨hk.1.2, hk.1.1.1.1.1.1.1.1⟩⟩⟩⟩⟩)⟩, ⟨rm HO445 (fun _ hk => ⟨hk.2, ⟨hk.1.1.1.1.2, ⟨hk.1.1.1.2, ⟨hk.1.1.2, ⟨hk.1.2, hk.1.1.1.1.1.1.1.1⟩⟩⟩⟩⟩)⟩, ⟨bK BK397⟩, ⟨bK BK423⟩, ⟨bK BK435⟩, ⟨bK BK448⟩, ⟨bG⟩⟩
 case rest =>
  clear HC22
  obtain ⟨kq, x64_21, rfl, HA, HJ21, HO_10, HO_12, HO_424000, HO_424002, HO_436000, HO_436002, HO_449000, HO_449002, BK397, BK423, BK435, BK448, HB⟩ := hcut
  cases kq with
  | zero => exact absurd HA.out (by simp [laws_FnExactAskStage.j0])
  | succ kj21 =>
   have H := HA.out
   clear HA
   simp only [laws_FnExactAskStage.j0] at H
   have c83 := ifN' H
   replace H := ifT' H
   replace c83 := Bool.eq_false_iff.mpr c83
   subst c83
   obtain ⟨t450, A84, H⟩ := bindE H
   try dsimp only at H
   obtain ⟨t453, A85, H⟩ := bindE H
   try dsimp only at H
   have c86 := ifN H
   replace H := ifT H
   subst c86
   obtain ⟨⟨t454, t457, t458, t461⟩, A87, H⟩ := bindE H
   try dsimp only at H
   obtain ⟨t462, A88, H⟩ := bindE H
   try dsimp only at H
   have c89 := ifN H
   replace H := ifT H
   subst c89
   obtain ⟨t463, A90, H⟩ := bindE H
   try dsimp only at H
   obtain ⟨t466, A91, H⟩ := bindE H
   try dsimp only at H
   have c92 := ifN H
   replace H := ifT H
   subst c92
   obtain ⟨⟨t467, t468⟩, A93, H⟩ := bindE H
   try dsimp only at H
   obtain ⟨⟨t469, t470, t471⟩, A94, H⟩ := bindE H
   try dsimp only at H
   obtain ⟨⟨t472, t473⟩, A95, H⟩ := bindE H
   try dsimp only at H
   have HC96 := Aside0.mk H
   clear H
   try go_wp2_with (first | ((with_reducible refine gate_callee (f := 14) rfl ?_); refine gL (some 67) Try.func14 #[.slice A0 l0.length c0] ?_; (with_reducible refine (laws_toPathS.calls kj21 _ _ l0 t450 _ ?_ ?_ A84.out).mono ?_); exact cB HR0; exact HC0.out; rintro e w97 ⟨v451, rfl, ho0, hb⟩; refine ⟨_, rfl, ?_⟩; replace HO_12 := rb HO_12 hb; replace HO_424000 := rb HO_424000 hb; replace HO_424002 := rb HO_424002 hb; replace HO_436000 := rb HO_436000 hb; replace HO_436002 := rb HO_436002 hb; replace HO_449000 := rb HO_449000 hb; replace HO_449002 := rb HO_449002 hb; have HO452 := rl w (rn ho0 HO_10); replace HO_10 := re HO_10 ho0 hb; replace BK397 := kb BK397 hb; replace BK423 := kb BK423 hb; replace BK435 := kb BK435 hb; replace BK448 := kb BK448 hb; replace HB := bs HB hb; (try clear hb); (try clear ho0); obtain ⟨Ao98, co98, eo98⟩ := Kd.R_slice HO452.out; subst eo98) | ((with_reducible refine gate_callee (f := 18) rfl ?_); refine gL (some 68) Try.func18 #[.slice Ao55 t424.length co55, .slice Ao98 t450.length co98] ?_; (with_reducible refine (laws_eqPathS.calls kj21 _ _ t424 _ _ t450 true _ ?_ ?_ ?_ ?_ A85.out).mono ?_); exact cO ⟨(Kd.R_reads' HO_10.out).2.2⟩; exact (Kd.R_reads' HO_10.out).2.1; exact cO ⟨(Kd.R_reads' HO452.out).2.2⟩; exact (Kd.R_reads' HO452.out).2.1; rintro e w99 ⟨rfl, hb⟩; refine ⟨_, rfl, ?_⟩; replace HO_10 := rb HO_10 hb; replace HO_12 := rb HO_12 hb; replace HO_424000 := rb HO_424000 hb; replace HO_424002 := rb HO_424002 hb; replace HO_436000 := rb HO_436000 hb; replace HO_436002 := rb HO_436002 hb; replace HO_449000 := rb HO_449000 hb; replace HO_449002 := rb HO_449002 hb; replace HO452 := rb HO452 hb; replace BK397 := kb BK397 hb; replace BK423 := kb BK423 hb; replace BK435 := kb BK435 hb; replace BK448 := kb BK448 hb; replace HB := bs HB hb; (try clear hb)))
   replace HO_10 := dr HO_10
   replace HO_12 := dr HO_12
   replace HO_424000 := dr HO_424000
   replace HO_424002 := dr HO_424002
   replace HO_436000 := dr HO_436000
   replace HO_436002 := dr HO_436002
   replace HO_449000 := dr HO_449000
   replace HO_449002 := dr HO_449002
   replace HO452 := dr HO452
   replace BK397 := dk BK397
   replace BK423 := dk BK423
   replace BK435 := dk BK435
   replace BK448 := dk BK448
   have HBo := HB
   replace HB := db HB
   refine start_ (n := 5) (S := fun w' => w'.cell? ⟨gb435, 0, none⟩ = some (.slice Ao48 t427.length co48) ∧ w'.cell? ⟨gb435, 1, none⟩ = some (.int .i64 t430) ∧ w'.cell? ⟨gb435, 2, none⟩ = some (.slice Ao52 t431.length co52) ∧ w'.cell? ⟨gb435, 3, none⟩ = some (.int .i64 t434) ∧ w'.cell? ⟨gb397, 0, none⟩ = some (.slice A1_0 l1_0.length c1_0) ∧ w'.cell? ⟨gb397, 1, none⟩ = some (.int .i64 a1_1) ∧ w'.cell? ⟨gb397, 2, none⟩ = some (.slice A1_2 l1_2.length c1_2) ∧ w'.cell? ⟨gb397, 3, none⟩ = some (.int .i64 a1_3)) (ds := []) (mb 5 0) (by kernel_rfl) rfl rfl (cm4 BK435 (cn4 BK397)) (fun hHeld => ?_)
   generalize w99.drew = w100 at HO_10 HO_12 HO_424000 HO_424002 HO_436000 HO_436002 HO_449000 HO_449002 HO452 BK397 BK423 BK435 BK448 HB hHeld ⊢
   refine take_ (i := 0) (N := some 70) (v := ?_) (a' := ?_) (mb 5 1) rfl rfl (by kernel_rfl) (fun _ _ _ h => h) (Or.inl ⟨by rfl, ?_⟩) hHeld ?_ ?_
   rotate_left
   ·
    rintro w' ⟨s0, s1, s2, s3, s4, s5, s6, s7⟩
    go_simp
    with_reducible rfl
   rotate_left
   ·
    simp only [Act.put, List.setIfInBounds_toArray, List.set_cons_zero, List.set_cons_succ, i64_w, i32_w]
    rfl
   refine take_ (i := 1) (N := some 71) (v := ?_) (a' := ?_) (mb 5 3) rfl rfl (by kernel_rfl) (fun _ _ _ h => h) (Or.inl ⟨by rfl, ?_⟩) hHeld ?_ ?_
   rotate_left
   ·
    rintro w' ⟨s0, s1, s2, s3, s4, s5, s6, s7⟩
    go_simp
    with_reducible rfl
   rotate_left
   ·
    simp only [Act.put, List.setIfInBounds_toArray, List.set_cons_zero, List.set_cons_succ, i64_w, i32_w]
    rfl
   refine one_ (i := 2) (N := some 72) (mb 5 7) rfl rfl (by kernel_rfl) (by decide) (fun K hK => ?_)
   refine gA Try.func40 #[.agg #[.slice A1_0 l1_0.length c1_0, .int .i64 a1_1, .slice A1_2 l1_2.length c1_2, .int .i64 a1_3]] ?_
   with_reducible refine (laws_toControl.calls kj21 _ _ l1_0 a1_1 _ _ l1_2 a1_3 t454 t457 t458 t461 _ ?side1 ?side2 ?side3 ?side4 A87.out).mono ?_
   (case side1 => exact cB HR1_0)
   (case side2 => exact HC1_0.out)
   (case side3 => exact cB HR1_2)
   (case side4 => exact HC1_2.out)
   rintro e w101 ⟨v455, v459, rfl, ho0, ho1, hb⟩
   refine ⟨_, rfl, ?_⟩
   replace HO_10 := rb HO_10 hb
   replace HO452 := rb HO452 hb
   have HO456 := rl w (rn (rn (rn (rn (rn (rn (rn ho0 HO_12) HO_424000) HO_424002) HO_436000) HO_436002) HO_449000) HO_449002)
   have HO460 := rl w (rn (rn (rn (rn (rn (rn (rn ho1 HO_12) HO_424000) HO_424002) HO_436000) HO_436002) HO_449000) HO_449002)
   replace HO_12 := rt2 HO_12 hb ho0 ho1
   replace HO_424000 := rt2 HO_424000 hb ho0 ho1
   replace HO_424002 := rt2 HO_424002 hb ho0 ho1
   replace HO_436000 := rt2 HO_436000 hb ho0 ho1
   replace HO_436002 := rt2 HO_436002 hb ho0 ho1
   replace HO_449000 := rt2 HO_449000 hb ho0 ho1
   replace HO_449002 := rt2 HO_449002 hb ho0 ho1
   replace BK397 := kb BK397 hb
   replace BK423 := kb BK423 hb
   replace BK435 := kb BK435 hb
   replace BK448 := kb BK448 hb
   replace HB := bs HB hb
   (try clear hb)
   (try clear hb2)
   (try clear hk)
   (try clear hi)
   (try clear ho0)
   (try clear ho1)
   obtain ⟨Ao102, co102, eo102⟩ := Kd.R_slice HO456.out
   (first | subst eo102 | (injection eo102 with f1_ f2_ f3_; have f4_ := f1_.symm; have f5_ := f3_.symm; clear f1_ f2_ f3_; subst f4_; subst f5_))
   obtain ⟨Ao103, co103, eo103⟩ := Kd.R_slice HO460.out
   (first | subst eo103 | (injection eo103 with f1_ f2_ f3_; have f4_ := f1_.symm; have f5_ := f3_.symm; clear f1_ f2_ f3_; subst f4_; subst f5_))
   refine hK.out _ _ (cm4 BK435 (cn4 BK397)) (fun hHeld => ?_)
   clear hK K
   refine nB ?_
   refine one_ (i := 3) (N := some 73) (mb 5 15) rfl rfl (by kernel_rfl) (by decide) (fun K hK => ?_)
   refine gA Try.func43 #[.agg #[.slice Ao48 t427.length co48, .int .i64 t430, .slice Ao52 t431.length co52, .int .i64 t434], .agg #[.slice Ao102 t454.length co102, .int .i64 t457, .slice Ao103 t458.length co103, .int .i64 t461]] ?_
   with_reducible refine (laws_eqControl.calls kj21 _ _ t427 t430 _ _ t431 t434 _ _ t454 t457 _ _ t458 t461 true _ ?side1 ?side2 ?side3 ?side4 ?side5 ?side6 ?side7 ?side8 A88.out).mono ?_
   (case side1 => exact cO ⟨(Kd.R_reads' HO_436000.out).2.2⟩)
   (case side2 => exact (Kd.R_reads' HO_436000.out).2.1)
   (case side3 => exact cO ⟨(Kd.R_reads' HO_436002.out).2.2⟩)
   (case side4 => exact (Kd.R_reads' HO_436002.out).2.1)
   (case side5 => exact cO ⟨(Kd.R_reads' HO456.out).2.2⟩)
   (case side6 => exact (Kd.R_reads' HO456.out).2.1)
   (case side7 => exact cO ⟨(Kd.R_reads' HO460.out).2.2⟩)
   (case side8 => exact (Kd.R_reads' HO460.out).2.1)
   rintro e w104 ⟨rfl, hb⟩
   refine ⟨_, rfl, ?_⟩
   replace HO_10 := rb HO_10 hb
   replace HO_12 := rb HO_12 hb
   replace HO_424000 := rb HO_424000 hb
   replace HO_424002 := rb HO_424002 hb
   replace HO_436000 := rb HO_436000 hb
   replace HO_436002 := rb HO_436002 hb
   replace HO_449000 := rb HO_449000 hb
   replace HO_449002 := rb HO_449002 hb
   replace HO452 := rb HO452 hb
   replace HO456 := rb HO456 hb
   replace HO460 := rb HO460 hb
   replace BK397 := kb BK397 hb
   replace BK423 := kb BK423 hb
   replace BK435 := kb BK435 hb
   replace BK448 := kb BK448 hb
   replace HB := bs HB hb
   (try clear hb)
   (try clear hb2)
   (try clear hk)
   (try clear hi)
   refine hK.out _ _ (cm4 BK435 (cn4 BK397)) (fun hHeld => ?_)
   clear hK K
   refine nB ?_
   refine pure_ (i := 4) (N := some 74) (v := ?_) (a' := ?_) (mb 5 31) rfl rfl (by kernel_rfl) (fun _ _ _ h => h) (Or.inl ⟨by rfl, ?_⟩) ?_ ?_
   rotate_left
   ·
    intro w'
    go_simp
    with_reducible rfl
   rotate_left
   ·
    simp only [Act.put, List.setIfInBounds_toArray, List.set_cons_zero, List.set_cons_succ, i64_w, i32_w]
    rfl
   refine done_ (by kernel_rfl) ?_
   go_upto_region 27 with (first | ((with_reducible refine gate_callee (f := 41) rfl ?_); refine gL (some 77) Try.func41 #[.slice A2 l2.length c2] ?_; (with_reducible refine (laws_toIntS.calls kj21 _ _ l2 t463 _ ?_ ?_ A90.out).mono ?_); exact cB HR2; exact HC2.out; rintro e w105 ⟨v464, rfl, ho0, hb⟩; refine ⟨_, rfl, ?_⟩; replace HO_10 := rb HO_10 hb; replace HO452 := rb HO452 hb; have HO465 := rl w (rn (rn (rn (rn (rn (rn (rn (rn (rn ho0 HO_12) HO_424000) HO_424002) HO_436000) HO_436002) HO_449000) HO_449002) HO456) HO460); replace HO_12 := re HO_12 ho0 hb; replace HO_424000 := re HO_424000 ho0 hb; replace HO_424002 := re HO_424002 ho0 hb; replace HO_436000 := re HO_436000 ho0 hb; replace HO_436002 := re HO_436002 ho0 hb; replace HO_449000 := re HO_449000 ho0 hb; replace HO_449002 := re HO_449002 ho0 hb; replace HO456 := re HO456 ho0 hb; replace HO460 := re HO460 ho0 hb; replace BK397 := kb BK397 hb; replace BK423 := kb BK423 hb; replace BK435 := kb BK435 hb; replace BK448 := kb BK448 hb; replace HB := bs HB hb; (try clear hb); (try clear ho0); obtain ⟨Ao106, co106, eo106⟩ := Kd.R_slice HO465.out; subst eo106) | ((with_reducible refine gate_callee (f := 28) rfl ?_); refine gL (some 78) Try.func28 #[.slice Ao56 t436.length co56, .slice Ao106 t463.length co106] ?_; (with_reducible refine (laws_eqIntS.calls kj21 _ _ t436 _ _ t463 true _ ?_ ?_ ?_ ?_ A91.out).mono ?_); exact cO ⟨(Kd.R_reads' HO_12.out).2.2⟩; exact (Kd.R_reads' HO_12.out).2.1; exact cO ⟨(Kd.R_reads' HO465.out).2.2⟩; exact (Kd.R_reads' HO465.out).2.1; rintro e w' ⟨rfl, ⟨nd, rfl⟩⟩; refine ⟨_, rfl, ?_⟩) | ((with_reducible refine gate_callee (f := 20) rfl ?_); refine gL (some 82) Try.func20 #[.slice Ao55 t424.length co55, .int .i64 1] ?_; (with_reducible refine (laws_markPathS.calls kj21 (fun k_ => some k_ = (.slice Ao55 t424.length co55 : Value).ownBlock) (.slice Ao55 t424.length co55) t424 1 t467 t468 w _ ?_ ?_ A93.out).mono ?_); (focus repeat (first | (with_reducible first | exact HB.out | apply below_alloc | apply pw_below_drewN | apply below_drew1 | refine below_set ?_ GE397.out | refine below_set ?_ GE423.out | refine below_set ?_ GE435.out | refine below_set ?_ GE448.out) | exact HB.out)); exact Kd.R_tight rfl HO_10.out; rintro e w107 ⟨rfl, hy0, hb, hkp⟩; refine ⟨_, rfl, ?_⟩; replace HO_12 := Aside0.mk (Kd.R_mono (ok' := n9 (.slice Ao37 t414.length co37) (.slice Ao40 t418.length co40) (.slice Ao48 t427.length co48) (.slice Ao52 t431.length co52) (.slice Ao59 t439.length co59) (.slice Ao64 t443.length co64) (.slice Ao102 t454.length co102) (.slice Ao103 t458.length co103) (.slice Ao106 t463.length co106)) (Kd.R_keptB ((Kd.R_apart' HO_12.out (Kd.R_typed HO_10.out) (by decide))) hkp (fun k_ hk_ hs_ => (hk_.2) hs_)) (fun k_ hk_ => ⟨hk_.1.1.1.1.1.1, hk_.1.1.1.1.1.2.1, hk_.1.1.1.1.1.2.2.1, hk_.1.1.1.1.1.2.2.2.1, hk_.1.1.1.1.1.2.2.2.2.1, hk_.1.1.1.1.1.2.2.2.2.2, hk_.1.1.1.1.2, hk_.1.1.1.2, hk_.1.1.2⟩)); replace HO_424000 := Aside0.mk (Kd.R_mono (ok' := n9 (.slice Ao56 t436.length co56) (.slice Ao40 t418.length co40) (.slice Ao48 t427.length co48) (.slice Ao52 t431.length co52) (.slice Ao59 t439.length co59) (.slice Ao64 t443.length co64) (.slice Ao102 t454.length co102) (.slice Ao103 t458.length co103) (.slice Ao106 t463.length co106)) (Kd.R_keptB ((Kd.R_apart' HO_424000.out (Kd.R_typed HO_10.out) (by decide))) hkp (fun k_ hk_ hs_ => (hk_.2) hs_)) (fun k_ hk_ => ⟨hk_.1.1.1.1.1.1, hk_.1.1.1.1.1.2.1, hk_.1.1.1.1.1.2.2.1, hk_.1.1.1.1.1.2.2.2.1, hk_.1.1.1.1.1.2.2.2.2.1, hk_.1.1.1.1.1.2.2.2.2.2, hk_.1.1.1.1.2, hk_.1.1.1.2, hk_.1.1.2⟩)); replace HO_424002 := Aside0.mk (Kd.R_mono (ok' := n9 (.slice Ao56 t436.length co56) (.slice Ao37 t414.length co37) (.slice Ao48 t427.length co48) (.slice Ao52 t431.length co52) (.slice Ao59 t439.length co59) (.slice Ao64 t443.length co64) (.slice Ao102 t454.length co102) (.slice Ao103 t458.length co103) (.slice Ao106 t463.length co106)) (Kd.R_keptB ((Kd.R_apart' HO_424002.out (Kd.R_typed HO_10.out) (by decide))) hkp (fun k_ hk_ hs_ => (hk_.2) hs_)) (fun k_ hk_ => ⟨hk_.1.1.1.1.1.1, hk_.1.1.1.1.1.2.1, hk_.1.1.1.1.1.2.2.1, hk_.1.1.1.1.1.2.2.2.1, hk_.1.1.1.1.1.2.2.2.2.1, hk_.1.1.1.1.1.2.2.2.2.2, hk_.1.1.1.1.2, hk_.1.1.1.2, hk_.1.1.2⟩)); replace HO_436000 := Aside0.mk (Kd.R_mono (ok' := n9 (.slice Ao56 t436.length co56) (.slice Ao37 t414.length co37) (.slice Ao40 t418.length co40) (.slice Ao52 t431.length co52) (.slice Ao59 t439.length co59) (.slice Ao64 t443.length co64) (.slice Ao102 t454.length co102) (.slice Ao103 t458.length co103) (.slice Ao106 t463.length co106)) (Kd.R_keptB ((Kd.R_apart' HO_436000.out (Kd.R_typed HO_10.out) (by decide))) hkp (fun k_ hk_ hs_ => (hk_.2) hs_)) (fun k_ hk_ => ⟨hk_.1.1.1.1.1.1, hk_.1.1.1.1.1.2.1, hk_.1.1.1.1.1.2.2.1, hk_.1.1.1.1.1.2.2.2.1, hk_.1.1.1.1.1.2.2.2.2.1, hk_.1.1.1.1.1.2.2.2.2.2, hk_.1.1.1.1.2, hk_.1.1.1.2, hk_.1.1.2⟩)); replace HO_436002 := Aside0.mk (Kd.R_mono (ok' := n9 (.slice Ao56 t436.length co56) (.slice Ao37 t414.length co37) (.slice Ao40 t418.length co40) (.slice Ao48 t427.length co48) (.slice Ao59 t439.length co59) (.slice Ao64 t443.length co64) (.slice Ao102 t454.length co102) (.slice Ao103 t458.length co103) (.slice Ao106 t463.length co106)) (Kd.R_keptB ((Kd.R_apart' HO_436002.out (Kd.R_typed HO_10.out) (by decide))) hkp (fun k_ hk_ hs_ => (hk_.2) hs_)) (fun k_ hk_ => ⟨hk_.1.1.1.1.1.1, hk_.1.1.1.1.1.2.1, hk_.1.1.1.1.1.2.2.1, hk_.1.1.1.1.1.2.2.2.1, hk_.1.1.1.1.1.2.2.2.2.1, hk_.1.1.1.1.1.2.2.2.2.2, hk_.1.1.1.1.2, hk_.1.1.1.2, hk_.1.1.2⟩)); replace HO_449000 := Aside0.mk (Kd.R_mono (ok' := n9 (.slice Ao56 t436.length co56) (.slice Ao37 t414.length co37) (.slice Ao40 t418.length co40) (.slice Ao48 t427.length co48) (.slice Ao52 t431.length co52) (.slice Ao64 t443.length co64) (.slice Ao102 t454.length co102) (.slice Ao103 t458.length co103) (.slice Ao106 t463.length co106)) (Kd.R_keptB ((Kd.R_apart' HO_449000.out (Kd.R_typed HO_10.out) (by decide))) hkp (fun k_ hk_ hs_ => (hk_.2) hs_)) (fun k_ hk_ => ⟨hk_.1.1.1.1.1.1, hk_.1.1.1.1.1.2.1, hk_.1.1.1.1.1.2.2.1, hk_.1.1.1.1.1.2.2.2.1, hk_.1.1.1.1.1.2.2.2.2.1, hk_.1.1.1.1.1.2.2.2.2.2, hk_.1.1.1.1.2, hk_.1.1.1.2, hk_.1.1.2⟩)); replace HO_449002 := Aside0.mk (Kd.R_mono (ok' := n9 (.slice Ao56 t436.length co56) (.slice Ao37 t414.length co37) (.slice Ao40 t418.length co40) (.slice Ao48 t427.length co48) (.slice Ao52 t431.length co52) (.slice Ao59 t439.length co59) (.slice Ao102 t454.length co102) (.slice Ao103 t458.length co103) (.slice Ao106 t463.length co106)) (Kd.R_keptB ((Kd.R_apart' HO_449002.out (Kd.R_typed HO_10.out) (by decide))) hkp (fun k_ hk_ hs_ => (hk_.2) hs_)) (fun k_ hk_ => ⟨hk_.1.1.1.1.1.1, hk_.1.1.1.1.1.2.1, hk_.1.1.1.1.1.2.2.1, hk_.1.1.1.1.1.2.2.2.1, hk_.1.1.1.1.1.2.2.2.2.1, hk_.1.1.1.1.1.2.2.2.2.2, hk_.1.1.1.1.2, hk_.1.1.1.2, hk_.1.1.2⟩)); replace BK397 := kk BK397 hkp (Kd.R_ne HO_10.out BK397.out (by decide)); replace BK423 := kk BK423 hkp (Kd.R_ne HO_10.out BK423.out (by decide)); replace BK435 := kk BK435 hkp (Kd.R_ne HO_10.out BK435.out (by decide)); replace BK448 := kk BK448 hkp (Kd.R_ne HO_10.out BK448.out (by decide)); replace HO452 := Aside0.mk (Kd.R_mono (ok' := n1 (.slice Ao55 t424.length co55)) (Kd.R_keptB (HO452.out) hkp (fun k_ hk_ hs_ => (hk_.2) hs_)) (fun k_ hk_ => hk_.1.2)); replace HO456 := Aside0.mk (Kd.R_mono (ok' := n9 (.slice Ao56 t436.length co56) (.slice Ao37 t414.length co37) (.slice Ao40 t418.length co40) (.slice Ao48 t427.length co48) (.slice Ao52 t431.length co52) (.slice Ao59 t439.length co59) (.slice Ao64 t443.length co64) (.slice Ao103 t458.length co103) (.slice Ao106 t463.length co106)) (Kd.R_keptB ((Kd.R_apart' HO456.out (Kd.R_typed HO_10.out) (by decide))) hkp (fun k_ hk_ hs_ => (hk_.2) hs_)) (fun k_ hk_ => ⟨hk_.1.1.1.1.1.1.1.1.1.2, hk_.1.1.1.1.1.1.1.1.2, hk_.1.1.1.1.1.1.1.2, hk_.1.1.1.1.1.1.2, hk_.1.1.1.1.1.2, hk_.1.1.1.1.2, hk_.1.1.1.2, hk_.1.1.1.1.1.1.1.1.1.1, hk_.1.1.2⟩)); replace HO460 := Aside0.mk (Kd.R_mono (ok' := n9 (.slice Ao56 t436.length co56) (.slice Ao37 t414.length co37) (.slice Ao40 t418.length co40) (.slice Ao48 t427.length co48) (.slice Ao52 t431.length co52) (.slice Ao59 t439.length co59) (.slice Ao64 t443.length co64) (.slice Ao102 t454.length co102) (.slice Ao106 t463.length co106)) (Kd.R_keptB ((Kd.R_apart' HO460.out (Kd.R_typed HO_10.out) (by decide))) hkp (fun k_ hk_ hs_ => (hk_.2) hs_)) (fun k_ hk_ => ⟨hk_.1.1.1.1.1.1.1.1.1.2, hk_.1.1.1.1.1.1.1.1.2, hk_.1.1.1.1.1.1.1.2, hk_.1.1.1.1.1.1.2, hk_.1.1.1.1.1.2, hk_.1.1.1.1.2, hk_.1.1.1.2, hk_.1.1.1.1.1.1.1.1.1.1, hk_.1.1.2⟩)); replace HO465 := Aside0.mk (Kd.R_mono (ok' := n9 (.slice Ao56 t436.length co56) (.slice Ao37 t414.length co37) (.slice Ao40 t418.length co40) (.slice Ao48 t427.length co48) (.slice Ao52 t431.length co52) (.slice Ao59 t439.length co59) (.slice Ao64 t443.length co64) (.slice Ao102 t454.length co102) (.slice Ao103 t458.length co103)) (Kd.R_keptB ((Kd.R_apart' HO465.out (Kd.R_typed HO_10.out) (by decide))) hkp (fun k_ hk_ hs_ => (hk_.2) hs_)) (fun k_ hk_ => ⟨hk_.1.1.1.1.1.1.1.1.1.1.2, hk_.1.1.1.1.1.1.1.1.1.2, hk_.1.1.1.1.1.1.1.1.2, hk_.1.1.1.1.1.1.1.2, hk_.1.1.1.1.1.1.2, hk_.1.1.1.1.1.2, hk_.1.1.1.1.2, hk_.1.1.1.2, hk_.1.1.2⟩)); replace HO_10 := Aside0.mk (Kd.R_reok rfl hy0 (fun k_ e_ => HO_10.out.1 k_ e_)); replace HB := Aside0.mk (hb); (try clear hb); (try clear hkp); (try clear hy0); have hnb108 := NB435_397.out; have hnc108 := NB397_435.out; have hnb109 := NB435_423.out; have hnc109 := NB423_435.out; have hnb110 := NB435_448.out; have hnc110 := NB448_435.out; have hcz111_0 : w107.cell? ⟨gb435, 0, none⟩ = some (.slice Ao48 t427.length co48) := bC BK435 0; have hcz111_1 : w107.cell? ⟨gb435, 1, none⟩ = some (.int .i64 t430) := bC BK435 1; have hcz111_2 : w107.cell? ⟨gb435, 2, none⟩ = some (.slice Ao52 t431.length co52) := bC BK435 2; have hcz111_3 : w107.cell? ⟨gb435, 3, none⟩ = some (.int .i64 t434) := bC BK435 3; have hfz111_0 := blk_frozen BK435.out 0; have hfz111_1 := blk_frozen BK435.out 1; have hfz111_2 := blk_frozen BK435.out 2; have hfz111_3 := blk_frozen BK435.out 3) | ((with_reducible refine gate_callee (f := 44) rfl ?_); refine gL (some 85) Try.func44 #[.agg #[.slice Ao48 t427.length co48, .int .i64 t430, .slice Ao52 t431.length co52, .int .i64 t434], .int .i64 t467] ?_; (with_reducible refine (laws_markControl.calls kj21 (fun k_ => some k_ = (.slice Ao48 t427.length co48 : Value).ownBlock) (.slice Ao48 t427.length co48) t427 t430 (fun k_ => some k_ = (.slice Ao52 t431.length co52 : Value).ownBlock) (.slice Ao52 t431.length co52) t431 t434 t467 t469 t470 t471 w _ ?_ ?_ ?_ ?_ ?_ A94.out).mono ?_); (focus repeat (first | (with_reducible first | exact HB.out | apply below_alloc | apply pw_below_drewN | apply below_drew1 | refine below_set ?_ GE397.out | refine below_set ?_ GE423.out | refine below_set ?_ GE435.out | refine below_set ?_ GE448.out) | exact HB.out)); exact Kd.R_tight rfl HO_436000.out; exact fun k_ e_ => (HO_436000.out.1 k_ e_.symm).2.2.2.1; exact Kd.R_tight rfl HO_436002.out; exact fun k_ e_ => (HO_436002.out.1 k_ e_.symm).2.2.2.1; rintro e w112 ⟨rfl, hy0, hy1, hb, hkp⟩; refine ⟨_, rfl, ?_⟩; replace HO_10 := Aside0.mk (Kd.R_mono (ok' := n1 (.slice Ao98 t450.length co98)) (Kd.R_keptB ((Kd.R_apart' (Kd.R_apart' HO_10.out (Kd.R_typed HO_436000.out) (by decide)) (Kd.R_typed HO_436002.out) (by decide))) hkp (fun k_ hk_ hs_ => Or.elim hs_ (fun e_ => (hk_.1.2) e_) (fun e_ => (hk_.2) e_))) (fun k_ hk_ => hk_.1.1.1.2)); replace HO_12 := Aside0.mk (Kd.R_kept HO_12.out hkp (fun k_ hk_ hs_ => Or.elim hs_ (fun e_ => (hk_.2.2.1) e_) (fun e_ => (hk_.2.2.2.1) e_))); replace HO_424000 := Aside0.mk (Kd.R_kept HO_424000.out hkp (fun k_ hk_ hs_ => Or.elim hs_ (fun e_ => (hk_.2.2.1) e_) (fun e_ => (hk_.2.2.2.1) e_))); replace HO_424002 := Aside0.mk (Kd.R_kept HO_424002.out hkp (fun k_ hk_ hs_ => Or.elim hs_ (fun e_ => (hk_.2.2.1) e_) (fun e_ => (hk_.2.2.2.1) e_))); replace HO_449000 := Aside0.mk (Kd.R_kept HO_449000.out hkp (fun k_ hk_ hs_ => Or.elim hs_ (fun e_ => (hk_.2.2.2.1) e_) (fun e_ => (hk_.2.2.2.2.1) e_))); replace HO_449002 := Aside0.mk (Kd.R_kept HO_449002.out hkp (fun k_ hk_ hs_ => Or.elim hs_ (fun e_ => (hk_.2.2.2.1) e_) (fun e_ => (hk_.2.2.2.2.1) e_))); replace BK397 := kk BK397 hkp (fun hs_ => Or.elim hs_ (fun e_ => (fun e_ => (Kd.R_ne HO_436000.out BK397.out (by decide)) e_) e_) (fun e_ => (fun e_ => (Kd.R_ne HO_436002.out BK397.out (by decide)) e_) e_)); replace BK423 := kk BK423 hkp (fun hs_ => Or.elim hs_ (fun e_ => (fun e_ => (Kd.R_ne HO_436000.out BK423.out (by decide)) e_) e_) (fun e_ => (fun e_ => (Kd.R_ne HO_436002.out BK423.out (by decide)) e_) e_)); replace BK435 := kk BK435 hkp (fun hs_ => Or.elim hs_ (fun e_ => (fun e_ => (Kd.R_ne HO_436000.out BK435.out (by decide)) e_) e_) (fun e_ => (fun e_ => (Kd.R_ne HO_436002.out BK435.out (by decide)) e_) e_)); replace BK448 := kk BK448 hkp (fun hs_ => Or.elim hs_ (fun e_ => (fun e_ => (Kd.R_ne HO_436000.out BK448.out (by decide)) e_) e_) (fun e_ => (fun e_ => (Kd.R_ne HO_436002.out BK448.out (by decide)) e_) e_)); replace HO452 := Aside0.mk (Kd.R_mono (ok' := n1 (.slice Ao55 t424.length co55)) (Kd.R_keptB ((Kd.R_apart' (Kd.R_apart' HO452.out (Kd.R_typed HO_436000.out) (by decide)) (Kd.R_typed HO_436002.out) (by decide))) hkp (fun k_ hk_ hs_ => Or.elim hs_ (fun e_ => (hk_.1.2) e_) (fun e_ => (hk_.2) e_))) (fun k_ hk_ => hk_.1.1.1)); replace HO_436000 := Aside0.mk (Kd.R_reok rfl hy0 (fun k_ e_ => HO_436000.out.1 k_ e_)); replace HO_436002 := Aside0.mk (Kd.R_reok rfl hy1 (fun k_ e_ => HO_436002.out.1 k_ e_)); replace HO456 := Aside0.mk (Kd.R_kept HO456.out hkp (fun k_ hk_ hs_ => Or.elim hs_ (fun e_ => (hk_.2.2.2.1) e_) (fun e_ => (hk_.2.2.2.2.1) e_))); replace HO460 := Aside0.mk (Kd.R_kept HO460.out hkp (fun k_ hk_ hs_ => Or.elim hs_ (fun e_ => (hk_.2.2.2.1) e_) (fun e_ => (hk_.2.2.2.2.1) e_))); replace HO465 := Aside0.mk (Kd.R_kept HO465.out hkp (fun k_ hk_ hs_ => Or.elim hs_ (fun e_ => (hk_.2.2.2.1) e_) (fun e_ => (hk_.2.2.2.2.1) e_))); replace HB := Aside0.mk (hb); (try clear hb); (try clear hkp); (try clear hy0); (try clear hy1)) | ((with_reducible refine gate_callee (f := 31) rfl ?_); refine gL (some 88) Try.func31 #[.slice Ao56 t436.length co56, .int .i64 t469] ?_; (with_reducible refine (laws_markIntS.calls kj21 (fun k_ => some k_ = (.slice Ao56 t436.length co56 : Value).ownBlock) (.slice Ao56 t436.length co56) t436 t469 t472 t473 w _ ?_ ?_ A95.out).mono ?_); (focus repeat (first | (with_reducible first | exact HB.out | apply below_alloc | apply pw_below_drewN | apply below_drew1 | refine below_set ?_ GE397.out | refine below_set ?_ GE423.out | refine below_set ?_ GE435.out | refine below_set ?_ GE448.out) | exact HB.out)); exact Kd.R_tight rfl HO_12.out; rintro e w113 ⟨rfl, hy0, hb, hkp⟩; refine ⟨_, rfl, ?_⟩; replace HO_10 := Aside0.mk (Kd.R_mono (ok' := n1 (.slice Ao98 t450.length co98)) (Kd.R_keptB ((Kd.R_apart' HO_10.out (Kd.R_typed HO_12.out) (by decide))) hkp (fun k_ hk_ hs_ => (hk_.2) hs_)) (fun k_ hk_ => hk_.1.1)); replace HO_424000 := Aside0.mk (Kd.R_kept HO_424000.out hkp (fun k_ hk_ hs_ => (hk_.1) hs_)); replace HO_424002 := Aside0.mk (Kd.R_kept HO_424002.out hkp (fun k_ hk_ hs_ => (hk_.1) hs_)); replace HO_436000 := Aside0.mk (Kd.R_kept HO_436000.out hkp (fun k_ hk_ hs_ => (hk_.1) hs_)); replace HO_436002 := Aside0.mk (Kd.R_kept HO_436002.out hkp (fun k_ hk_ hs_ => (hk_.1) hs_)); replace HO_449000 := Aside0.mk (Kd.R_kept HO_449000.out hkp (fun k_ hk_ hs_ => (hk_.1) hs_)); replace HO_449002 := Aside0.mk (Kd.R_kept HO_449002.out hkp (fun k_ hk_ hs_ => (hk_.1) hs_)); replace BK397 := kk BK397 hkp (Kd.R_ne HO_12.out BK397.out (by decide)); replace BK423 := kk BK423 hkp (Kd.R_ne HO_12.out BK423.out (by decide)); replace BK435 := kk BK435 hkp (Kd.R_ne HO_12.out BK435.out (by decide)); replace BK448 := kk BK448 hkp (Kd.R_ne HO_12.out BK448.out (by decide)); replace HO452 := Aside0.mk (Kd.R_mono (ok' := n1 (.slice Ao55 t424.length co55)) (Kd.R_keptB ((Kd.R_apart' HO452.out (Kd.R_typed HO_12.out) (by decide))) hkp (fun k_ hk_ hs_ => (hk_.2) hs_)) (fun k_ hk_ => hk_.1.1)); replace HO_12 := Aside0.mk (Kd.R_reok rfl hy0 (fun k_ e_ => HO_12.out.1 k_ e_)); replace HO456 := Aside0.mk (Kd.R_kept HO456.out hkp (fun k_ hk_ hs_ => (hk_.1) hs_)); replace HO460 := Aside0.mk (Kd.R_kept HO460.out hkp (fun k_ hk_ hs_ => (hk_.1) hs_)); replace HO465 := Aside0.mk (Kd.R_kept HO465.out hkp (fun k_ hk_ hs_ => (hk_.1) hs_)); replace HB := Aside0.mk (hb); (try clear hb); (try clear hkp); (try clear hy0)))
   (try simp only [Act.put, List.setIfInBounds_toArray, List.set_cons_zero, List.set_cons_succ])
   go_cut [101] (fun v101 wc => ∃ (kq : Nat) (x101_95 : Bool), v101 = .bool x101_95 ∧ Aside0 (laws_FnExactAskStage.j1 kq l0 l2 t422 x101_95 l1_0 a1_1 l1_2 a1_3 t414 t417 t418 t421 t439 t442 t443 t446 = some r) ∧ Aside0 (kq ≤ kj21) ∧ Aside0 (Kd.R (Kd.int .i64) 3 wc w.heap.size (n5 (.slice Ao40 t418.length co40) (.slice Ao48 t427.length co48) (.slice Ao52 t431.length co52) (.slice Ao59 t439.length co59) (.slice Ao64 t443.length co64)) (.slice Ao37 t414.length co37) t414) ∧ Aside0 (Kd.R (Kd.int .i64) 3 wc w.heap.size (n5 (.slice Ao37 t414.length co37) (.slice Ao48 t427.length co48) (.slice Ao52 t431.length co52) (.slice Ao59 t439.length co59) (.slice Ao64 t443.length co64)) (.slice Ao40 t418.length co40) t418) ∧ Aside0 (Kd.R (Kd.int .i64) 3 wc w.heap.size (n5 (.slice Ao37 t414.length co37) (.slice Ao40 t418.length co40) (.slice Ao52 t431.length co52) (.slice Ao59 t439.length co59) (.slice Ao64 t443.length co64)) (.slice Ao48 t427.length co48) t470) ∧ Aside0 (Kd.R (Kd.int .i64) 3 wc w.heap.size (n5 (.slice Ao37 t414.length co37) (.slice Ao40 t418.length co40) (.slice Ao48 t427.length co48) (.slice Ao59 t439.length co59) (.slice Ao64 t443.length co64)) (.slice Ao52 t431.length co52) t471) ∧ Aside0 (Kd.R (Kd.int .i64) 3 wc w.heap.size (n5 (.slice Ao37 t414.length co37) (.slice Ao40 t418.length co40) (.slice Ao48 t427.length co48) (.slice Ao52 t431.length co52) (.slice Ao64 t443.length co64)) (.slice Ao59 t439.length co59) t439) ∧ Aside0 (Kd.R (Kd.int .i64) 3 wc w.heap.size (n5 (.slice Ao37 t414.length co37) (.slice Ao40 t418.length co40) (.slice Ao48 t427.length co48) (.slice Ao52 t431.length co52) (.slice Ao59 t439.length co59)) (.slice Ao64 t443.length co64) t443) ∧ Aside0 (wc.heap[gb397]? = some (.cells #[(.slice A1_0 l1_0.length c1_0), .int .i64 a1_1, (.slice A1_2 l1_2.length c1_2), .int .i64 a1_3] 55 (0, 0))) ∧ Aside0 (wc.heap[gb423]? = some (.cells #[(.slice Ao37 t414.length co37), .int .i64 t417, (.slice Ao40 t418.length co40), .int .i64 t421] 57 (0, 0))) ∧ Aside0 (wc.heap[gb435]? = some (.cells #[(.slice Ao48 t427.length co48), .int .i64 t430, (.slice Ao52 t431.length co52), .int .i64 t434] 57 (0, 0))) ∧ Aside0 (wc.heap[gb448]? = some (.cells #[(.slice Ao59 t439.length co59), .int .i64 t442, (.slice Ao64 t443.length co64), .int .i64 t446] 57 (0, 0))) ∧ Aside0 (Below w.heap.size w wc))
   case first =>
    have H := HC96.out
    clear HC96
    by_cases c114 : t472 < 0
    ·
     rw [if_pos c114] at H
     have c114b0 := decide_eq_true c114
     clear c114
     (first | rw [c114b0] | (simp only [i64_w, i32_w]; rw [c114b0]) | skip)
     have H' := Aside0.mk H
     clear H
     go_wp2
     go_meet
     case rel => exact ⟨_, (true), rS, H', ⟨by have := HJ21.out; first | omega | exact Nat.le_refl _⟩, ⟨rm HO_424000 (fun _ hk => ⟨hk.2.1, ⟨hk.2.2.1, ⟨hk.2.2.2.1, ⟨hk.2.2.2.2.1, hk.2.2.2.2.2.1⟩⟩⟩⟩)⟩, ⟨rm HO_424002 (fun _ hk => ⟨hk.2.1, ⟨hk.2.2.1, ⟨hk.2.2.2.1, ⟨hk.2.2.2.2.1, hk.2.2.2.2.2.1⟩⟩⟩⟩)⟩, ⟨rm HO_436000 (fun _ hk => ⟨hk.2.1, ⟨hk.2.2.1, ⟨hk.2.2.2.1, ⟨hk.2.2.2.2.1, hk.2.2.2.2.2.1⟩⟩⟩⟩)⟩, ⟨rm HO_436002 (fun _ hk => ⟨hk.2.1, ⟨hk.2.2.1, ⟨hk.2.2.2.1, ⟨hk.2.2.2.2.1, hk.2.2.2.2.2.1⟩⟩⟩⟩)⟩, ⟨rm HO_449000 (fun _ hk => ⟨hk.2.1, ⟨hk.2.2.1, ⟨hk.2.2.2.1, ⟨hk.2.2.2.2.1, hk.2.2.2.2.2.1⟩⟩⟩⟩)⟩, ⟨rm HO_449002 (fun _ hk => ⟨hk.2.1, ⟨hk.2.2.1, ⟨hk.2.2.2.1, ⟨hk.2.2.2.2.1, hk.2.2.2.2.2.1⟩⟩⟩⟩)⟩, ⟨bK BK397⟩, ⟨bK BK423⟩, ⟨bK BK435⟩, ⟨bK BK448⟩, ⟨bG⟩⟩
    rw [if_neg c114] at H
    have c114b0 := decide_eq_false c114
    clear c114
    (first | rw [c114b0] | (simp only [i64_w, i32_w]; rw [c114b0]) | skip)
    obtain ⟨t474, A115, H⟩ := bindE H
    try dsimp only at H
    by_cases c116 : t474 = true
    ·
     subst c116
     have H1 : (laws_FnExactAskStage.j1 kj21 l0 l2 t422 (t447 != t422) l1_0 a1_1 l1_2 a1_3 t414 t417 t418 t421 t439 t442 t443 t446) = some r := by rw [if_pos rfl] at H; exact H
     clear H
     have H := H1
     clear H1
     have H' := Aside0.mk H
     clear H
     have hnb117 := NB448_397.out
     have hnc117 := NB397_448.out
     have hnb118 := NB448_423.out
     have hnc118 := NB423_448.out
     have hnb119 := NB448_435.out
     have hnc119 := NB435_448.out
     obtain ⟨_, _, _, _, _, _, _, _⟩ := blkc4 BK448
     have hnb121 := NB423_397.out
     have hnc121 := NB397_423.out
     have hnb122 := NB423_435.out
     have hnc122 := NB435_423.out
     obtain ⟨_, _, _, _, _, _, _, _⟩ := blkc4 BK423
     go_wp2_with (first | (go_at_call 43; (with_reducible refine (laws_eqControl.calls kj21 _ _ t439 t442 _ _ t443 t446 _ _ t414 t417 _ _ t418 t421 true _ ?_ ?_ ?_ ?_ ?_ ?_ ?_ ?_ A115.out).mono ?_); exact cO ⟨(Kd.R_reads' HO_449000.out).2.2⟩; exact (Kd.R_reads' HO_449000.out).2.1; exact cO ⟨(Kd.R_reads' HO_449002.out).2.2⟩; exact (Kd.R_reads' HO_449002.out).2.1; exact cO ⟨(Kd.R_reads' HO_424000.out).2.2⟩; exact (Kd.R_reads' HO_424000.out).2.1; exact cO ⟨(Kd.R_reads' HO_424002.out).2.2⟩; exact (Kd.R_reads' HO_424002.out).2.1; rintro e w124 ⟨rfl, hb⟩; replace HO_10 := rb HO_10 hb; replace HO_12 := rb HO_12 hb; replace HO_424000 := rb HO_424000 hb; replace HO_424002 := rb HO_424002 hb; replace HO_436000 := rb HO_436000 hb; replace HO_436002 := rb HO_436002 hb; replace HO_449000 := rb HO_449000 hb; replace HO_449002 := rb HO_449002 hb; replace HO452 := rb HO452 hb; replace HO456 := rb HO456 hb; replace HO460 := rb HO460 hb; replace HO465 := rb HO465 hb; replace BK397 := kb BK397 hb; replace BK423 := kb BK423 hb; replace BK435 := kb BK435 hb; replace BK448 := kb BK448 hb; replace HB := bs HB hb; (try clear hb)))
     go_meet
     case rel => exact ⟨_, ((t447 != t422)), rS, H', ⟨by have := HJ21.out; first | omega | exact Nat.le_refl _⟩, ⟨rm HO_424000 (fun _ hk => ⟨hk.2.1, ⟨hk.2.2.1, ⟨hk.2.2.2.1, ⟨hk.2.2.2.2.1, hk.2.2.2.2.2.1⟩⟩⟩⟩)⟩, ⟨rm HO_424002 (fun _ hk => ⟨hk.2.1, ⟨hk.2.2.1, ⟨hk.2.2.2.1, ⟨hk.2.2.2.2.1, hk.2.2.2.2.2.1⟩⟩⟩⟩)⟩, ⟨rm HO_436000 (fun _ hk => ⟨hk.2.1, ⟨hk.2.2.1, ⟨hk.2.2.2.1, ⟨hk.2.2.2.2.1, hk.2.2.2.2.2.1⟩⟩⟩⟩)⟩, ⟨rm HO_436002 (fun _ hk => ⟨hk.2.1, ⟨hk.2.2.1, ⟨hk.2.2.2.1, ⟨hk.2.2.2.2.1, hk.2.2.2.2.2.1⟩⟩⟩⟩)⟩, ⟨rm HO_449000 (fun _ hk => ⟨hk.2.1, ⟨hk.2.2.1, ⟨hk.2.2.2.1, ⟨hk.2.2.2.2.1, hk.2.2.2.2.2.1⟩⟩⟩⟩)⟩, ⟨rm HO_449002 (fun _ hk => ⟨hk.2.1, ⟨hk.2.2.1, ⟨hk.2.2.2.1, ⟨hk.2.2.2.2.1, hk.2.2.2.2.2.1⟩⟩⟩⟩)⟩, ⟨bK BK397⟩, ⟨bK BK423⟩, ⟨bK BK435⟩, ⟨bK BK448⟩, ⟨bG⟩⟩
    replace c116 := Bool.eq_false_iff.mpr c116
    subst c116
    have H1 : (laws_FnExactAskStage.j1 kj21 l0 l2 t422 true l1_0 a1_1 l1_2 a1_3 t414 t417 t418 t421 t439 t442 t443 t446) = some r := by rw [if_neg (show ¬ (false = true) by decide)] at H; exact H
    clear H
    have H := H1
    clear H1
    have H' := Aside0.mk H
    clear H
    have hnb125 := NB448_397.out
    have hnc125 := NB397_448.out
    have hnb126 := NB448_423.out
    have hnc126 := NB423_448.out
    have hnb127 := NB448_435.out
    have hnc127 := NB435_448.out
    obtain ⟨_, _, _, _, _, _, _, _⟩ := blkc4 BK448
    have hnb129 := NB423_397.out
    have hnc129 := NB397_423.out
    have hnb130 := NB423_435.out
    have hnc130 := NB435_423.out
    obtain ⟨_, _, _, _, _, _, _, _⟩ := blkc4 BK423
    go_wp2_with (first | (go_at_call 43; (with_reducible refine (laws_eqControl.calls kj21 _ _ t439 t442 _ _ t443 t446 _ _ t414 t417 _ _ t418 t421 false _ ?_ ?_ ?_ ?_ ?_ ?_ ?_ ?_ A115.out).mono ?_); exact cO ⟨(Kd.R_reads' HO_449000.out).2.2⟩; exact (Kd.R_reads' HO_449000.out).2.1; exact cO ⟨(Kd.R_reads' HO_449002.out).2.2⟩; exact (Kd.R_reads' HO_449002.out).2.1; exact cO ⟨(Kd.R_reads' HO_424000.out).2.2⟩; exact (Kd.R_reads' HO_424000.out).2.1; exact cO ⟨(Kd.R_reads' HO_424002.out).2.2⟩; exact (Kd.R_reads' HO_424002.out).2.1; rintro e w132 ⟨rfl, hb⟩; replace HO_10 := rb HO_10 hb; replace HO_12 := rb HO_12 hb; replace HO_424000 := rb HO_424000 hb; replace HO_424002 := rb HO_424002 hb; replace HO_436000 := rb HO_436000 hb; replace HO_436002 := rb HO_436002 hb; replace HO_449000 := rb HO_449000 hb; replace HO_449002 := rb HO_449002 hb; replace HO452 := rb HO452 hb; replace HO456 := rb HO456 hb; replace HO460 := rb HO460 hb; replace HO465 := rb HO465 hb; replace BK397 := kb BK397 hb; replace BK423 := kb BK423 hb; replace BK435 := kb BK435 hb; replace BK448 := kb BK448 hb; replace HB := bs HB hb; (try clear hb)))
    go_meet
    case rel => exact ⟨_, (true), rS, H', ⟨by have := HJ21.out; first | omega | exact Nat.le_refl _⟩, ⟨rm HO_424000 (fun _ hk => ⟨hk.2.1, ⟨hk.2.2.1, ⟨hk.2.2.2.1, ⟨hk.2.2.2.2.1, hk.2.2.2.2.2.1⟩⟩⟩⟩)⟩, ⟨rm HO_424002 (fun _ hk => ⟨hk.2.1, ⟨hk.2.2.1, ⟨hk.2.2.2.1, ⟨hk.2.2.2.2.1, hk.2.2.2.2.2.1⟩⟩⟩⟩)⟩, ⟨rm HO_436000 (fun _ hk => ⟨hk.2.1, ⟨hk.2.2.1, ⟨hk.2.2.2.1, ⟨hk.2.2.2.2.1, hk.2.2.2.2.2.1⟩⟩⟩⟩)⟩, ⟨rm HO_436002 (fun _ hk => ⟨hk.2.1, ⟨hk.2.2.1, ⟨hk.2.2.2.1, ⟨hk.2.2.2.2.1, hk.2.2.2.2.2.1⟩⟩⟩⟩)⟩, ⟨rm HO_449000 (fun _ hk => ⟨hk.2.1, ⟨hk.2.2.1, ⟨hk.2.2.2.1, ⟨hk.2.2.2.2.1, hk.2.2.2.2.2.1⟩⟩⟩⟩)⟩, ⟨rm HO_449002 (fun _ hk => ⟨hk.2.1, ⟨hk.2.2.1, ⟨hk.2.2.2.1, ⟨hk.2.2.2.2.1, hk.2.2.2.2.2.1⟩⟩⟩⟩)⟩, ⟨bK BK397⟩, ⟨bK BK423⟩, ⟨bK BK435⟩, ⟨bK BK448⟩, ⟨bG⟩⟩
   case rest =>
    clear HC96
    obtain ⟨kq, x101_95, rfl, HA, HJ95, HO_424000, HO_424002, HO_436000, HO_436002, HO_449000, HO_449002, BK397, BK423, BK435, BK448, HB⟩ := hcut
    have hl436000_95 := (Kd.R_reads' HO_436000.out).1
    rw [hl436000_95] at HO_436000
    (try simp only [hl436000_95])
    (try simp only [hl436000_95] at BK397)
    (try simp only [hl436000_95] at BK423)
    (try simp only [hl436000_95] at BK435)
    (try simp only [hl436000_95] at BK448)
    (try simp only [hl436000_95] at HO_424000)
    (try simp only [hl436000_95] at HO_424002)
    (try simp only [hl436000_95] at HO_436002)
    (try simp only [hl436000_95] at HO_449000)
    (try simp only [hl436000_95] at HO_449002)
    have hl436002_95 := (Kd.R_reads' HO_436002.out).1
    rw [hl436002_95] at HO_436002
    (try simp only [hl436002_95])
    (try simp only [hl436002_95] at BK397)
    (try simp only [hl436002_95] at BK423)
    (try simp only [hl436002_95] at BK435)
    (try simp only [hl436002_95] at BK448)
    (try simp only [hl436002_95] at HO_424000)
    (try simp only [hl436002_95] at HO_424002)
    (try simp only [hl436002_95] at HO_436000)
    (try simp only [hl436002_95] at HO_449000)
    (try simp only [hl436002_95] at HO_449002)
    cases kq with
    | zero => exact absurd HA.out (by simp [laws_FnExactAskStage.j1])
    | succ kj95 =>
     have H := HA.out
     clear HA
     simp only [laws_FnExactAskStage.j1] at H
     have c133 := ifN' H
     replace H := ifT' H
     replace c133 := Bool.eq_false_iff.mpr c133
     subst c133
     obtain ⟨⟨t475, t476, t477⟩, A134, H⟩ := bindE H
     try dsimp only at H
     obtain ⟨t478, A135, H⟩ := bindE H
     try dsimp only at H
     have c136 : ¬ (t478 < 0) := ifN' H
     replace H := ifT' H
     have c136b0 := decide_eq_false c136
     clear c136
     have c137 : t478 = t475 := ifN H
     replace H := ifT H
     have c137b0 : (t478 == t475) = true := beq_iff_eq.mpr c137
     have c137b1 : (t478 != t475) = false := bne_eq_false_iff_eq.mpr c137
     clear c137
     obtain ⟨t479, A138, H⟩ := bindE H
     try dsimp only at H
     obtain ⟨⟨t482, t485, t486, t489⟩, A139, H⟩ := bindE H
     try dsimp only at H
     obtain ⟨t490, A140, H⟩ := bindE H
     try dsimp only at H
     obtain ⟨⟨t493, t496, t497, t500, t501⟩, A141, H⟩ := bindE H
     try dsimp only at H
     have HC142 := Aside0.mk H
     clear H
     have hnb143 := NB448_397.out
     have hnc143 := NB397_448.out
     have hnb144 := NB448_423.out
     have hnc144 := NB423_448.out
     have hnb145 := NB448_435.out
     have hnc145 := NB435_448.out
     obtain ⟨_, _, _, _, _, _, _, _⟩ := blkc4 BK448
     try go_wp2_with (first | ((with_reducible refine gate_callee (f := 44) rfl ?_); refine gL (some 104) Try.func44 #[.agg #[.slice Ao59 t439.length co59, .int .i64 t442, .slice Ao64 t443.length co64, .int .i64 t446], .int .i64 1] ?_; (with_reducible refine (laws_markControl.calls kj95 (fun k_ => some k_ = (.slice Ao59 t439.length co59 : Value).ownBlock) (.slice Ao59 t439.length co59) t439 t442 (fun k_ => some k_ = (.slice Ao64 t443.length co64 : Value).ownBlock) (.slice Ao64 t443.length co64) t443 t446 1 t475 t476 t477 w _ ?_ ?_ ?_ ?_ ?_ A134.out).mono ?_); (focus repeat (first | (with_reducible first | exact HB.out | apply below_alloc | apply pw_below_drewN | apply below_drew1 | refine below_set ?_ GE397.out | refine below_set ?_ GE423.out | refine below_set ?_ GE435.out | refine below_set ?_ GE448.out) | exact HB.out)); exact Kd.R_tight rfl HO_449000.out; exact fun k_ e_ => (HO_449000.out.1 k_ e_.symm).2.2.2.2; exact Kd.R_tight rfl HO_449002.out; exact fun k_ e_ => (HO_449002.out.1 k_ e_.symm).2.2.2.2; rintro e w147 ⟨rfl, hy0, hy1, hb, hkp⟩; refine ⟨_, rfl, ?_⟩; replace HO_424000 := Aside0.mk (Kd.R_kept HO_424000.out hkp (fun k_ hk_ hs_ => Or.elim hs_ (fun e_ => (hk_.2.2.2.1) e_) (fun e_ => (hk_.2.2.2.2) e_))); replace HO_424002 := Aside0.mk (Kd.R_kept HO_424002.out hkp (fun k_ hk_ hs_ => Or.elim hs_ (fun e_ => (hk_.2.2.2.1) e_) (fun e_ => (hk_.2.2.2.2) e_))); replace HO_436000 := Aside0.mk (Kd.R_kept HO_436000.out hkp (fun k_ hk_ hs_ => Or.elim hs_ (fun e_ => (hk_.2.2.2.1) e_) (fun e_ => (hk_.2.2.2.2) e_))); replace HO_436002 := Aside0.mk (Kd.R_kept HO_436002.out hkp (fun k_ hk_ hs_ => Or.elim hs_ (fun e_ => (hk_.2.2.2.1) e_) (fun e_ => (hk_.2.2.2.2) e_))); replace BK397 := kk BK397 hkp (fun hs_ => Or.elim hs_ (fun e_ => (fun e_ => (Kd.R_ne HO_449000.out BK397.out (by decide)) e_) e_) (fun e_ => (fun e_ => (Kd.R_ne HO_449002.out BK397.out (by decide)) e_) e_)); replace BK423 := kk BK423 hkp (fun hs_ => Or.elim hs_ (fun e_ => (fun e_ => (Kd.R_ne HO_449000.out BK423.out (by decide)) e_) e_) (fun e_ => (fun e_ => (Kd.R_ne HO_449002.out BK423.out (by decide)) e_) e_)); replace BK435 := kk BK435 hkp (fun hs_ => Or.elim hs_ (fun e_ => (fun e_ => (Kd.R_ne HO_449000.out BK435.out (by decide)) e_) e_) (fun e_ => (fun e_ => (Kd.R_ne HO_449002.out BK435.out (by decide)) e_) e_)); replace BK448 := kk BK448 hkp (fun hs_ => Or.elim hs_ (fun e_ => (fun e_ => (Kd.R_ne HO_449000.out BK448.out (by decide)) e_) e_) (fun e_ => (fun e_ => (Kd.R_ne HO_449002.out BK448.out (by decide)) e_) e_)); replace HO_449000 := Aside0.mk (Kd.R_reok rfl hy0 (fun k_ e_ => HO_449000.out.1 k_ e_)); replace HO_449002 := Aside0.mk (Kd.R_reok rfl hy1 (fun k_ e_ => HO_449002.out.1 k_ e_)); replace HB := Aside0.mk (hb); (try clear hb); (try clear hkp); (try clear hy0); (try clear hy1); have hcz148_0 : w147.cell? ⟨gb448, 0, none⟩ = some (.slice Ao59 t439.length co59) := bC BK448 0; have hcz148_1 : w147.cell? ⟨gb448, 1, none⟩ = some (.int .i64 t442) := bC BK448 1; have hcz148_2 : w147.cell? ⟨gb448, 2, none⟩ = some (.slice Ao64 t443.length co64) := bC BK448 2; have hcz148_3 : w147.cell? ⟨gb448, 3, none⟩ = some (.int .i64 t446) := bC BK448 3; have hfz148_0 := blk_frozen BK448.out 0; have hfz148_1 := blk_frozen BK448.out 1; have hfz148_2 := blk_frozen BK448.out 2; have hfz148_3 := blk_frozen BK448.out 3) | ((with_reducible refine gate_callee (f := 45) rfl ?_); refine goesL_ (some 107) rfl rfl Try.func45 (by kernel_rfl) rfl #[.agg #[.slice Ao59 t476.length co59, .int .i64 t442, .slice Ao64 t477.length co64, .int .i64 t446], .int .i64 1] rfl (by (try simp only [List.map_toArray, List.map_cons, List.map_nil]); first | done | (rw [show t476.length = t439.length from (Kd.R_reads' HO_449000.out).1.symm, show t477.length = t443.length from (Kd.R_reads' HO_449002.out).1.symm] <;> rfl) | rfl | (simp only [List.length_drop, List.length_take]; rfl)) ?_; (with_reducible refine (laws_heldControl.calls kj95 _ _ t476 t442 _ _ t477 t446 1 t478 _ ?_ ?_ ?_ ?_ A135.out).mono ?_); exact cO ⟨(Kd.R_reads' HO_449000.out).2.2⟩; (focus rw [show t476.length = t439.length from (Kd.R_reads' HO_449000.out).1.symm]; exact (Kd.R_reads' HO_449000.out).2.1); exact cO ⟨(Kd.R_reads' HO_449002.out).2.2⟩; (focus rw [show t477.length = t443.length from (Kd.R_reads' HO_449002.out).1.symm]; exact (Kd.R_reads' HO_449002.out).2.1); rintro e w149 ⟨rfl, hb⟩; refine ⟨_, rfl, ?_⟩; replace HO_424000 := rb HO_424000 hb; replace HO_424002 := rb HO_424002 hb; replace HO_436000 := rb HO_436000 hb; replace HO_436002 := rb HO_436002 hb; replace HO_449000 := rb HO_449000 hb; replace HO_449002 := rb HO_449002 hb; replace BK397 := kb BK397 hb; replace BK423 := kb BK423 hb; replace BK435 := kb BK435 hb; replace BK448 := kb BK448 hb; replace HB := bs HB hb; (try clear hb)))
     replace HO_424000 := dr HO_424000
     replace HO_424002 := dr HO_424002
     replace HO_436000 := dr HO_436000
     replace HO_436002 := dr HO_436002
     replace HO_449000 := dr HO_449000
     replace HO_449002 := dr HO_449002
     replace BK397 := dk BK397
     replace BK423 := dk BK423
     replace BK435 := dk BK435
     replace BK448 := dk BK448
     have HBo := HB
     replace HB := db HB
     refine start_ (n := 13) (S := fun w' => w'.cell? ⟨gb397, 0, none⟩ = some (.slice A1_0 l1_0.length c1_0) ∧ w'.cell? ⟨gb397, 1, none⟩ = some (.int .i64 a1_1) ∧ w'.cell? ⟨gb397, 2, none⟩ = some (.slice A1_2 l1_2.length c1_2) ∧ w'.cell? ⟨gb397, 3, none⟩ = some (.int .i64 a1_3)) (ds := []) (mb 13 0) (by kernel_rfl) rfl rfl (cn4 BK397) (fun hHeld => ?_); refine with_tabW laws_FnExactAskStage.tab37 laws_FnExactAskStage.bits37 (fun HT_ HW_ => ?_)
     generalize w149.drew = w150 at HO_424000 HO_424002 HO_436000 HO_436002 HO_449000 HO_449002 BK397 BK423 BK435 BK448 HB hHeld ⊢
     refine pa 0 114 (mb 13 1) HT_ ?_
     refine pa 4 118 (mb 13 17) HT_ ?_
     refine ta4 2 116 (mb 13 21) HT_ HW_ hHeld ?_
     refine join_ (σ := Value × Value × Value × Value × Value × Value × Nat) 2 (mb 13 2047) (fun s_ => [(115, s_.1), (117, .agg #[s_.2.1, .int .i64 t485, s_.2.2.1, .int .i64 t489]), (119, s_.2.2.2.1), (120, .tuple #[.agg #[s_.2.2.2.2.1, .int .i64 t496, s_.2.2.2.2.2.1, .int .i64 t500], .bool t501]), (18, .pointer (some ⟨s_.2.2.2.2.2.2, 0, none⟩)), (113, .tuple #[.agg #[s_.2.2.2.2.1, .int .i64 t496, s_.2.2.2.2.2.1, .int .i64 t500], .bool t501]), (121, .agg #[s_.2.2.2.2.1, .int .i64 t496, s_.2.2.2.2.2.1, .int .i64 t500]), (122, .bool t501)]) (fun s_ w' => (w'.cell? ⟨gb397, 0, none⟩ = some (.slice A1_0 l1_0.length c1_0) ∧ w'.cell? ⟨gb397, 1, none⟩ = some (.int .i64 a1_1) ∧ w'.cell? ⟨gb397, 2, none⟩ = some (.slice A1_2 l1_2.length c1_2) ∧ w'.cell? ⟨gb397, 3, none⟩ = some (.int .i64 a1_3)) ∧ (Kd.R k89 89 w' w.heap.size (fun _ => True) s_.1 t479) ∧ (Kd.R (Kd.int .i64) 3 w' w.heap.size (fun k_ => some k_ ≠ (s_.2.2.1 : Value).ownBlock ∧ some k_ ≠ (s_.2.2.2.1 : Value).ownBlock ∧ some k_ ≠ (s_.2.2.2.2.1 : Value).ownBlock ∧ some k_ ≠ (s_.2.2.2.2.2.1 : Value).ownBlock ∧ some k_ ≠ (.slice Ao37 t414.length co37 : Value).ownBlock ∧ some k_ ≠ (.slice Ao40 t418.length co40 : Value).ownBlock ∧ some k_ ≠ (.slice Ao48 t470.length co48 : Value).ownBlock ∧ some k_ ≠ (.slice Ao52 t471.length co52 : Value).ownBlock ∧ some k_ ≠ (.slice Ao59 t439.length co59 : Value).ownBlock ∧ some k_ ≠ (.slice Ao64 t443.length co64 : Value).ownBlock) s_.2.1 t482) ∧ (Kd.R (Kd.int .i64) 3 w' w.heap.size (fun k_ => some k_ ≠ (s_.2.1 : Value).ownBlock ∧ some k_ ≠ (s_.2.2.2.1 : Value).ownBlock ∧ some k_ ≠ (s_.2.2.2.2.1 : Value).ownBlock ∧ some k_ ≠ (s_.2.2.2.2.2.1 : Value).ownBlock ∧ some k_ ≠ (.slice Ao37 t414.length co37 : Value).ownBlock ∧ some k_ ≠ (.slice Ao40 t418.length co40 : Value).ownBlock ∧ some k_ ≠ (.slice Ao48 t470.length co48 : Value).ownBlock ∧ some k_ ≠ (.slice Ao52 t471.length co52 : Value).ownBlock ∧ some k_ ≠ (.slice Ao59 t439.length co59 : Value).ownBlock ∧ some k_ ≠ (.slice Ao64 t443.length co64 : Value).ownBlock) s_.2.2.1 t486) ∧ (Kd.R (Kd.int .i64) 3 w' w.heap.size (fun k_ => some k_ ≠ (s_.2.1 : Value).ownBlock ∧ some k_ ≠ (s_.2.2.1 : Value).ownBlock ∧ some k_ ≠ (s_.2.2.2.2.1 : Value).ownBlock ∧ some k_ ≠ (s_.2.2.2.2.2.1 : Value).ownBlock ∧ some k_ ≠ (.slice Ao37 t414.length co37 : Value).ownBlock ∧ some k_ ≠ (.slice Ao40 t418.length co40 : Value).ownBlock ∧ some k_ ≠ (.slice Ao48 t470.length co48 : Value).ownBlock ∧ some k_ ≠ (.slice Ao52 t471.length co52 : Value).ownBlock ∧ some k_ ≠ (.slice Ao59 t439.length co59 : Value).ownBlock ∧ some k_ ≠ (.slice Ao64 t443.length co64 : Value).ownBlock) s_.2.2.2.1 t490) ∧ (Kd.R (Kd.int .i64) 3 w' w.heap.size (fun k_ => some k_ ≠ (s_.2.1 : Value).ownBlock ∧ some k_ ≠ (s_.2.2.1 : Value).ownBlock ∧ some k_ ≠ (s_.2.2.2.1 : Value).ownBlock ∧ some k_ ≠ (s_.2.2.2.2.2.1 : Value).ownBlock ∧ some k_ ≠ (.slice Ao37 t414.length co37 : Value).ownBlock ∧ some k_ ≠ (.slice Ao40 t418.length co40 : Value).ownBlock ∧ some k_ ≠ (.slice Ao48 t470.length co48 : Value).ownBlock ∧ some k_ ≠ (.slice Ao52 t471.length co52 : Value).ownBlock ∧ some k_ ≠ (.slice Ao59 t439.length co59 : Value).ownBlock ∧ some k_ ≠ (.slice Ao64 t443.length co64 : Value).ownBlock) s_.2.2.2.2.1 t493) ∧ (Kd.R (Kd.int .i64) 3 w' w.heap.size (fun k_ => some k_ ≠ (s_.2.1 : Value).ownBlock ∧ some k_ ≠ (s_.2.2.1 : Value).ownBlock ∧ some k_ ≠ (s_.2.2.2.1 : Value).ownBlock ∧ some k_ ≠ (s_.2.2.2.2.1 : Value).ownBlock ∧ some k_ ≠ (.slice Ao37 t414.length co37 : Value).ownBlock ∧ some k_ ≠ (.slice Ao40 t418.length co40 : Value).ownBlock ∧ some k_ ≠ (.slice Ao48 t470.length co48 : Value).ownBlock ∧ some k_ ≠ (.slice Ao52 t471.length co52 : Value).ownBlock ∧ some k_ ≠ (.slice Ao59 t439.length co59 : Value).ownBlock ∧ some k_ ≠ (.slice Ao64 t443.length co64 : Value).ownBlock) s_.2.2.2.2.2.1 t497) ∧ (Kd.R (Kd.int .i64) 3 w' w.heap.size (fun k_ => some k_ ≠ (s_.2.1 : Value).ownBlock ∧ some k_ ≠ (s_.2.2.1 : Value).ownBlock ∧ some k_ ≠ (s_.2.2.2.1 : Value).ownBlock ∧ some k_ ≠ (s_.2.2.2.2.1 : Value).ownBlock ∧ some k_ ≠ (s_.2.2.2.2.2.1 : Value).ownBlock ∧ some k_ ≠ (.slice Ao40 t418.length co40 : Value).ownBlock ∧ some k_ ≠ (.slice Ao48 t470.length co48 : Value).ownBlock ∧ some k_ ≠ (.slice Ao52 t471.length co52 : Value).ownBlock ∧ some k_ ≠ (.slice Ao59 t439.length co59 : Value).ownBlock ∧ some k_ ≠ (.slice Ao64 t443.length co64 : Value).ownBlock) (.slice Ao37 t414.length co37) t414) ∧ (Kd.R (Kd.int .i64) 3 w' w.heap.size (fun k_ => some k_ ≠ (s_.2.1 : Value).ownBlock ∧ some k_ ≠ (s_.2.2.1 : Value).ownBlock ∧ some k_ ≠ (s_.2.2.2.1 : Value).ownBlock ∧ some k_ ≠ (s_.2.2.2.2.1 : Value).ownBlock ∧ some k_ ≠ (s_.2.2.2.2.2.1 : Value).ownBlock ∧ some k_ ≠ (.slice Ao37 t414.length co37 : Value).ownBlock ∧ some k_ ≠ (.slice Ao48 t470.length co48 : Value).ownBlock ∧ some k_ ≠ (.slice Ao52 t471.length co52 : Value).ownBlock ∧ some k_ ≠ (.slice Ao59 t439.length co59 : Value).ownBlock ∧ some k_ ≠ (.slice Ao64 t443.length co64 : Value).ownBlock) (.slice Ao40 t418.length co40) t418) ∧ (Kd.R (Kd.int .i64) 3 w' w.heap.size (fun k_ => some k_ ≠ (s_.2.1 : Value).ownBlock ∧ some k_ ≠ (s_.2.2.1 : Value).ownBlock ∧ some k_ ≠ (s_.2.2.2.1 : Value).ownBlock ∧ some k_ ≠ (s_.2.2.2.2.1 : Value).ownBlock ∧ some k_ ≠ (s_.2.2.2.2.2.1 : Value).ownBlock ∧ some k_ ≠ (.slice Ao37 t414.length co37 : Value).ownBlock ∧ some k_ ≠ (.slice Ao40 t418.length co40 : Value).ownBlock ∧ some k_ ≠ (.slice Ao52 t471.length co52 : Value).ownBlock ∧ some k_ ≠ (.slice Ao59 t439.length co59 : Value).ownBlock ∧ some k_ ≠ (.slice Ao64 t443.length co64 : Value).ownBlock) (.slice Ao48 t470.length co48) t470) ∧ (Kd.R (Kd.int .i64) 3 w' w.heap.size (fun k_ => some k_ ≠ (s_.2.1 : Value).ownBlock ∧ some k_ ≠ (s_.2.2.1 : Value).ownBlock ∧ some k_ ≠ (s_.2.2.2.1 : Value).ownBlock ∧ some k_ ≠ (s_.2.2.2.2.1 : Value).ownBlock ∧ some k_ ≠ (s_.2.2.2.2.2.1 : Value).ownBlock ∧ some k_ ≠ (.slice Ao37 t414.length co37 : Value).ownBlock ∧ some k_ ≠ (.slice Ao40 t418.length co40 : Value).ownBlock ∧ some k_ ≠ (.slice Ao48 t470.length co48 : Value).ownBlock ∧ some k_ ≠ (.slice Ao59 t439.length co59 : Value).ownBlock ∧ some k_ ≠ (.slice Ao64 t443.length co64 : Value).ownBlock) (.slice Ao52 t471.length co52) t471) ∧ (Kd.R (Kd.int .i64) 3 w' w.heap.size (fun k_ => some k_ ≠ (s_.2.1 : Value).ownBlock ∧ some k_ ≠ (s_.2.2.1 : Value).ownBlock ∧ some k_ ≠ (s_.2.2.2.1 : Value).ownBlock ∧ some k_ ≠ (s_.2.2.2.2.1 : Value).ownBlock ∧ some k_ ≠ (s_.2.2.2.2.2.1 : Value).ownBlock ∧ some k_ ≠ (.slice Ao37 t414.length co37 : Value).ownBlock ∧ some k_ ≠ (.slice Ao40 t418.length co40 : Value).ownBlock ∧ some k_ ≠ (.slice Ao48 t470.length co48 : Value).ownBlock ∧ some k_ ≠ (.slice Ao52 t471.length co52 : Value).ownBlock ∧ some k_ ≠ (.slice Ao64 t443.length co64 : Value).ownBlock) (.slice Ao59 t439.length co59) t476) ∧ (Kd.R (Kd.int .i64) 3 w' w.heap.size (fun k_ => some k_ ≠ (s_.2.1 : Value).ownBlock ∧ some k_ ≠ (s_.2.2.1 : Value).ownBlock ∧ some k_ ≠ (s_.2.2.2.1 : Value).ownBlock ∧ some k_ ≠ (s_.2.2.2.2.1 : Value).ownBlock ∧ some k_ ≠ (s_.2.2.2.2.2.1 : Value).ownBlock ∧ some k_ ≠ (.slice Ao37 t414.length co37 : Value).ownBlock ∧ some k_ ≠ (.slice Ao40 t418.length co40 : Value).ownBlock ∧ some k_ ≠ (.slice Ao48 t470.length co48 : Value).ownBlock ∧ some k_ ≠ (.slice Ao52 t471.length co52 : Value).ownBlock ∧ some k_ ≠ (.slice Ao59 t439.length co59 : Value).ownBlock) (.slice Ao64 t443.length co64) t477) ∧ (w'.heap[gb397]? = some (.cells #[.slice A1_0 l1_0.length c1_0, .int .i64 a1_1, .slice A1_2 l1_2.length c1_2, .int .i64 a1_3] 55 (0, 0))) ∧ (w'.heap[gb423]? = some (.cells #[.slice Ao37 t414.length co37, .int .i64 t417, .slice Ao40 t418.length co40, .int .i64 t421] 57 (0, 0))) ∧ (w'.heap[gb435]? = some (.cells #[.slice Ao48 t470.length co48, .int .i64 t430, .slice Ao52 t471.length co52, .int .i64 t434] 57 (0, 0))) ∧ (w'.heap[gb448]? = some (.cells #[.slice Ao59 t439.length co59, .int .i64 t442, .slice Ao64 t443.length co64, .int .i64 t446] 57 (0, 0))) ∧ (w'.heap[s_.2.2.2.2.2.2]? = some (.cells #[.slice none 0 0, .int .i64 0, .slice none 0 0, .int .i64 0] 57 (0, 0))) ∧ (w.heap.size ≤ s_.2.2.2.2.2.2) ∧ (w.heap.size ≤ s_.2.2.2.2.2.2) ∧ (gb397 ≠ s_.2.2.2.2.2.2) ∧ (s_.2.2.2.2.2.2 ≠ gb397) ∧ (gb423 ≠ s_.2.2.2.2.2.2) ∧ (s_.2.2.2.2.2.2 ≠ gb423) ∧ (gb435 ≠ s_.2.2.2.2.2.2) ∧ (s_.2.2.2.2.2.2 ≠ gb435) ∧ (gb448 ≠ s_.2.2.2.2.2.2) ∧ (s_.2.2.2.2.2.2 ≠ gb448) ∧ (Below w.heap.size w w')) ?_ ?_
     rotate_left
     ·
      intro hJ1_3_5_6_10
      refine join_ (σ := Value × Value × Value × Value × Value × Value) 3 (mb 13 1023) (fun s_ => [(115, s_.1), (117, .agg #[s_.2.1, .int .i64 t485, s_.2.2.1, .int .i64 t489]), (119, s_.2.2.2.1), (120, .tuple #[.agg #[s_.2.2.2.2.1, .int .i64 t496, s_.2.2.2.2.2, .int .i64 t500], .bool t501]), (113, .tuple #[.agg #[s_.2.2.2.2.1, .int .i64 t496, s_.2.2.2.2.2, .int .i64 t500], .bool t501]), (121, .agg #[s_.2.2.2.2.1, .int .i64 t496, s_.2.2.2.2.2, .int .i64 t500]), (122, .bool t501)]) (fun s_ w' => (w'.cell? ⟨gb397, 0, none⟩ = some (.slice A1_0 l1_0.length c1_0) ∧ w'.cell? ⟨gb397, 1, none⟩ = some (.int .i64 a1_1) ∧ w'.cell? ⟨gb397, 2, none⟩ = some (.slice A1_2 l1_2.length c1_2) ∧ w'.cell? ⟨gb397, 3, none⟩ = some (.int .i64 a1_3)) ∧ (Kd.R k89 89 w' w.heap.size (fun _ => True) s_.1 t479) ∧ (Kd.R (Kd.int .i64) 3 w' w.heap.size (fun k_ => some k_ ≠ (s_.2.2.1 : Value).ownBlock ∧ some k_ ≠ (s_.2.2.2.1 : Value).ownBlock ∧ some k_ ≠ (s_.2.2.2.2.1 : Value).ownBlock ∧ some k_ ≠ (s_.2.2.2.2.2 : Value).ownBlock ∧ some k_ ≠ (.slice Ao37 t414.length co37 : Value).ownBlock ∧ some k_ ≠ (.slice Ao40 t418.length co40 : Value).ownBlock ∧ some k_ ≠ (.slice Ao48 t470.length co48 : Value).ownBlock ∧ some k_ ≠ (.slice Ao52 t471.length co52 : Value).ownBlock ∧ some k_ ≠ (.slice Ao59 t439.length co59 : Value).ownBlock ∧ some k_ ≠ (.slice Ao64 t443.length co64 : Value).ownBlock) s_.2.1 t482) ∧ (Kd.R (Kd.int .i64) 3 w' w.heap.size (fun k_ => some k_ ≠ (s_.2.1 : Value).ownBlock ∧ some k_ ≠ (s_.2.2.2.1 : Value).ownBlock ∧ some k_ ≠ (s_.2.2.2.2.1 : Value).ownBlock ∧ some k_ ≠ (s_.2.2.2.2.2 : Value).ownBlock ∧ some k_ ≠ (.slice Ao37 t414.length co37 : Value).ownBlock ∧ some k_ ≠ (.slice Ao40 t418.length co40 : Value).ownBlock ∧ some k_ ≠ (.slice Ao48 t470.length co48 : Value).ownBlock ∧ some k_ ≠ (.slice Ao52 t471.length co52 : Value).ownBlock ∧ some k_ ≠ (.slice Ao59 t439.length co59 : Value).ownBlock ∧ some k_ ≠ (.slice Ao64 t443.length co64 : Value).ownBlock) s_.2.2.1 t486) ∧ (Kd.R (Kd.int .i64) 3 w' w.heap.size (fun k_ => some k_ ≠ (s_.2.1 : Value).ownBlock ∧ some k_ ≠ (s_.2.2.1 : Value).ownBlock ∧ some k_ ≠ (s_.2.2.2.2.1 : Value).ownBlock ∧ some k_ ≠ (s_.2.2.2.2.2 : Value).ownBlock ∧ some k_ ≠ (.slice Ao37 t414.length co37 : Value).ownBlock ∧ some k_ ≠ (.slice Ao40 t418.length co40 : Value).ownBlock ∧ some k_ ≠ (.slice Ao48 t470.length co48 : Value).ownBlock ∧ some k_ ≠ (.slice Ao52 t471.length co52 : Value).ownBlock ∧ some k_ ≠ (.slice Ao59 t439.length co59 : Value).ownBlock ∧ some k_ ≠ (.slice Ao64 t443.length co64 : Value).ownBlock) s_.2.2.2.1 t490) ∧ (Kd.R (Kd.int .i64) 3 w' w.heap.size (fun k_ => some k_ ≠ (s_.2.1 : Value).ownBlock ∧ some k_ ≠ (s_.2.2.1 : Value).ownBlock ∧ some k_ ≠ (s_.2.2.2.1 : Value).ownBlock ∧ some k_ ≠ (s_.2.2.2.2.2 : Value).ownBlock ∧ some k_ ≠ (.slice Ao37 t414.length co37 : Value).ownBlock ∧ some k_ ≠ (.slice Ao40 t418.length co40 : Value).ownBlock ∧ some k_ ≠ (.slice Ao48 t470.length co48 : Value).ownBlock ∧ some k_ ≠ (.slice Ao52 t471.length co52 : Value).ownBlock ∧ some k_ ≠ (.slice Ao59 t439.length co59 : Value).ownBlock ∧ some k_ ≠ (.slice Ao64 t443.length co64 : Value).ownBlock) s_.2.2.2.2.1 t493) ∧ (Kd.R (Kd.int .i64) 3 w' w.heap.size (fun k_ => some k_ ≠ (s_.2.1 : Value).ownBlock ∧ some k_ ≠ (s_.2.2.1 : Value).ownBlock ∧ some k_ ≠ (s_.2.2.2.1 : Value).ownBlock ∧ some k_ ≠ (s_.2.2.2.2.1 : Value).ownBlock ∧ some k_ ≠ (.slice Ao37 t414.length co37 : Value).ownBlock ∧ some k_ ≠ (.slice Ao40 t418.length co40 : Value).ownBlock ∧ some k_ ≠ (.slice Ao48 t470.length co48 : Value).ownBlock ∧ some k_ ≠ (.slice Ao52 t471.length co52 : Value).ownBlock ∧ some k_ ≠ (.slice Ao59 t439.length co59 : Value).ownBlock ∧ some k_ ≠ (.slice Ao64 t443.length co64 : Value).ownBlock) s_.2.2.2.2.2 t497) ∧ (Kd.R (Kd.int .i64) 3 w' w.heap.size (fun k_ => some k_ ≠ (s_.2.1 : Value).ownBlock ∧ some k_ ≠ (s_.2.2.1 : Value).ownBlock ∧ some k_ ≠ (s_.2.2.2.1 : Value).ownBlock ∧ some k_ ≠ (s_.2.2.2.2.1 : Value).ownBlock ∧ some k_ ≠ (s_.2.2.2.2.2 : Value).ownBlock ∧ some k_ ≠ (.slice Ao40 t418.length co40 : Value).ownBlock ∧ some k_ ≠ (.slice Ao48 t470.length co48 : Value).ownBlock ∧ some k_ ≠ (.slice Ao52 t471.length co52 : Value).ownBlock ∧ some k_ ≠ (.slice Ao59 t439.length co59 : Value).ownBlock ∧ some k_ ≠ (.slice Ao64 t443.length co64 : Value).ownBlock) (.slice Ao37 t414.length co37) t414) ∧ (Kd.R (Kd.int .i64) 3 w' w.heap.size (fun k_ => some k_ ≠ (s_.2.1 : Value).ownBlock ∧ some k_ ≠ (s_.2.2.1 : Value).ownBlock ∧ some k_ ≠ (s_.2.2.2.1 : Value).ownBlock ∧ some k_ ≠ (s_.2.2.2.2.1 : Value).ownBlock ∧ some k_ ≠ (s_.2.2.2.2.2 : Value).ownBlock ∧ some k_ ≠ (.slice Ao37 t414.length co37 : Value).ownBlock ∧ some k_ ≠ (.slice Ao48 t470.length co48 : Value).ownBlock ∧ some k_ ≠ (.slice Ao52 t471.length co52 : Value).ownBlock ∧ some k_ ≠ (.slice Ao59 t439.length co59 : Value).ownBlock ∧ some k_ ≠ (.slice Ao64 t443.length co64 : Value).ownBlock) (.slice Ao40 t418.length co40) t418) ∧ (Kd.R (Kd.int .i64) 3 w' w.heap.size (fun k_ => some k_ ≠ (s_.2.1 : Value).ownBlock ∧ some k_ ≠ (s_.2.2.1 : Value).ownBlock ∧ some k_ ≠ (s_.2.2.2.1 : Value).ownBlock ∧ some k_ ≠ (s_.2.2.2.2.1 : Value).ownBlock ∧ some k_ ≠ (s_.2.2.2.2.2 : Value).ownBlock ∧ some k_ ≠ (.slice Ao37 t414.length co37 : Value).ownBlock ∧ some k_ ≠ (.slice Ao40 t418.length co40 : Value).ownBlock ∧ some k_ ≠ (.slice Ao52 t471.length co52 : Value).ownBlock ∧ some k_ ≠ (.slice Ao59 t439.length co59 : Value).ownBlock ∧ some k_ ≠ (.slice Ao64 t443.length co64 : Value).ownBlock) (.slice Ao48 t470.length co48) t470) ∧ (Kd.R (Kd.int .i64) 3 w' w.heap.size (fun k_ => some k_ ≠ (s_.2.1 : Value).ownBlock ∧ some k_ ≠ (s_.2.2.1 : Value).ownBlock ∧ some k_ ≠ (s_.2.2.2.1 : Value).ownBlock ∧ some k_ ≠ (s_.2.2.2.2.1 : Value).ownBlock ∧ some k_ ≠ (s_.2.2.2.2.2 : Value).ownBlock ∧ some k_ ≠ (.slice Ao37 t414.length co37 : Value).ownBlock ∧ some k_ ≠ (.slice Ao40 t418.length co40 : Value).ownBlock ∧ some k_ ≠ (.slice Ao48 t470.length co48 : Value).ownBlock ∧ some k_ ≠ (.slice Ao59 t439.length co59 : Value).ownBlock ∧ some k_ ≠ (.slice Ao64 t443.length co64 : Value).ownBlock) (.slice Ao52 t471.length co52) t471) ∧ (Kd.R (Kd.int .i64) 3 w' w.heap.size (fun k_ => some k_ ≠ (s_.2.1 : Value).ownBlock ∧ some k_ ≠ (s_.2.2.1 : Value).ownBlock ∧ some k_ ≠ (s_.2.2.2.1 : Value).ownBlock ∧ some k_ ≠ (s_.2.2.2.2.1 : Value).ownBlock ∧ some k_ ≠ (s_.2.2.2.2.2 : Value).ownBlock ∧ some k_ ≠ (.slice Ao37 t414.length co37 : Value).ownBlock ∧ some k_ ≠ (.slice Ao40 t418.length co40 : Value).ownBlock ∧ some k_ ≠ (.slice Ao48 t470.length co48 : Value).ownBlock ∧ some k_ ≠ (.slice Ao52 t471.length co52 : Value).ownBlock ∧ some k_ ≠ (.slice Ao64 t443.length co64 : Value).ownBlock) (.slice Ao59 t439.length co59) t476) ∧ (Kd.R (Kd.int .i64) 3 w' w.heap.size (fun k_ => some k_ ≠ (s_.2.1 : Value).ownBlock ∧ some k_ ≠ (s_.2.2.1 : Value).ownBlock ∧ some k_ ≠ (s_.2.2.2.1 : Value).ownBlock ∧ some k_ ≠ (s_.2.2.2.2.1 : Value).ownBlock ∧ some k_ ≠ (s_.2.2.2.2.2 : Value).ownBlock ∧ some k_ ≠ (.slice Ao37 t414.length co37 : Value).ownBlock ∧ some k_ ≠ (.slice Ao40 t418.length co40 : Value).ownBlock ∧ some k_ ≠ (.slice Ao48 t470.length co48 : Value).ownBlock ∧ some k_ ≠ (.slice Ao52 t471.length co52 : Value).ownBlock ∧ some k_ ≠ (.slice Ao59 t439.length co59 : Value).ownBlock) (.slice Ao64 t443.length co64) t477) ∧ (w'.heap[gb397]? = some (.cells #[.slice A1_0 l1_0.length c1_0, .int .i64 a1_1, .slice A1_2 l1_2.length c1_2, .int .i64 a1_3] 55 (0, 0))) ∧ (w'.heap[gb423]? = some (.cells #[.slice Ao37 t414.length co37, .int .i64 t417, .slice Ao40 t418.length co40, .int .i64 t421] 57 (0, 0))) ∧ (w'.heap[gb435]? = some (.cells #[.slice Ao48 t470.length co48, .int .i64 t430, .slice Ao52 t471.length co52, .int .i64 t434] 57 (0, 0))) ∧ (w'.heap[gb448]? = some (.cells #[.slice Ao59 t439.length co59, .int .i64 t442, .slice Ao64 t443.length co64, .int .i64 t446] 57 (0, 0))) ∧ (Below w.heap.size w w')) ?_ ?_
      rotate_left
      ·
       intro hJ1_3_5_6
       refine join_ (σ := Value × Value × Value × Value × Nat) 6 (mb 13 1087) (fun s_ => [(115, s_.1), (117, .agg #[s_.2.1, .int .i64 t485, s_.2.2.1, .int .i64 t489]), (119, s_.2.2.2.1), (18, .pointer (some ⟨s_.2.2.2.2, 0, none⟩))]) (fun s_ w' => (w'.cell? ⟨gb397, 0, none⟩ = some (.slice A1_0 l1_0.length c1_0) ∧ w'.cell? ⟨gb397, 1, none⟩ = some (.int .i64 a1_1) ∧ w'.cell? ⟨gb397, 2, none⟩ = some (.slice A1_2 l1_2.length c1_2) ∧ w'.cell? ⟨gb397, 3, none⟩ = some (.int .i64 a1_3)) ∧ (Kd.R k89 89 w' w.heap.size (fun _ => True) s_.1 t479) ∧ (Kd.R (Kd.int .i64) 3 w' w.heap.size (n8 s_.2.2.1 s_.2.2.2.1 (.slice Ao37 t414.length co37) (.slice Ao40 t418.length co40) (.slice Ao48 t470.length co48) (.slice Ao52 t471.length co52) (.slice Ao59 t439.length co59) (.slice Ao64 t443.length co64)) s_.2.1 t482) ∧ (Kd.R (Kd.int .i64) 3 w' w.heap.size (n8 s_.2.1 s_.2.2.2.1 (.slice Ao37 t414.length co37) (.slice Ao40 t418.length co40) (.slice Ao48 t470.length co48) (.slice Ao52 t471.length co52) (.slice Ao59 t439.length co59) (.slice Ao64 t443.length co64)) s_.2.2.1 t486) ∧ (Kd.R (Kd.int .i64) 3 w' w.heap.size (n8 s_.2.1 s_.2.2.1 (.slice Ao37 t414.length co37) (.slice Ao40 t418.length co40) (.slice Ao48 t470.length co48) (.slice Ao52 t471.length co52) (.slice Ao59 t439.length co59) (.slice Ao64 t443.length co64)) s_.2.2.2.1 t490) ∧ (Kd.R (Kd.int .i64) 3 w' w.heap.size (n8 s_.2.1 s_.2.2.1 s_.2.2.2.1 (.slice Ao40 t418.length co40) (.slice Ao48 t470.length co48) (.slice Ao52 t471.length co52) (.slice Ao59 t439.length co59) (.slice Ao64 t443.length co64)) (.slice Ao37 t414.length co37) t414) ∧ (Kd.R (Kd.int .i64) 3 w' w.heap.size (n8 s_.2.1 s_.2.2.1 s_.2.2.2.1 (.slice Ao37 t414.length co37) (.slice Ao48 t470.length co48) (.slice Ao52 t471.length co52) (.slice Ao59 t439.length co59) (.slice Ao64 t443.length co64)) (.slice Ao40 t418.length co40) t418) ∧ (Kd.R (Kd.int .i64) 3 w' w.heap.size (n8 s_.2.1 s_.2.2.1 s_.2.2.2.1 (.slice Ao37 t414.length co37) (.slice Ao40 t418.length co40) (.slice Ao52 t471.length co52) (.slice Ao59 t439.length co59) (.slice Ao64 t443.length co64)) (.slice Ao48 t470.length co48) t470) ∧ (Kd.R (Kd.int .i64) 3 w' w.heap.size (n8 s_.2.1 s_.2.2.1 s_.2.2.2.1 (.slice Ao37 t414.length co37) (.slice Ao40 t418.length co40) (.slice Ao48 t470.length co48) (.slice Ao59 t439.length co59) (.slice Ao64 t443.length co64)) (.slice Ao52 t471.length co52) t471) ∧ (Kd.R (Kd.int .i64) 3 w' w.heap.size (n8 s_.2.1 s_.2.2.1 s_.2.2.2.1 (.slice Ao37 t414.length co37) (.slice Ao40 t418.length co40) (.slice Ao48 t470.length co48) (.slice Ao52 t471.length co52) (.slice Ao64 t443.length co64)) (.slice Ao59 t439.length co59) t476) ∧ (Kd.R (Kd.int .i64) 3 w' w.heap.size (n8 s_.2.1 s_.2.2.1 s_.2.2.2.1 (.slice Ao37 t414.length co37) (.slice Ao40 t418.length co40) (.slice Ao48 t470.length co48) (.slice Ao52 t471.length co52) (.slice Ao59 t439.length co59)) (.slice Ao64 t443.length co64) t477) ∧ (w'.heap[gb397]? = some (.cells #[.slice A1_0 l1_0.length c1_0, .int .i64 a1_1, .slice A1_2 l1_2.length c1_2, .int .i64 a1_3] 55 (0, 0))) ∧ (w'.heap[gb423]? = some (.cells #[.slice Ao37 t414.length co37, .int .i64 t417, .slice Ao40 t418.length co40, .int .i64 t421] 57 (0, 0))) ∧ (w'.heap[gb435]? = some (.cells #[.slice Ao48 t470.length co48, .int .i64 t430, .slice Ao52 t471.length co52, .int .i64 t434] 57 (0, 0))) ∧ (w'.heap[gb448]? = some (.cells #[.slice Ao59 t439.length co59, .int .i64 t442, .slice Ao64 t443.length co64, .int .i64 t446] 57 (0, 0))) ∧ (w'.heap[s_.2.2.2.2]? = some (.cells #[.slice none 0 0, .int .i64 0, .slice none 0 0, .int .i64 0] 57 (0, 0))) ∧ (w.heap.size ≤ s_.2.2.2.2) ∧ (w.heap.size ≤ s_.2.2.2.2) ∧ (gb397 ≠ s_.2.2.2.2) ∧ (s_.2.2.2.2 ≠ gb397) ∧ (gb423 ≠ s_.2.2.2.2) ∧ (s_.2.2.2.2 ≠ gb423) ∧ (gb435 ≠ s_.2.2.2.2) ∧ (s_.2.2.2.2 ≠ gb435) ∧ (gb448 ≠ s_.2.2.2.2) ∧ (s_.2.2.2.2 ≠ gb448) ∧ (Below w.heap.size w w')) ?_ ?_
       rotate_left
       ·
        intro hJ1_3_5_10
        refine join_ (σ := Value × Value × Value × Value) 7 (mb 13 63) (fun s_ => [(115, s_.1), (117, .agg #[s_.2.1, .int .i64 t485, s_.2.2.1, .int .i64 t489]), (119, s_.2.2.2)]) (fun s_ w' => (w'.cell? ⟨gb397, 0, none⟩ = some (.slice A1_0 l1_0.length c1_0) ∧ w'.cell? ⟨gb397, 1, none⟩ = some (.int .i64 a1_1) ∧ w'.cell? ⟨gb397, 2, none⟩ = some (.slice A1_2 l1_2.length c1_2) ∧ w'.cell? ⟨gb397, 3, none⟩ = some (.int .i64 a1_3)) ∧ (Kd.R k89 89 w' w.heap.size (fun _ => True) s_.1 t479) ∧ (Kd.R (Kd.int .i64) 3 w' w.heap.size (n8 s_.2.2.1 s_.2.2.2 (.slice Ao37 t414.length co37) (.slice Ao40 t418.length co40) (.slice Ao48 t470.length co48) (.slice Ao52 t471.length co52) (.slice Ao59 t439.length co59) (.slice Ao64 t443.length co64)) s_.2.1 t482) ∧ (Kd.R (Kd.int .i64) 3 w' w.heap.size (n8 s_.2.1 s_.2.2.2 (.slice Ao37 t414.length co37) (.slice Ao40 t418.length co40) (.slice Ao48 t470.length co48) (.slice Ao52 t471.length co52) (.slice Ao59 t439.length co59) (.slice Ao64 t443.length co64)) s_.2.2.1 t486) ∧ (Kd.R (Kd.int .i64) 3 w' w.heap.size (n8 s_.2.1 s_.2.2.1 (.slice Ao37 t414.length co37) (.slice Ao40 t418.length co40) (.slice Ao48 t470.length co48) (.slice Ao52 t471.length co52) (.slice Ao59 t439.length co59) (.slice Ao64 t443.length co64)) s_.2.2.2 t490) ∧ (Kd.R (Kd.int .i64) 3 w' w.heap.size (n8 s_.2.1 s_.2.2.1 s_.2.2.2 (.slice Ao40 t418.length co40) (.slice Ao48 t470.length co48) (.slice Ao52 t471.length co52) (.slice Ao59 t439.length co59) (.slice Ao64 t443.length co64)) (.slice Ao37 t414.length co37) t414) ∧ (Kd.R (Kd.int .i64) 3 w' w.heap.size (n8 s_.2.1 s_.2.2.1 s_.2.2.2 (.slice Ao37 t414.length co37) (.slice Ao48 t470.length co48) (.slice Ao52 t471.length co52) (.slice Ao59 t439.length co59) (.slice Ao64 t443.length co64)) (.slice Ao40 t418.length co40) t418) ∧ (Kd.R (Kd.int .i64) 3 w' w.heap.size (n8 s_.2.1 s_.2.2.1 s_.2.2.2 (.slice Ao37 t414.length co37) (.slice Ao40 t418.length co40) (.slice Ao52 t471.length co52) (.slice Ao59 t439.length co59) (.slice Ao64 t443.length co64)) (.slice Ao48 t470.length co48) t470) ∧ (Kd.R (Kd.int .i64) 3 w' w.heap.size (n8 s_.2.1 s_.2.2.1 s_.2.2.2 (.slice Ao37 t414.length co37) (.slice Ao40 t418.length co40) (.slice Ao48 t470.length co48) (.slice Ao59 t439.length co59) (.slice Ao64 t443.length co64)) (.slice Ao52 t471.length co52) t471) ∧ (Kd.R (Kd.int .i64) 3 w' w.heap.size (n8 s_.2.1 s_.2.2.1 s_.2.2.2 (.slice Ao37 t414.length co37) (.slice Ao40 t418.length co40) (.slice Ao48 t470.length co48) (.slice Ao52 t471.length co52) (.slice Ao64 t443.length co64)) (.slice Ao59 t439.length co59) t476) ∧ (Kd.R (Kd.int .i64) 3 w' w.heap.size (n8 s_.2.1 s_.2.2.1 s_.2.2.2 (.slice Ao37 t414.length co37) (.slice Ao40 t418.length co40) (.slice Ao48 t470.length co48) (.slice Ao52 t471.length co52) (.slice Ao59 t439.length co59)) (.slice Ao64 t443.length co64) t477) ∧ (w'.heap[gb397]? = some (.cells #[.slice A1_0 l1_0.length c1_0, .int .i64 a1_1, .slice A1_2 l1_2.length c1_2, .int .i64 a1_3] 55 (0, 0))) ∧ (w'.heap[gb423]? = some (.cells #[.slice Ao37 t414.length co37, .int .i64 t417, .slice Ao40 t418.length co40, .int .i64 t421] 57 (0, 0))) ∧ (w'.heap[gb435]? = some (.cells #[.slice Ao48 t470.length co48, .int .i64 t430, .slice Ao52 t471.length co52, .int .i64 t434] 57 (0, 0))) ∧ (w'.heap[gb448]? = some (.cells #[.slice Ao59 t439.length co59, .int .i64 t442, .slice Ao64 t443.length co64, .int .i64 t446] 57 (0, 0))) ∧ (Below w.heap.size w w')) ?_ ?_
        rotate_left
        ·
         intro hJ1_3_5
         refine join_ (σ := Value × Value × Value × Nat) 7 (mb 13 1055) (fun s_ => [(115, s_.1), (117, .agg #[s_.2.1, .int .i64 t485, s_.2.2.1, .int .i64 t489]), (18, .pointer (some ⟨s_.2.2.2, 0, none⟩))]) (fun s_ w' => (w'.cell? ⟨gb397, 0, none⟩ = some (.slice A1_0 l1_0.length c1_0) ∧ w'.cell? ⟨gb397, 1, none⟩ = some (.int .i64 a1_1) ∧ w'.cell? ⟨gb397, 2, none⟩ = some (.slice A1_2 l1_2.length c1_2) ∧ w'.cell? ⟨gb397, 3, none⟩ = some (.int .i64 a1_3)) ∧ (Kd.R k89 89 w' w.heap.size (fun _ => True) s_.1 t479) ∧ (Kd.R (Kd.int .i64) 3 w' w.heap.size (n7 s_.2.2.1 (.slice Ao37 t414.length co37) (.slice Ao40 t418.length co40) (.slice Ao48 t470.length co48) (.slice Ao52 t471.length co52) (.slice Ao59 t439.length co59) (.slice Ao64 t443.length co64)) s_.2.1 t482) ∧ (Kd.R (Kd.int .i64) 3 w' w.heap.size (n7 s_.2.1 (.slice Ao37 t414.length co37) (.slice Ao40 t418.length co40) (.slice Ao48 t470.length co48) (.slice Ao52 t471.length co52) (.slice Ao59 t439.length co59) (.slice Ao64 t443.length co64)) s_.2.2.1 t486) ∧ (Kd.R (Kd.int .i64) 3 w' w.heap.size (n7 s_.2.1 s_.2.2.1 (.slice Ao40 t418.length co40) (.slice Ao48 t470.length co48) (.slice Ao52 t471.length co52) (.slice Ao59 t439.length co59) (.slice Ao64 t443.length co64)) (.slice Ao37 t414.length co37) t414) ∧ (Kd.R (Kd.int .i64) 3 w' w.heap.size (n7 s_.2.1 s_.2.2.1 (.slice Ao37 t414.length co37) (.slice Ao48 t470.length co48) (.slice Ao52 t471.length co52) (.slice Ao59 t439.length co59) (.slice Ao64 t443.length co64)) (.slice Ao40 t418.length co40) t418) ∧ (Kd.R (Kd.int .i64) 3 w' w.heap.size (n7 s_.2.1 s_.2.2.1 (.slice Ao37 t414.length co37) (.slice Ao40 t418.length co40) (.slice Ao52 t471.length co52) (.slice Ao59 t439.length co59) (.slice Ao64 t443.length co64)) (.slice Ao48 t470.length co48) t470) ∧ (Kd.R (Kd.int .i64) 3 w' w.heap.size (n7 s_.2.1 s_.2.2.1 (.slice Ao37 t414.length co37) (.slice Ao40 t418.length co40) (.slice Ao48 t470.length co48) (.slice Ao59 t439.length co59) (.slice Ao64 t443.length co64)) (.slice Ao52 t471.length co52) t471) ∧ (Kd.R (Kd.int .i64) 3 w' w.heap.size (n7 s_.2.1 s_.2.2.1 (.slice Ao37 t414.length co37) (.slice Ao40 t418.length co40) (.slice Ao48 t470.length co48) (.slice Ao52 t471.length co52) (.slice Ao64 t443.length co64)) (.slice Ao59 t439.length co59) t476) ∧ (Kd.R (Kd.int .i64) 3 w' w.heap.size (n7 s_.2.1 s_.2.2.1 (.slice Ao37 t414.length co37) (.slice Ao40 t418.length co40) (.slice Ao48 t470.length co48) (.slice Ao52 t471.length co52) (.slice Ao59 t439.length co59)) (.slice Ao64 t443.length co64) t477) ∧ (w'.heap[gb397]? = some (.cells #[.slice A1_0 l1_0.length c1_0, .int .i64 a1_1, .slice A1_2 l1_2.length c1_2, .int .i64 a1_3] 55 (0, 0))) ∧ (w'.heap[gb423]? = some (.cells #[.slice Ao37 t414.length co37, .int .i64 t417, .slice Ao40 t418.length co40, .int .i64 t421] 57 (0, 0))) ∧ (w'.heap[gb435]? = some (.cells #[.slice Ao48 t470.length co48, .int .i64 t430, .slice Ao52 t471.length co52, .int .i64 t434] 57 (0, 0))) ∧ (w'.heap[gb448]? = some (.cells #[.slice Ao59 t439.length co59, .int .i64 t442, .slice Ao64 t443.length co64, .int .i64 t446] 57 (0, 0))) ∧ (w'.heap[s_.2.2.2]? = some (.cells #[.slice none 0 0, .int .i64 0, .slice none 0 0, .int .i64 0] 57 (0, 0))) ∧ (w.heap.size ≤ s_.2.2.2) ∧ (w.heap.size ≤ s_.2.2.2) ∧ (gb397 ≠ s_.2.2.2) ∧ (s_.2.2.2 ≠ gb397) ∧ (gb423 ≠ s_.2.2.2) ∧ (s_.2.2.2 ≠ gb423) ∧ (gb435 ≠ s_.2.2.2) ∧ (s_.2.2.2 ≠ gb435) ∧ (gb448 ≠ s_.2.2.2) ∧ (s_.2.2.2 ≠ gb448) ∧ (Below w.heap.size w w')) ?_ ?_
         rotate_left
         ·
          intro hJ1_3_10
          refine join_ (σ := Value × Value × Value) 8 (mb 13 31) (fun s_ => [(115, s_.1), (117, .agg #[s_.2.1, .int .i64 t485, s_.2.2, .int .i64 t489])]) (fun s_ w' => (w'.cell? ⟨gb397, 0, none⟩ = some (.slice A1_0 l1_0.length c1_0) ∧ w'.cell? ⟨gb397, 1, none⟩ = some (.int .i64 a1_1) ∧ w'.cell? ⟨gb397, 2, none⟩ = some (.slice A1_2 l1_2.length c1_2) ∧ w'.cell? ⟨gb397, 3, none⟩ = some (.int .i64 a1_3)) ∧ (Kd.R k89 89 w' w.heap.size (fun _ => True) s_.1 t479) ∧ (Kd.R (Kd.int .i64) 3 w' w.heap.size (n7 s_.2.2 (.slice Ao37 t414.length co37) (.slice Ao40 t418.length co40) (.slice Ao48 t470.length co48) (.slice Ao52 t471.length co52) (.slice Ao59 t439.length co59) (.slice Ao64 t443.length co64)) s_.2.1 t482) ∧ (Kd.R (Kd.int .i64) 3 w' w.heap.size (n7 s_.2.1 (.slice Ao37 t414.length co37) (.slice Ao40 t418.length co40) (.slice Ao48 t470.length co48) (.slice Ao52 t471.length co52) (.slice Ao59 t439.length co59) (.slice Ao64 t443.length co64)) s_.2.2 t486) ∧ (Kd.R (Kd.int .i64) 3 w' w.heap.size (n7 s_.2.1 s_.2.2 (.slice Ao40 t418.length co40) (.slice Ao48 t470.length co48) (.slice Ao52 t471.length co52) (.slice Ao59 t439.length co59) (.slice Ao64 t443.length co64)) (.slice Ao37 t414.length co37) t414) ∧ (Kd.R (Kd.int .i64) 3 w' w.heap.size (n7 s_.2.1 s_.2.2 (.slice Ao37 t414.length co37) (.slice Ao48 t470.length co48) (.slice Ao52 t471.length co52) (.slice Ao59 t439.length co59) (.slice Ao64 t443.length co64)) (.slice Ao40 t418.length co40) t418) ∧ (Kd.R (Kd.int .i64) 3 w' w.heap.size (n7 s_.2.1 s_.2.2 (.slice Ao37 t414.length co37) (.slice Ao40 t418.length co40) (.slice Ao52 t471.length co52) (.slice Ao59 t439.length co59) (.slice Ao64 t443.length co64)) (.slice Ao48 t470.length co48) t470) ∧ (Kd.R (Kd.int .i64) 3 w' w.heap.size (n7 s_.2.1 s_.2.2 (.slice Ao37 t414.length co37) (.slice Ao40 t418.length co40) (.slice Ao48 t470.length co48) (.slice Ao59 t439.length co59) (.slice Ao64 t443.length co64)) (.slice Ao52 t471.length co52) t471) ∧ (Kd.R (Kd.int .i64) 3 w' w.heap.size (n7 s_.2.1 s_.2.2 (.slice Ao37 t414.length co37) (.slice Ao40 t418.length co40) (.slice Ao48 t470.length co48) (.slice Ao52 t471.length co52) (.slice Ao64 t443.length co64)) (.slice Ao59 t439.length co59) t476) ∧ (Kd.R (Kd.int .i64) 3 w' w.heap.size (n7 s_.2.1 s_.2.2 (.slice Ao37 t414.length co37) (.slice Ao40 t418.length co40) (.slice Ao48 t470.length co48) (.slice Ao52 t471.length co52) (.slice Ao59 t439.length co59)) (.slice Ao64 t443.length co64) t477) ∧ (w'.heap[gb397]? = some (.cells #[.slice A1_0 l1_0.length c1_0, .int .i64 a1_1, .slice A1_2 l1_2.length c1_2, .int .i64 a1_3] 55 (0, 0))) ∧ (w'.heap[gb423]? = some (.cells #[.slice Ao37 t414.length co37, .int .i64 t417, .slice Ao40 t418.length co40, .int .i64 t421] 57 (0, 0))) ∧ (w'.heap[gb435]? = some (.cells #[.slice Ao48 t470.length co48, .int .i64 t430, .slice Ao52 t471.length co52, .int .i64 t434] 57 (0, 0))) ∧ (w'.heap[gb448]? = some (.cells #[.slice Ao59 t439.length co59, .int .i64 t442, .slice Ao64 t443.length co64, .int .i64 t446] 57 (0, 0))) ∧ (Below w.heap.size w w')) ?_ ?_
          rotate_left
          ·
           intro hJ1_3
           refine join_ (σ := Value × Nat) 8 (mb 13 1047) (fun s_ => [(115, s_.1), (18, .pointer (some ⟨s_.2, 0, none⟩))]) (fun s_ w' => (w'.cell? ⟨gb397, 0, none⟩ = some (.slice A1_0 l1_0.length c1_0) ∧ w'.cell? ⟨gb397, 1, none⟩ = some (.int .i64 a1_1) ∧ w'.cell? ⟨gb397, 2, none⟩ = some (.slice A1_2 l1_2.length c1_2) ∧ w'.cell? ⟨gb397, 3, none⟩ = some (.int .i64 a1_3)) ∧ (Kd.R k89 89 w' w.heap.size (fun _ => True) s_.1 t479) ∧ (Kd.R (Kd.int .i64) 3 w' w.heap.size (n5 (.slice Ao40 t418.length co40) (.slice Ao48 t470.length co48) (.slice Ao52 t471.length co52) (.slice Ao59 t439.length co59) (.slice Ao64 t443.length co64)) (.slice Ao37 t414.length co37) t414) ∧ (Kd.R (Kd.int .i64) 3 w' w.heap.size (n5 (.slice Ao37 t414.length co37) (.slice Ao48 t470.length co48) (.slice Ao52 t471.length co52) (.slice Ao59 t439.length co59) (.slice Ao64 t443.length co64)) (.slice Ao40 t418.length co40) t418) ∧ (Kd.R (Kd.int .i64) 3 w' w.heap.size (n5 (.slice Ao37 t414.length co37) (.slice Ao40 t418.length co40) (.slice Ao52 t471.length co52) (.slice Ao59 t439.length co59) (.slice Ao64 t443.length co64)) (.slice Ao48 t470.length co48) t470) ∧ (Kd.R (Kd.int .i64) 3 w' w.heap.size (n5 (.slice Ao37 t414.length co37) (.slice Ao40 t418.length co40) (.slice Ao48 t470.length co48) (.slice Ao59 t439.length co59) (.slice Ao64 t443.length co64)) (.slice Ao52 t471.length co52) t471) ∧ (Kd.R (Kd.int .i64) 3 w' w.heap.size (n5 (.slice Ao37 t414.length co37) (.slice Ao40 t418.length co40) (.slice Ao48 t470.length co48) (.slice Ao52 t471.length co52) (.slice Ao64 t443.length co64)) (.slice Ao59 t439.length co59) t476) ∧ (Kd.R (Kd.int .i64) 3 w' w.heap.size (n5 (.slice Ao37 t414.length co37) (.slice Ao40 t418.length co40) (.slice Ao48 t470.length co48) (.slice Ao52 t471.length co52) (.slice Ao59 t439.length co59)) (.slice Ao64 t443.length co64) t477) ∧ (w'.heap[gb397]? = some (.cells #[.slice A1_0 l1_0.length c1_0, .int .i64 a1_1, .slice A1_2 l1_2.length c1_2, .int .i64 a1_3] 55 (0, 0))) ∧ (w'.heap[gb423]? = some (.cells #[.slice Ao37 t414.length co37, .int .i64 t417, .slice Ao40 t418.length co40, .int .i64 t421] 57 (0, 0))) ∧ (w'.heap[gb435]? = some (.cells #[.slice Ao48 t470.length co48, .int .i64 t430, .slice Ao52 t471.length co52, .int .i64 t434] 57 (0, 0))) ∧ (w'.heap[gb448]? = some (.cells #[.slice Ao59 t439.length co59, .int .i64 t442, .slice Ao64 t443.length co64, .int .i64 t446] 57 (0, 0))) ∧ (w'.heap[s_.2]? = some (.cells #[.slice none 0 0, .int .i64 0, .slice none 0 0, .int .i64 0] 57 (0, 0))) ∧ (w.heap.size ≤ s_.2) ∧ (w.heap.size ≤ s_.2) ∧ (gb397 ≠ s_.2) ∧ (s_.2 ≠ gb397) ∧ (gb423 ≠ s_.2) ∧ (s_.2 ≠ gb423) ∧ (gb435 ≠ s_.2) ∧ (s_.2 ≠ gb435) ∧ (gb448 ≠ s_.2) ∧ (s_.2 ≠ gb448) ∧ (Below w.heap.size w w')) ?_ ?_
           rotate_left
           ·
            intro hJ1_10
            refine join_ (σ := Value) 9 (mb 13 23) (fun s_ => [(115, s_)]) (fun s_ w' => (w'.cell? ⟨gb397, 0, none⟩ = some (.slice A1_0 l1_0.length c1_0) ∧ w'.cell? ⟨gb397, 1, none⟩ = some (.int .i64 a1_1) ∧ w'.cell? ⟨gb397, 2, none⟩ = some (.slice A1_2 l1_2.length c1_2) ∧ w'.cell? ⟨gb397, 3, none⟩ = some (.int .i64 a1_3)) ∧ (Kd.R k89 89 w' w.heap.size (fun _ => True) s_ t479) ∧ (Kd.R (Kd.int .i64) 3 w' w.heap.size (n5 (.slice Ao40 t418.length co40) (.slice Ao48 t470.length co48) (.slice Ao52 t471.length co52) (.slice Ao59 t439.length co59) (.slice Ao64 t443.length co64)) (.slice Ao37 t414.length co37) t414) ∧ (Kd.R (Kd.int .i64) 3 w' w.heap.size (n5 (.slice Ao37 t414.length co37) (.slice Ao48 t470.length co48) (.slice Ao52 t471.length co52) (.slice Ao59 t439.length co59) (.slice Ao64 t443.length co64)) (.slice Ao40 t418.length co40) t418) ∧ (Kd.R (Kd.int .i64) 3 w' w.heap.size (n5 (.slice Ao37 t414.length co37) (.slice Ao40 t418.length co40) (.slice Ao52 t471.length co52) (.slice Ao59 t439.length co59) (.slice Ao64 t443.length co64)) (.slice Ao48 t470.length co48) t470) ∧ (Kd.R (Kd.int .i64) 3 w' w.heap.size (n5 (.slice Ao37 t414.length co37) (.slice Ao40 t418.length co40) (.slice Ao48 t470.length co48) (.slice Ao59 t439.length co59) (.slice Ao64 t443.length co64)) (.slice Ao52 t471.length co52) t471) ∧ (Kd.R (Kd.int .i64) 3 w' w.heap.size (n5 (.slice Ao37 t414.length co37) (.slice Ao40 t418.length co40) (.slice Ao48 t470.length co48) (.slice Ao52 t471.length co52) (.slice Ao64 t443.length co64)) (.slice Ao59 t439.length co59) t476) ∧ (Kd.R (Kd.int .i64) 3 w' w.heap.size (n5 (.slice Ao37 t414.length co37) (.slice Ao40 t418.length co40) (.slice Ao48 t470.length co48) (.slice Ao52 t471.length co52) (.slice Ao59 t439.length co59)) (.slice Ao64 t443.length co64) t477) ∧ (w'.heap[gb397]? = some (.cells #[.slice A1_0 l1_0.length c1_0, .int .i64 a1_1, .slice A1_2 l1_2.length c1_2, .int .i64 a1_3] 55 (0, 0))) ∧ (w'.heap[gb423]? = some (.cells #[.slice Ao37 t414.length co37, .int .i64 t417, .slice Ao40 t418.length co40, .int .i64 t421] 57 (0, 0))) ∧ (w'.heap[gb435]? = some (.cells #[.slice Ao48 t470.length co48, .int .i64 t430, .slice Ao52 t471.length co52, .int .i64 t434] 57 (0, 0))) ∧ (w'.heap[gb448]? = some (.cells #[.slice Ao59 t439.length co59, .int .i64 t442, .slice Ao64 t443.length co64, .int .i64 t446] 57 (0, 0))) ∧ (Below w.heap.size w w')) ?_ ?_
            rotate_left
            ·
             intro hJ1
             refine join_ (σ := Nat) 9 (mb 13 1045) (fun s_ => [(18, .pointer (some ⟨s_, 0, none⟩))]) (fun s_ w' => (w'.cell? ⟨gb397, 0, none⟩ = some (.slice A1_0 l1_0.length c1_0) ∧ w'.cell? ⟨gb397, 1, none⟩ = some (.int .i64 a1_1) ∧ w'.cell? ⟨gb397, 2, none⟩ = some (.slice A1_2 l1_2.length c1_2) ∧ w'.cell? ⟨gb397, 3, none⟩ = some (.int .i64 a1_3)) ∧ (Kd.R (Kd.int .i64) 3 w' w.heap.size (n5 (.slice Ao40 t418.length co40) (.slice Ao48 t470.length co48) (.slice Ao52 t471.length co52) (.slice Ao59 t439.length co59) (.slice Ao64 t443.length co64)) (.slice Ao37 t414.length co37) t414) ∧ (Kd.R (Kd.int .i64) 3 w' w.heap.size (n5 (.slice Ao37 t414.length co37) (.slice Ao48 t470.length co48) (.slice Ao52 t471.length co52) (.slice Ao59 t439.length co59) (.slice Ao64 t443.length co64)) (.slice Ao40 t418.length co40) t418) ∧ (Kd.R (Kd.int .i64) 3 w' w.heap.size (n5 (.slice Ao37 t414.length co37) (.slice Ao40 t418.length co40) (.slice Ao52 t471.length co52) (.slice Ao59 t439.length co59) (.slice Ao64 t443.length co64)) (.slice Ao48 t470.length co48) t470) ∧ (Kd.R (Kd.int .i64) 3 w' w.heap.size (n5 (.slice Ao37 t414.length co37) (.slice Ao40 t418.length co40) (.slice Ao48 t470.length co48) (.slice Ao59 t439.length co59) (.slice Ao64 t443.length co64)) (.slice Ao52 t471.length co52) t471) ∧ (Kd.R (Kd.int .i64) 3 w' w.heap.size (n5 (.slice Ao37 t414.length co37) (.slice Ao40 t418.length co40) (.slice Ao48 t470.length co48) (.slice Ao52 t471.length co52) (.slice Ao64 t443.length co64)) (.slice Ao59 t439.length co59) t476) ∧ (Kd.R (Kd.int .i64) 3 w' w.heap.size (n5 (.slice Ao37 t414.length co37) (.slice Ao40 t418.length co40) (.slice Ao48 t470.length co48) (.slice Ao52 t471.length co52) (.slice Ao59 t439.length co59)) (.slice Ao64 t443.length co64) t477) ∧ (w'.heap[gb397]? = some (.cells #[.slice A1_0 l1_0.length c1_0, .int .i64 a1_1, .slice A1_2 l1_2.length c1_2, .int .i64 a1_3] 55 (0, 0))) ∧ (w'.heap[gb423]? = some (.cells #[.slice Ao37 t414.length co37, .int .i64 t417, .slice Ao40 t418.length co40, .int .i64 t421] 57 (0, 0))) ∧ (w'.heap[gb435]? = some (.cells #[.slice Ao48 t470.length co48, .int .i64 t430, .slice Ao52 t471.length co52, .int .i64 t434] 57 (0, 0))) ∧ (w'.heap[gb448]? = some (.cells #[.slice Ao59 t439.length co59, .int .i64 t442, .slice Ao64 t443.length co64, .int .i64 t446] 57 (0, 0))) ∧ (w'.heap[s_]? = some (.cells #[.slice none 0 0, .int .i64 0, .slice none 0 0, .int .i64 0] 57 (0, 0))) ∧ (w.heap.size ≤ s_) ∧ (w.heap.size ≤ s_) ∧ (gb397 ≠ s_) ∧ (s_ ≠ gb397) ∧ (gb423 ≠ s_) ∧ (s_ ≠ gb423) ∧ (gb435 ≠ s_) ∧ (s_ ≠ gb435) ∧ (gb448 ≠ s_) ∧ (s_ ≠ gb448) ∧ (Below w.heap.size w w')) ?_ ?_
             rotate_left
             ·
              intro hJ10
              refine two_ (i := 1) (j := 10) (Ni := some 115) (Nj := some 18) (mb 13 23) (mb 13 1045) rfl rfl rfl rfl (two_of HT_.out (by kernel_rfl)) (by decide) (by decide) (fun K hK => ?_) (fun K hK => ?_)
              ·
               skip
               refine gA Try.func14 #[.slice A0 l0.length c0] ?_
               with_reducible refine (laws_toPathS.calls kj95 _ _ l0 t479 _ ?side1 ?side2 A138.out).mono ?_
               (case side1 => exact cB HR0)
               (case side2 => exact HC0.out)
               rintro e w151 ⟨v480, rfl, ho0, hb⟩
               refine ⟨_, rfl, ?_⟩
               replace HO_424000 := rb HO_424000 hb
               replace HO_424002 := rb HO_424002 hb
               replace HO_436000 := rb HO_436000 hb
               replace HO_436002 := rb HO_436002 hb
               replace HO_449000 := rb HO_449000 hb
               replace HO_449002 := rb HO_449002 hb
               have HO481 := rl w ho0
               replace BK397 := kb BK397 hb
               replace BK423 := kb BK423 hb
               replace BK435 := kb BK435 hb
               replace BK448 := kb BK448 hb
               replace HB := bs HB hb
               (try clear hb)
               (try clear hb2)
               (try clear hk)
               (try clear hi)
               (try clear ho0)
               refine hK.out _ _ (cn4 BK397) (fun hHeld => ?_)
               clear hK K
               refine nB ?_
               exact nM (hJ1 (v480) _ ⟨hHeld, (rK HO481), (rK HO_424000), (rK HO_424002), (rK HO_436000), (rK HO_436002), (rK HO_449000), (rK HO_449002), (bK BK397), (bK BK423), (bK BK435), (bK BK448), bG⟩)
              ·
               skip
               refine box_step ?hg (N := 18) ?hd (cs := #[.slice none 0 0, .int .i64 0, .slice none 0 0, .int .i64 0]) (t := 57) ?hr ?_; (case hd => rfl); (case hg => rfl); (case hr => first | (go_simp; done) | (go_simp; rfl))
               intro gb502 hg w151 hbox hb
               replace HO_424000 := rb HO_424000 hb
               replace HO_424002 := rb HO_424002 hb
               replace HO_436000 := rb HO_436000 hb
               replace HO_436002 := rb HO_436002 hb
               replace HO_449000 := rb HO_449000 hb
               replace HO_449002 := rb HO_449002 hb
               have BK502 := Aside0.mk (hbox)
               have GW502 := gw w hg
               have GE502 := gw w hg
               replace HB := bs HB hb
               have NB397_502 := nl BK397 hg
               have NB502_397 := nr BK397 hg
               replace BK397 := kb BK397 hb
               have NB423_502 := nl BK423 hg
               have NB502_423 := nr BK423 hg
               replace BK423 := kb BK423 hb
               have NB435_502 := nl BK435 hg
               have NB502_435 := nr BK435 hg
               replace BK435 := kb BK435 hb
               have NB448_502 := nl BK448 hg
               have NB502_448 := nr BK448 hg
               replace BK448 := kb BK448 hb
               clear hb hbox hg
               refine hK.out _ _ (cn4 BK397) (fun hHeld => ?_)
               clear hK K
               refine nB ?_
               exact nM (hJ10 (gb502) _ ⟨hHeld, (rK HO_424000), (rK HO_424002), (rK HO_436000), (rK HO_436002), (rK HO_449000), (rK HO_449002), (bK BK397), (bK BK423), (bK BK435), (bK BK448), (bK BK502), GW502.out, GE502.out, NB397_502.out, NB502_397.out, NB423_502.out, NB502_423.out, NB435_502.out, NB502_435.out, NB448_502.out, NB502_448.out, bG⟩)
             ·
              skip
              clear HO_424000 HO_424002 HO_436000 HO_436002 HO_449000 HO_449002 BK397 BK423 BK435 BK448 HB
              rintro gb502 w152 ⟨hHeld, h0_, h1_, h2_, h3_, h4_, h5_, h6_, h7_, h8_, h9_, h10_, h11_, h12_, h13_, h14_, h15_, h16_, h17_, h18_, h19_, h20_, h21_⟩
              try dsimp only at hHeld h0_ h1_ h2_ h3_ h4_ h5_ h6_ h7_ h8_ h9_ h10_ h11_ h12_ h13_ h14_ h15_ h16_ h17_ h18_ h19_ h20_ h21_
              obtain ⟨HO_424000, HO_424002, HO_436000, HO_436002, HO_449000, HO_449002, BK397, BK423, BK435, BK448, BK502, GW502, GE502, NB397_502, NB502_397, NB423_502, NB502_423, NB435_502, NB502_435, NB448_502, NB502_448, HB⟩ := as22 h0_ h1_ h2_ h3_ h4_ h5_ h6_ h7_ h8_ h9_ h10_ h11_ h12_ h13_ h14_ h15_ h16_ h17_ h18_ h19_ h20_ h21_
              clear h0_ h1_ h2_ h3_ h4_ h5_ h6_ h7_ h8_ h9_ h10_ h11_ h12_ h13_ h14_ h15_ h16_ h17_ h18_ h19_ h20_ h21_
              refine norm_ (a' := ?_) ?_ ?_
              rotate_left
              ·
               simp only [putAll, Act.put, List.setIfInBounds_toArray, List.set_cons_zero, List.set_cons_succ]
               rfl
              refine oa 1 115 (mb 13 1047) HT_ (fun K hK => ?_)
              refine gA Try.func14 #[.slice A0 l0.length c0] ?_
              with_reducible refine (laws_toPathS.calls kj95 _ _ l0 t479 _ ?side1 ?side2 A138.out).mono ?_
              (case side1 => exact cB HR0)
              (case side2 => exact HC0.out)
              rintro e w153 ⟨v480, rfl, ho0, hb⟩
              refine ⟨_, rfl, ?_⟩
              replace HO_424000 := rb HO_424000 hb
              replace HO_424002 := rb HO_424002 hb
              replace HO_436000 := rb HO_436000 hb
              replace HO_436002 := rb HO_436002 hb
              replace HO_449000 := rb HO_449000 hb
              replace HO_449002 := rb HO_449002 hb
              have HO481 := rl w ho0
              replace BK397 := kb BK397 hb
              replace BK423 := kb BK423 hb
              replace BK435 := kb BK435 hb
              replace BK448 := kb BK448 hb
              replace BK502 := kb BK502 hb
              replace HB := bs HB hb
              (try clear hb)
              (try clear hb2)
              (try clear hk)
              (try clear hi)
              (try clear ho0)
              refine hK.out _ _ (cn4 BK397) (fun hHeld => ?_)
              clear hK K
              refine nB ?_
              exact nM (hJ1_10 (v480, gb502) _ ⟨hHeld, (rK HO481), (rK HO_424000), (rK HO_424002), (rK HO_436000), (rK HO_436002), (rK HO_449000), (rK HO_449002), (bK BK397), (bK BK423), (bK BK435), (bK BK448), (bK BK502), GW502.out, GE502.out, NB397_502.out, NB502_397.out, NB423_502.out, NB502_423.out, NB435_502.out, NB502_435.out, NB448_502.out, NB502_448.out, bG⟩)
            ·
             skip
             clear HO_424000 HO_424002 HO_436000 HO_436002 HO_449000 HO_449002 BK397 BK423 BK435 BK448 HB
             rintro v480 w152 ⟨hHeld, h0_, h1_, h2_, h3_, h4_, h5_, h6_, h7_, h8_, h9_, h10_, h11_⟩
             try dsimp only at hHeld h0_ h1_ h2_ h3_ h4_ h5_ h6_ h7_ h8_ h9_ h10_ h11_
             obtain ⟨HO481, HO_424000, HO_424002, HO_436000, HO_436002, HO_449000, HO_449002, BK397, BK423, BK435, BK448, HB⟩ := as12 h0_ h1_ h2_ h3_ h4_ h5_ h6_ h7_ h8_ h9_ h10_ h11_
             clear h0_ h1_ h2_ h3_ h4_ h5_ h6_ h7_ h8_ h9_ h10_ h11_
             refine norm_ (a' := ?_) ?_ ?_
             rotate_left
             ·
              simp only [putAll, Act.put, List.setIfInBounds_toArray, List.set_cons_zero, List.set_cons_succ]
              rfl
             refine two_ (i := 3) (j := 10) (Ni := some 117) (Nj := some 18) (mb 13 31) (mb 13 1047) rfl rfl rfl rfl (two_of HT_.out (by kernel_rfl)) (by decide) (by decide) (fun K hK => ?_) (fun K hK => ?_)
             ·
              skip
              refine gA Try.func40 #[.agg #[.slice A1_0 l1_0.length c1_0, .int .i64 a1_1, .slice A1_2 l1_2.length c1_2, .int .i64 a1_3]] ?_
              with_reducible refine (laws_toControl.calls kj95 _ _ l1_0 a1_1 _ _ l1_2 a1_3 t482 t485 t486 t489 _ ?side1 ?side2 ?side3 ?side4 A139.out).mono ?_
              (case side1 => exact cB HR1_0)
              (case side2 => exact HC1_0.out)
              (case side3 => exact cB HR1_2)
              (case side4 => exact HC1_2.out)
              rintro e w153 ⟨v483, v487, rfl, ho0, ho1, hb⟩
              refine ⟨_, rfl, ?_⟩
              replace HO481 := rb HO481 hb
              have HO484 := rl w (rn (rn (rn (rn (rn (rn ho0 HO_424000) HO_424002) HO_436000) HO_436002) HO_449000) HO_449002)
              have HO488 := rl w (rn (rn (rn (rn (rn (rn ho1 HO_424000) HO_424002) HO_436000) HO_436002) HO_449000) HO_449002)
              replace HO_424000 := rt2 HO_424000 hb ho0 ho1
              replace HO_424002 := rt2 HO_424002 hb ho0 ho1
              replace HO_436000 := rt2 HO_436000 hb ho0 ho1
              replace HO_436002 := rt2 HO_436002 hb ho0 ho1
              replace HO_449000 := rt2 HO_449000 hb ho0 ho1
              replace HO_449002 := rt2 HO_449002 hb ho0 ho1
              replace BK397 := kb BK397 hb
              replace BK423 := kb BK423 hb
              replace BK435 := kb BK435 hb
              replace BK448 := kb BK448 hb
              replace HB := bs HB hb
              (try clear hb)
              (try clear hb2)
              (try clear hk)
              (try clear hi)
              (try clear ho0)
              (try clear ho1)
              refine hK.out _ _ (cn4 BK397) (fun hHeld => ?_)
              clear hK K
              refine nB ?_
              exact nM (hJ1_3 (v480, v483, v487) _ ⟨hHeld, (rK HO481), (rm HO484 (fun _ hk => ⟨hk.1.1.1.1.1.1, ⟨hk.1.1.1.1.1.2, ⟨hk.1.1.1.1.2, ⟨hk.1.1.1.2, ⟨hk.1.1.2, ⟨hk.1.2, hk.2⟩⟩⟩⟩⟩⟩)), (rm HO488 (fun _ hk => ⟨hk.1.1.1.1.1.1, ⟨hk.1.1.1.1.1.2, ⟨hk.1.1.1.1.2, ⟨hk.1.1.1.2, ⟨hk.1.1.2, ⟨hk.1.2, hk.2⟩⟩⟩⟩⟩⟩)), (rm HO_424000 (fun _ hk => ⟨hk.1.2, ⟨hk.2, ⟨hk.1.1.1, ⟨hk.1.1.2.1, ⟨hk.1.1.2.2.1, ⟨hk.1.1.2.2.2.1, hk.1.1.2.2.2.2⟩⟩⟩⟩⟩⟩)), (rm HO_424002 (fun _ hk => ⟨hk.1.2, ⟨hk.2, ⟨hk.1.1.1, ⟨hk.1.1.2.1, ⟨hk.1.1.2.2.1, ⟨hk.1.1.2.2.2.1, hk.1.1.2.2.2.2⟩⟩⟩⟩⟩⟩)), (rm HO_436000 (fun _ hk => ⟨hk.1.2, ⟨hk.2, ⟨hk.1.1.1, ⟨hk.1.1.2.1, ⟨hk.1.1.2.2.1, ⟨hk.1.1.2.2.2.1, hk.1.1.2.2.2.2⟩⟩⟩⟩⟩⟩)), (rm HO_436002 (fun _ hk => ⟨hk.1.2, ⟨hk.2, ⟨hk.1.1.1, ⟨hk.1.1.2.1, ⟨hk.1.1.2.2.1, ⟨hk.1.1.2.2.2.1, hk.1.1.2.2.2.2⟩⟩⟩⟩⟩⟩)), (rm HO_449000 (fun _ hk => ⟨hk.1.2, ⟨hk.2, ⟨hk.1.1.1, ⟨hk.1.1.2.1, ⟨hk.1.1.2.2.1, ⟨hk.1.1.2.2.2.1, hk.1.1.2.2.2.2⟩⟩⟩⟩⟩⟩)), (rm HO_449002 (fun _ hk => ⟨hk.1.2, ⟨hk.2, ⟨hk.1.1.1, ⟨hk.1.1.2.1, ⟨hk.1.1.2.2.1, ⟨hk.1.1.2.2.2.1, hk.1.1.2.2.2.2⟩⟩⟩⟩⟩⟩)), (bK BK397), (bK BK423), (bK BK435), (bK BK448), bG⟩)
             ·
              skip
              refine box_step ?hg (N := 18) ?hd (cs := #[.slice none 0 0, .int .i64 0, .slice none 0 0, .int .i64 0]) (t := 57) ?hr ?_; (case hd => rfl); (case hg => rfl); (case hr => first | (go_simp; done) | (go_simp; rfl))
              intro gb502 hg w153 hbox hb
              replace HO_424000 := rb HO_424000 hb
              replace HO_424002 := rb HO_424002 hb
              replace HO_436000 := rb HO_436000 hb
              replace HO_436002 := rb HO_436002 hb
              replace HO_449000 := rb HO_449000 hb
              replace HO_449002 := rb HO_449002 hb
              replace HO481 := rb HO481 hb
              have BK502 := Aside0.mk (hbox)
              have GW502 := gw w hg
              have GE502 := gw w hg
              replace HB := bs HB hb
              have NB397_502 := nl BK397 hg
              have NB502_397 := nr BK397 hg
              replace BK397 := kb BK397 hb
              have NB423_502 := nl BK423 hg
              have NB502_423 := nr BK423 hg
              replace BK423 := kb BK423 hb
              have NB435_502 := nl BK435 hg
              have NB502_435 := nr BK435 hg
              replace BK435 := kb BK435 hb
              have NB448_502 := nl BK448 hg
              have NB502_448 := nr BK448 hg
              replace BK448 := kb BK448 hb
              clear hb hbox hg
              refine hK.out _ _ (cn4 BK397) (fun hHeld => ?_)
              clear hK K
              refine nB ?_
              exact nM (hJ1_10 (v480, gb502) _ ⟨hHeld, (rK HO481), (rK HO_424000), (rK HO_424002), (rK HO_436000), (rK HO_436002), (rK HO_449000), (rK HO_449002), (bK BK397), (bK BK423), (bK BK435), (bK BK448), (bK BK502), GW502.out, GE502.out, NB397_502.out, NB502_397.out, NB423_502.out, NB502_423.out, NB435_502.out, NB502_435.out, NB448_502.out, NB502_448.out, bG⟩)
           ·
            skip
            clear HO_424000 HO_424002 HO_436000 HO_436002 HO_449000 HO_449002 BK397 BK423 BK435 BK448 HB
            rintro ⟨v480, gb502⟩ w153 ⟨hHeld, h0_, h1_, h2_, h3_, h4_, h5_, h6_, h7_, h8_, h9_, h10_, h11_, h12_, h13_, h14_, h15_, h16_, h17_, h18_, h19_, h20_, h21_, h22_⟩
            try dsimp only at hHeld h0_ h1_ h2_ h3_ h4_ h5_ h6_ h7_ h8_ h9_ h10_ h11_ h12_ h13_ h14_ h15_ h16_ h17_ h18_ h19_ h20_ h21_ h22_
            obtain ⟨HO481, HO_424000, HO_424002, HO_436000, HO_436002, HO_449000, HO_449002, BK397, BK423, BK435, BK448, BK502, GW502, GE502, NB397_502, NB502_397, NB423_502, NB502_423, NB435_502, NB502_435, NB448_502, NB502_448, HB⟩ := as23 h0_ h1_ h2_ h3_ h4_ h5_ h6_ h7_ h8_ h9_ h10_ h11_ h12_ h13_ h14_ h15_ h16_ h17_ h18_ h19_ h20_ h21_ h22_
            clear h0_ h1_ h2_ h3_ h4_ h5_ h6_ h7_ h8_ h9_ h10_ h11_ h12_ h13_ h14_ h15_ h16_ h17_ h18_ h19_ h20_ h21_ h22_
            refine norm_ (a' := ?_) ?_ ?_
            rotate_left
            ·
             simp only [putAll, Act.put, List.setIfInBounds_toArray, List.set_cons_zero, List.set_cons_succ]
             rfl
            refine oa 3 117 (mb 13 1055) HT_ (fun K hK => ?_)
            refine gA Try.func40 #[.agg #[.slice A1_0 l1_0.length c1_0, .int .i64 a1_1, .slice A1_2 l1_2.length c1_2, .int .i64 a1_3]] ?_
            with_reducible refine (laws_toControl.calls kj95 _ _ l1_0 a1_1 _ _ l1_2 a1_3 t482 t485 t486 t489 _ ?side1 ?side2 ?side3 ?side4 A139.out).mono ?_
            (case side1 => exact cB HR1_0)
            (case side2 => exact HC1_0.out)
            (case side3 => exact cB HR1_2)
            (case side4 => exact HC1_2.out)
            rintro e w154 ⟨v483, v487, rfl, ho0, ho1, hb⟩
            refine ⟨_, rfl, ?_⟩
            replace HO481 := rb HO481 hb
            have HO484 := rl w (rn (rn (rn (rn (rn (rn ho0 HO_424000) HO_424002) HO_436000) HO_436002) HO_449000) HO_449002)
            have HO488 := rl w (rn (rn (rn (rn (rn (rn ho1 HO_424000) HO_424002) HO_436000) HO_436002) HO_449000) HO_449002)
            replace HO_424000 := rt2 HO_424000 hb ho0 ho1
            replace HO_424002 := rt2 HO_424002 hb ho0 ho1
            replace HO_436000 := rt2 HO_436000 hb ho0 ho1
            replace HO_436002 := rt2 HO_436002 hb ho0 ho1
            replace HO_449000 := rt2 HO_449000 hb ho0 ho1
            replace HO_449002 := rt2 HO_449002 hb ho0 ho1
            replace BK397 := kb BK397 hb
            replace BK423 := kb BK423 hb
            replace BK435 := kb BK435 hb
            replace BK448 := kb BK448 hb
            replace BK502 := kb BK502 hb
            replace HB := bs HB hb
            (try clear hb)
            (try clear hb2)
            (try clear hk)
            (try clear hi)
            (try clear ho0)
            (try clear ho1)
            refine hK.out _ _ (cn4 BK397) (fun hHeld => ?_)
            clear hK K
            refine nB ?_
            exact nM (hJ1_3_10 (v480, v483, v487, gb502) _ ⟨hHeld, (rK HO481), (rm HO484 (fun _ hk => ⟨hk.1.1.1.1.1.1, ⟨hk.1.1.1.1.1.2, ⟨hk.1.1.1.1.2, ⟨hk.1.1.1.2, ⟨hk.1.1.2, ⟨hk.1.2, hk.2⟩⟩⟩⟩⟩⟩)), (rm HO488 (fun _ hk => ⟨hk.1.1.1.1.1.1, ⟨hk.1.1.1.1.1.2, ⟨hk.1.1.1.1.2, ⟨hk.1.1.1.2, ⟨hk.1.1.2, ⟨hk.1.2, hk.2⟩⟩⟩⟩⟩⟩)), (rm HO_424000 (fun _ hk => ⟨hk.1.2, ⟨hk.2, ⟨hk.1.1.1, ⟨hk.1.1.2.1, ⟨hk.1.1.2.2.1, ⟨hk.1.1.2.2.2.1, hk.1.1.2.2.2.2⟩⟩⟩⟩⟩⟩)), (rm HO_424002 (fun _ hk => ⟨hk.1.2, ⟨hk.2, ⟨hk.1.1.1, ⟨hk.1.1.2.1, ⟨hk.1.1.2.2.1, ⟨hk.1.1.2.2.2.1, hk.1.1.2.2.2.2⟩⟩⟩⟩⟩⟩)), (rm HO_436000 (fun _ hk => ⟨hk.1.2, ⟨hk.2, ⟨hk.1.1.1, ⟨hk.1.1.2.1, ⟨hk.1.1.2.2.1, ⟨hk.1.1.2.2.2.1, hk.1.1.2.2.2.2⟩⟩⟩⟩⟩⟩)), (rm HO_436002 (fun _ hk => ⟨hk.1.2, ⟨hk.2, ⟨hk.1.1.1, ⟨hk.1.1.2.1, ⟨hk.1.1.2.2.1, ⟨hk.1.1.2.2.2.1, hk.1.1.2.2.2.2⟩⟩⟩⟩⟩⟩)), (rm HO_449000 (fun _ hk => ⟨hk.1.2, ⟨hk.2, ⟨hk.1.1.1, ⟨hk.1.1.2.1, ⟨hk.1.1.2.2.1, ⟨hk.1.1.2.2.2.1, hk.1.1.2.2.2.2⟩⟩⟩⟩⟩⟩)), (rm HO_449002 (fun _ hk => ⟨hk.1.2, ⟨hk.2, ⟨hk.1.1.1, ⟨hk.1.1.2.1, ⟨hk.1.1.2.2.1, ⟨hk.1.1.2.2.2.1, hk.1.1.2.2.2.2⟩⟩⟩⟩⟩⟩)), (bK BK397), (bK BK423), (bK BK435), (bK BK448), (bK BK502), GW502.out, GE502.out, NB397_502.out, NB502_397.out, NB423_502.out, NB502_423.out, NB435_502.out, NB502_435.out, NB448_502.out, NB502_448.out, bG⟩)
          ·
           skip
           clear HO_424000 HO_424002 HO_436000 HO_436002 HO_449000 HO_449002 BK397 BK423 BK435 BK448 HB
           rintro ⟨v480, v483, v487⟩ w153 ⟨hHeld, h0_, h1_, h2_, h3_, h4_, h5_, h6_, h7_, h8_, h9_, h10_, h11_, h12_, h13_⟩
           try dsimp only at hHeld h0_ h1_ h2_ h3_ h4_ h5_ h6_ h7_ h8_ h9_ h10_ h11_ h12_ h13_
           obtain ⟨HO481, HO484, HO488, HO_424000, HO_424002, HO_436000, HO_436002, HO_449000, HO_449002, BK397, BK423, BK435, BK448, HB⟩ := as14 h0_ h1_ h2_ h3_ h4_ h5_ h6_ h7_ h8_ h9_ h10_ h11_ h12_ h13_
           clear h0_ h1_ h2_ h3_ h4_ h5_ h6_ h7_ h8_ h9_ h10_ h11_ h12_ h13_
           refine norm_ (a' := ?_) ?_ ?_
           rotate_left
           ·
            simp only [putAll, Act.put, List.setIfInBounds_toArray, List.set_cons_zero, List.set_cons_succ]
            rfl
           refine two_ (i := 5) (j := 10) (Ni := some 119) (Nj := some 18) (mb 13 63) (mb 13 1055) rfl rfl rfl rfl (two_of HT_.out (by kernel_rfl)) (by decide) (by decide) (fun K hK => ?_) (fun K hK => ?_)
           ·
            skip
            refine gA Try.func41 #[.slice A2 l2.length c2] ?_
            with_reducible refine (laws_toIntS.calls kj95 _ _ l2 t490 _ ?side1 ?side2 A140.out).mono ?_
            (case side1 => exact cB HR2)
            (case side2 => exact HC2.out)
            rintro e w154 ⟨v491, rfl, ho0, hb⟩
            refine ⟨_, rfl, ?_⟩
            replace HO481 := rb HO481 hb
            have HO492 := rl w (rn (rn (rn (rn (rn (rn (rn (rn ho0 HO_424000) HO_424002) HO_436000) HO_436002) HO_449000) HO_449002) HO484) HO488)
            replace HO_424000 := re HO_424000 ho0 hb
            replace HO_424002 := re HO_424002 ho0 hb
            replace HO_436000 := re HO_436000 ho0 hb
            replace HO_436002 := re HO_436002 ho0 hb
            replace HO_449000 := re HO_449000 ho0 hb
            replace HO_449002 := re HO_449002 ho0 hb
            replace HO484 := re HO484 ho0 hb
            replace HO488 := re HO488 ho0 hb
            replace BK397 := kb BK397 hb
            replace BK423 := kb BK423 hb
            replace BK435 := kb BK435 hb
            replace BK448 := kb BK448 hb
            replace HB := bs HB hb
            (try clear hb)
            (try clear hb2)
            (try clear hk)
            (try clear hi)
            (try clear ho0)
            refine hK.out _ _ (cn4 BK397) (fun hHeld => ?_)
            clear hK K
            refine nB ?_
            exact nM (hJ1_3_5 (v480, v483, v487, v491) _ ⟨hHeld, (rK HO481), (rm HO484 (fun _ hk => ⟨hk.1.1, ⟨hk.2, ⟨hk.1.2.1, ⟨hk.1.2.2.1, ⟨hk.1.2.2.2.1, ⟨hk.1.2.2.2.2.1, ⟨hk.1.2.2.2.2.2.1, hk.1.2.2.2.2.2.2⟩⟩⟩⟩⟩⟩⟩)), (rm HO488 (fun _ hk => ⟨hk.1.1, ⟨hk.2, ⟨hk.1.2.1, ⟨hk.1.2.2.1, ⟨hk.1.2.2.2.1, ⟨hk.1.2.2.2.2.1, ⟨hk.1.2.2.2.2.2.1, hk.1.2.2.2.2.2.2⟩⟩⟩⟩⟩⟩⟩)), (rm HO492 (fun _ hk => ⟨hk.1.2, ⟨hk.2, ⟨hk.1.1.1.1.1.1.1.2, ⟨hk.1.1.1.1.1.1.2, ⟨hk.1.1.1.1.1.2, ⟨hk.1.1.1.1.2, ⟨hk.1.1.1.2, hk.1.1.2⟩⟩⟩⟩⟩⟩⟩)), (rm HO_424000 (fun _ hk => ⟨hk.1.1, ⟨hk.1.2.1, ⟨hk.2, ⟨hk.1.2.2.1, ⟨hk.1.2.2.2.1, ⟨hk.1.2.2.2.2.1, ⟨hk.1.2.2.2.2.2.1, hk.1.2.2.2.2.2.2⟩⟩⟩⟩⟩⟩⟩)), (rm HO_424002 (fun _ hk => ⟨hk.1.1, ⟨hk.1.2.1, ⟨hk.2, ⟨hk.1.2.2.1, ⟨hk.1.2.2.2.1, ⟨hk.1.2.2.2.2.1, ⟨hk.1.2.2.2.2.2.1, hk.1.2.2.2.2.2.2⟩⟩⟩⟩⟩⟩⟩)), (rm HO_436000 (fun _ hk => ⟨hk.1.1, ⟨hk.1.2.1, ⟨hk.2, ⟨hk.1.2.2.1, ⟨hk.1.2.2.2.1, ⟨hk.1.2.2.2.2.1, ⟨hk.1.2.2.2.2.2.1, hk.1.2.2.2.2.2.2⟩⟩⟩⟩⟩⟩⟩)), (rm HO_436002 (fun _ hk => ⟨hk.1.1, ⟨hk.1.2.1, ⟨hk.2, ⟨hk.1.2.2.1, ⟨hk.1.2.2.2.1, ⟨hk.1.2.2.2.2.1, ⟨hk.1.2.2.2.2.2.1, hk.1.2.2.2.2.2.2⟩⟩⟩⟩⟩⟩⟩)), (rm HO_449000 (fun _ hk => ⟨hk.1.1, ⟨hk.1.2.1, ⟨hk.2, ⟨hk.1.2.2.1, ⟨hk.1.2.2.2.1, ⟨hk.1.2.2.2.2.1, ⟨hk.1.2.2.2.2.2.1, hk.1.2.2.2.2.2.2⟩⟩⟩⟩⟩⟩⟩)), (rm HO_449002 (fun _ hk => ⟨hk.1.1, ⟨hk.1.2.1, ⟨hk.2, ⟨hk.1.2.2.1, ⟨hk.1.2.2.2.1, ⟨hk.1.2.2.2.2.1, ⟨hk.1.2.2.2.2.2.1, hk.1.2.2.2.2.2.2⟩⟩⟩⟩⟩⟩⟩)), (bK BK397), (bK BK423), (bK BK435), (bK BK448), bG⟩)
           ·
            skip
            refine box_step ?hg (N := 18) ?hd (cs := #[.slice none 0 0, .int .i64 0, .slice none 0 0, .int .i64 0]) (t := 57) ?hr ?_; (case hd => rfl); (case hg => rfl); (case hr => first | (go_simp; done) | (go_simp; rfl))
            intro gb502 hg w154 hbox hb
            replace HO_424000 := rb HO_424000 hb
            replace HO_424002 := rb HO_424002 hb
            replace HO_436000 := rb HO_436000 hb
            replace HO_436002 := rb HO_436002 hb
            replace HO_449000 := rb HO_449000 hb
            replace HO_449002 := rb HO_449002 hb
            replace HO481 := rb HO481 hb
            replace HO484 := rb HO484 hb
            replace HO488 := rb HO488 hb
            have BK502 := Aside0.mk (hbox)
            have GW502 := gw w hg
            have GE502 := gw w hg
            replace HB := bs HB hb
            have NB397_502 := nl BK397 hg
            have NB502_397 := nr BK397 hg
            replace BK397 := kb BK397 hb
            have NB423_502 := nl BK423 hg
            have NB502_423 := nr BK423 hg
            replace BK423 := kb BK423 hb
            have NB435_502 := nl BK435 hg
            have NB502_435 := nr BK435 hg
            replace BK435 := kb BK435 hb
            have NB448_502 := nl BK448 hg
            have NB502_448 := nr BK448 hg
            replace BK448 := kb BK448 hb
            clear hb hbox hg
            refine hK.out _ _ (cn4 BK397) (fun hHeld => ?_)
            clear hK K
            refine nB ?_
            exact nM (hJ1_3_10 (v480, v483, v487, gb502) _ ⟨hHeld, (rK HO481), (rK HO484), (rK HO488), (rK HO_424000), (rK HO_424002), (rK HO_436000), (rK HO_436002), (rK HO_449000), (rK HO_449002), (bK BK397), (bK BK423), (bK BK435), (bK BK448), (bK BK502), GW502.out, GE502.out, NB397_502.out, NB502_397.out, NB423_502.out, NB502_423.out, NB435_502.out, NB502_435.out, NB448_502.out, NB502_448.out, bG⟩)
         ·
          skip
          clear HO_424000 HO_424002 HO_436000 HO_436002 HO_449000 HO_449002 BK397 BK423 BK435 BK448 HB
          rintro ⟨v480, v483, v487, gb502⟩ w154 ⟨hHeld, h0_, h1_, h2_, h3_, h4_, h5_, h6_, h7_, h8_, h9_, h10_, h11_, h12_, h13_, h14_, h15_, h16_, h17_, h18_, h19_, h20_, h21_, h22_, h23_, h24_⟩
          try dsimp only at hHeld h0_ h1_ h2_ h3_ h4_ h5_ h6_ h7_ h8_ h9_ h10_ h11_ h12_ h13_ h14_ h15_ h16_ h17_ h18_ h19_ h20_ h21_ h22_ h23_ h24_
          have HO481 := Aside0.mk h0_
          have HO484 := Aside0.mk h1_
          have HO488 := Aside0.mk h2_
          have HO_424000 := Aside0.mk h3_
          have HO_424002 := Aside0.mk h4_
          have HO_436000 := Aside0.mk h5_
          have HO_436002 := Aside0.mk h6_
          have HO_449000 := Aside0.mk h7_
          have HO_449002 := Aside0.mk h8_
          have BK397 := Aside0.mk h9_
          have BK423 := Aside0.mk h10_
          have BK435 := Aside0.mk h11_
          have BK448 := Aside0.mk h12_
          have BK502 := Aside0.mk h13_
          have GW502 := Aside0.mk h14_
          have GE502 := Aside0.mk h15_
          have NB397_502 := Aside0.mk h16_
          have NB502_397 := Aside0.mk h17_
          have NB423_502 := Aside0.mk h18_
          have NB502_423 := Aside0.mk h19_
          have NB435_502 := Aside0.mk h20_
          have NB502_435 := Aside0.mk h21_
          have NB448_502 := Aside0.mk h22_
          have NB502_448 := Aside0.mk h23_
          have HB := Aside0.mk h24_
          clear h0_ h1_ h2_ h3_ h4_ h5_ h6_ h7_ h8_ h9_ h10_ h11_ h12_ h13_ h14_ h15_ h16_ h17_ h18_ h19_ h20_ h21_ h22_ h23_ h24_
          refine norm_ (a' := ?_) ?_ ?_
          rotate_left
          ·
           simp only [putAll, Act.put, List.setIfInBounds_toArray, List.set_cons_zero, List.set_cons_succ]
           rfl
          refine oa 5 119 (mb 13 1087) HT_ (fun K hK => ?_)
          refine gA Try.func41 #[.slice A2 l2.length c2] ?_
          with_reducible refine (laws_toIntS.calls kj95 _ _ l2 t490 _ ?side1 ?side2 A140.out).mono ?_
          (case side1 => exact cB HR2)
          (case side2 => exact HC2.out)
          rintro e w155 ⟨v491, rfl, ho0, hb⟩
          refine ⟨_, rfl, ?_⟩
          replace HO481 := rb HO481 hb
          have HO492 := rl w (rn (rn (rn (rn (rn (rn (rn (rn ho0 HO_424000) HO_424002) HO_436000) HO_436002) HO_449000) HO_449002) HO484) HO488)
          replace HO_424000 := re HO_424000 ho0 hb
          replace HO_424002 := re HO_424002 ho0 hb
          replace HO_436000 := re HO_436000 ho0 hb
          replace HO_436002 := re HO_436002 ho0 hb
          replace HO_449000 := re HO_449000 ho0 hb
          replace HO_449002 := re HO_449002 ho0 hb
          replace HO484 := re HO484 ho0 hb
          replace HO488 := re HO488 ho0 hb
          replace BK397 := kb BK397 hb
          replace BK423 := kb BK423 hb
          replace BK435 := kb BK435 hb
          replace BK448 := kb BK448 hb
          replace BK502 := kb BK502 hb
          replace HB := bs HB hb
          (try clear hb)
          (try clear hb2)
          (try clear hk)
          (try clear hi)
          (try clear ho0)
          refine hK.out _ _ (cn4 BK397) (fun hHeld => ?_)
          clear hK K
          refine nB ?_
          exact nM (hJ1_3_5_10 (v480, v483, v487, v491, gb502) _ ⟨hHeld, (rK HO481), (rm HO484 (fun _ hk => ⟨hk.1.1, ⟨hk.2, ⟨hk.1.2.1, ⟨hk.1.2.2.1, ⟨hk.1.2.2.2.1, ⟨hk.1.2.2.2.2.1, ⟨hk.1.2.2.2.2.2.1, hk.1.2.2.2.2.2.2⟩⟩⟩⟩⟩⟩⟩)), (rm HO488 (fun _ hk => ⟨hk.1.1, ⟨hk.2, ⟨hk.1.2.1, ⟨hk.1.2.2.1, ⟨hk.1.2.2.2.1, ⟨hk.1.2.2.2.2.1, ⟨hk.1.2.2.2.2.2.1, hk.1.2.2.2.2.2.2⟩⟩⟩⟩⟩⟩⟩)), (rm HO492 (fun _ hk => ⟨hk.1.2, ⟨hk.2, ⟨hk.1.1.1.1.1.1.1.2, ⟨hk.1.1.1.1.1.1.2, ⟨hk.1.1.1.1.1.2, ⟨hk.1.1.1.1.2, ⟨hk.1.1.1.2, hk.1.1.2⟩⟩⟩⟩⟩⟩⟩)), (rm HO_424000 (fun _ hk => ⟨hk.1.1, ⟨hk.1.2.1, ⟨hk.2, ⟨hk.1.2.2.1, ⟨hk.1.2.2.2.1, ⟨hk.1.2.2.2.2.1, ⟨hk.1.2.2.2.2.2.1, hk.1.2.2.2.2.2.2⟩⟩⟩⟩⟩⟩⟩)), (rm HO_424002 (fun _ hk => ⟨hk.1.1, ⟨hk.1.2.1, ⟨hk.2, ⟨hk.1.2.2.1, ⟨hk.1.2.2.2.1, ⟨hk.1.2.2.2.2.1, ⟨hk.1.2.2.2.2.2.1, hk.1.2.2.2.2.2.2⟩⟩⟩⟩⟩⟩⟩)), (rm HO_436000 (fun _ hk => ⟨hk.1.1, ⟨hk.1.2.1, ⟨hk.2, ⟨hk.1.2.2.1, ⟨hk.1.2.2.2.1, ⟨hk.1.2.2.2.2.1, ⟨hk.1.2.2.2.2.2.1, hk.1.2.2.2.2.2.2⟩⟩⟩⟩⟩⟩⟩)), (rm HO_436002 (fun _ hk => ⟨hk.1.1, ⟨hk.1.2.1, ⟨hk.2, ⟨hk.1.2.2.1, ⟨hk.1.2.2.2.1, ⟨hk.1.2.2.2.2.1, ⟨hk.1.2.2.2.2.2.1, hk.1.2.2.2.2.2.2⟩⟩⟩⟩⟩⟩⟩)), (rm HO_449000 (fun _ hk => ⟨hk.1.1, ⟨hk.1.2.1, ⟨hk.2, ⟨hk.1.2.2.1, ⟨hk.1.2.2.2.1, ⟨hk.1.2.2.2.2.1, ⟨hk.1.2.2.2.2.2.1, hk.1.2.2.2.2.2.2⟩⟩⟩⟩⟩⟩⟩)), (rm HO_449002 (fun _ hk => ⟨hk.1.1, ⟨hk.1.2.1, ⟨hk.2, ⟨hk.1.2.2.1, ⟨hk.1.2.2.2.1, ⟨hk.1.2.2.2.2.1, ⟨hk.1.2.2.2.2.2.1, hk.1.2.2.2.2.2.2⟩⟩⟩⟩⟩⟩⟩)), (bK BK397), (bK BK423), (bK BK435), (bK BK448), (bK BK502), GW502.out, GE502.out, NB397_502.out, NB502_397.out, NB423_502.out, NB502_423.out, NB435_502.out, NB502_435.out, NB448_502.out, NB502_448.out, bG⟩)
        ·
         skip
         clear HO_424000 HO_424002 HO_436000 HO_436002 HO_449000 HO_449002 BK397 BK423 BK435 BK448 HB
         rintro ⟨v480, v483, v487, v491⟩ w154 ⟨hHeld, h0_, h1_, h2_, h3_, h4_, h5_, h6_, h7_, h8_, h9_, h10_, h11_, h12_, h13_, h14_⟩
         try dsimp only at hHeld h0_ h1_ h2_ h3_ h4_ h5_ h6_ h7_ h8_ h9_ h10_ h11_ h12_ h13_ h14_
         obtain ⟨HO481, HO484, HO488, HO492, HO_424000, HO_424002, HO_436000, HO_436002, HO_449000, HO_449002, BK397, BK423, BK435, BK448, HB⟩ := as15 h0_ h1_ h2_ h3_ h4_ h5_ h6_ h7_ h8_ h9_ h10_ h11_ h12_ h13_ h14_
         clear h0_ h1_ h2_ h3_ h4_ h5_ h6_ h7_ h8_ h9_ h10_ h11_ h12_ h13_ h14_
         obtain ⟨Ao155, co155, eo155⟩ := Kd.R_slice HO481.out
         (first | subst eo155 | (injection eo155 with f1_ f2_ f3_; have f4_ := f1_.symm; have f5_ := f3_.symm; clear f1_ f2_ f3_; subst f4_; subst f5_))
         obtain ⟨Ao156, co156, eo156⟩ := Kd.R_slice HO484.out
         (first | subst eo156 | (injection eo156 with f1_ f2_ f3_; have f4_ := f1_.symm; have f5_ := f3_.symm; clear f1_ f2_ f3_; subst f4_; subst f5_))
         obtain ⟨Ao157, co157, eo157⟩ := Kd.R_slice HO488.out
         (first | subst eo157 | (injection eo157 with f1_ f2_ f3_; have f4_ := f1_.symm; have f5_ := f3_.symm; clear f1_ f2_ f3_; subst f4_; subst f5_))
         obtain ⟨Ao158, co158, eo158⟩ := Kd.R_slice HO492.out
         (first | subst eo158 | (injection eo158 with f1_ f2_ f3_; have f4_ := f1_.symm; have f5_ := f3_.symm; clear f1_ f2_ f3_; subst f4_; subst f5_))
         refine norm_ (a' := ?_) ?_ ?_
         rotate_left
         ·
          simp only [putAll, Act.put, List.setIfInBounds_toArray, List.set_cons_zero, List.set_cons_succ]
          rfl
         refine two_ (i := 6) (j := 10) (Ni := some 120) (Nj := some 18) (mb 13 127) (mb 13 1087) rfl rfl rfl rfl (two_of HT_.out (by kernel_rfl)) (by decide) (by decide) (fun K hK => ?_) (fun K hK => ?_)
         ·
          skip
          refine gA Try.func42 #[.slice Ao155 t479.length co155, .agg #[.slice Ao156 t482.length co156, .int .i64 t485, .slice Ao157 t486.length co157, .int .i64 t489], .slice Ao158 t490.length co158] ?_
          with_reducible refine (impl_AskStage.calls kj95 _ _ t479 _ _ t482 t485 _ _ t486 t489 _ _ t490 t493 t496 t497 t500 t501 _ ?side1 ?side2 ?side3 ?side4 ?side5 ?side6 ?side7 ?side8 A141.out).mono ?_
          (case side1 => exact cO ⟨(Kd.R_reads' HO481.out).2.2⟩)
          (case side2 => exact (Kd.R_reads' HO481.out).2.1)
          (case side3 => exact cO ⟨(Kd.R_reads' HO484.out).2.2⟩)
          (case side4 => exact (Kd.R_reads' HO484.out).2.1)
          (case side5 => exact cO ⟨(Kd.R_reads' HO488.out).2.2⟩)
          (case side6 => exact (Kd.R_reads' HO488.out).2.1)
          (case side7 => exact cO ⟨(Kd.R_reads' HO492.out).2.2⟩)
          (case side8 => exact (Kd.R_reads' HO492.out).2.1)
          rintro e w159 ⟨v494, v498, rfl, ho0, ho1, hb⟩
          refine ⟨_, rfl, ?_⟩
          replace HO481 := rb HO481 hb
          have HO495 := rl w (rn (rn (rn (rn (rn (rn (rn (rn (rn ho0 HO_424000) HO_424002) HO_436000) HO_436002) HO_449000) HO_449002) HO484) HO488) HO492)
          have HO499 := rl w (rn (rn (rn (rn (rn (rn (rn (rn (rn ho1 HO_424000) HO_424002) HO_436000) HO_436002) HO_449000) HO_449002) HO484) HO488) HO492)
          replace HO_424000 := rt2 HO_424000 hb ho0 ho1
          replace HO_424002 := rt2 HO_424002 hb ho0 ho1
          replace HO_436000 := rt2 HO_436000 hb ho0 ho1
          replace HO_436002 := rt2 HO_436002 hb ho0 ho1
          replace HO_449000 := rt2 HO_449000 hb ho0 ho1
          replace HO_449002 := rt2 HO_449002 hb ho0 ho1
          replace HO484 := rt2 HO484 hb ho0 ho1
          replace HO488 := rt2 HO488 hb ho0 ho1
          replace HO492 := rt2 HO492 hb ho0 ho1
          replace BK397 := kb BK397 hb
          replace BK423 := kb BK423 hb
          replace BK435 := kb BK435 hb
          replace BK448 := kb BK448 hb
          replace HB := bs HB hb
          (try clear hb)
          (try clear hb2)
          (try clear hk)
          (try clear hi)
          (try clear ho0)
          (try clear ho1)
          refine hK.out _ _ (cn4 BK397) (fun hHeld => ?_)
          clear hK K
          refine nB ?_
          refine pa 7 113 (mb 13 255) HT_ ?_
          refine pa 8 121 (mb 13 511) HT_ ?_
          refine pa 9 122 (mb 13 1023) HT_ ?_
          exact nM (hJ1_3_5_6 (.slice Ao155 t479.length co155, .slice Ao156 t482.length co156, .slice Ao157 t486.length co157, .slice Ao158 t490.length co158, v494, v498) _ ⟨hHeld, (rK HO481), (rm HO484 (fun _ hk => ⟨hk.1.1.1, ⟨hk.1.1.2.1, ⟨hk.1.2, ⟨hk.2, ⟨hk.1.1.2.2.1, ⟨hk.1.1.2.2.2.1, ⟨hk.1.1.2.2.2.2.1, ⟨hk.1.1.2.2.2.2.2.1, ⟨hk.1.1.2.2.2.2.2.2.1, hk.1.1.2.2.2.2.2.2.2⟩⟩⟩⟩⟩⟩⟩⟩⟩)), (rm HO488 (fun _ hk => ⟨hk.1.1.1, ⟨hk.1.1.2.1, ⟨hk.1.2, ⟨hk.2, ⟨hk.1.1.2.2.1, ⟨hk.1.1.2.2.2.1, ⟨hk.1.1.2.2.2.2.1, ⟨hk.1.1.2.2.2.2.2.1, ⟨hk.1.1.2.2.2.2.2.2.1, hk.1.1.2.2.2.2.2.2.2⟩⟩⟩⟩⟩⟩⟩⟩⟩)), (rm HO492 (fun _ hk => ⟨hk.1.1.1, ⟨hk.1.1.2.1, ⟨hk.1.2, ⟨hk.2, ⟨hk.1.1.2.2.1, ⟨hk.1.1.2.2.2.1, ⟨hk.1.1.2.2.2.2.1, ⟨hk.1.1.2.2.2.2.2.1, ⟨hk.1.1.2.2.2.2.2.2.1, hk.1.1.2.2.2.2.2.2.2⟩⟩⟩⟩⟩⟩⟩⟩⟩)), (rm HO495 (fun _ hk => ⟨hk.1.1.2, ⟨hk.1.2, ⟨hk.2, ⟨hk.1.1.1.1.1.1.1.1.1, ⟨hk.1.1.1.1.1.1.1.1.2, ⟨hk.1.1.1.1.1.1.1.2, ⟨hk.1.1.1.1.1.1.2, ⟨hk.1.1.1.1.1.2, ⟨hk.1.1.1.1.2, hk.1.1.1.2⟩⟩⟩⟩⟩⟩⟩⟩⟩)), (rm HO499 (fun _ hk => ⟨hk.1.1.2, ⟨hk.1.2, ⟨hk.2, ⟨hk.1.1.1.1.1.1.1.1.1, ⟨hk.1.1.1.1.1.1.1.1.2, ⟨hk.1.1.1.1.1.1.1.2, ⟨hk.1.1.1.1.1.1.2, ⟨hk.1.1.1.1.1.2, ⟨hk.1.1.1.1.2, hk.1.1.1.2⟩⟩⟩⟩⟩⟩⟩⟩⟩)), (rm HO_424000 (fun _ hk => ⟨hk.1.1.1, ⟨hk.1.1.2.1, ⟨hk.1.1.2.2.1, ⟨hk.1.2, ⟨hk.2, ⟨hk.1.1.2.2.2.1, ⟨hk.1.1.2.2.2.2.1, ⟨hk.1.1.2.2.2.2.2.1, ⟨hk.1.1.2.2.2.2.2.2.1, hk.1.1.2.2.2.2.2.2.2⟩⟩⟩⟩⟩⟩⟩⟩⟩)), (rm HO_424002 (fun _ hk => ⟨hk.1.1.1, ⟨hk.1.1.2.1, ⟨hk.1.1.2.2.1, ⟨hk.1.2, ⟨hk.2, ⟨hk.1.1.2.2.2.1, ⟨hk.1.1.2.2.2.2.1, ⟨hk.1.1.2.2.2.2.2.1, ⟨hk.1.1.2.2.2.2.2.2.1, hk.1.1.2.2.2.2.2.2.2⟩⟩⟩⟩⟩⟩⟩⟩⟩)), (rm HO_436000 (fun _ hk => ⟨hk.1.1.1, ⟨hk.1.1.2.1, ⟨hk.1.1.2.2.1, ⟨hk.1.2, ⟨hk.2, ⟨hk.1.1.2.2.2.1, ⟨hk.1.1.2.2.2.2.1, ⟨hk.1.1.2.2.2.2.2.1, ⟨hk.1.1.2.2.2.2.2.2.1, hk.1.1.2.2.2.2.2.2.2⟩⟩⟩⟩⟩⟩⟩⟩⟩)), (rm HO_436002 (fun _ hk => ⟨hk.1.1.1, ⟨hk.1.1.2.1, ⟨hk.1.1.2.2.1, ⟨hk.1.2, ⟨hk.2, ⟨hk.1.1.2.2.2.1, ⟨hk.1.1.2.2.2.2.1, ⟨hk.1.1.2.2.2.2.2.1, ⟨hk.1.1.2.2.2.2.2.2.1, hk.1.1.2.2.2.2.2.2.2⟩⟩⟩⟩⟩⟩⟩⟩⟩)), (rm HO_449000 (fun _ hk => ⟨hk.1.1.1, ⟨hk.1.1.2.1, ⟨hk.1.1.2.2.1, ⟨hk.1.2, ⟨hk.2, ⟨hk.1.1.2.2.2.1, ⟨hk.1.1.2.2.2.2.1, ⟨hk.1.1.2.2.2.2.2.1, ⟨hk.1.1.2.2.2.2.2.2.1, hk.1.1.2.2.2.2.2.2.2⟩⟩⟩⟩⟩⟩⟩⟩⟩)), (rm HO_449002 (fun _ hk => ⟨hk.1.1.1, ⟨hk.1.1.2.1, ⟨hk.1.1.2.2.1, ⟨hk.1.2, ⟨hk.2, ⟨hk.1.1.2.2.2.1, ⟨hk.1.1.2.2.2.2.1, ⟨hk.1.1.2.2.2.2.2.1, ⟨hk.1.1.2.2.2.2.2.2.1, hk.1.1.2.2.2.2.2.2.2⟩⟩⟩⟩⟩⟩⟩⟩⟩)), (bK BK397), (bK BK423), (bK BK435), (bK BK448), bG⟩)
         ·
          skip
          refine box_step ?hg (N := 18) ?hd (cs := #[.slice none 0 0, .int .i64 0, .slice none 0 0, .int .i64 0]) (t := 57) ?hr ?_; (case hd => rfl); (case hg => rfl); (case hr => first | (go_simp; done) | (go_simp; rfl))
          intro gb502 hg w155 hbox hb
          replace HO_424000 := rb HO_424000 hb
          replace HO_424002 := rb HO_424002 hb
          replace HO_436000 := rb HO_436000 hb
          replace HO_436002 := rb HO_436002 hb
          replace HO_449000 := rb HO_449000 hb
          replace HO_449002 := rb HO_449002 hb
          replace HO481 := rb HO481 hb
          replace HO484 := rb HO484 hb
          replace HO488 := rb HO488 hb
          replace HO492 := rb HO492 hb
          have BK502 := Aside0.mk (hbox)
          have GW502 := gw w hg
          have GE502 := gw w hg
          replace HB := bs HB hb
          have NB397_502 := nl BK397 hg
          have NB502_397 := nr BK397 hg
          replace BK397 := kb BK397 hb
          have NB423_502 := nl BK423 hg
          have NB502_423 := nr BK423 hg
          replace BK423 := kb BK423 hb
          have NB435_502 := nl BK435 hg
          have NB502_435 := nr BK435 hg
          replace BK435 := kb BK435 hb
          have NB448_502 := nl BK448 hg
          have NB502_448 := nr BK448 hg
          replace BK448 := kb BK448 hb
          clear hb hbox hg
          refine hK.out _ _ (cn4 BK397) (fun hHeld => ?_)
          clear hK K
          refine nB ?_
          exact nM (hJ1_3_5_10 ((.slice Ao155 t479.length co155), (.slice Ao156 t482.length co156), (.slice Ao157 t486.length co157), (.slice Ao158 t490.length co158), gb502) _ ⟨hHeld, (rK HO481), (rK HO484), (rK HO488), (rK HO492), (rK HO_424000), (rK HO_424002), (rK HO_436000), (rK HO_436002), (rK HO_449000), (rK HO_449002), (bK BK397), (bK BK423), (bK BK435), (bK BK448), (bK BK502), GW502.out, GE502.out, NB397_502.out, NB502_397.out, NB423_502.out, NB502_423.out, NB435_502.out, NB502_435.out, NB448_502.out, NB502_448.out, bG⟩)
       ·
        skip
        clear HO_424000 HO_424002 HO_436000 HO_436002 HO_449000 HO_449002 BK397 BK423 BK435 BK448 HB
        rintro ⟨v480, v483, v487, v491, gb502⟩ w155 ⟨hHeld, h0_, h1_, h2_, h3_, h4_, h5_, h6_, h7_, h8_, h9_, h10_, h11_, h12_, h13_, h14_, h15_, h16_, h17_, h18_, h19_, h20_, h21_, h22_, h23_, h24_, h25_⟩
        try dsimp only at hHeld h0_ h1_ h2_ h3_ h4_ h5_ h6_ h7_ h8_ h9_ h10_ h11_ h12_ h13_ h14_ h15_ h16_ h17_ h18_ h19_ h20_ h21_ h22_ h23_ h24_ h25_
        have HO481 := Aside0.mk h0_
        have HO484 := Aside0.mk h1_
        have HO488 := Aside0.mk h2_
        have HO492 := Aside0.mk h3_
        have HO_424000 := Aside0.mk h4_
        have HO_424002 := Aside0.mk h5_
        have HO_436000 := Aside0.mk h6_
        have HO_436002 := Aside0.mk h7_
        have HO_449000 := Aside0.mk h8_
        have HO_449002 := Aside0.mk h9_
        have BK397 := Aside0.mk h10_
        have BK423 := Aside0.mk h11_
        have BK435 := Aside0.mk h12_
        have BK448 := Aside0.mk h13_
        have BK502 := Aside0.mk h14_
        have GW502 := Aside0.mk h15_
        have GE502 := Aside0.mk h16_
        have NB397_502 := Aside0.mk h17_
        have NB502_397 := Aside0.mk h18_
        have NB423_502 := Aside0.mk h19_
        have NB502_423 := Aside0.mk h20_
        have NB435_502 := Aside0.mk h21_
        have NB502_435 := Aside0.mk h22_
        have NB448_502 := Aside0.mk h23_
        have NB502_448 := Aside0.mk h24_
        have HB := Aside0.mk h25_
        clear h0_ h1_ h2_ h3_ h4_ h5_ h6_ h7_ h8_ h9_ h10_ h11_ h12_ h13_ h14_ h15_ h16_ h17_ h18_ h19_ h20_ h21_ h22_ h23_ h24_ h25_
        obtain ⟨Ao156, co156, eo156⟩ := Kd.R_slice HO481.out
        (first | subst eo156 | (injection eo156 with f1_ f2_ f3_; have f4_ := f1_.symm; have f5_ := f3_.symm; clear f1_ f2_ f3_; subst f4_; subst f5_))
        obtain ⟨Ao157, co157, eo157⟩ := Kd.R_slice HO484.out
        (first | subst eo157 | (injection eo157 with f1_ f2_ f3_; have f4_ := f1_.symm; have f5_ := f3_.symm; clear f1_ f2_ f3_; subst f4_; subst f5_))
        obtain ⟨Ao158, co158, eo158⟩ := Kd.R_slice HO488.out
        (first | subst eo158 | (injection eo158 with f1_ f2_ f3_; have f4_ := f1_.symm; have f5_ := f3_.symm; clear f1_ f2_ f3_; subst f4_; subst f5_))
        obtain ⟨Ao159, co159, eo159⟩ := Kd.R_slice HO492.out
        (first | subst eo159 | (injection eo159 with f1_ f2_ f3_; have f4_ := f1_.symm; have f5_ := f3_.symm; clear f1_ f2_ f3_; subst f4_; subst f5_))
        refine norm_ (a' := ?_) ?_ ?_
        rotate_left
        ·
         simp only [putAll, Act.put, List.setIfInBounds_toArray, List.set_cons_zero, List.set_cons_succ]
         rfl
        refine oa 6 120 (mb 13 1151) HT_ (fun K hK => ?_)
        refine gA Try.func42 #[.slice Ao156 t479.length co156, .agg #[.slice Ao157 t482.length co157, .int .i64 t485, .slice Ao158 t486.length co158, .int .i64 t489], .slice Ao159 t490.length co159] ?_
        with_reducible refine (impl_AskStage.calls kj95 _ _ t479 _ _ t482 t485 _ _ t486 t489 _ _ t490 t493 t496 t497 t500 t501 _ ?side1 ?side2 ?side3 ?side4 ?side5 ?side6 ?side7 ?side8 A141.out).mono ?_
        (case side1 => exact cO ⟨(Kd.R_reads' HO481.out).2.2⟩)
        (case side2 => exact (Kd.R_reads' HO481.out).2.1)
        (case side3 => exact cO ⟨(Kd.R_reads' HO484.out).2.2⟩)
        (case side4 => exact (Kd.R_reads' HO484.out).2.1)
        (case side5 => exact cO ⟨(Kd.R_reads' HO488.out).2.2⟩)
        (case side6 => exact (Kd.R_reads' HO488.out).2.1)
        (case side7 => exact cO ⟨(Kd.R_reads' HO492.out).2.2⟩)
        (case side8 => exact (Kd.R_reads' HO492.out).2.1)
        rintro e w160 ⟨v494, v498, rfl, ho0, ho1, hb⟩
        refine ⟨_, rfl, ?_⟩
        replace HO481 := rb HO481 hb
        have HO495 := rl w (rn (rn (rn (rn (rn (rn (rn (rn (rn ho0 HO_424000) HO_424002) HO_436000) HO_436002) HO_449000) HO_449002) HO484) HO488) HO492)
        have HO499 := rl w (rn (rn (rn (rn (rn (rn (rn (rn (rn ho1 HO_424000) HO_424002) HO_436000) HO_436002) HO_449000) HO_449002) HO484) HO488) HO492)
        replace HO_424000 := rt2 HO_424000 hb ho0 ho1
        replace HO_424002 := rt2 HO_424002 hb ho0 ho1
        replace HO_436000 := rt2 HO_436000 hb ho0 ho1
        replace HO_436002 := rt2 HO_436002 hb ho0 ho1
        replace HO_449000 := rt2 HO_449000 hb ho0 ho1
        replace HO_449002 := rt2 HO_449002 hb ho0 ho1
        replace HO484 := rt2 HO484 hb ho0 ho1
        replace HO488 := rt2 HO488 hb ho0 ho1
        replace HO492 := rt2 HO492 hb ho0 ho1
        replace BK397 := kb BK397 hb
        replace BK423 := kb BK423 hb
        replace BK435 := kb BK435 hb
        replace BK448 := kb BK448 hb
        replace BK502 := kb BK502 hb
        replace HB := bs HB hb
        (try clear hb)
        (try clear hb2)
        (try clear hk)
        (try clear hi)
        (try clear ho0)
        (try clear ho1)
        refine hK.out _ _ (cn4 BK397) (fun hHeld => ?_)
        clear hK K
        refine nB ?_
        refine pa 7 113 (mb 13 1279) HT_ ?_
        refine pa 8 121 (mb 13 1535) HT_ ?_
        refine pa 9 122 (mb 13 2047) HT_ ?_
        exact nM (hJ1_3_5_6_10 (.slice Ao156 t479.length co156, .slice Ao157 t482.length co157, .slice Ao158 t486.length co158, .slice Ao159 t490.length co159, v494, v498, gb502) _ ⟨hHeld, (rK HO481), (rm HO484 (fun _ hk => ⟨hk.1.1.1, ⟨hk.1.1.2.1, ⟨hk.1.2, ⟨hk.2, ⟨hk.1.1.2.2.1, ⟨hk.1.1.2.2.2.1, ⟨hk.1.1.2.2.2.2.1, ⟨hk.1.1.2.2.2.2.2.1, ⟨hk.1.1.2.2.2.2.2.2.1, hk.1.1.2.2.2.2.2.2.2⟩⟩⟩⟩⟩⟩⟩⟩⟩)), (rm HO488 (fun _ hk => ⟨hk.1.1.1, ⟨hk.1.1.2.1, ⟨hk.1.2, ⟨hk.2, ⟨hk.1.1.2.2.1, ⟨hk.1.1.2.2.2.1, ⟨hk.1.1.2.2.2.2.1, ⟨hk.1.1.2.2.2.2.2.1, ⟨hk.1.1.2.2.2.2.2.2.1, hk.1.1.2.2.2.2.2.2.2⟩⟩⟩⟩⟩⟩⟩⟩⟩)), (rm HO492 (fun _ hk => ⟨hk.1.1.1, ⟨hk.1.1.2.1, ⟨hk.1.2, ⟨hk.2, ⟨hk.1.1.2.2.1, ⟨hk.1.1.2.2.2.1, ⟨hk.1.1.2.2.2.2.1, ⟨hk.1.1.2.2.2.2.2.1, ⟨hk.1.1.2.2.2.2.2.2.1, hk.1.1.2.2.2.2.2.2.2⟩⟩⟩⟩⟩⟩⟩⟩⟩)), (rm HO495 (fun _ hk => ⟨hk.1.1.2, ⟨hk.1.2, ⟨hk.2, ⟨hk.1.1.1.1.1.1.1.1.1, ⟨hk.1.1.1.1.1.1.1.1.2, ⟨hk.1.1.1.1.1.1.1.2, ⟨hk.1.1.1.1.1.1.2, ⟨hk.1.1.1.1.1.2, ⟨hk.1.1.1.1.2, hk.1.1.1.2⟩⟩⟩⟩⟩⟩⟩⟩⟩)), (rm HO499 (fun _ hk => ⟨hk.1.1.2, ⟨hk.1.2, ⟨hk.2, ⟨hk.1.1.1.1.1.1.1.1.1, ⟨hk.1.1.1.1.1.1.1.1.2, ⟨hk.1.1.1.1.1.1.1.2, ⟨hk.1.1.1.1.1.1.2, ⟨hk.1.1.1.1.1.2, ⟨hk.1.1.1.1.2, hk.1.1.1.2⟩⟩⟩⟩⟩⟩⟩⟩⟩)), (rm HO_424000 (fun _ hk => ⟨hk.1.1.1, ⟨hk.1.1.2.1, ⟨hk.1.1.2.2.1, ⟨hk.1.2, ⟨hk.2, ⟨hk.1.1.2.2.2.1, ⟨hk.1.1.2.2.2.2.1, ⟨hk.1.1.2.2.2.2.2.1, ⟨hk.1.1.2.2.2.2.2.2.1, hk.1.1.2.2.2.2.2.2.2⟩⟩⟩⟩⟩⟩⟩⟩⟩)), (rm HO_424002 (fun _ hk => ⟨hk.1.1.1, ⟨hk.1.1.2.1, ⟨hk.1.1.2.2.1, ⟨hk.1.2, ⟨hk.2, ⟨hk.1.1.2.2.2.1, ⟨hk.1.1.2.2.2.2.1, ⟨hk.1.1.2.2.2.2.2.1, ⟨hk.1.1.2.2.2.2.2.2.1, hk.1.1.2.2.2.2.2.2.2⟩⟩⟩⟩⟩⟩⟩⟩⟩)), (rm HO_436000 (fun _ hk => ⟨hk.1.1.1, ⟨hk.1.1.2.1, ⟨hk.1.1.2.2.1, ⟨hk.1.2, ⟨hk.2, ⟨hk.1.1.2.2.2.1, ⟨hk.1.1.2.2.2.2.1, ⟨hk.1.1.2.2.2.2.2.1, ⟨hk.1.1.2.2.2.2.2.2.1, hk.1.1.2.2.2.2.2.2.2⟩⟩⟩⟩⟩⟩⟩⟩⟩)), (rm HO_436002 (fun _ hk => ⟨hk.1.1.1, ⟨hk.1.1.2.1, ⟨hk.1.1.2.2.1, ⟨hk.1.2, ⟨hk.2, ⟨hk.1.1.2.2.2.1, ⟨hk.1.1.2.2.2.2.1, ⟨hk.1.1.2.2.2.2.2.1, ⟨hk.1.1.2.2.2.2.2.2.1, hk.1.1.2.2.2.2.2.2.2⟩⟩⟩⟩⟩⟩⟩⟩⟩)), (rm HO_449000 (fun _ hk => ⟨hk.1.1.1, ⟨hk.1.1.2.1, ⟨hk.1.1.2.2.1, ⟨hk.1.2, ⟨hk.2, ⟨hk.1.1.2.2.2.1, ⟨hk.1.1.2.2.2.2.1, ⟨hk.1.1.2.2.2.2.2.1, ⟨hk.1.1.2.2.2.2.2.2.1, hk.1.1.2.2.2.2.2.2.2⟩⟩⟩⟩⟩⟩⟩⟩⟩)), (rm HO_449002 (fun _ hk => ⟨hk.1.1.1, ⟨hk.1.1.2.1, ⟨hk.1.1.2.2.1, ⟨hk.1.2, ⟨hk.2, ⟨hk.1.1.2.2.2.1, ⟨hk.1.1.2.2.2.2.1, ⟨hk.1.1.2.2.2.2.2.1, ⟨hk.1.1.2.2.2.2.2.2.1, hk.1.1.2.2.2.2.2.2.2⟩⟩⟩⟩⟩⟩⟩⟩⟩)), (bK BK397), (bK BK423), (bK BK435), (bK BK448), (bK BK502), GW502.out, GE502.out, NB397_502.out, NB502_397.out, NB423_502.out, NB502_423.out, NB435_502.out, NB502_435.out, NB448_502.out, NB502_448.out, bG⟩)
      ·
       skip
       clear HO_424000 HO_424002 HO_436000 HO_436002 HO_449000 HO_449002 BK397 BK423 BK435 BK448 HB
       rintro ⟨v480, v483, v487, v491, v494, v498⟩ w159 ⟨hHeld, h0_, h1_, h2_, h3_, h4_, h5_, h6_, h7_, h8_, h9_, h10_, h11_, h12_, h13_, h14_, h15_, h16_⟩
       try dsimp only at hHeld h0_ h1_ h2_ h3_ h4_ h5_ h6_ h7_ h8_ h9_ h10_ h11_ h12_ h13_ h14_ h15_ h16_
       obtain ⟨HO481, HO484, HO488, HO492, HO495, HO499, HO_424000, HO_424002, HO_436000, HO_436002, HO_449000, HO_449002, BK397, BK423, BK435, BK448, HB⟩ := as17 h0_ h1_ h2_ h3_ h4_ h5_ h6_ h7_ h8_ h9_ h10_ h11_ h12_ h13_ h14_ h15_ h16_
       clear h0_ h1_ h2_ h3_ h4_ h5_ h6_ h7_ h8_ h9_ h10_ h11_ h12_ h13_ h14_ h15_ h16_
       refine norm_ (a' := ?_) ?_ ?_
       rotate_left
       ·
        simp only [putAll, Act.put, List.setIfInBounds_toArray, List.set_cons_zero, List.set_cons_succ]
        rfl
       refine oa 10 18 (mb 13 2047) HT_ (fun K hK => ?_)
       refine box_step ?hg (N := 18) ?hd (cs := #[.slice none 0 0, .int .i64 0, .slice none 0 0, .int .i64 0]) (t := 57) ?hr ?_; (case hd => rfl); (case hg => rfl); (case hr => first | (go_simp; done) | (go_simp; rfl))
       intro gb502 hg w160 hbox hb
       replace HO_424000 := rb HO_424000 hb
       replace HO_424002 := rb HO_424002 hb
       replace HO_436000 := rb HO_436000 hb
       replace HO_436002 := rb HO_436002 hb
       replace HO_449000 := rb HO_449000 hb
       replace HO_449002 := rb HO_449002 hb
       replace HO481 := rb HO481 hb
       replace HO484 := rb HO484 hb
       replace HO488 := rb HO488 hb
       replace HO492 := rb HO492 hb
       replace HO495 := rb HO495 hb
       replace HO499 := rb HO499 hb
       have BK502 := Aside0.mk (hbox)
       have GW502 := gw w hg
       have GE502 := gw w hg
       replace HB := bs HB hb
       have NB397_502 := nl BK397 hg
       have NB502_397 := nr BK397 hg
       replace BK397 := kb BK397 hb
       have NB423_502 := nl BK423 hg
       have NB502_423 := nr BK423 hg
       replace BK423 := kb BK423 hb
       have NB435_502 := nl BK435 hg
       have NB502_435 := nr BK435 hg
       replace BK435 := kb BK435 hb
       have NB448_502 := nl BK448 hg
       have NB502_448 := nr BK448 hg
       replace BK448 := kb BK448 hb
       clear hb hbox hg
       refine hK.out _ _ (cn4 BK397) (fun hHeld => ?_)
       clear hK K
       refine nB ?_
       exact nM (hJ1_3_5_6_10 (v480, v483, v487, v491, v494, v498, gb502) _ ⟨hHeld, (rK HO481), (rK HO484), (rK HO488), (rK HO492), (rK HO495), (rK HO499), (rK HO_424000), (rK HO_424002), (rK HO_436000), (rK HO_436002), (rK HO_449000), (rK HO_449002), (bK BK397), (bK BK423), (bK BK435), (bK BK448), (bK BK502), GW502.out, GE502.out, NB397_502.out, NB502_397.out, NB423_502.out, NB502_423.out, NB435_502.out, NB502_435.out, NB448_502.out, NB502_448.out, bG⟩)
     clear HO_424000 HO_424002 HO_436000 HO_436002 HO_449000 HO_449002 BK397 BK423 BK435 BK448 HB
     rintro ⟨v480, v483, v487, v491, v494, v498, gb502⟩ w160 ⟨hHeld, h0_, h1_, h2_, h3_, h4_, h5_, h6_, h7_, h8_, h9_, h10_, h11_, h12_, h13_, h14_, h15_, h16_, h17_, h18_, h19_, h20_, h21_, h22_, h23_, h24_, h25_, h26_, h27_⟩
     try dsimp only at hHeld h0_ h1_ h2_ h3_ h4_ h5_ h6_ h7_ h8_ h9_ h10_ h11_ h12_ h13_ h14_ h15_ h16_ h17_ h18_ h19_ h20_ h21_ h22_ h23_ h24_ h25_ h26_ h27_
     have HO481 := Aside0.mk h0_
     have HO484 := Aside0.mk h1_
     have HO488 := Aside0.mk h2_
     have HO492 := Aside0.mk h3_
     have HO495 := Aside0.mk h4_
     have HO499 := Aside0.mk h5_
     have HO_424000 := Aside0.mk h6_
     have HO_424002 := Aside0.mk h7_
     have HO_436000 := Aside0.mk h8_
     have HO_436002 := Aside0.mk h9_
     have HO_449000 := Aside0.mk h10_
     have HO_449002 := Aside0.mk h11_
     have BK397 := Aside0.mk h12_
     have BK423 := Aside0.mk h13_
     have BK435 := Aside0.mk h14_
     have BK448 := Aside0.mk h15_
     have BK502 := Aside0.mk h16_
     have GW502 := Aside0.mk h17_
     have GE502 := Aside0.mk h18_
     have NB397_502 := Aside0.mk h19_
     have NB502_397 := Aside0.mk h20_
     have NB423_502 := Aside0.mk h21_
     have NB502_423 := Aside0.mk h22_
     have NB435_502 := Aside0.mk h23_
     have NB502_435 := Aside0.mk h24_
     have NB448_502 := Aside0.mk h25_
     have NB502_448 := Aside0.mk h26_
     have HB := Aside0.mk h27_
     clear h0_ h1_ h2_ h3_ h4_ h5_ h6_ h7_ h8_ h9_ h10_ h11_ h12_ h13_ h14_ h15_ h16_ h17_ h18_ h19_ h20_ h21_ h22_ h23_ h24_ h25_ h26_ h27_
     obtain ⟨Ao161, co161, eo161⟩ := Kd.R_slice HO495.out
     (first | subst eo161 | (injection eo161 with f1_ f2_ f3_; have f4_ := f1_.symm; have f5_ := f3_.symm; clear f1_ f2_ f3_; subst f4_; subst f5_))
     obtain ⟨Ao164, co164, eo164⟩ := Kd.R_slice HO499.out
     (first | subst eo164 | (injection eo164 with f1_ f2_ f3_; have f4_ := f1_.symm; have f5_ := f3_.symm; clear f1_ f2_ f3_; subst f4_; subst f5_))
     refine norm_ (a' := ?_) ?_ ?_
     rotate_left
     ·
      simp only [putAll, Act.put, List.setIfInBounds_toArray, List.set_cons_zero, List.set_cons_succ]
      rfl
     refine oA (i := 11) (N := none) (mb 13 4095) HT_ (fun K hK => ?_)
     have hs162 : w160.cell? ⟨gb502, 0, none⟩ = some (.slice none 0 0) := bC BK502 0
     have hfs162 := blk_frozen BK502.out 0
     have hns162_0 := NB397_502.out
     have hns162_1 := NB423_502.out
     have hns162_2 := NB435_502.out
     have hns162_3 := NB448_502.out
     have hms162_0 := NB502_397.out
     have hms162_1 := NB502_423.out
     have hms162_2 := NB502_435.out
     have hms162_3 := NB502_448.out
     have hs163 : w160.cell? ⟨gb502, 1, none⟩ = some (.int .i64 0) := bC BK502 1
     have hfs163 := blk_frozen BK502.out 1
     have hns163_0 := NB397_502.out
     have hns163_1 := NB423_502.out
     have hns163_2 := NB435_502.out
     have hns163_3 := NB448_502.out
     have hms163_0 := NB502_397.out
     have hms163_1 := NB502_423.out
     have hms163_2 := NB502_435.out
     have hms163_3 := NB502_448.out
     have hs165 : w160.cell? ⟨gb502, 2, none⟩ = some (.slice none 0 0) := bC BK502 2
     have hfs165 := blk_frozen BK502.out 2
     have hns165_0 := NB397_502.out
     have hns165_1 := NB423_502.out
     have hns165_2 := NB435_502.out
     have hns165_3 := NB448_502.out
     have hms165_0 := NB502_397.out
     have hms165_1 := NB502_423.out
     have hms165_2 := NB502_435.out
     have hms165_3 := NB502_448.out
     have hs166 : w160.cell? ⟨gb502, 3, none⟩ = some (.int .i64 0) := bC BK502 3
     have hfs166 := blk_frozen BK502.out 3
     have hns166_0 := NB397_502.out
     have hns166_1 := NB423_502.out
     have hns166_2 := NB435_502.out
     have hns166_3 := NB448_502.out
     have hms166_0 := NB502_397.out
     have hms166_1 := NB502_423.out
     have hms166_2 := NB502_435.out
     have hms166_3 := NB502_448.out
     refine skip_ (w1 := ?_) (by rfl) rfl ?_ ?_
     rotate_left
     ·
      go_simp
      rfl
     refine hK.out _ _ ⟨((cell_far (p := ⟨gb502, _, none⟩) NB397_502.out _).trans (((cell_far (p := ⟨gb502, _, none⟩) NB397_502.out _).trans (((cell_far (p := ⟨gb502, _, none⟩) NB397_502.out _).trans (((cell_far (p := ⟨gb502, _, none⟩) NB397_502.out _).trans (hHeld.1)))))))), ((cell_far (p := ⟨gb502, _, none⟩) NB397_502.out _).trans (((cell_far (p := ⟨gb502, _, none⟩) NB397_502.out _).trans (((cell_far (p := ⟨gb502, _, none⟩) NB397_502.out _).trans (((cell_far (p := ⟨gb502, _, none⟩) NB397_502.out _).trans (hHeld.2.1)))))))), ((cell_far (p := ⟨gb502, _, none⟩) NB397_502.out _).trans (((cell_far (p := ⟨gb502, _, none⟩) NB397_502.out _).trans (((cell_far (p := ⟨gb502, _, none⟩) NB397_502.out _).trans (((cell_far (p := ⟨gb502, _, none⟩) NB397_502.out _).trans (hHeld.2.2.1)))))))), ((cell_far (p := ⟨gb502, _, none⟩) NB397_502.out _).trans (((cell_far (p := ⟨gb502, _, none⟩) NB397_502.out _).trans (((cell_far (p := ⟨gb502, _, none⟩) NB397_502.out _).trans (((cell_far (p := ⟨gb502, _, none⟩) NB397_502.out _).trans (hHeld.2.2.2))))))))⟩ (fun hHeld => ?_)
     clear hK K
     refine pa 12 19 (mb 13 8191) HT_ ?_
     refine eA HT_ ?_
     go_upto_region 38 with (fail)
     go_cut [131] (fun v131 wc => ∃ (kq : Nat) (x131_141 : Bool), v131 = .bool x131_141 ∧ Aside0 (laws_FnExactAskStage.j2 kq t475 x131_141 t476 t442 t477 t446 = some r) ∧ Aside0 (kq ≤ kj95) ∧ Aside0 (Kd.R (Kd.int .i64) 3 wc w.heap.size (n7 (.slice Ao40 t418.length co40) (.slice Ao48 t470.length co48) (.slice Ao52 t471.length co52) (.slice Ao59 t439.length co59) (.slice Ao64 t443.length co64) (.slice Ao161 t493.length co161) (.slice Ao164 t497.length co164)) (.slice Ao37 t414.length co37) t414) ∧ Aside0 (Kd.R (Kd.int .i64) 3 wc w.heap.size (n7 (.slice Ao37 t414.length co37) (.slice Ao48 t470.length co48) (.slice Ao52 t471.length co52) (.slice Ao59 t439.length co59) (.slice Ao64 t443.length co64) (.slice Ao161 t493.length co161) (.slice Ao164 t497.length co164)) (.slice Ao40 t418.length co40) t418) ∧ Aside0 (Kd.R (Kd.int .i64) 3 wc w.heap.size (n7 (.slice Ao37 t414.length co37) (.slice Ao40 t418.length co40) (.slice Ao52 t471.length co52) (.slice Ao59 t439.length co59) (.slice Ao64 t443.length co64) (.slice Ao161 t493.length co161) (.slice Ao164 t497.length co164)) (.slice Ao48 t470.length co48) t470) ∧ Aside0 (Kd.R (Kd.int .i64) 3 wc w.heap.size (n7 (.slice Ao37 t414.length co37) (.slice Ao40 t418.length co40) (.slice Ao48 t470.length co48) (.slice Ao59 t439.length co59) (.slice Ao64 t443.length co64) (.slice Ao161 t493.length co161) (.slice Ao164 t497.length co164)) (.slice Ao52 t471.length co52) t471) ∧ Aside0 (Kd.R (Kd.int .i64) 3 wc w.heap.size (n7 (.slice Ao37 t414.length co37) (.slice Ao40 t418.length co40) (.slice Ao48 t470.length co48) (.slice Ao52 t471.length co52) (.slice Ao64 t443.length co64) (.slice Ao161 t493.length co161) (.slice Ao164 t497.length co164)) (.slice Ao59 t439.length co59) t476) ∧ Aside0 (Kd.R (Kd.int .i64) 3 wc w.heap.size (n7 (.slice Ao37 t414.length co37) (.slice Ao40 t418.length co40) (.slice Ao48 t470.length co48) (.slice Ao52 t471.length co52) (.slice Ao59 t439.length co59) (.slice Ao161 t493.length co161) (.slice Ao164 t497.length co164)) (.slice Ao64 t443.length co64) t477) ∧ Aside0 (Kd.R (Kd.int .i64) 3 wc w.heap.size (n7 (.slice Ao37 t414.length co37) (.slice Ao40 t418.length co40) (.slice Ao48 t470.length co48) (.slice Ao52 t471.length co52) (.slice Ao59 t439.length co59) (.slice Ao64 t443.length co64) (.slice Ao164 t497.length co164)) (.slice Ao161 t493.length co161) t493) ∧ Aside0 (Kd.R (Kd.int .i64) 3 wc w.heap.size (n7 (.slice Ao37 t414.length co37) (.slice Ao40 t418.length co40) (.slice Ao48 t470.length co48) (.slice Ao52 t471.length co52) (.slice Ao59 t439.length co59) (.slice Ao64 t443.length co64) (.slice Ao161 t493.length co161)) (.slice Ao164 t497.length co164) t497) ∧ Aside0 (wc.heap[gb397]? = some (.cells #[(.slice A1_0 l1_0.length c1_0), .int .i64 a1_1, (.slice A1_2 l1_2.length c1_2), .int .i64 a1_3] 55 (0, 0))) ∧ Aside0 (wc.heap[gb423]? = some (.cells #[(.slice Ao37 t414.length co37), .int .i64 t417, (.slice Ao40 t418.length co40), .int .i64 t421] 57 (0, 0))) ∧ Aside0 (wc.heap[gb435]? = some (.cells #[(.slice Ao48 t470.length co48), .int .i64 t430, (.slice Ao52 t471.length co52), .int .i64 t434] 57 (0, 0))) ∧ Aside0 (wc.heap[gb448]? = some (.cells #[(.slice Ao59 t439.length co59), .int .i64 t442, (.slice Ao64 t443.length co64), .int .i64 t446] 57 (0, 0))) ∧ Aside0 (wc.heap[gb502]? = some (.cells #[(.slice Ao161 t493.length co161), .int .i64 t496, (.slice Ao164 t497.length co164), .int .i64 t500] 57 (0, 0))) ∧ Aside0 (Below w.heap.size w wc))
     case first =>
      have H := HC142.out
      clear HC142
      obtain ⟨t503, A167, H⟩ := bindE H
      try dsimp only at H
      by_cases c168 : t503 = true
      ·
       subst c168
       have H1 : (laws_FnExactAskStage.j2 kj95 t475 (t501 != t422) t476 t442 t477 t446) = some r := by rw [if_pos rfl] at H; exact H
       clear H
       have H := H1
       clear H1
       have H' := Aside0.mk H
       clear H
       have hnb169 := NB502_397.out
       have hnc169 := NB397_502.out
       have hnb170 := NB502_423.out
       have hnc170 := NB423_502.out
       have hnb171 := NB502_435.out
       have hnc171 := NB435_502.out
       have hnb172 := NB502_448.out
       have hnc172 := NB448_502.out
       obtain ⟨_, _, _, _, _, _, _, _⟩ := blkc4 BK502
       have hnb174 := NB423_397.out
       have hnc174 := NB397_423.out
       have hnb175 := NB423_435.out
       have hnc175 := NB435_423.out
       have hnb176 := NB423_448.out
       have hnc176 := NB448_423.out
       obtain ⟨_, _, _, _, _, _, _, _⟩ := blkc4 BK423
       go_wp2_with (first | ((with_reducible refine gate_callee (f := 43) rfl ?_); refine gL (some 125) Try.func43 #[.agg #[.slice Ao161 t493.length co161, .int .i64 t496, .slice Ao164 t497.length co164, .int .i64 t500], .agg #[.slice Ao37 t414.length co37, .int .i64 t417, .slice Ao40 t418.length co40, .int .i64 t421]] ?_; (with_reducible refine (laws_eqControl.calls kj95 _ _ t493 t496 _ _ t497 t500 _ _ t414 t417 _ _ t418 t421 true _ ?_ ?_ ?_ ?_ ?_ ?_ ?_ ?_ A167.out).mono ?_); (focus refine (Kd.R_reads' (e := 3) (base := w.heap.size) (ok := fun k_ => (some k_ ≠ (v483 : Value).ownBlock ∧ (some k_ ≠ (v487 : Value).ownBlock ∧ (some k_ ≠ (v491 : Value).ownBlock ∧ (some k_ ≠ (.slice Ao164 t497.length co164 : Value).ownBlock ∧ (some k_ ≠ (.slice Ao37 t414.length co37 : Value).ownBlock ∧ (some k_ ≠ (.slice Ao40 t418.length co40 : Value).ownBlock ∧ (some k_ ≠ (.slice Ao48 t470.length co48 : Value).ownBlock ∧ (some k_ ≠ (.slice Ao52 t471.length co52 : Value).ownBlock ∧ (some k_ ≠ (.slice Ao59 t439.length co59 : Value).ownBlock ∧ some k_ ≠ (.slice Ao64 t443.length co64 : Value).ownBlock)))))))))) (n := t493.length) (c := co161) ?_).2.2; exact (rf HO495 BK502)); exact (Kd.R_reads' HO495.out).2.1; (focus refine (Kd.R_reads' (e := 3) (base := w.heap.size) (ok := fun k_ => (some k_ ≠ (v483 : Value).ownBlock ∧ (some k_ ≠ (v487 : Value).ownBlock ∧ (some k_ ≠ (v491 : Value).ownBlock ∧ (some k_ ≠ (.slice Ao161 t493.length co161 : Value).ownBlock ∧ (some k_ ≠ (.slice Ao37 t414.length co37 : Value).ownBlock ∧ (some k_ ≠ (.slice Ao40 t418.length co40 : Value).ownBlock ∧ (some k_ ≠ (.slice Ao48 t470.length co48 : Value).ownBlock ∧ (some k_ ≠ (.slice Ao52 t471.length co52 : Value).ownBlock ∧ (some k_ ≠ (.slice Ao59 t439.length co59 : Value).ownBlock ∧ some k_ ≠ (.slice Ao64 t443.length co64 : Value).ownBlock)))))))))) (n := t497.length) (c := co164) ?_).2.2; exact (rf HO499 BK502)); exact (Kd.R_reads' HO499.out).2.1; (focus refine (Kd.R_reads' (e := 3) (base := w.heap.size) (ok := fun k_ => (some k_ ≠ (v483 : Value).ownBlock ∧ (some k_ ≠ (v487 : Value).ownBlock ∧ (some k_ ≠ (v491 : Value).ownBlock ∧ (some k_ ≠ (.slice Ao161 t493.length co161 : Value).ownBlock ∧ (some k_ ≠ (.slice Ao164 t497.length co164 : Value).ownBlock ∧ (some k_ ≠ (.slice Ao40 t418.length co40 : Value).ownBlock ∧ (some k_ ≠ (.slice Ao48 t470.length co48 : Value).ownBlock ∧ (some k_ ≠ (.slice Ao52 t471.length co52 : Value).ownBlock ∧ (some k_ ≠ (.slice Ao59 t439.length co59 : Value).ownBlock ∧ some k_ ≠ (.slice Ao64 t443.length co64 : Value).ownBlock)))))))))) (n := t414.length) (c := co37) ?_).2.2; exact (rf HO_424000 BK502)); exact (Kd.R_reads' HO_424000.out).2.1; (focus refine (Kd.R_reads' (e := 3) (base := w.heap.size) (ok := fun k_ => (some k_ ≠ (v483 : Value).ownBlock ∧ (some k_ ≠ (v487 : Value).ownBlock ∧ (some k_ ≠ (v491 : Value).ownBlock ∧ (some k_ ≠ (.slice Ao161 t493.length co161 : Value).ownBlock ∧ (some k_ ≠ (.slice Ao164 t497.length co164 : Value).ownBlock ∧ (some k_ ≠ (.slice Ao37 t414.length co37 : Value).ownBlock ∧ (some k_ ≠ (.slice Ao48 t470.length co48 : Value).ownBlock ∧ (some k_ ≠ (.slice Ao52 t471.length co52 : Value).ownBlock ∧ (some k_ ≠ (.slice Ao59 t439.length co59 : Value).ownBlock ∧ some k_ ≠ (.slice Ao64 t443.length co64 : Value).ownBlock)))))))))) (n := t418.length) (c := co40) ?_).2.2; exact (rf HO_424002 BK502)); exact (Kd.R_reads' HO_424002.out).2.1; rintro e w178 ⟨rfl, hb⟩; refine ⟨_, rfl, ?_⟩; replace HO_424000 := Aside0.mk (Kd.R_below (rf HO_424000 BK502) hb); replace HO_424002 := Aside0.mk (Kd.R_below (rf HO_424002 BK502) hb); replace HO_436000 := Aside0.mk (Kd.R_below (rf HO_436000 BK502) hb); replace HO_436002 := Aside0.mk (Kd.R_below (rf HO_436002 BK502) hb); replace HO_449000 := Aside0.mk (Kd.R_below (rf HO_449000 BK502) hb); replace HO_449002 := Aside0.mk (Kd.R_below (rf HO_449002 BK502) hb); replace HO481 := Aside0.mk (Kd.R_below (rf HO481 BK502) hb); replace HO484 := Aside0.mk (Kd.R_below (rf HO484 BK502) hb); replace HO488 := Aside0.mk (Kd.R_below (rf HO488 BK502) hb); replace HO492 := Aside0.mk (Kd.R_below (rf HO492 BK502) hb); replace HO495 := Aside0.mk (Kd.R_below (rf HO495 BK502) hb); replace HO499 := Aside0.mk (Kd.R_below (rf HO499 BK502) hb); replace BK397 := kc (kf BK397 NB397_502) hb; replace BK423 := kc (kf BK423 NB423_502) hb; replace BK435 := kc (kf BK435 NB435_502) hb; replace BK448 := kc (kf BK448 NB448_502) hb; replace BK502 := kc (o := .cells #[.slice Ao161 t493.length co161, .int .i64 t496, .slice Ao164 t497.length co164, .int .i64 t500] 57 (0, 0)) (kp BK502) hb; replace HB := bs HB hb; (try clear hb)))
       go_meet
       case rel => exact ⟨_, ((t501 != t422)), rS, H', ⟨by have := HJ21.out; have := HJ95.out; first | omega | exact Nat.le_refl _⟩, ⟨by (try simp only [hl436000_95]); (try simp only [hl436002_95]); (with_reducible repeat (first | apply Kd.R_alloc | apply Kd.R_drewN | apply Kd.R_drew)); exact Kd.R_mono HO_424000.out (fun _ hk => ⟨hk.2.2.2.2.2.1, ⟨hk.2.2.2.2.2.2.1, ⟨hk.2.2.2.2.2.2.2.1, ⟨hk.2.2.2.2.2.2.2.2.1, ⟨hk.2.2.2.2.2.2.2.2.2, ⟨hk.2.2.2.1, hk.2.2.2.2.1⟩⟩⟩⟩⟩⟩)⟩, ⟨by (try simp only [hl436000_95]); (try simp only [hl436002_95]); (with_reducible repeat (first | apply Kd.R_alloc | apply Kd.R_drewN | apply Kd.R_drew)); exact Kd.R_mono HO_424002.out (fun _ hk => ⟨hk.2.2.2.2.2.1, ⟨hk.2.2.2.2.2.2.1, ⟨hk.2.2.2.2.2.2.2.1, ⟨hk.2.2.2.2.2.2.2.2.1, ⟨hk.2.2.2.2.2.2.2.2.2, ⟨hk.2.2.2.1, hk.2.2.2.2.1⟩⟩⟩⟩⟩⟩)⟩, ⟨by (try simp only [hl436000_95]); (try simp only [hl436002_95]); (with_reducible repeat (first | apply Kd.R_alloc | apply Kd.R_drewN | apply Kd.R_drew)); exact Kd.R_mono HO_436000.out (fun _ hk => ⟨hk.2.2.2.2.2.1, ⟨hk.2.2.2.2.2.2.1, ⟨hk.2.2.2.2.2.2.2.1, ⟨hk.2.2.2.2.2.2.2.2.1, ⟨hk.2.2.2.2.2.2.2.2.2, ⟨hk.2.2.2.1, hk.2.2.2.2.1⟩⟩⟩⟩⟩⟩)⟩, ⟨by (try simp only [hl436000_95]); (try simp only [hl436002_95]); (with_reducible repeat (first | apply Kd.R_alloc | apply Kd.R_drewN | apply Kd.R_drew)); exact Kd.R_mono HO_436002.out (fun _ hk => ⟨hk.2.2.2.2.2.1, ⟨hk.2.2.2.2.2.2.1, ⟨hk.2.2.2.2.2.2.2.1, ⟨hk.2.2.2.2.2.2.2.2.1, ⟨hk.2.2.2.2.2.2.2.2.2, ⟨hk.2.2.2.1, hk.2.2.2.2.1⟩⟩⟩⟩⟩⟩)⟩, ⟨by (try simp only [hl436000_95]); (try simp only [hl436002_95]); (with_reducible repeat (first | apply Kd.R_alloc | apply Kd.R_drewN | apply Kd.R_drew)); exact Kd.R_mono HO_449000.out (fun _ hk => ⟨hk.2.2.2.2.2.1, ⟨hk.2.2.2.2.2.2.1, ⟨hk.2.2.2.2.2.2.2.1, ⟨hk.2.2.2.2.2.2.2.2.1, ⟨hk.2.2.2.2.2.2.2.2.2, ⟨hk.2.2.2.1, hk.2.2.2.2.1⟩⟩⟩⟩⟩⟩)⟩, ⟨by (try simp only [hl436000_95]); (try simp only [hl436002_95]); (with_reducible repeat (first | apply Kd.R_alloc | apply Kd.R_drewN | apply Kd.R_drew)); exact Kd.R_mono HO_449002.out (fun _ hk => ⟨hk.2.2.2.2.2.1, ⟨hk.2.2.2.2.2.2.1, ⟨hk.2.2.2.2.2.2.2.1, ⟨hk.2.2.2.2.2.2.2.2.1, ⟨hk.2.2.2.2.2.2.2.2.2, ⟨hk.2.2.2.1, hk.2.2.2.2.1⟩⟩⟩⟩⟩⟩)⟩, ⟨by (try simp only [hl436000_95]); (try simp only [hl436002_95]); (with_reducible repeat (first | apply Kd.R_alloc | apply Kd.R_drewN | apply Kd.R_drew)); exact Kd.R_mono HO495.out (fun _ hk => ⟨hk.2.2.2.2.1, ⟨hk.2.2.2.2.2.1, ⟨hk.2.2.2.2.2.2.1, ⟨hk.2.2.2.2.2.2.2.1, ⟨hk.2.2.2.2.2.2.2.2.1, ⟨hk.2.2.2.2.2.2.2.2.2, hk.2.2.2.1⟩⟩⟩⟩⟩⟩)⟩, ⟨by (try simp only [hl436000_95]); (try simp only [hl436002_95]); (with_reducible repeat (first | apply Kd.R_alloc | apply Kd.R_drewN | apply Kd.R_drew)); exact Kd.R_mono HO499.out (fun _ hk => ⟨hk.2.2.2.2.1, ⟨hk.2.2.2.2.2.1, ⟨hk.2.2.2.2.2.2.1, ⟨hk.2.2.2.2.2.2.2.1, ⟨hk.2.2.2.2.2.2.2.2.1, ⟨hk.2.2.2.2.2.2.2.2.2, hk.2.2.2.1⟩⟩⟩⟩⟩⟩)⟩, ⟨by (try simp only [hl436000_95]); (try simp only [hl436002_95]); (with_reducible repeat (first | refine blk_drewN ?_ _ | refine blk_drew ?_ | refine blk_alloc ?_ _)); exact BK397.out⟩, ⟨by (try simp only [hl436000_95]); (try simp only [hl436002_95]); (with_reducible repeat (first | refine blk_drewN ?_ _ | refine blk_drew ?_ | refine blk_alloc ?_ _)); exact BK423.out⟩, ⟨by (try simp only [hl436000_95]); (try simp only [hl436002_95]); (with_reducible repeat (first | refine blk_drewN ?_ _ | refine blk_drew ?_ | refine blk_alloc ?_ _)); exact BK435.out⟩, ⟨by (try simp only [hl436000_95]); (try simp only [hl436002_95]); (with_reducible repeat (first | refine blk_drewN ?_ _ | refine blk_drew ?_ | refine blk_alloc ?_ _)); exact BK448.out⟩, ⟨by (try simp only [hl436000_95]); (try simp only [hl436002_95]); (with_reducible repeat (first | refine blk_drewN ?_ _ | refine blk_drew ?_ | refine blk_alloc ?_ _)); exact BK502.out⟩, ⟨bG⟩⟩
      replace c168 := Bool.eq_false_iff.mpr c168
      subst c168
      have H1 : (laws_FnExactAskStage.j2 kj95 t475 true t476 t442 t477 t446) = some r := by rw [if_neg (show ¬ (false = true) by decide)] at H; exact H
      clear H
      have H := H1
      clear H1
      have H' := Aside0.mk H
      clear H
      have hnb179 := NB502_397.out
      have hnc179 := NB397_502.out
      have hnb180 := NB502_423.out
      have hnc180 := NB423_502.out
      have hnb181 := NB502_435.out
      have hnc181 := NB435_502.out
      have hnb182 := NB502_448.out
      have hnc182 := NB448_502.out
      obtain ⟨_, _, _, _, _, _, _, _⟩ := blkc4 BK502
      have hnb184 := NB423_397.out
      have hnc184 := NB397_423.out
      have hnb185 := NB423_435.out
      have hnc185 := NB435_423.out
      have hnb186 := NB423_448.out
      have hnc186 := NB448_423.out
      obtain ⟨_, _, _, _, _, _, _, _⟩ := blkc4 BK423
      go_wp2_with (first | ((with_reducible refine gate_callee (f := 43) rfl ?_); refine gL (some 125) Try.func43 #[.agg #[.slice Ao161 t493.length co161, .int .i64 t496, .slice Ao164 t497.length co164, .int .i64 t500], .agg #[.slice Ao37 t414.length co37, .int .i64 t417, .slice Ao40 t418.length co40, .int .i64 t421]] ?_; (with_reducible refine (laws_eqControl.calls kj95 _ _ t493 t496 _ _ t497 t500 _ _ t414 t417 _ _ t418 t421 false _ ?_ ?_ ?_ ?_ ?_ ?_ ?_ ?_ A167.out).mono ?_); (focus refine (Kd.R_reads' (e := 3) (base := w.heap.size) (ok := fun k_ => (some k_ ≠ (v483 : Value).ownBlock ∧ (some k_ ≠ (v487 : Value).ownBlock ∧ (some k_ ≠ (v491 : Value).ownBlock ∧ (some k_ ≠ (.slice Ao164 t497.length co164 : Value).ownBlock ∧ (some k_ ≠ (.slice Ao37 t414.length co37 : Value).ownBlock ∧ (some k_ ≠ (.slice Ao40 t418.length co40 : Value).ownBlock ∧ (some k_ ≠ (.slice Ao48 t470.length co48 : Value).ownBlock ∧ (some k_ ≠ (.slice Ao52 t471.length co52 : Value).ownBlock ∧ (some k_ ≠ (.slice Ao59 t439.length co59 : Value).ownBlock ∧ some k_ ≠ (.slice Ao64 t443.length co64 : Value).ownBlock)))))))))) (n := t493.length) (c := co161) ?_).2.2; exact (rf HO495 BK502)); exact (Kd.R_reads' HO495.out).2.1; (focus refine (Kd.R_reads' (e := 3) (base := w.heap.size) (ok := fun k_ => (some k_ ≠ (v483 : Value).ownBlock ∧ (some k_ ≠ (v487 : Value).ownBlock ∧ (some k_ ≠ (v491 : Value).ownBlock ∧ (some k_ ≠ (.slice Ao161 t493.length co161 : Value).ownBlock ∧ (some k_ ≠ (.slice Ao37 t414.length co37 : Value).ownBlock ∧ (some k_ ≠ (.slice Ao40 t418.length co40 : Value).ownBlock ∧ (some k_ ≠ (.slice Ao48 t470.length co48 : Value).ownBlock ∧ (some k_ ≠ (.slice Ao52 t471.length co52 : Value).ownBlock ∧ (some k_ ≠ (.slice Ao59 t439.length co59 : Value).ownBlock ∧ some k_ ≠ (.slice Ao64 t443.length co64 : Value).ownBlock)))))))))) (n := t497.length) (c := co164) ?_).2.2; exact (rf HO499 BK502)); exact (Kd.R_reads' HO499.out).2.1; (focus refine (Kd.R_reads' (e := 3) (base := w.heap.size) (ok := fun k_ => (some k_ ≠ (v483 : Value).ownBlock ∧ (some k_ ≠ (v487 : Value).ownBlock ∧ (some k_ ≠ (v491 : Value).ownBlock ∧ (some k_ ≠ (.slice Ao161 t493.length co161 : Value).ownBlock ∧ (some k_ ≠ (.slice Ao164 t497.length co164 : Value).ownBlock ∧ (some k_ ≠ (.slice Ao40 t418.length co40 : Value).ownBlock ∧ (some k_ ≠ (.slice Ao48 t470.length co48 : Value).ownBlock ∧ (some k_ ≠ (.slice Ao52 t471.length co52 : Value).ownBlock ∧ (some k_ ≠ (.slice Ao59 t439.length co59 : Value).ownBlock ∧ some k_ ≠ (.slice Ao64 t443.length co64 : Value).ownBlock)))))))))) (n := t414.length) (c := co37) ?_).2.2; exact (rf HO_424000 BK502)); exact (Kd.R_reads' HO_424000.out).2.1; (focus refine (Kd.R_reads' (e := 3) (base := w.heap.size) (ok := fun k_ => (some k_ ≠ (v483 : Value).ownBlock ∧ (some k_ ≠ (v487 : Value).ownBlock ∧ (some k_ ≠ (v491 : Value).ownBlock ∧ (some k_ ≠ (.slice Ao161 t493.length co161 : Value).ownBlock ∧ (some k_ ≠ (.slice Ao164 t497.length co164 : Value).ownBlock ∧ (some k_ ≠ (.slice Ao37 t414.length co37 : Value).ownBlock ∧ (some k_ ≠ (.slice Ao48 t470.length co48 : Value).ownBlock ∧ (some k_ ≠ (.slice Ao52 t471.length co52 : Value).ownBlock ∧ (some k_ ≠ (.slice Ao59 t439.length co59 : Value).ownBlock ∧ some k_ ≠ (.slice Ao64 t443.length co64 : Value).ownBlock)))))))))) (n := t418.length) (c := co40) ?_).2.2; exact (rf HO_424002 BK502)); exact (Kd.R_reads' HO_424002.out).2.1; rintro e w188 ⟨rfl, hb⟩; refine ⟨_, rfl, ?_⟩; replace HO_424000 := Aside0.mk (Kd.R_below (rf HO_424000 BK502) hb); replace HO_424002 := Aside0.mk (Kd.R_below (rf HO_424002 BK502) hb); replace HO_436000 := Aside0.mk (Kd.R_below (rf HO_436000 BK502) hb); replace HO_436002 := Aside0.mk (Kd.R_below (rf HO_436002 BK502) hb); replace HO_449000 := Aside0.mk (Kd.R_below (rf HO_449000 BK502) hb); replace HO_449002 := Aside0.mk (Kd.R_below (rf HO_449002 BK502) hb); replace HO481 := Aside0.mk (Kd.R_below (rf HO481 BK502) hb); replace HO484 := Aside0.mk (Kd.R_below (rf HO484 BK502) hb); replace HO488 := Aside0.mk (Kd.R_below (rf HO488 BK502) hb); replace HO492 := Aside0.mk (Kd.R_below (rf HO492 BK502) hb); replace HO495 := Aside0.mk (Kd.R_below (rf HO495 BK502) hb); replace HO499 := Aside0.mk (Kd.R_below (rf HO499 BK502) hb); replace BK397 := kc (kf BK397 NB397_502) hb; replace BK423 := kc (kf BK423 NB423_502) hb; replace BK435 := kc (kf BK435 NB435_502) hb; replace BK448 := kc (kf BK448 NB448_502) hb; replace BK502 := kc (o := .cells #[.slice Ao161 t493.length co161, .int .i64 t496, .slice Ao164 t497.length co164, .int .i64 t500] 57 (0, 0)) (kp BK502) hb; replace HB := bs HB hb; (try clear hb)))
      go_meet
      case rel => exact ⟨_, (true), rS, H', ⟨by have := HJ21.out; have := HJ95.out; first | omega | exact Nat.le_refl _⟩, ⟨by (try simp only [hl436000_95]); (try simp only [hl436002_95]); (with_reducible repeat (first | apply Kd.R_alloc | apply Kd.R_drewN | apply Kd.R_drew)); exact Kd.R_mono HO_424000.out (fun _ hk => ⟨hk.2.2.2.2.2.1, ⟨hk.2.2.2.2.2.2.1, ⟨hk.2.2.2.2.2.2.2.1, ⟨hk.2.2.2.2.2.2.2.2.1, ⟨hk.2.2.2.2.2.2.2.2.2, ⟨hk.2.2.2.1, hk.2.2.2.2.1⟩⟩⟩⟩⟩⟩)⟩, ⟨by (try simp only [hl436000_95]); (try simp only [hl436002_95]); (with_reducible repeat (first | apply Kd.R_alloc | apply Kd.R_drewN | apply Kd.R_drew)); exact Kd.R_mono HO_424002.out (fun _ hk => ⟨hk.2.2.2.2.2.1, ⟨hk.2.2.2.2.2.2.1, ⟨hk.2.2.2.2.2.2.2.1, ⟨hk.2.2.2.2.2.2.2.2.1, ⟨hk.2.2.2.2.2.2.2.2.2, ⟨hk.2.2.2.1, hk.2.2.2.2.1⟩⟩⟩⟩⟩⟩)⟩, ⟨by (try simp only [hl436000_95]); (try simp only [hl436002_95]); (with_reducible repeat (first | apply Kd.R_alloc | apply Kd.R_drewN | apply Kd.R_drew)); exact Kd.R_mono HO_436000.out (fun _ hk => ⟨hk.2.2.2.2.2.1, ⟨hk.2.2.2.2.2.2.1, ⟨hk.2.2.2.2.2.2.2.1, ⟨hk.2.2.2.2.2.2.2.2.1, ⟨hk.2.2.2.2.2.2.2.2.2, ⟨hk.2.2.2.1, hk.2.2.2.2.1⟩⟩⟩⟩⟩⟩)⟩, ⟨by (try simp only [hl436000_95]); (try simp only [hl436002_95]); (with_reducible repeat (first | apply Kd.R_alloc | apply Kd.R_drewN | apply Kd.R_drew)); exact Kd.R_mono HO_436002.out (fun _ hk => ⟨hk.2.2.2.2.2.1, ⟨hk.2.2.2.2.2.2.1, ⟨hk.2.2.2.2.2.2.2.1, ⟨hk.2.2.2.2.2.2.2.2.1, ⟨hk.2.2.2.2.2.2.2.2.2, ⟨hk.2.2.2.1, hk.2.2.2.2.1⟩⟩⟩⟩⟩⟩)⟩, ⟨by (try simp only [hl436000_95]); (try simp only [hl436002_95]); (with_reducible repeat (first | apply Kd.R_alloc | apply Kd.R_drewN | apply Kd.R_drew)); exact Kd.R_mono HO_449000.out (fun _ hk => ⟨hk.2.2.2.2.2.1, ⟨hk.2.2.2.2.2.2.1, ⟨hk.2.2.2.2.2.2.2.1, ⟨hk.2.2.2.2.2.2.2.2.1, ⟨hk.2.2.2.2.2.2.2.2.2, ⟨hk.2.2.2.1, hk.2.2.2.2.1⟩⟩⟩⟩⟩⟩)⟩, ⟨by (try simp only [hl436000_95]); (try simp only [hl436002_95]); (with_reducible repeat (first | apply Kd.R_alloc | apply Kd.R_drewN | apply Kd.R_drew)); exact Kd.R_mono HO_449002.out (fun _ hk => ⟨hk.2.2.2.2.2.1, ⟨hk.2.2.2.2.2.2.1, ⟨hk.2.2.2.2.2.2.2.1, ⟨hk.2.2.2.2.2.2.2.2.1, ⟨hk.2.2.2.2.2.2.2.2.2, ⟨hk.2.2.2.1, hk.2.2.2.2.1⟩⟩⟩⟩⟩⟩)⟩, ⟨by (try simp only [hl436000_95]); (try simp only [hl436002_95]); (with_reducible repeat (first | apply Kd.R_alloc | apply Kd.R_drewN | apply Kd.R_drew)); exact Kd.R_mono HO495.out (fun _ hk => ⟨hk.2.2.2.2.1, ⟨hk.2.2.2.2.2.1, ⟨hk.2.2.2.2.2.2.1, ⟨hk.2.2.2.2.2.2.2.1, ⟨hk.2.2.2.2.2.2.2.2.1, ⟨hk.2.2.2.2.2.2.2.2.2, hk.2.2.2.1⟩⟩⟩⟩⟩⟩)⟩, ⟨by (try simp only [hl436000_95]); (try simp only [hl436002_95]); (with_reducible repeat (first | apply Kd.R_alloc | apply Kd.R_drewN | apply Kd.R_drew)); exact Kd.R_mono HO499.out (fun _ hk => ⟨hk.2.2.2.2.1, ⟨hk.2.2.2.2.2.1, ⟨hk.2.2.2.2.2.2.1, ⟨hk.2.2.2.2.2.2.2.1, ⟨hk.2.2.2.2.2.2.2.2.1, ⟨hk.2.2.2.2.2.2.2.2.2, hk.2.2.2.1⟩⟩⟩⟩⟩⟩)⟩, ⟨by (try simp only [hl436000_95]); (try simp only [hl436002_95]); (with_reducible repeat (first | refine blk_drewN ?_ _ | refine blk_drew ?_ | refine blk_alloc ?_ _)); exact BK397.out⟩, ⟨by (try simp only [hl436000_95]); (try simp only [hl436002_95]); (with_reducible repeat (first | refine blk_drewN ?_ _ | refine blk_drew ?_ | refine blk_alloc ?_ _)); exact BK423.out⟩, ⟨by (try simp only [hl436000_95]); (try simp only [hl436002_95]); (with_reducible repeat (first | refine blk_drewN ?_ _ | refine blk_drew ?_ | refine blk_alloc ?_ _)); exact BK435.out⟩, ⟨by (try simp only [hl436000_95]); (try simp only [hl436002_95]); (with_reducible repeat (first | refine blk_drewN ?_ _ | refine blk_drew ?_ | refine blk_alloc ?_ _)); exact BK448.out⟩, ⟨by (try simp only [hl436000_95]); (try simp only [hl436002_95]); (with_reducible repeat (first | refine blk_drewN ?_ _ | refine blk_drew ?_ | refine blk_alloc ?_ _)); exact BK502.out⟩, ⟨bG⟩⟩
     case rest =>
      clear HC142
      obtain ⟨kq, x131_141, rfl, HA, HJ141, HO_424000, HO_424002, HO_436000, HO_436002, HO_449000, HO_449002, HO_503000, HO_503002, BK397, BK423, BK435, BK448, BK502, HB⟩ := hcut
      have hl449000_141 := (Kd.R_reads' HO_449000.out).1
      rw [hl449000_141] at HO_449000
      (try simp only [hl449000_141])
      (try simp only [hl449000_141] at BK397)
      (try simp only [hl449000_141] at BK423)
      (try simp only [hl449000_141] at BK435)
      (try simp only [hl449000_141] at BK448)
      (try simp only [hl449000_141] at BK502)
      (try simp only [hl449000_141] at HO_424000)
      (try simp only [hl449000_141] at HO_424002)
      (try simp only [hl449000_141] at HO_436000)
      (try simp only [hl449000_141] at HO_436002)
      (try simp only [hl449000_141] at HO_449002)
      (try simp only [hl449000_141] at HO_503000)
      (try simp only [hl449000_141] at HO_503002)
      have hl449002_141 := (Kd.R_reads' HO_449002.out).1
      rw [hl449002_141] at HO_449002
      (try simp only [hl449002_141])
      (try simp only [hl449002_141] at BK397)
      (try simp only [hl449002_141] at BK423)
      (try simp only [hl449002_141] at BK435)
      (try simp only [hl449002_141] at BK448)
      (try simp only [hl449002_141] at BK502)
      (try simp only [hl449002_141] at HO_424000)
      (try simp only [hl449002_141] at HO_424002)
      (try simp only [hl449002_141] at HO_436000)
      (try simp only [hl449002_141] at HO_436002)
      (try simp only [hl449002_141] at HO_449000)
      (try simp only [hl449002_141] at HO_503000)
      (try simp only [hl449002_141] at HO_503002)
      cases kq with
      | zero => exact absurd HA.out (by simp [laws_FnExactAskStage.j2])
      | succ kj141 =>
       have H := HA.out
       clear HA
       simp only [laws_FnExactAskStage.j2] at H
       have c189 := ifN' H
       replace H := ifT' H
       replace c189 := Bool.eq_false_iff.mpr c189
       subst c189
       obtain ⟨t504, A190, H⟩ := bindE H
       try dsimp only at H
       have c191 : ¬ (t504 < 0) := ifN' H
       replace H := ifT' H
       have c191b0 := decide_eq_false c191
       clear c191
       have c192 : t504 = t475 := ifN H
       replace H := ifT H
       have c192b0 : (t504 == t475) = true := beq_iff_eq.mpr c192
       have c192b1 : (t504 != t475) = false := bne_eq_false_iff_eq.mpr c192
       clear c192
       obtain rfl := Option.some.inj H
       have hnb193 := NB448_397.out
       have hnc193 := NB397_448.out
       have hnb194 := NB448_423.out
       have hnc194 := NB423_448.out
       have hnb195 := NB448_435.out
       have hnc195 := NB435_448.out
       have hnb196 := NB448_502.out
       have hnc196 := NB502_448.out
       obtain ⟨_, _, _, _, _, _, _, _⟩ := blkc4 BK448
       go_wp2_with (first | ((with_reducible refine gate_callee (f := 45) rfl ?_); refine gL (some 134) Try.func45 #[.agg #[.slice Ao59 t476.length co59, .int .i64 t442, .slice Ao64 t477.length co64, .int .i64 t446], .int .i64 1] ?_; (with_reducible refine (laws_heldControl.calls kj141 _ _ t476 t442 _ _ t477 t446 1 t504 _ ?_ ?_ ?_ ?_ A190.out).mono ?_); exact cO ⟨(Kd.R_reads' HO_449000.out).2.2⟩; exact (Kd.R_reads' HO_449000.out).2.1; exact cO ⟨(Kd.R_reads' HO_449002.out).2.2⟩; exact (Kd.R_reads' HO_449002.out).2.1; rintro e w198 ⟨rfl, hb⟩; refine ⟨_, rfl, ?_⟩; replace HO_424000 := rb HO_424000 hb; replace HO_424002 := rb HO_424002 hb; replace HO_436000 := rb HO_436000 hb; replace HO_436002 := rb HO_436002 hb; replace HO_449000 := rb HO_449000 hb; replace HO_449002 := rb HO_449002 hb; replace HO_503000 := rb HO_503000 hb; replace HO_503002 := rb HO_503002 hb; replace BK397 := kb BK397 hb; replace BK423 := kb BK423 hb; replace BK435 := kb BK435 hb; replace BK448 := kb BK448 hb; replace BK502 := kb BK502 hb; replace HB := bs HB hb; (try clear hb)))
       go_ret
       exact ⟨rA, bG⟩

end Go.Proofs.Ytdkmmefmhfbgkaa.P
