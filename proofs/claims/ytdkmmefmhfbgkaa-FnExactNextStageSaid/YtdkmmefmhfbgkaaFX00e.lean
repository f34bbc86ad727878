/- Printed by myprint.py (wip/tools) over the kit's print: what Go's functions compute, and that they do. Lean checks it. -/
import Derived.Test.YtdkmmefmhfbgkaaF0
import Derived.Test.YtdkmmefmhfbgkaaFX00
import Derived.Test.YtdkmmefmhfbgkaaFX00c
import Derived.Test.YtdkmmefmhfbgkaaFX00d
namespace Go.Proofs.Ytdkmmefmhfbgkaa.P
open Go.RowKit Go.Proofs.YtdkmmefmhfbgkaaW.PrintWords Go.Proofs.YtdkmmefmhfbgkaaW.PrintLast Go.Proofs.YtdkmmefmhfbgkaaW.PrintMore Go.Proofs.Ytdkmmefmhfbgkaa.Sq
attribute [local go_sem] max2_int min2_int max_two min_two max_three min_three max_four min_four
set_option linter.unusedVariables false
set_option linter.unusedSimpArgs false

/-! ### laws_FnExactNextStage: function 8 -/
def laws_FnExactNextStage.j0 : Nat → List (S91) → List (S117) → List Int → List Int → Bool → List Int → Int → List Int → Int → Option (Bool)
 | 0, _, _, _, _, _, _, _, _, _ => none
 | k + 1, x0, x2, x8, x12, x84, x474000, x474001, x474002, x474003 => if x84 = true then (none) else ((laws_markIntS.f k x12 1).bind fun bt538 => ((laws_heldIntS.f k bt538.2 1).bind fun t540 => (if t540 < 0 then (none) else (if t540 = bt538.1 then ((laws_toPathS.f k x0).bind fun t541 => ((laws_toControl.f k x474000 x474001 x474002 x474003).bind fun bt544 => ((laws_toWantS.f k x2).bind fun t552 => ((impl_NextStage.f k t541 bt544.1 bt544.2.1 bt544.2.2.1 bt544.2.2.2 t552).bind fun t555 => ((laws_eqIntS.f k t555 x8).bind fun t558 => (if t558 = true then ((laws_heldIntS.f k bt538.2 1).bind fun t559 => (if t559 < 0 then (none) else (if t559 = bt538.1 then (some true) else (none)))) else (none))))))) else (none)))))
def laws_FnExactNextStage.f (k : Nat) (l0 : List (S91)) (l1_0 : List Int) (a1_1 : Int) (l1_2 : List Int) (a1_3 : Int) (l2 : List (S117)) : Option (Bool) := (laws_szPathS.f l0 1048576).bind fun t474 => (if t474 < 0 then (some true) else ((laws_szControl.f l1_0 a1_1 l1_2 a1_3 t474).bind fun t475 => (if t475 < 0 then (some true) else ((laws_szWantS.f l2 t475).bind fun t476 => (if t476 < 0 then (some true) else ((laws_toPathS.f k l0).bind fun t477 => ((laws_toControl.f k l1_0 a1_1 l1_2 a1_3).bind fun bt480 => ((laws_toWantS.f k l2).bind fun t488 => ((spec_NextStage.f k t477 bt480.1 bt480.2.1 bt480.2.2.1 bt480.2.2.2 t488).bind fun t491 => ((laws_toPathS.f k l0).bind fun t494 => ((laws_toControl.f k l1_0 a1_1 l1_2 a1_3).bind fun bt497 => ((laws_toWantS.f k l2).bind fun t506 => ((impl_NextStage.f k t494 bt497.1 bt497.2.1 bt497.2.2.1 bt497.2.2.2 t506).bind fun t509 => ((laws_eqIntS.f k t509 t491).bind fun t512 => (if t512 = true then ((laws_toPathS.f k l0).bind fun t513 => ((laws_eqPathS.f k t494 t513).bind fun t516 => (if t516 = true then ((laws_toControl.f k l1_0 a1_1 l1_2 a1_3).bind fun bt517 => ((laws_eqControl.f k bt497.1 bt497.2.1 bt497.2.2.1 bt497.2.2.2 bt517.1 bt517.2.1 bt517.2.2.1 bt517.2.2.2).bind fun t525 => (if t525 = true then ((laws_toWantS.f k l2).bind fun t526 => ((laws_eqWantS.f k t506 t526).bind fun t529 => (if t529 = true then ((laws_markPathS.f k t494 1).bind fun bt530 => ((laws_markControl.f k bt497.1 bt497.2.1 bt497.2.2.1 bt497.2.2.2 bt530.1).bind fun bt532 => ((laws_markWantS.f k t506 bt532.1).bind fun bt535 => (if bt535.1 < 0 then (laws_FnExactNextStage.j0 k l0 l2 t491 t509 true l1_0 a1_1 l1_2 a1_3) else ((laws_eqIntS.f k t509 t491).bind fun t537 => (laws_FnExactNextStage.j0 k l0 l2 t491 t509 (!t537) l1_0 a1_1 l1_2 a1_3)))))) else (none)))) else (none)))) else (none)))) else (none))))))))))))))))
theorem laws_FnExactNextStage.mono_l : ∀ k, (∀ y0 y1 y2 y3 y4 y5 y6 y7 y8, LeO (laws_FnExactNextStage.j0 k y0 y1 y2 y3 y4 y5 y6 y7 y8) (laws_FnExactNextStage.j0 (k + 1) y0 y1 y2 y3 y4 y5 y6 y7 y8))
 | 0 => fun _ _ _ _ _ _ _ _ _ r h => by simp [laws_FnExactNextStage.j0] at h
 | k + 1 => by
  have ih0 := laws_FnExactNextStage.mono_l k
  ·
   intro y0 y1 y2 y3 y4 y5 y6 y7 y8
   unfold laws_FnExactNextStage.j0
   repeat' first | (with_reducible first | exact LeO.refl _ | exact LeO.none _ | refine LeO.ite ?_ ?_ | refine LeO.bind ?_ (fun _ => ?_) | exact ih0 _ _ _ _ _ _ _ _ _ | exact impl_NextStage.mono _ _ _ _ _ _ _ | exact laws_eqControl.mono _ _ _ _ _ _ _ _ _ | exact laws_eqIntS.mono _ _ _ | exact laws_eqPathS.mono _ _ _ | exact laws_eqWantS.mono _ _ _ | exact laws_heldIntS.mono _ _ _ | exact laws_markControl.mono _ _ _ _ _ _ | exact laws_markIntS.mono _ _ _ | exact laws_markPathS.mono _ _ _ | exact laws_markWantS.mono _ _ _ | exact laws_toControl.mono _ _ _ _ _ | exact laws_toPathS.mono _ _ | exact laws_toWantS.mono _ _ | exact spec_NextStage.mono _ _ _ _ _ _ _)
theorem laws_FnExactNextStage.mono : ∀ a0 a1 a2 a3 a4 a5 k, LeO (laws_FnExactNextStage.f k a0 a1 a2 a3 a4 a5) (laws_FnExactNextStage.f (k + 1) a0 a1 a2 a3 a4 a5) := by
 intro a0 a1 a2 a3 a4 a5 k
 have ih0 := laws_FnExactNextStage.mono_l k
 unfold laws_FnExactNextStage.f
 repeat' first | (with_reducible first | exact LeO.refl _ | exact LeO.none _ | refine LeO.ite ?_ ?_ | refine LeO.bind ?_ (fun _ => ?_) | exact ih0 _ _ _ _ _ _ _ _ _ | exact impl_NextStage.mono _ _ _ _ _ _ _ | exact laws_eqControl.mono _ _ _ _ _ _ _ _ _ | exact laws_eqIntS.mono _ _ _ | exact laws_eqPathS.mono _ _ _ | exact laws_eqWantS.mono _ _ _ | exact laws_heldIntS.mono _ _ _ | exact laws_markControl.mono _ _ _ _ _ _ | exact laws_markIntS.mono _ _ _ | exact laws_markPathS.mono _ _ _ | exact laws_markWantS.mono _ _ _ | exact laws_toControl.mono _ _ _ _ _ | exact laws_toPathS.mono _ _ | exact laws_toWantS.mono _ _ | exact spec_NextStage.mono _ _ _ _ _ _ _)
def laws_FnExactNextStage.T11 : Bool × List (List Nat × List Nat) := (true, [([], []), ([0], [0]), ([], []), ([2, 1], [2]), ([], []), ([4, 3], [4]), ([1, 3, 5, 5], [1, 3, 5]), ([6, 6, 0, 1, 2, 3, 4, 5, 6], [6])])
def laws_FnExactNextStage.B11 : List Nat := [0, 1, 0, 7, 0, 31, 63, 127]
theorem laws_FnExactNextStage.tab11 : rtab .any (opsOf Try.f8 11) = laws_FnExactNextStage.T11 := by kernel_rfl
theorem laws_FnExactNextStage.bits11 : waitsOk laws_FnExactNextStage.T11.2 laws_FnExactNextStage.B11 = true := by kernel_rfl
def laws_FnExactNextStage.T38 : Bool × List (List Nat × List Nat) := (true, [([], []), ([0], [0]), ([], []), ([2, 1], [2]), ([], []), ([4, 3], [4]), ([1, 3, 5, 5], [1, 3, 5]), ([6, 6, 0, 1, 2, 3, 4, 5, 6], [6])])
def laws_FnExactNextStage.B38 : List Nat := [0, 1, 0, 7, 0, 31, 63, 127]
theorem laws_FnExactNextStage.tab38 : rtab .any (opsOf Try.f8 38) = laws_FnExactNextStage.T38 := by kernel_rfl
theorem laws_FnExactNextStage.bits38 : waitsOk laws_FnExactNextStage.T38.2 laws_FnExactNextStage.B38 = true := by kernel_rfl
set_option maxHeartbeats 8000000 in
set_option maxRecDepth 100000 in
theorem laws_FnExactNextStage.calls (k : Nat) (A0 : Option Addr) (c0 : Nat) (l0 : List (S91)) (A1_0 : Option Addr) (c1_0 : Nat) (l1_0 : List Int) (a1_1 : Int) (A1_2 : Option Addr) (c1_2 : Nat) (l1_2 : List Int) (a1_3 : Int) (A2 : Option Addr) (c2 : Nat) (l2 : List (S117)) (r : Bool) (w : World) (hr0 : Kd.C k91 w A0 l0.length l0) (hc0 : l0.length ≤ c0) (hr1_0 : Kd.C (Kd.int .i64) w A1_0 l1_0.length l1_0) (hc1_0 : l1_0.length ≤ c1_0) (hr1_2 : Kd.C (Kd.int .i64) w A1_2 l1_2.length l1_2) (hc1_2 : l1_2.length ≤ c1_2) (hr2 : Kd.C k117 w A2 l2.length l2) (hc2 : l2.length ≤ c2) (h : laws_FnExactNextStage.f k l0 l1_0 a1_1 l1_2 a1_3 l2 = some r) :
  Calls Try.prog 8 #[.slice A0 l0.length c0, .agg #[.slice A1_0 l1_0.length c1_0, .int .i64 a1_1, .slice A1_2 l1_2.length c1_2, .int .i64 a1_3], .slice A2 l2.length c2] w fun e w' => e = .returned (.bool r) ∧ Below w.heap.size w w' := by
 have hu55 := Try.underlying55
 have hu57 := Try.underlying57
 have HR0 := Aside0.mk hr0
 have HC0 := Aside0.mk hc0
 clear hr0 hc0
 have HR1_0 := Aside0.mk hr1_0
 have HC1_0 := Aside0.mk hc1_0
 clear hr1_0 hc1_0
 have HR1_2 := Aside0.mk hr1_2
 have HC1_2 := Aside0.mk hc1_2
 clear hr1_2 hc1_2
 have HR2 := Aside0.mk hr2
 have HC2 := Aside0.mk hc2
 clear hr2 hc2
 have HB := Aside0.mk (Below.refl w.heap.size w)
 have H : ((laws_szPathS.f l0 1048576).bind fun t474 => (if t474 < 0 then (some true) else ((laws_szControl.f l1_0 a1_1 l1_2 a1_3 t474).bind fun t475 => (if t475 < 0 then (some true) else ((laws_szWantS.f l2 t475).bind fun t476 => (if t476 < 0 then (some true) else ((laws_toPathS.f k l0).bind fun t477 => ((laws_toControl.f k l1_0 a1_1 l1_2 a1_3).bind fun bt480 => ((laws_toWantS.f k l2).bind fun t488 => ((spec_NextStage.f k t477 bt480.1 bt480.2.1 bt480.2.2.1 bt480.2.2.2 t488).bind fun t491 => ((laws_toPathS.f k l0).bind fun t494 => ((laws_toControl.f k l1_0 a1_1 l1_2 a1_3).bind fun bt497 => ((laws_toWantS.f k l2).bind fun t506 => ((impl_NextStage.f k t494 bt497.1 bt497.2.1 bt497.2.2.1 bt497.2.2.2 t506).bind fun t509 => ((laws_eqIntS.f k t509 t491).bind fun t512 => (if t512 = true then ((laws_toPathS.f k l0).bind fun t513 => ((laws_eqPathS.f k t494 t513).bind fun t516 => (if t516 = true then ((laws_toControl.f k l1_0 a1_1 l1_2 a1_3).bind fun bt517 => ((laws_eqControl.f k bt497.1 bt497.2.1 bt497.2.2.1 bt497.2.2.2 bt517.1 bt517.2.1 bt517.2.2.1 bt517.2.2.2).bind fun t525 => (if t525 = true then ((laws_toWantS.f k l2).bind fun t526 => ((laws_eqWantS.f k t506 t526).bind fun t529 => (if t529 = true then ((laws_markPathS.f k t494 1).bind fun bt530 => ((laws_markControl.f k bt497.1 bt497.2.1 bt497.2.2.1 bt497.2.2.2 bt530.1).bind fun bt532 => ((laws_markWantS.f k t506 bt532.1).bind fun bt535 => (if bt535.1 < 0 then (laws_FnExactNextStage.j0 k l0 l2 t491 t509 true l1_0 a1_1 l1_2 a1_3) else ((laws_eqIntS.f k t509 t491).bind fun t537 => (laws_FnExactNextStage.j0 k l0 l2 t491 t509 (!t537) l1_0 a1_1 l1_2 a1_3)))))) else (none)))) else (none)))) else (none)))) else (none))))))))))))))))) = some r := h
 clear h
 obtain ⟨t474, A4, H⟩ := bindE H
 try dsimp only at H
 by_cases c5 : t474 < 0
 ·
  rw [if_pos c5] at H
  have c5b0 := decide_eq_true c5
  clear c5
  obtain rfl := Option.some.inj H
  go_enter Try.func8, Try.ntmps8
  go_wp2_with (first | ((with_reducible refine gate_dst (N := 4) rfl ?_); refine bE (N := 4) (cs := #[.slice A1_0 l1_0.length c1_0, .int .i64 a1_1, .slice A1_2 l1_2.length c1_2, .int .i64 a1_3]) (t := 55) ?_; intro gb473 hg w6 hbox hb; have n0_ := Aside0.mk (below_step bA hb); have n1_ := Aside0.mk (hbox); have n2_ := Aside0.mk ((by rw [hg]; exact (below_size bA) : w.heap.size ≤ gb473)); have n3_ := Aside0.mk ((by rw [hg]; exact (below_size bA) : w.heap.size ≤ gb473)); clear HB; have HB := n0_; have BK473 := n1_; have GW473 := n2_; have GE473 := n3_; clear n0_ n1_ n2_ n3_; clear hb hbox hg) | ((with_reducible refine gate_callee (f := 11) rfl ?_); refine gL (some 19) Try.func11 #[.slice A0 l0.length c0, .int .i64 1048576] ?_; (with_reducible refine (laws_szPathS.calls _ _ l0 1048576 t474 _ ?side1 ?side2 A4.out).mono ?_); (case side1 => exact cB HR0); (case side2 => exact HC0.out); rintro e w' ⟨rfl, ⟨nd, rfl⟩⟩; refine ⟨_, rfl, ?_⟩))
  go_ret
  exact ⟨rA, bG⟩
 ·
  rw [if_neg c5] at H
  have c5b0 := decide_eq_false c5
  clear c5
  obtain ⟨t475, A7, H⟩ := bindE H
  try dsimp only at H
  by_cases c8 : t475 < 0
  ·
   rw [if_pos c8] at H
   have c8b0 := decide_eq_true c8
   clear c8
   obtain rfl := Option.some.inj H
   go_enter Try.func8, Try.ntmps8
   go_wp2_with (first | ((with_reducible refine gate_dst (N := 4) rfl ?_); refine bE (N := 4) (cs := #[.slice A1_0 l1_0.length c1_0, .int .i64 a1_1, .slice A1_2 l1_2.length c1_2, .int .i64 a1_3]) (t := 55) ?_; intro gb473 hg w9 hbox hb; have n0_ := Aside0.mk (below_step bA hb); have n1_ := Aside0.mk (hbox); have n2_ := Aside0.mk ((by rw [hg]; exact (below_size bA) : w.heap.size ≤ gb473)); have n3_ := Aside0.mk ((by rw [hg]; exact (below_size bA) : w.heap.size ≤ gb473)); clear HB; have HB := n0_; have BK473 := n1_; have GW473 := n2_; have GE473 := n3_; clear n0_ n1_ n2_ n3_; clear hb hbox hg) | ((with_reducible refine gate_callee (f := 11) rfl ?_); refine gL (some 19) Try.func11 #[.slice A0 l0.length c0, .int .i64 1048576] ?_; (with_reducible refine (laws_szPathS.calls _ _ l0 1048576 t474 _ ?side1 ?side2 A4.out).mono ?_); (case side1 => exact cB HR0); (case side2 => exact HC0.out); rintro e w' ⟨rfl, ⟨nd, rfl⟩⟩; refine ⟨_, rfl, ?_⟩; have hcz10_0 : w9.cell? ⟨gb473, 0, none⟩ = some (.slice A1_0 l1_0.length c1_0) := bC BK473 0; have hcz10_1 : w9.cell? ⟨gb473, 1, none⟩ = some (.int .i64 a1_1) := bC BK473 1; have hcz10_2 : w9.cell? ⟨gb473, 2, none⟩ = some (.slice A1_2 l1_2.length c1_2) := bC BK473 2; have hcz10_3 : w9.cell? ⟨gb473, 3, none⟩ = some (.int .i64 a1_3) := bC BK473 3; have hfz10_0 := blk_frozen BK473.out 0; have hfz10_1 := blk_frozen BK473.out 1; have hfz10_2 := blk_frozen BK473.out 2; have hfz10_3 := blk_frozen BK473.out 3) | ((with_reducible refine gate_callee (f := 38) rfl ?_); refine gL (some 24) Try.func38 #[.agg #[.slice A1_0 l1_0.length c1_0, .int .i64 a1_1, .slice A1_2 l1_2.length c1_2, .int .i64 a1_3], .int .i64 t474] ?_; (with_reducible refine (laws_szControl.calls _ _ l1_0 a1_1 _ _ l1_2 a1_3 t474 t475 _ ?side1 ?side2 ?side3 ?side4 A7.out).mono ?_); (case side1 => exact cG HR1_0); (case side2 => exact HC1_0.out); (case side3 => exact cG HR1_2); (case side4 => exact HC1_2.out); rintro e w11 ⟨rfl, hb⟩; refine ⟨_, rfl, ?_⟩; replace BK473 := Aside0.mk (blk_below (g := gb473) (bK BK473) hb); replace HB := Aside0.mk (below_step bG hb); (try clear hb)))
   go_ret
   exact ⟨rA, bG⟩
  ·
   rw [if_neg c8] at H
   have c8b0 := decide_eq_false c8
   clear c8
   obtain ⟨t476, A12, H⟩ := bindE H
   try dsimp only at H
   by_cases c13 : t476 < 0
   ·
    rw [if_pos c13] at H
    have c13b0 := decide_eq_true c13
    clear c13
    obtain rfl := Option.some.inj H
    go_enter Try.func8, Try.ntmps8
    go_wp2_with (first | ((with_reducible refine gate_dst (N := 4) rfl ?_); refine bE (N := 4) (cs := #[.slice A1_0 l1_0.length c1_0, .int .i64 a1_1, .slice A1_2 l1_2.length c1_2, .int .i64 a1_3]) (t := 55) ?_; intro gb473 hg w14 hbox hb; have n0_ := Aside0.mk (below_step bA hb); have n1_ := Aside0.mk (hbox); have n2_ := Aside0.mk ((by rw [hg]; exact (below_size bA) : w.heap.size ≤ gb473)); have n3_ := Aside0.mk ((by rw [hg]; exact (below_size bA) : w.heap.size ≤ gb473)); clear HB; have HB := n0_; have BK473 := n1_; have GW473 := n2_; have GE473 := n3_; clear n0_ n1_ n2_ n3_; clear hb hbox hg) | ((with_reducible refine gate_callee (f := 11) rfl ?_); refine gL (some 19) Try.func11 #[.slice A0 l0.length c0, .int .i64 1048576] ?_; (with_reducible refine (laws_szPathS.calls _ _ l0 1048576 t474 _ ?side1 ?side2 A4.out).mono ?_); (case side1 => exact cB HR0); (case side2 => exact HC0.out); rintro e w' ⟨rfl, ⟨nd, rfl⟩⟩; refine ⟨_, rfl, ?_⟩; have hcz15_0 : w14.cell? ⟨gb473, 0, none⟩ = some (.slice A1_0 l1_0.length c1_0) := bC BK473 0; have hcz15_1 : w14.cell? ⟨gb473, 1, none⟩ = some (.int .i64 a1_1) := bC BK473 1; have hcz15_2 : w14.cell? ⟨gb473, 2, none⟩ = some (.slice A1_2 l1_2.length c1_2) := bC BK473 2; have hcz15_3 : w14.cell? ⟨gb473, 3, none⟩ = some (.int .i64 a1_3) := bC BK473 3; have hfz15_0 := blk_frozen BK473.out 0; have hfz15_1 := blk_frozen BK473.out 1; have hfz15_2 := blk_frozen BK473.out 2; have hfz15_3 := blk_frozen BK473.out 3) | ((with_reducible refine gate_callee (f := 38) rfl ?_); refine gL (some 24) Try.func38 #[.agg #[.slice A1_0 l1_0.length c1_0, .int .i64 a1_1, .slice A1_2 l1_2.length c1_2, .int .i64 a1_3], .int .i64 t474] ?_; (with_reducible refine (laws_szControl.calls _ _ l1_0 a1_1 _ _ l1_2 a1_3 t474 t475 _ ?side1 ?side2 ?side3 ?side4 A7.out).mono ?_); (case side1 => exact cG HR1_0); (case side2 => exact HC1_0.out); (case side3 => exact cG HR1_2); (case side4 => exact HC1_2.out); rintro e w16 ⟨rfl, hb⟩; refine ⟨_, rfl, ?_⟩; replace BK473 := Aside0.mk (blk_below (g := gb473) (bK BK473) hb); replace HB := Aside0.mk (below_step bG hb); (try clear hb)) | ((with_reducible refine gate_callee (f := 46) rfl ?_); refine gL (some 29) Try.func46 #[.slice A2 l2.length c2, .int .i64 t475] ?_; (with_reducible refine (laws_szWantS.calls _ _ l2 t475 t476 _ ?side1 ?side2 A12.out).mono ?_); (case side1 => exact cB HR2); (case side2 => exact HC2.out); rintro e w' ⟨rfl, ⟨nd, rfl⟩⟩; refine ⟨_, rfl, ?_⟩))
    go_ret
    exact ⟨rA, bG⟩
   ·
    rw [if_neg c13] at H
    have c13b0 := decide_eq_false c13
    clear c13
    obtain ⟨t477, A17, H⟩ := bindE H
    try dsimp only at H
    obtain ⟨⟨t480, t483, t484, t487⟩, A18, H⟩ := bindE H
    try dsimp only at H
    obtain ⟨t488, A19, H⟩ := bindE H
    try dsimp only at H
    obtain ⟨t491, A20, H⟩ := bindE H
    try dsimp only at H
    obtain ⟨t494, A21, H⟩ := bindE H
    try dsimp only at H
    obtain ⟨⟨t497, t500, t501, t504⟩, A22, H⟩ := bindE H
    try dsimp only at H
    obtain ⟨t506, A23, H⟩ := bindE H
    try dsimp only at H
    obtain ⟨t509, A24, H⟩ := bindE H
    try dsimp only at H
    obtain ⟨t512, A25, H⟩ := bindE H
    try dsimp only at H
    have c26 := ifN H
    replace H := ifT H
    subst c26
    obtain ⟨t513, A27, H⟩ := bindE H
    try dsimp only at H
    obtain ⟨t516, A28, H⟩ := bindE H
    try dsimp only at H
    have c29 := ifN H
    replace H := ifT H
    subst c29
    obtain ⟨⟨t517, t520, t521, t524⟩, A30, H⟩ := bindE H
    try dsimp only at H
    obtain ⟨t525, A31, H⟩ := bindE H
    try dsimp only at H
    have c32 := ifN H
    replace H := ifT H
    subst c32
    obtain ⟨t526, A33, H⟩ := bindE H
    try dsimp only at H
    obtain ⟨t529, A34, H⟩ := bindE H
    try dsimp only at H
    have c35 := ifN H
    replace H := ifT H
    subst c35
    obtain ⟨⟨t530, t531⟩, A36, H⟩ := bindE H
    try dsimp only at H
    obtain ⟨⟨t532, t533, t534⟩, A37, H⟩ := bindE H
    try dsimp only at H
    obtain ⟨⟨t535, t536⟩, A38, H⟩ := bindE H
    try dsimp only at H
    have HC39 := Aside0.mk H
    clear H
    go_enter Try.func8, Try.ntmps8
    try go_wp2_with (first | ((with_reducible refine gate_dst (N := 4) rfl ?_); refine bE (N := 4) (cs := #[.slice A1_0 l1_0.length c1_0, .int .i64 a1_1, .slice A1_2 l1_2.length c1_2, .int .i64 a1_3]) (t := 55) ?_; intro gb473 hg w40 hbox hb; have n0_ := Aside0.mk (below_step bA hb); have n1_ := Aside0.mk (hbox); have n2_ := Aside0.mk ((by rw [hg]; exact (below_size bA) : w.heap.size ≤ gb473)); have n3_ := Aside0.mk ((by rw [hg]; exact (below_size bA) : w.heap.size ≤ gb473)); clear HB; have HB := n0_; have BK473 := n1_; have GW473 := n2_; have GE473 := n3_; clear n0_ n1_ n2_ n3_; clear hb hbox hg) | ((with_reducible refine gate_callee (f := 11) rfl ?_); refine gL (some 19) Try.func11 #[.slice A0 l0.length c0, .int .i64 1048576] ?_; (with_reducible refine (laws_szPathS.calls _ _ l0 1048576 t474 _ ?side1 ?side2 A4.out).mono ?_); (case side1 => exact cB HR0); (case side2 => exact HC0.out); rintro e w' ⟨rfl, ⟨nd, rfl⟩⟩; refine ⟨_, rfl, ?_⟩; (try (rw [drewN_self w40]; generalize hq_ : World.drewN w40 _ = w40; have n0_ : Aside0 (w40.heap[gb473]? = some (.cells #[.slice A1_0 l1_0.length c1_0, .int .i64 a1_1, .slice A1_2 l1_2.length c1_2, .int .i64 a1_3] 55 (0, 0))) := ⟨by rw [← hq_]; exact (bK BK473)⟩; have n1_ : Aside0 (Below w.heap.size w w40) := ⟨by rw [← hq_]; exact bG⟩; clear BK473 HB hq_; have BK473 := n0_; have HB := n1_; clear n0_ n1_)); have hcz41_0 : w40.cell? ⟨gb473, 0, none⟩ = some (.slice A1_0 l1_0.length c1_0) := bC BK473 0; have hcz41_1 : w40.cell? ⟨gb473, 1, none⟩ = some (.int .i64 a1_1) := bC BK473 1; have hcz41_2 : w40.cell? ⟨gb473, 2, none⟩ = some (.slice A1_2 l1_2.length c1_2) := bC BK473 2; have hcz41_3 : w40.cell? ⟨gb473, 3, none⟩ = some (.int .i64 a1_3) := bC BK473 3; have hfz41_0 := blk_frozen BK473.out 0; have hfz41_1 := blk_frozen BK473.out 1; have hfz41_2 := blk_frozen BK473.out 2; have hfz41_3 := blk_frozen BK473.out 3) | ((with_reducible refine gate_callee (f := 38) rfl ?_); refine gL (some 24) Try.func38 #[.agg #[.slice A1_0 l1_0.length c1_0, .int .i64 a1_1, .slice A1_2 l1_2.length c1_2, .int .i64 a1_3], .int .i64 t474] ?_; (with_reducible refine (laws_szControl.calls _ _ l1_0 a1_1 _ _ l1_2 a1_3 t474 t475 _ ?side1 ?side2 ?side3 ?side4 A7.out).mono ?_); (case side1 => exact cB HR1_0); (case side2 => exact HC1_0.out); (case side3 => exact cB HR1_2); (case side4 => exact HC1_2.out); rintro e w42 ⟨rfl, hb⟩; refine ⟨_, rfl, ?_⟩; replace BK473 := Aside0.mk (blk_below (g := gb473) (bK BK473) hb); replace HB := Aside0.mk (below_step bG hb); (try clear hb)) | ((with_reducible refine gate_callee (f := 46) rfl ?_); refine gL (some 29) Try.func46 #[.slice A2 l2.length c2, .int .i64 t475] ?_; (with_reducible refine (laws_szWantS.calls _ _ l2 t475 t476 _ ?side1 ?side2 A12.out).mono ?_); (case side1 => exact cB HR2); (case side2 => exact HC2.out); rintro e w' ⟨rfl, ⟨nd, rfl⟩⟩; refine ⟨_, rfl, ?_⟩; (try (rw [drewN_self w42]; generalize hq_ : World.drewN w42 _ = w42; have n0_ : Aside0 (w42.heap[gb473]? = some (.cells #[.slice A1_0 l1_0.length c1_0, .int .i64 a1_1, .slice A1_2 l1_2.length c1_2, .int .i64 a1_3] 55 (0, 0))) := ⟨by rw [← hq_]; exact (bK BK473)⟩; have n1_ : Aside0 (Below w.heap.size w w42) := ⟨by rw [← hq_]; exact bG⟩; clear BK473 HB hq_; have BK473 := n0_; have HB := n1_; clear n0_ n1_))))
    replace BK473 := Aside0.mk (blk_drew BK473.out)
    have HBo := HB
    replace HB := Aside0.mk (below_drew1 HB.out)
    refine start_ (n := 8) (S := fun w' => w'.cell? ⟨gb473, 0, none⟩ = some (.slice A1_0 l1_0.length c1_0) ∧ w'.cell? ⟨gb473, 1, none⟩ = some (.int .i64 a1_1) ∧ w'.cell? ⟨gb473, 2, none⟩ = some (.slice A1_2 l1_2.length c1_2) ∧ w'.cell? ⟨gb473, 3, none⟩ = some (.int .i64 a1_3)) (ds := []) (mb 8 0) (by kernel_rfl) rfl rfl ⟨bC BK473 0, bC BK473 1, bC BK473 2, bC BK473 3⟩ (fun hHeld => ?_); refine with_tabW laws_FnExactNextStage.tab11 laws_FnExactNextStage.bits11 (fun HT_ HW_ => ?_)
    generalize w42.drew = w43 at BK473 HB hHeld ⊢
    refine pA (i := 0) (N := some 32) (mb 8 1) HT_ ?_
    refine pA (i := 4) (N := some 36) (mb 8 17) HT_ ?_
    refine tA4 (i := 2) (N := some 34) (mb 8 21) HT_ HW_ hHeld ?_
    refine oA (i := 1) (N := some 33) (mb 8 23) HT_ (fun K hK => ?_)
    refine gA Try.func14 #[.slice A0 l0.length c0] ?_
    with_reducible refine (laws_toPathS.calls k _ _ l0 t477 _ ?side1 ?side2 A17.out).mono ?_
    (case side1 => exact cB HR0)
    (case side2 => exact HC0.out)
    rintro e w44 ⟨v478, rfl, ho0, hb⟩
    refine ⟨_, rfl, ?_⟩
    have HO479 := Aside0.mk (Kd.R_lower ho0 (below_size bG))
    replace BK473 := Aside0.mk (blk_below (g := gb473) (bK BK473) hb)
    replace HB := Aside0.mk (below_step bG hb)
    (try clear hb)
    (try clear hb2)
    (try clear hk)
    (try clear hi)
    (try clear ho0)
    refine hK.out _ _ ⟨bC BK473 0, bC BK473 1, bC BK473 2, bC BK473 3⟩ (fun hHeld => ?_)
    clear hK K
    refine nB ?_
    refine oA (i := 3) (N := some 35) (mb 8 31) HT_ (fun K hK => ?_)
    refine gA Try.func40 #[.agg #[.slice A1_0 l1_0.length c1_0, .int .i64 a1_1, .slice A1_2 l1_2.length c1_2, .int .i64 a1_3]] ?_
    with_reducible refine (laws_toControl.calls k _ _ l1_0 a1_1 _ _ l1_2 a1_3 t480 t483 t484 t487 _ ?side1 ?side2 ?side3 ?side4 A18.out).mono ?_
    (case side1 => exact cB HR1_0)
    (case side2 => exact HC1_0.out)
    (case side3 => exact cB HR1_2)
    (case side4 => exact HC1_2.out)
    rintro e w45 ⟨v481, v485, rfl, ho0, ho1, hb⟩
    refine ⟨_, rfl, ?_⟩
    replace HO479 := Aside0.mk (Kd.R_below (rK HO479) hb)
    have HO482 := Aside0.mk (Kd.R_lower ho0 (below_size bG))
    have HO486 := Aside0.mk (Kd.R_lower ho1 (below_size bG))
    replace BK473 := Aside0.mk (blk_below (g := gb473) (bK BK473) hb)
    replace HB := Aside0.mk (below_step bG hb)
    (try clear hb)
    (try clear hb2)
    (try clear hk)
    (try clear hi)
    (try clear ho0)
    (try clear ho1)
    refine hK.out _ _ ⟨bC BK473 0, bC BK473 1, bC BK473 2, bC BK473 3⟩ (fun hHeld => ?_)
    clear hK K
    refine nB ?_
    refine oA (i := 5) (N := some 37) (mb 8 63) HT_ (fun K hK => ?_)
    refine gA Try.func48 #[.slice A2 l2.length c2] ?_
    with_reducible refine (laws_toWantS.calls k _ _ l2 t488 _ ?side1 ?side2 A19.out).mono ?_
    (case side1 => exact cB HR2)
    (case side2 => exact HC2.out)
    rintro e w46 ⟨v489, rfl, ho0, hb⟩
    refine ⟨_, rfl, ?_⟩
    replace HO479 := Aside0.mk (Kd.R_below (rK HO479) hb)
    replace HO482 := Aside0.mk (Kd.R_below (rK HO482) hb)
    replace HO486 := Aside0.mk (Kd.R_below (rK HO486) hb)
    have HO490 := Aside0.mk (Kd.R_lower ho0 (below_size bG))
    replace BK473 := Aside0.mk (blk_below (g := gb473) (bK BK473) hb)
    replace HB := Aside0.mk (below_step bG hb)
    (try clear hb)
    (try clear hb2)
    (try clear hk)
    (try clear hi)
    (try clear ho0)
    obtain ⟨Ao47, co47, eo47⟩ := Kd.R_slice HO479.out
    (first | subst eo47 | (injection eo47 with f1_ f2_ f3_; have f4_ := f1_.symm; have f5_ := f3_.symm; clear f1_ f2_ f3_; subst f4_; subst f5_))
    obtain ⟨Ao48, co48, eo48⟩ := Kd.R_slice HO482.out
    (first | subst eo48 | (injection eo48 with f1_ f2_ f3_; have f4_ := f1_.symm; have f5_ := f3_.symm; clear f1_ f2_ f3_; subst f4_; subst f5_))
    obtain ⟨Ao49, co49, eo49⟩ := Kd.R_slice HO486.out
    (first | subst eo49 | (injection eo49 with f1_ f2_ f3_; have f4_ := f1_.symm; have f5_ := f3_.symm; clear f1_ f2_ f3_; subst f4_; subst f5_))
    obtain ⟨Ao50, co50, eo50⟩ := Kd.R_slice HO490.out
    (first | subst eo50 | (injection eo50 with f1_ f2_ f3_; have f4_ := f1_.symm; have f5_ := f3_.symm; clear f1_ f2_ f3_; subst f4_; subst f5_))
    refine hK.out _ _ ⟨bC BK473 0, bC BK473 1, bC BK473 2, bC BK473 3⟩ (fun hHeld => ?_)
    clear hK K
    refine nB ?_
    refine oA (i := 6) (N := some 38) (mb 8 127) HT_ (fun K hK => ?_)
    refine gA Try.func47 #[.slice Ao47 t477.length co47, .agg #[.slice Ao48 t480.length co48, .int .i64 t483, .slice Ao49 t484.length co49, .int .i64 t487], .slice Ao50 t488.length co50] ?_
    with_reducible refine (spec_NextStage.calls k _ _ t477 _ _ t480 t483 _ _ t484 t487 _ _ t488 t491 _ ?side1 ?side2 ?side3 ?side4 ?side5 ?side6 ?side7 ?side8 A20.out).mono ?_
    (case side1 => exact cO ⟨(Kd.R_reads' HO479.out).2.2⟩)
    (case side2 => exact (Kd.R_reads' HO479.out).2.1)
    (case side3 => exact cO ⟨(Kd.R_reads' HO482.out).2.2⟩)
    (case side4 => exact (Kd.R_reads' HO482.out).2.1)
    (case side5 => exact cO ⟨(Kd.R_reads' HO486.out).2.2⟩)
    (case side6 => exact (Kd.R_reads' HO486.out).2.1)
    (case side7 => exact cO ⟨(Kd.R_reads' HO490.out).2.2⟩)
    (case side8 => exact (Kd.R_reads' HO490.out).2.1)
    rintro e w51 ⟨v492, rfl, ho0, hb⟩
    refine ⟨_, rfl, ?_⟩
    replace HO479 := Aside0.mk (Kd.R_below (rK HO479) hb)
    replace HO490 := Aside0.mk (Kd.R_below (rK HO490) hb)
    have HO493 := Aside0.mk (Kd.R_lower (Kd.R_new' (Kd.R_new' ho0 (Kd.R_lt (rK HO482))) (Kd.R_lt (rK HO486))) (below_size bG))
    replace HO482 := Aside0.mk (Kd.R_elder' (rK HO482) (Kd.R_base ho0) hb)
    replace HO486 := Aside0.mk (Kd.R_elder' (rK HO486) (Kd.R_base ho0) hb)
    replace BK473 := Aside0.mk (blk_below (g := gb473) (bK BK473) hb)
    replace HB := Aside0.mk (below_step bG hb)
    (try clear hb)
    (try clear hb2)
    (try clear hk)
    (try clear hi)
    (try clear ho0)
    refine hK.out _ _ ⟨bC BK473 0, bC BK473 1, bC BK473 2, bC BK473 3⟩ (fun hHeld => ?_)
    clear hK K
    refine nB ?_
    refine pA (i := 7) (N := some 8) (mb 8 255) HT_ ?_
    refine eA HT_ ?_
    try go_wp2_with (first | ((with_reducible refine gate_callee (f := 14) rfl ?_); refine gL (some 40) Try.func14 #[.slice A0 l0.length c0] ?_; (with_reducible refine (laws_toPathS.calls k _ _ l0 t494 _ ?side1 ?side2 A21.out).mono ?_); (case side1 => exact cB HR0); (case side2 => exact HC0.out); rintro e w52 ⟨v495, rfl, ho0, hb⟩; refine ⟨_, rfl, ?_⟩; replace HO482 := Aside0.mk (Kd.R_below (rK HO482) hb); replace HO486 := Aside0.mk (Kd.R_below (rK HO486) hb); replace HO490 := Aside0.mk (Kd.R_below (rK HO490) hb); replace HO493 := Aside0.mk (Kd.R_below (rK HO493) hb); have HO496 := Aside0.mk (Kd.R_lower (Kd.R_new' ho0 (Kd.R_lt (rK HO479))) (below_size bG)); replace HO479 := Aside0.mk (Kd.R_elder' (rK HO479) (Kd.R_base ho0) hb); replace BK473 := Aside0.mk (blk_below (g := gb473) (bK BK473) hb); replace HB := Aside0.mk (below_step bG hb); (try clear hb); (try clear ho0); have hcz53_0 : w52.cell? ⟨gb473, 0, none⟩ = some (.slice A1_0 l1_0.length c1_0) := bC BK473 0; have hcz53_1 : w52.cell? ⟨gb473, 1, none⟩ = some (.int .i64 a1_1) := bC BK473 1; have hcz53_2 : w52.cell? ⟨gb473, 2, none⟩ = some (.slice A1_2 l1_2.length c1_2) := bC BK473 2; have hcz53_3 : w52.cell? ⟨gb473, 3, none⟩ = some (.int .i64 a1_3) := bC BK473 3; have hfz53_0 := blk_frozen BK473.out 0; have hfz53_1 := blk_frozen BK473.out 1; have hfz53_2 := blk_frozen BK473.out 2; have hfz53_3 := blk_frozen BK473.out 3) | ((with_reducible refine gate_callee (f := 40) rfl ?_); refine gL (some 42) Try.func40 #[.agg #[.slice A1_0 l1_0.length c1_0, .int .i64 a1_1, .slice A1_2 l1_2.length c1_2, .int .i64 a1_3]] ?_; (with_reducible refine (laws_toControl.calls k _ _ l1_0 a1_1 _ _ l1_2 a1_3 t497 t500 t501 t504 _ ?side1 ?side2 ?side3 ?side4 A22.out).mono ?_); (case side1 => exact cB HR1_0); (case side2 => exact HC1_0.out); (case side3 => exact cB HR1_2); (case side4 => exact HC1_2.out); rintro e w54 ⟨v498, v502, rfl, ho0, ho1, hb⟩; refine ⟨_, rfl, ?_⟩; replace HO479 := Aside0.mk (Kd.R_below (rK HO479) hb); replace HO490 := Aside0.mk (Kd.R_below (rK HO490) hb); replace HO496 := Aside0.mk (Kd.R_below (rK HO496) hb); have HO499 := Aside0.mk (Kd.R_lower (Kd.R_new' (Kd.R_new' (Kd.R_new' ho0 (Kd.R_lt (rK HO482))) (Kd.R_lt (rK HO486))) (Kd.R_lt (rK HO493))) (below_size bG)); have HO503 := Aside0.mk (Kd.R_lower (Kd.R_new' (Kd.R_new' (Kd.R_new' ho1 (Kd.R_lt (rK HO482))) (Kd.R_lt (rK HO486))) (Kd.R_lt (rK HO493))) (below_size bG)); replace HO482 := Aside0.mk (Kd.R_mono (Kd.R_told (Kd.R_told (Kd.R_old (rK HO482) hb) (Kd.R_base ho0)) (Kd.R_base ho1)) (fun _ h_ => h_.1)); replace HO486 := Aside0.mk (Kd.R_mono (Kd.R_told (Kd.R_told (Kd.R_old (rK HO486) hb) (Kd.R_base ho0)) (Kd.R_base ho1)) (fun _ h_ => h_.1)); replace HO493 := Aside0.mk (Kd.R_mono (Kd.R_told (Kd.R_told (Kd.R_old (rK HO493) hb) (Kd.R_base ho0)) (Kd.R_base ho1)) (fun _ h_ => h_.1)); replace BK473 := Aside0.mk (blk_below (g := gb473) (bK BK473) hb); replace HB := Aside0.mk (below_step bG hb); (try clear hb); (try clear ho0); (try clear ho1)) | ((with_reducible refine gate_dst (N := 10) rfl ?_); refine bE (N := 10) (cs := #[.slice none 0 0, .int .i64 0, .slice none 0 0, .int .i64 0]) (t := 57) ?_; intro gb505 hg w55 hbox hb; have n0_ := Aside0.mk (Kd.R_below (rK HO479) hb); have n1_ := Aside0.mk (Kd.R_below (rK HO482) hb); have n2_ := Aside0.mk (Kd.R_below (rK HO486) hb); have n3_ := Aside0.mk (Kd.R_below (rK HO490) hb); have n4_ := Aside0.mk (Kd.R_below (rK HO493) hb); have n5_ := Aside0.mk (Kd.R_below (rK HO496) hb); have n6_ := Aside0.mk (Kd.R_below (rK HO499) hb); have n7_ := Aside0.mk (Kd.R_below (rK HO503) hb); have n8_ := Aside0.mk (blk_below (g := gb473) (bK BK473) hb); have n9_ := Aside0.mk (below_step bG hb); have n10_ := Aside0.mk (hbox); have n11_ := Aside0.mk ((by rw [hg]; exact (below_size bG) : w.heap.size ≤ gb505)); have n12_ := Aside0.mk ((by rw [hg]; exact (below_size bG) : w.heap.size ≤ gb505)); have n13_ := Aside0.mk ((by rw [hg]; exact Nat.ne_of_lt (blk_lt (g := gb473) (o := .cells #[.slice A1_0 l1_0.length c1_0, .int .i64 a1_1, .slice A1_2 l1_2.length c1_2, .int .i64 a1_3] 55 (0, 0)) (bK BK473)) : gb473 ≠ gb505)); have n14_ := Aside0.mk ((by rw [hg]; exact Nat.ne_of_gt (blk_lt (g := gb473) (o := .cells #[.slice A1_0 l1_0.length c1_0, .int .i64 a1_1, .slice A1_2 l1_2.length c1_2, .int .i64 a1_3] 55 (0, 0)) (bK BK473)) : gb505 ≠ gb473)); clear HO479; clear HO482; clear HO486; clear HO490; clear HO493; clear HO496; clear HO499; clear HO503; clear BK473; clear HB; have HO479 := n0_; have HO482 := n1_; have HO486 := n2_; have HO490 := n3_; have HO493 := n4_; have HO496 := n5_; have HO499 := n6_; have HO503 := n7_; have BK473 := n8_; have HB := n9_; have BK505 := n10_; have GW505 := n11_; have GE505 := n12_; have NB473_505 := n13_; have NB505_473 := n14_; clear n0_ n1_ n2_ n3_ n4_ n5_ n6_ n7_ n8_ n9_ n10_ n11_ n12_ n13_ n14_; clear hb hbox hg; obtain ⟨Ao56, co56, eo56⟩ := Kd.R_slice HO499.out; subst eo56; have hnb57 := NB505_473.out; have hnc57 := NB473_505.out; obtain ⟨hcz58_0, hcz58_1, hcz58_2, hcz58_3, hfz58_0, hfz58_1, hfz58_2, hfz58_3⟩ := blkc4 BK505; obtain ⟨Ao59, co59, eo59⟩ := Kd.R_slice HO503.out; subst eo59) | ((with_reducible refine gate_callee (f := 48) rfl ?_); refine gL (some 44) Try.func48 #[.slice A2 l2.length c2] ?_; (with_reducible refine (laws_toWantS.calls k _ _ l2 t506 _ ?side1 ?side2 A23.out).mono ?_); (case side1 => exact Kd.C_below HR2.out bG); (case side2 => exact HC2.out); rintro e w60 ⟨v507, rfl, ho0, hb⟩; refine ⟨_, rfl, ?_⟩; have n0_ := Aside0.mk (Kd.R_below (by (with_reducible repeat (first | apply Kd.R_alloc | apply Kd.R_drewN | apply Kd.R_drew)); exact (Kd.R_mono (Kd.R_far (p := ⟨gb505, 3, none⟩) (Kd.R_far (p := ⟨gb505, 2, none⟩) (Kd.R_far (p := ⟨gb505, 1, none⟩) (Kd.R_far (p := ⟨gb505, 0, none⟩) (Kd.R_types HO479.out BK505.out (by decide)) (fun _ hk => hk.2) (.slice Ao56 t497.length co56)) (fun _ hk => hk.2) (.int .i64 t500)) (fun _ hk => hk.2) (.slice Ao59 t501.length co59)) (fun _ hk => hk.2) (.int .i64 t504)) (fun _ h_ => h_.1))) hb); have n1_ := Aside0.mk (Kd.R_below (by (with_reducible repeat (first | apply Kd.R_alloc | apply Kd.R_drewN | apply Kd.R_drew)); exact (Kd.R_mono (Kd.R_far (p := ⟨gb505, 3, none⟩) (Kd.R_far (p := ⟨gb505, 2, none⟩) (Kd.R_far (p := ⟨gb505, 1, none⟩) (Kd.R_far (p := ⟨gb505, 0, none⟩) (Kd.R_types HO482.out BK505.out (by decide)) (fun _ hk => hk.2) (.slice Ao56 t497.length co56)) (fun _ hk => hk.2) (.int .i64 t500)) (fun _ hk => hk.2) (.slice Ao59 t501.length co59)) (fun _ hk => hk.2) (.int .i64 t504)) (fun _ h_ => h_.1))) hb); have n2_ := Aside0.mk (Kd.R_below (by (with_reducible repeat (first | apply Kd.R_alloc | apply Kd.R_drewN | apply Kd.R_drew)); exact (Kd.R_mono (Kd.R_far (p := ⟨gb505, 3, none⟩) (Kd.R_far (p := ⟨gb505, 2, none⟩) (Kd.R_far (p := ⟨gb505, 1, none⟩) (Kd.R_far (p := ⟨gb505, 0, none⟩) (Kd.R_types HO486.out BK505.out (by decide)) (fun _ hk => hk.2) (.slice Ao56 t497.length co56)) (fun _ hk => hk.2) (.int .i64 t500)) (fun _ hk => hk.2) (.slice Ao59 t501.length co59)) (fun _ hk => hk.2) (.int .i64 t504)) (fun _ h_ => h_.1))) hb); have n3_ := Aside0.mk (Kd.R_elder' (by (with_reducible repeat (first | apply Kd.R_alloc | apply Kd.R_drewN | apply Kd.R_drew)); exact (Kd.R_mono (Kd.R_far (p := ⟨gb505, 3, none⟩) (Kd.R_far (p := ⟨gb505, 2, none⟩) (Kd.R_far (p := ⟨gb505, 1, none⟩) (Kd.R_far (p := ⟨gb505, 0, none⟩) (Kd.R_types HO490.out BK505.out (by decide)) (fun _ hk => hk.2) (.slice Ao56 t497.length co56)) (fun _ hk => hk.2) (.int .i64 t500)) (fun _ hk => hk.2) (.slice Ao59 t501.length co59)) (fun _ hk => hk.2) (.int .i64 t504)) (fun _ h_ => h_.1))) (Kd.R_base ho0) hb); have n4_ := Aside0.mk (Kd.R_below (by (with_reducible repeat (first | apply Kd.R_alloc | apply Kd.R_drewN | apply Kd.R_drew)); exact (Kd.R_mono (Kd.R_far (p := ⟨gb505, 3, none⟩) (Kd.R_far (p := ⟨gb505, 2, none⟩) (Kd.R_far (p := ⟨gb505, 1, none⟩) (Kd.R_far (p := ⟨gb505, 0, none⟩) (Kd.R_types HO493.out BK505.out (by decide)) (fun _ hk => hk.2) (.slice Ao56 t497.length co56)) (fun _ hk => hk.2) (.int .i64 t500)) (fun _ hk => hk.2) (.slice Ao59 t501.length co59)) (fun _ hk => hk.2) (.int .i64 t504)) (fun _ h_ => h_.1))) hb); have n5_ := Aside0.mk (Kd.R_below (by (with_reducible repeat (first | apply Kd.R_alloc | apply Kd.R_drewN | apply Kd.R_drew)); exact (Kd.R_mono (Kd.R_far (p := ⟨gb505, 3, none⟩) (Kd.R_far (p := ⟨gb505, 2, none⟩) (Kd.R_far (p := ⟨gb505, 1, none⟩) (Kd.R_far (p := ⟨gb505, 0, none⟩) (Kd.R_types HO496.out BK505.out (by decide)) (fun _ hk => hk.2) (.slice Ao56 t497.length co56)) (fun _ hk => hk.2) (.int .i64 t500)) (fun _ hk => hk.2) (.slice Ao59 t501.length co59)) (fun _ hk => hk.2) (.int .i64 t504)) (fun _ h_ => h_.1))) hb); have n6_ := Aside0.mk (Kd.R_below (by (with_reducible repeat (first | apply Kd.R_alloc | apply Kd.R_drewN | apply Kd.R_drew)); exact (Kd.R_mono (Kd.R_far (p := ⟨gb505, 3, none⟩) (Kd.R_far (p := ⟨gb505, 2, none⟩) (Kd.R_far (p := ⟨gb505, 1, none⟩) (Kd.R_far (p := ⟨gb505, 0, none⟩) (Kd.R_types HO499.out BK505.out (by decide)) (fun _ hk => hk.2) (.slice Ao56 t497.length co56)) (fun _ hk => hk.2) (.int .i64 t500)) (fun _ hk => hk.2) (.slice Ao59 t501.length co59)) (fun _ hk => hk.2) (.int .i64 t504)) (fun _ h_ => h_.1))) hb); have n7_ := Aside0.mk (Kd.R_below (by (with_reducible repeat (first | apply Kd.R_alloc | apply Kd.R_drewN | apply Kd.R_drew)); exact (Kd.R_mono (Kd.R_far (p := ⟨gb505, 3, none⟩) (Kd.R_far (p := ⟨gb505, 2, none⟩) (Kd.R_far (p := ⟨gb505, 1, none⟩) (Kd.R_far (p := ⟨gb505, 0, none⟩) (Kd.R_types HO503.out BK505.out (by decide)) (fun _ hk => hk.2) (.slice Ao56 t497.length co56)) (fun _ hk => hk.2) (.int .i64 t500)) (fun _ hk => hk.2) (.slice Ao59 t501.length co59)) (fun _ hk => hk.2) (.int .i64 t504)) (fun _ h_ => h_.1))) hb); have n8_ := Aside0.mk (Kd.R_lower (Kd.R_new' ho0 (Kd.R_lt (by (with_reducible repeat (first | apply Kd.R_alloc | apply Kd.R_drewN | apply Kd.R_drew)); exact (Kd.R_mono (Kd.R_far (p := ⟨gb505, 3, none⟩) (Kd.R_far (p := ⟨gb505, 2, none⟩) (Kd.R_far (p := ⟨gb505, 1, none⟩) (Kd.R_far (p := ⟨gb505, 0, none⟩) (Kd.R_types HO490.out BK505.out (by decide)) (fun _ hk => hk.2) (.slice Ao56 t497.length co56)) (fun _ hk => hk.2) (.int .i64 t500)) (fun _ hk => hk.2) (.slice Ao59 t501.length co59)) (fun _ hk => hk.2) (.int .i64 t504)) (fun _ h_ => h_.1))))) (below_size bG)); have n9_ := Aside0.mk (blk_below (g := gb473) (o := .cells #[.slice A1_0 l1_0.length c1_0, .int .i64 a1_1, .slice A1_2 l1_2.length c1_2, .int .i64 a1_3] 55 (0, 0)) (by (with_reducible repeat (first | refine blk_drewN ?_ _ | refine blk_drew ?_ | refine blk_alloc ?_ _)); refine blk_far ?_ NB473_505.out _; (with_reducible repeat (first | refine blk_drewN ?_ _ | refine blk_drew ?_ | refine blk_alloc ?_ _)); refine blk_far ?_ NB473_505.out _; (with_reducible repeat (first | refine blk_drewN ?_ _ | refine blk_drew ?_ | refine blk_alloc ?_ _)); refine blk_far ?_ NB473_505.out _; (with_reducible repeat (first | refine blk_drewN ?_ _ | refine blk_drew ?_ | refine blk_alloc ?_ _)); refine blk_far ?_ NB473_505.out _; (with_reducible repeat (first | refine blk_drewN ?_ _ | refine blk_drew ?_ | refine blk_alloc ?_ _)); exact BK473.out) hb); have n10_ := Aside0.mk (blk_below (g := gb505) (o := .cells #[.slice Ao56 t497.length co56, .int .i64 t500, .slice Ao59 t501.length co59, .int .i64 t504] 57 (0, 0)) (by (with_reducible repeat (first | refine blk_drewN ?_ _ | refine blk_drew ?_ | refine blk_alloc ?_ _)); refine blk_put (cs := #[.slice Ao56 t497.length co56, .int .i64 t500, .slice Ao59 t501.length co59, .int .i64 0]) ?_ 3 _ rfl; (with_reducible repeat (first | refine blk_drewN ?_ _ | refine blk_drew ?_ | refine blk_alloc ?_ _)); refine blk_put (cs := #[.slice Ao56 t497.length co56, .int .i64 t500, .slice none 0 0, .int .i64 0]) ?_ 2 _ rfl; (with_reducible repeat (first | refine blk_drewN ?_ _ | refine blk_drew ?_ | refine blk_alloc ?_ _)); refine blk_put (cs := #[.slice Ao56 t497.length co56, .int .i64 0, .slice none 0 0, .int .i64 0]) ?_ 1 _ rfl; (with_reducible repeat (first | refine blk_drewN ?_ _ | refine blk_drew ?_ | refine blk_alloc ?_ _)); refine blk_put (cs := #[.slice none 0 0, .int .i64 0, .slice none 0 0, .int .i64 0]) ?_ 0 _ rfl; (with_reducible repeat (first | refine blk_drewN ?_ _ | refine blk_drew ?_ | refine blk_alloc ?_ _)); exact BK505.out) hb); have n11_ := Aside0.mk (below_step bG hb); clear HO479; clear HO482; clear HO486; clear HO490; clear HO493; clear HO496; clear HO499; clear HO503; clear BK473; clear BK505; clear HB; have HO479 := n0_; have HO482 := n1_; have HO486 := n2_; have HO490 := n3_; have HO493 := n4_; have HO496 := n5_; have HO499 := n6_; have HO503 := n7_; have HO508 := n8_; have BK473 := n9_; have BK505 := n10_; have HB := n11_; clear n0_ n1_ n2_ n3_ n4_ n5_ n6_ n7_ n8_ n9_ n10_ n11_; (try clear hb); (try clear ho0); obtain ⟨hcz61_0, hcz61_1, hcz61_2, hcz61_3, hfz61_0, hfz61_1, hfz61_2, hfz61_3⟩ := blkc4 BK505; obtain ⟨Ao62, co62, eo62⟩ := Kd.R_slice HO496.out; subst eo62; obtain ⟨Ao63, co63, eo63⟩ := Kd.R_slice HO508.out; subst eo63) | ((with_reducible refine gate_callee (f := 49) rfl ?_); refine gL (some 48) Try.func49 #[.slice Ao62 t494.length co62, .agg #[.slice Ao56 t497.length co56, .int .i64 t500, .slice Ao59 t501.length co59, .int .i64 t504], .slice Ao63 t506.length co63] ?_; (with_reducible refine (impl_NextStage.calls k _ _ t494 _ _ t497 t500 _ _ t501 t504 _ _ t506 t509 _ ?side1 ?side2 ?side3 ?side4 ?side5 ?side6 ?side7 ?side8 A24.out).mono ?_); (case side1 => exact cO ⟨(Kd.R_reads' HO496.out).2.2⟩); (case side2 => exact (Kd.R_reads' HO496.out).2.1); (case side3 => exact cO ⟨(Kd.R_reads' HO499.out).2.2⟩); (case side4 => exact (Kd.R_reads' HO499.out).2.1); (case side5 => exact cO ⟨(Kd.R_reads' HO503.out).2.2⟩); (case side6 => exact (Kd.R_reads' HO503.out).2.1); (case side7 => exact cO ⟨(Kd.R_reads' HO508.out).2.2⟩); (case side8 => exact (Kd.R_reads' HO508.out).2.1); rintro e w64 ⟨v510, rfl, ho0, hb⟩; refine ⟨_, rfl, ?_⟩; replace HO479 := Aside0.mk (Kd.R_below (rK HO479) hb); replace HO490 := Aside0.mk (Kd.R_below (rK HO490) hb); replace HO496 := Aside0.mk (Kd.R_below (rK HO496) hb); replace HO508 := Aside0.mk (Kd.R_below (rK HO508) hb); have HO511 := Aside0.mk (Kd.R_lower (Kd.R_new' (Kd.R_new' (Kd.R_new' (Kd.R_new' (Kd.R_new' ho0 (Kd.R_lt (rK HO482))) (Kd.R_lt (rK HO486))) (Kd.R_lt (rK HO493))) (Kd.R_lt (rK HO499))) (Kd.R_lt (rK HO503))) (below_size bG)); replace HO482 := Aside0.mk (Kd.R_elder' (rK HO482) (Kd.R_base ho0) hb); replace HO486 := Aside0.mk (Kd.R_elder' (rK HO486) (Kd.R_base ho0) hb); replace HO493 := Aside0.mk (Kd.R_elder' (rK HO493) (Kd.R_base ho0) hb); replace HO499 := Aside0.mk (Kd.R_elder' (rK HO499) (Kd.R_base ho0) hb); replace HO503 := Aside0.mk (Kd.R_elder' (rK HO503) (Kd.R_base ho0) hb); replace BK473 := Aside0.mk (blk_below (g := gb473) (bK BK473) hb); replace BK505 := Aside0.mk (blk_below (g := gb505) (bK BK505) hb); replace HB := Aside0.mk (below_step bG hb); (try clear hb); (try clear ho0); obtain ⟨Ao65, co65, eo65⟩ := Kd.R_slice HO511.out; subst eo65; obtain ⟨Ao66, co66, eo66⟩ := Kd.R_slice HO493.out; subst eo66) | ((with_reducible refine gate_callee (f := 28) rfl ?_); refine gL (some 51) Try.func28 #[.slice Ao65 t509.length co65, .slice Ao66 t491.length co66] ?_; (with_reducible refine (laws_eqIntS.calls k _ _ t509 _ _ t491 true _ ?side1 ?side2 ?side3 ?side4 A25.out).mono ?_); (case side1 => exact cO ⟨(Kd.R_reads' HO511.out).2.2⟩); (case side2 => exact (Kd.R_reads' HO511.out).2.1); (case side3 => exact cO ⟨(Kd.R_reads' HO493.out).2.2⟩); (case side4 => exact (Kd.R_reads' HO493.out).2.1); rintro e w' ⟨rfl, ⟨nd, rfl⟩⟩; refine ⟨_, rfl, ?_⟩) | ((with_reducible refine gate_callee (f := 14) rfl ?_); refine gL (some 55) Try.func14 #[.slice A0 l0.length c0] ?_; (with_reducible refine (laws_toPathS.calls k _ _ l0 t513 _ ?side1 ?side2 A27.out).mono ?_); (case side1 => exact cG HR0); (case side2 => exact HC0.out); rintro e w67 ⟨v514, rfl, ho0, hb⟩; refine ⟨_, rfl, ?_⟩; replace HO482 := Aside0.mk (Kd.R_below (rK HO482) hb); replace HO486 := Aside0.mk (Kd.R_below (rK HO486) hb); replace HO490 := Aside0.mk (Kd.R_below (rK HO490) hb); replace HO493 := Aside0.mk (Kd.R_below (rK HO493) hb); replace HO499 := Aside0.mk (Kd.R_below (rK HO499) hb); replace HO503 := Aside0.mk (Kd.R_below (rK HO503) hb); replace HO508 := Aside0.mk (Kd.R_below (rK HO508) hb); replace HO511 := Aside0.mk (Kd.R_below (rK HO511) hb); have HO515 := Aside0.mk (Kd.R_lower (Kd.R_new' (Kd.R_new' ho0 (Kd.R_lt (rK HO479))) (Kd.R_lt (rK HO496))) (below_size bG)); replace HO479 := Aside0.mk (Kd.R_elder' (rK HO479) (Kd.R_base ho0) hb); replace HO496 := Aside0.mk (Kd.R_elder' (rK HO496) (Kd.R_base ho0) hb); replace BK473 := Aside0.mk (blk_below (g := gb473) (bK BK473) hb); replace BK505 := Aside0.mk (blk_below (g := gb505) (bK BK505) hb); replace HB := Aside0.mk (below_step bG hb); (try clear hb); (try clear ho0); obtain ⟨Ao68, co68, eo68⟩ := Kd.R_slice HO515.out; subst eo68) | ((with_reducible refine gate_callee (f := 18) rfl ?_); refine gL (some 56) Try.func18 #[.slice Ao62 t494.length co62, .slice Ao68 t513.length co68] ?_; (with_reducible refine (laws_eqPathS.calls k _ _ t494 _ _ t513 true _ ?side1 ?side2 ?side3 ?side4 A28.out).mono ?_); (case side1 => exact cO ⟨(Kd.R_reads' HO496.out).2.2⟩); (case side2 => exact (Kd.R_reads' HO496.out).2.1); (case side3 => exact cO ⟨(Kd.R_reads' HO515.out).2.2⟩); (case side4 => exact (Kd.R_reads' HO515.out).2.1); rintro e w69 ⟨rfl, hb⟩; refine ⟨_, rfl, ?_⟩; replace HO479 := Aside0.mk (Kd.R_below (rK HO479) hb); replace HO482 := Aside0.mk (Kd.R_below (rK HO482) hb); replace HO486 := Aside0.mk (Kd.R_below (rK HO486) hb); replace HO490 := Aside0.mk (Kd.R_below (rK HO490) hb); replace HO493 := Aside0.mk (Kd.R_below (rK HO493) hb); replace HO496 := Aside0.mk (Kd.R_below (rK HO496) hb); replace HO499 := Aside0.mk (Kd.R_below (rK HO499) hb); replace HO503 := Aside0.mk (Kd.R_below (rK HO503) hb); replace HO508 := Aside0.mk (Kd.R_below (rK HO508) hb); replace HO511 := Aside0.mk (Kd.R_below (rK HO511) hb); replace HO515 := Aside0.mk (Kd.R_below (rK HO515) hb); replace BK473 := Aside0.mk (blk_below (g := gb473) (bK BK473) hb); replace BK505 := Aside0.mk (blk_below (g := gb505) (bK BK505) hb); replace HB := Aside0.mk (below_step bG hb); (try clear hb)))
    replace HO479 := Aside0.mk (Kd.R_drew HO479.out)
    replace HO482 := Aside0.mk (Kd.R_drew HO482.out)
    replace HO486 := Aside0.mk (Kd.R_drew HO486.out)
    replace HO490 := Aside0.mk (Kd.R_drew HO490.out)
    replace HO493 := Aside0.mk (Kd.R_drew HO493.out)
    replace HO496 := Aside0.mk (Kd.R_drew HO496.out)
    replace HO499 := Aside0.mk (Kd.R_drew HO499.out)
    replace HO503 := Aside0.mk (Kd.R_drew HO503.out)
    replace HO508 := Aside0.mk (Kd.R_drew HO508.out)
    replace HO511 := Aside0.mk (Kd.R_drew HO511.out)
    replace HO515 := Aside0.mk (Kd.R_drew HO515.out)
    replace BK473 := Aside0.mk (blk_drew BK473.out)
    replace BK505 := Aside0.mk (blk_drew BK505.out)
    have HBo := HB
    replace HB := Aside0.mk (below_drew1 HB.out)
    refine start_ (n := 5) (S := fun w' => w'.cell? ⟨gb505, 0, none⟩ = some (.slice Ao56 t497.length co56) ∧ w'.cell? ⟨gb505, 1, none⟩ = some (.int .i64 t500) ∧ w'.cell? ⟨gb505, 2, none⟩ = some (.slice Ao59 t501.length co59) ∧ w'.cell? ⟨gb505, 3, none⟩ = some (.int .i64 t504) ∧ w'.cell? ⟨gb473, 0, none⟩ = some (.slice A1_0 l1_0.length c1_0) ∧ w'.cell? ⟨gb473, 1, none⟩ = some (.int .i64 a1_1) ∧ w'.cell? ⟨gb473, 2, none⟩ = some (.slice A1_2 l1_2.length c1_2) ∧ w'.cell? ⟨gb473, 3, none⟩ = some (.int .i64 a1_3)) (ds := []) (mb 5 0) (by kernel_rfl) rfl rfl ⟨bC BK505 0, bC BK505 1, bC BK505 2, bC BK505 3, bC BK473 0, bC BK473 1, bC BK473 2, bC BK473 3⟩ (fun hHeld => ?_)
    generalize w69.drew = w70 at HO479 HO482 HO486 HO490 HO493 HO496 HO499 HO503 HO508 HO511 HO515 BK473 BK505 HB hHeld ⊢
    refine take_ (i := 0) (N := some 58) (v := ?_) (a' := ?_) (mb 5 1) rfl rfl (by kernel_rfl) (fun _ _ _ h => h) (Or.inl ⟨by rfl, ?_⟩) hHeld ?_ ?_
    rotate_left
    ·
     rintro w' ⟨s0, s1, s2, s3, s4, s5, s6, s7⟩
     go_simp
     with_reducible rfl
    rotate_left
    ·
     simp only [Act.put, List.setIfInBounds_toArray, List.set_cons_zero, List.set_cons_succ, i64_w, i32_w]
     rfl
    refine take_ (i := 1) (N := some 59) (v := ?_) (a' := ?_) (mb 5 3) rfl rfl (by kernel_rfl) (fun _ _ _ h => h) (Or.inl ⟨by rfl, ?_⟩) hHeld ?_ ?_
    rotate_left
    ·
     rintro w' ⟨s0, s1, s2, s3, s4, s5, s6, s7⟩
     go_simp
     with_reducible rfl
    rotate_left
    ·
     simp only [Act.put, List.setIfInBounds_toArray, List.set_cons_zero, List.set_cons_succ, i64_w, i32_w]
     rfl
    refine one_ (i := 2) (N := some 60) (mb 5 7) rfl rfl (by kernel_rfl) (by decide) (fun K hK => ?_)
    refine gA Try.func40 #[.agg #[.slice A1_0 l1_0.length c1_0, .int .i64 a1_1, .slice A1_2 l1_2.length c1_2, .int .i64 a1_3]] ?_
    with_reducible refine (laws_toControl.calls k _ _ l1_0 a1_1 _ _ l1_2 a1_3 t517 t520 t521 t524 _ ?side1 ?side2 ?side3 ?side4 A30.out).mono ?_
    (case side1 => exact cB HR1_0)
    (case side2 => exact HC1_0.out)
    (case side3 => exact cB HR1_2)
    (case side4 => exact HC1_2.out)
    rintro e w71 ⟨v518, v522, rfl, ho0, ho1, hb⟩
    refine ⟨_, rfl, ?_⟩
    replace HO479 := Aside0.mk (Kd.R_below (rK HO479) hb)
    replace HO490 := Aside0.mk (Kd.R_below (rK HO490) hb)
    replace HO496 := Aside0.mk (Kd.R_below (rK HO496) hb)
    replace HO508 := Aside0.mk (Kd.R_below (rK HO508) hb)
    replace HO515 := Aside0.mk (Kd.R_below (rK HO515) hb)
    have HO519 := Aside0.mk (Kd.R_lower (Kd.R_new' (Kd.R_new' (Kd.R_new' (Kd.R_new' (Kd.R_new' (Kd.R_new' ho0 (Kd.R_lt (rK HO482))) (Kd.R_lt (rK HO486))) (Kd.R_lt (rK HO493))) (Kd.R_lt (rK HO499))) (Kd.R_lt (rK HO503))) (Kd.R_lt (rK HO511))) (below_size bG))
    have HO523 := Aside0.mk (Kd.R_lower (Kd.R_new' (Kd.R_new' (Kd.R_new' (Kd.R_new' (Kd.R_new' (Kd.R_new' ho1 (Kd.R_lt (rK HO482))) (Kd.R_lt (rK HO486))) (Kd.R_lt (rK HO493))) (Kd.R_lt (rK HO499))) (Kd.R_lt (rK HO503))) (Kd.R_lt (rK HO511))) (below_size bG))
    replace HO482 := Aside0.mk (Kd.R_mono (Kd.R_told (Kd.R_told (Kd.R_old (rK HO482) hb) (Kd.R_base ho0)) (Kd.R_base ho1)) (fun _ h_ => h_.1))
    replace HO486 := Aside0.mk (Kd.R_mono (Kd.R_told (Kd.R_told (Kd.R_old (rK HO486) hb) (Kd.R_base ho0)) (Kd.R_base ho1)) (fun _ h_ => h_.1))
    replace HO493 := Aside0.mk (Kd.R_mono (Kd.R_told (Kd.R_told (Kd.R_old (rK HO493) hb) (Kd.R_base ho0)) (Kd.R_base ho1)) (fun _ h_ => h_.1))
    replace HO499 := Aside0.mk (Kd.R_mono (Kd.R_told (Kd.R_told (Kd.R_old (rK HO499) hb) (Kd.R_base ho0)) (Kd.R_base ho1)) (fun _ h_ => h_.1))
    replace HO503 := Aside0.mk (Kd.R_mono (Kd.R_told (Kd.R_told (Kd.R_old (rK HO503) hb) (Kd.R_base ho0)) (Kd.R_base ho1)) (fun _ h_ => h_.1))
    replace HO511 := Aside0.mk (Kd.R_mono (Kd.R_told (Kd.R_told (Kd.R_old (rK HO511) hb) (Kd.R_base ho0)) (Kd.R_base ho1)) (fun _ h_ => h_.1))
    replace BK473 := Aside0.mk (blk_below (g := gb473) (bK BK473) hb)
    replace BK505 := Aside0.mk (blk_below (g := gb505) (bK BK505) hb)
    replace HB := Aside0.mk (below_step bG hb)
    (try clear hb)
    (try clear hb2)
    (try clear hk)
    (try clear hi)
    (try clear ho0)
    (try clear ho1)
    obtain ⟨Ao72, co72, eo72⟩ := Kd.R_slice HO519.out
    (first | subst eo72 | (injection eo72 with f1_ f2_ f3_; have f4_ := f1_.symm; have f5_ := f3_.symm; clear f1_ f2_ f3_; subst f4_; subst f5_))
    obtain ⟨Ao73, co73, eo73⟩ := Kd.R_slice HO523.out
    (first | subst eo73 | (injection eo73 with f1_ f2_ f3_; have f4_ := f1_.symm; have f5_ := f3_.symm; clear f1_ f2_ f3_; subst f4_; subst f5_))
    refine hK.out _ _ ⟨bC BK505 0, bC BK505 1, bC BK505 2, bC BK505 3, bC BK473 0, bC BK473 1, bC BK473 2, bC BK473 3⟩ (fun hHeld => ?_)
    clear hK K
    refine nB ?_
    refine one_ (i := 3) (N := some 61) (mb 5 15) rfl rfl (by kernel_rfl) (by decide) (fun K hK => ?_)
    refine gA Try.func43 #[.agg #[.slice Ao56 t497.length co56, .int .i64 t500, .slice Ao59 t501.length co59, .int .i64 t504], .agg #[.slice Ao72 t517.length co72, .int .i64 t520, .slice Ao73 t521.length co73, .int .i64 t524]] ?_
    with_reducible refine (laws_eqControl.calls k _ _ t497 t500 _ _ t501 t504 _ _ t517 t520 _ _ t521 t524 true _ ?side1 ?side2 ?side3 ?side4 ?side5 ?side6 ?side7 ?side8 A31.out).mono ?_
    (case side1 => exact cO ⟨(Kd.R_reads' HO499.out).2.2⟩)
    (case side2 => exact (Kd.R_reads' HO499.out).2.1)
    (case side3 => exact cO ⟨(Kd.R_reads' HO503.out).2.2⟩)
    (case side4 => exact (Kd.R_reads' HO503.out).2.1)
    (case side5 => exact cO ⟨(Kd.R_reads' HO519.out).2.2⟩)
    (case side6 => exact (Kd.R_reads' HO519.out).2.1)
    (case side7 => exact cO ⟨(Kd.R_reads' HO523.out).2.2⟩)
    (case side8 => exact (Kd.R_reads' HO523.out).2.1)
    rintro e w74 ⟨rfl, hb⟩
    refine ⟨_, rfl, ?_⟩
    replace HO479 := Aside0.mk (Kd.R_below (rK HO479) hb)
    replace HO482 := Aside0.mk (Kd.R_below (rK HO482) hb)
    replace HO486 := Aside0.mk (Kd.R_below (rK HO486) hb)
    replace HO490 := Aside0.mk (Kd.R_below (rK HO490) hb)
    replace HO493 := Aside0.mk (Kd.R_below (rK HO493) hb)
    replace HO496 := Aside0.mk (Kd.R_below (rK HO496) hb)
    replace HO499 := Aside0.mk (Kd.R_below (rK HO499) hb)
    replace HO503 := Aside0.mk (Kd.R_below (rK HO503) hb)
    replace HO508 := Aside0.mk (Kd.R_below (rK HO508) hb)
    replace HO511 := Aside0.mk (Kd.R_below (rK HO511) hb)
    replace HO515 := Aside0.mk (Kd.R_below (rK HO515) hb)
    replace HO519 := Aside0.mk (Kd.R_below (rK HO519) hb)
    replace HO523 := Aside0.mk (Kd.R_below (rK HO523) hb)
    replace BK473 := Aside0.mk (blk_below (g := gb473) (bK BK473) hb)
    replace BK505 := Aside0.mk (blk_below (g := gb505) (bK BK505) hb)
    replace HB := Aside0.mk (below_step bG hb)
    (try clear hb)
    (try clear hb2)
    (try clear hk)
    (try clear hi)
    refine hK.out _ _ ⟨bC BK505 0, bC BK505 1, bC BK505 2, bC BK505 3, bC BK473 0, bC BK473 1, bC BK473 2, bC BK473 3⟩ (fun hHeld => ?_)
    clear hK K
    refine nB ?_
    refine pure_ (i := 4) (N := some 62) (v := ?_) (a' := ?_) (mb 5 31) rfl rfl (by kernel_rfl) (fun _ _ _ h => h) (Or.inl ⟨by rfl, ?_⟩) ?_ ?_
    rotate_left
    ·
     intro w'
     go_simp
     with_reducible rfl
    rotate_left
    ·
     simp only [Act.put, List.setIfInBounds_toArray, List.set_cons_zero, List.set_cons_succ, i64_w, i32_w]
     rfl
    refine done_ (by kernel_rfl) ?_
    go_upto_region 28 with (first | ((with_reducible refine gate_callee (f := 48) rfl ?_); refine gL (some 65) Try.func48 #[.slice A2 l2.length c2] ?_; (with_reducible refine (laws_toWantS.calls k _ _ l2 t526 _ ?side1 ?side2 A33.out).mono ?_); (case side1 => exact cB HR2); (case side2 => exact HC2.out); rintro e w75 ⟨v527, rfl, ho0, hb⟩; refine ⟨_, rfl, ?_⟩; replace HO479 := Aside0.mk (Kd.R_below (rK HO479) hb); replace HO482 := Aside0.mk (Kd.R_below (rK HO482) hb); replace HO486 := Aside0.mk (Kd.R_below (rK HO486) hb); replace HO493 := Aside0.mk (Kd.R_below (rK HO493) hb); replace HO496 := Aside0.mk (Kd.R_below (rK HO496) hb); replace HO499 := Aside0.mk (Kd.R_below (rK HO499) hb); replace HO503 := Aside0.mk (Kd.R_below (rK HO503) hb); replace HO511 := Aside0.mk (Kd.R_below (rK HO511) hb); replace HO515 := Aside0.mk (Kd.R_below (rK HO515) hb); replace HO519 := Aside0.mk (Kd.R_below (rK HO519) hb); replace HO523 := Aside0.mk (Kd.R_below (rK HO523) hb); have HO528 := Aside0.mk (Kd.R_lower (Kd.R_new' (Kd.R_new' ho0 (Kd.R_lt (rK HO490))) (Kd.R_lt (rK HO508))) (below_size bG)); replace HO490 := Aside0.mk (Kd.R_elder' (rK HO490) (Kd.R_base ho0) hb); replace HO508 := Aside0.mk (Kd.R_elder' (rK HO508) (Kd.R_base ho0) hb); replace BK473 := Aside0.mk (blk_below (g := gb473) (bK BK473) hb); replace BK505 := Aside0.mk (blk_below (g := gb505) (bK BK505) hb); replace HB := Aside0.mk (below_step bG hb); (try clear hb); (try clear ho0); obtain ⟨Ao76, co76, eo76⟩ := Kd.R_slice HO528.out; subst eo76) | ((with_reducible refine gate_callee (f := 50) rfl ?_); refine gL (some 66) Try.func50 #[.slice Ao63 t506.length co63, .slice Ao76 t526.length co76] ?_; (with_reducible refine (laws_eqWantS.calls k _ _ t506 _ _ t526 true _ ?side1 ?side2 ?side3 ?side4 A34.out).mono ?_); (case side1 => exact cO ⟨(Kd.R_reads' HO508.out).2.2⟩); (case side2 => exact (Kd.R_reads' HO508.out).2.1); (case side3 => exact cO ⟨(Kd.R_reads' HO528.out).2.2⟩); (case side4 => exact (Kd.R_reads' HO528.out).2.1); rintro e w77 ⟨rfl, hb⟩; refine ⟨_, rfl, ?_⟩; replace HO479 := Aside0.mk (Kd.R_below (rK HO479) hb); replace HO482 := Aside0.mk (Kd.R_below (rK HO482) hb); replace HO486 := Aside0.mk (Kd.R_below (rK HO486) hb); replace HO490 := Aside0.mk (Kd.R_below (rK HO490) hb); replace HO493 := Aside0.mk (Kd.R_below (rK HO493) hb); replace HO496 := Aside0.mk (Kd.R_below (rK HO496) hb); replace HO499 := Aside0.mk (Kd.R_below (rK HO499) hb); replace HO503 := Aside0.mk (Kd.R_below (rK HO503) hb); replace HO508 := Aside0.mk (Kd.R_below (rK HO508) hb); replace HO511 := Aside0.mk (Kd.R_below (rK HO511) hb); replace HO515 := Aside0.mk (Kd.R_below (rK HO515) hb); replace HO519 := Aside0.mk (Kd.R_below (rK HO519) hb); replace HO523 := Aside0.mk (Kd.R_below (rK HO523) hb); replace HO528 := Aside0.mk (Kd.R_below (rK HO528) hb); replace BK473 := Aside0.mk (blk_below (g := gb473) (bK BK473) hb); replace BK505 := Aside0.mk (blk_below (g := gb505) (bK BK505) hb); replace HB := Aside0.mk (below_step bG hb); (try clear hb)) | ((with_reducible refine gate_callee (f := 20) rfl ?_); refine gL (some 70) Try.func20 #[.slice Ao62 t494.length co62, .int .i64 1] ?_; (with_reducible refine (laws_markPathS.calls k (fun k_ => some k_ = (.slice Ao62 t494.length co62 : Value).ownBlock) (.slice Ao62 t494.length co62) t494 1 t530 t531 w _ ?side1 ?side2 A36.out).mono ?_); (case side1 => repeat (first | (with_reducible first | exact HB.out | apply below_alloc | apply pw_below_drewN | apply below_drew1 | refine below_set ?_ GE473.out | refine below_set ?_ GE505.out) | exact HB.out)); (case side2 => exact Kd.R_tight rfl HO496.out); rintro e w78 ⟨rfl, hy0, hb, hkp⟩; refine ⟨_, rfl, ?_⟩; replace BK473 := Aside0.mk (blk_kept (bK BK473) hkp (fun hs_ => (fun e_ => (Kd.R_ne HO496.out BK473.out (by decide)) e_) hs_)); replace HO479 := Aside0.mk (Kd.R_mono (ok' := fun k_ => some k_ ≠ (.slice Ao62 t494.length co62 : Value).ownBlock ∧ some k_ ≠ (.slice Ao68 t513.length co68 : Value).ownBlock) (Kd.R_keptB (HO479.out) hkp (fun k_ hk_ hs_ => (hk_.1.2) hs_)) (fun k_ hk_ => ⟨hk_.1.1.2, hk_.1.2⟩)); replace HO482 := Aside0.mk (Kd.R_mono (ok' := fun k_ => some k_ ≠ (.slice Ao49 t484.length co49 : Value).ownBlock ∧ some k_ ≠ (.slice Ao66 t491.length co66 : Value).ownBlock ∧ some k_ ≠ (.slice Ao56 t497.length co56 : Value).ownBlock ∧ some k_ ≠ (.slice Ao59 t501.length co59 : Value).ownBlock ∧ some k_ ≠ (.slice Ao65 t509.length co65 : Value).ownBlock ∧ some k_ ≠ (.slice Ao72 t517.length co72 : Value).ownBlock ∧ some k_ ≠ (.slice Ao73 t521.length co73 : Value).ownBlock) (Kd.R_keptB ((Kd.R_apart' HO482.out (Kd.R_typed HO496.out) (by decide))) hkp (fun k_ hk_ hs_ => (hk_.2) hs_)) (fun k_ hk_ => ⟨hk_.1.1.1.1.1.1.1.1, hk_.1.1.1.1.1.1.1.2, hk_.1.1.1.1.1.1.2, hk_.1.1.1.1.1.2, hk_.1.1.1.1.2, hk_.1.1.1.2, hk_.1.1.2⟩)); replace HO486 := Aside0.mk (Kd.R_mono (ok' := fun k_ => some k_ ≠ (.slice Ao48 t480.length co48 : Value).ownBlock ∧ some k_ ≠ (.slice Ao66 t491.length co66 : Value).ownBlock ∧ some k_ ≠ (.slice Ao56 t497.length co56 : Value).ownBlock ∧ some k_ ≠ (.slice Ao59 t501.length co59 : Value).ownBlock ∧ some k_ ≠ (.slice Ao65 t509.length co65 : Value).ownBlock ∧ some k_ ≠ (.slice Ao72 t517.length co72 : Value).ownBlock ∧ some k_ ≠ (.slice Ao73 t521.length co73 : Value).ownBlock) (Kd.R_keptB ((Kd.R_apart' HO486.out (Kd.R_typed HO496.out) (by decide))) hkp (fun k_ hk_ hs_ => (hk_.2) hs_)) (fun k_ hk_ => ⟨hk_.1.1.1.1.1.1.1.1, hk_.1.1.1.1.1.1.1.2, hk_.1.1.1.1.1.1.2, hk_.1.1.1.1.1.2, hk_.1.1.1.1.2, hk_.1.1.1.2, hk_.1.1.2⟩)); replace HO490 := Aside0.mk (Kd.R_mono (ok' := fun k_ => some k_ ≠ (.slice Ao63 t506.length co63 : Value).ownBlock ∧ some k_ ≠ (.slice Ao76 t526.length co76 : Value).ownBlock) (Kd.R_keptB ((Kd.R_apart' HO490.out (Kd.R_typed HO496.out) (by decide))) hkp (fun k_ hk_ hs_ => (hk_.2) hs_)) (fun k_ hk_ => ⟨hk_.1.1.1.2, hk_.1.1.2⟩)); replace HO493 := Aside0.mk (Kd.R_mono (ok' := fun k_ => some k_ ≠ (.slice Ao48 t480.length co48 : Value).ownBlock ∧ some k_ ≠ (.slice Ao49 t484.length co49 : Value).ownBlock ∧ some k_ ≠ (.slice Ao56 t497.length co56 : Value).ownBlock ∧ some k_ ≠ (.slice Ao59 t501.length co59 : Value).ownBlock ∧ some k_ ≠ (.slice Ao65 t509.length co65 : Value).ownBlock ∧ some k_ ≠ (.slice Ao72 t517.length co72 : Value).ownBlock ∧ some k_ ≠ (.slice Ao73 t521.length co73 : Value).ownBlock) (Kd.R_keptB ((Kd.R_apart' HO493.out (Kd.R_typed HO496.out) (by decide))) hkp (fun k_ hk_ hs_ => (hk_.2) hs_)) (fun k_ hk_ => ⟨hk_.1.1.1.1.1.1.1.1.2, hk_.1.1.1.1.1.1.1.2, hk_.1.1.1.1.1.1.2, hk_.1.1.1.1.1.2, hk_.1.1.1.1.2, hk_.1.1.1.2, hk_.1.1.2⟩)); replace HO499 := Aside0.mk (Kd.R_mono (ok' := fun k_ => some k_ ≠ (.slice Ao48 t480.length co48 : Value).ownBlock ∧ some k_ ≠ (.slice Ao49 t484.length co49 : Value).ownBlock ∧ some k_ ≠ (.slice Ao66 t491.length co66 : Value).ownBlock ∧ some k_ ≠ (.slice Ao59 t501.length co59 : Value).ownBlock ∧ some k_ ≠ (.slice Ao65 t509.length co65 : Value).ownBlock ∧ some k_ ≠ (.slice Ao72 t517.length co72 : Value).ownBlock ∧ some k_ ≠ (.slice Ao73 t521.length co73 : Value).ownBlock) (Kd.R_keptB ((Kd.R_apart' HO499.out (Kd.R_typed HO496.out) (by decide))) hkp (fun k_ hk_ hs_ => (hk_.2) hs_)) (fun k_ hk_ => ⟨hk_.1.1.1.1.1.1.1.2, hk_.1.1.1.1.1.1.2, hk_.1.1.1.1.1.2, hk_.1.1.1.1.1.1.1.1, hk_.1.1.1.1.2, hk_.1.1.1.2, hk_.1.1.2⟩)); replace HO503 := Aside0.mk (Kd.R_mono (ok' := fun k_ => some k_ ≠ (.slice Ao48 t480.length co48 : Value).ownBlock ∧ some k_ ≠ (.slice Ao49 t484.length co49 : Value).ownBlock ∧ some k_ ≠ (.slice Ao66 t491.length co66 : Value).ownBlock ∧ some k_ ≠ (.slice Ao56 t497.length co56 : Value).ownBlock ∧ some k_ ≠ (.slice Ao65 t509.length co65 : Value).ownBlock ∧ some k_ ≠ (.slice Ao72 t517.length co72 : Value).ownBlock ∧ some k_ ≠ (.slice Ao73 t521.length co73 : Value).ownBlock) (Kd.R_keptB ((Kd.R_apart' HO503.out (Kd.R_typed HO496.out) (by decide))) hkp (fun k_ hk_ hs_ => (hk_.2) hs_)) (fun k_ hk_ => ⟨hk_.1.1.1.1.1.1.1.2, hk_.1.1.1.1.1.1.2, hk_.1.1.1.1.1.2, hk_.1.1.1.1.1.1.1.1, hk_.1.1.1.1.2, hk_.1.1.1.2, hk_.1.1.2⟩)); replace BK505 := Aside0.mk (blk_kept (bK BK505) hkp (fun hs_ => (fun e_ => (Kd.R_ne HO496.out BK505.out (by decide)) e_) hs_)); replace HO508 := Aside0.mk (Kd.R_mono (ok' := fun k_ => some k_ ≠ (.slice Ao50 t488.length co50 : Value).ownBlock ∧ some k_ ≠ (.slice Ao76 t526.length co76 : Value).ownBlock) (Kd.R_keptB ((Kd.R_apart' HO508.out (Kd.R_typed HO496.out) (by decide))) hkp (fun k_ hk_ hs_ => (hk_.2) hs_)) (fun k_ hk_ => ⟨hk_.1.1.1.2, hk_.1.1.2⟩)); replace HO511 := Aside0.mk (Kd.R_mono (ok' := fun k_ => some k_ ≠ (.slice Ao48 t480.length co48 : Value).ownBlock ∧ some k_ ≠ (.slice Ao49 t484.length co49 : Value).ownBlock ∧ some k_ ≠ (.slice Ao66 t491.length co66 : Value).ownBlock ∧ some k_ ≠ (.slice Ao56 t497.length co56 : Value).ownBlock ∧ some k_ ≠ (.slice Ao59 t501.length co59 : Value).ownBlock ∧ some k_ ≠ (.slice Ao72 t517.length co72 : Value).ownBlock ∧ some k_ ≠ (.slice Ao73 t521.length co73 : Value).ownBlock) (Kd.R_keptB ((Kd.R_apart' HO511.out (Kd.R_typed HO496.out) (by decide))) hkp (fun k_ hk_ hs_ => (hk_.2) hs_)) (fun k_ hk_ => ⟨hk_.1.1.1.1.1.1.1.1.2, hk_.1.1.1.1.1.1.1.2, hk_.1.1.1.1.1.1.2, hk_.1.1.1.1.1.2, hk_.1.1.1.1.2, hk_.1.1.1.2, hk_.1.1.2⟩)); replace HO515 := Aside0.mk (Kd.R_mono (ok' := fun k_ => some k_ ≠ (.slice Ao47 t477.length co47 : Value).ownBlock ∧ some k_ ≠ (.slice Ao62 t494.length co62 : Value).ownBlock) (Kd.R_keptB (HO515.out) hkp (fun k_ hk_ hs_ => (hk_.2) hs_)) (fun k_ hk_ => ⟨hk_.1.1.2, hk_.1.2⟩)); replace HO519 := Aside0.mk (Kd.R_mono (ok' := fun k_ => some k_ ≠ (.slice Ao48 t480.length co48 : Value).ownBlock ∧ some k_ ≠ (.slice Ao49 t484.length co49 : Value).ownBlock ∧ some k_ ≠ (.slice Ao66 t491.length co66 : Value).ownBlock ∧ some k_ ≠ (.slice Ao56 t497.length co56 : Value).ownBlock ∧ some k_ ≠ (.slice Ao59 t501.length co59 : Value).ownBlock ∧ some k_ ≠ (.slice Ao65 t509.length co65 : Value).ownBlock ∧ some k_ ≠ (.slice Ao73 t521.length co73 : Value).ownBlock) (Kd.R_keptB ((Kd.R_apart' HO519.out (Kd.R_typed HO496.out) (by decide))) hkp (fun k_ hk_ hs_ => (hk_.2) hs_)) (fun k_ hk_ => ⟨hk_.1.1.1.1.1.1.1.2, hk_.1.1.1.1.1.1.2, hk_.1.1.1.1.1.2, hk_.1.1.1.1.2, hk_.1.1.1.2, hk_.1.1.2, hk_.1.1.1.1.1.1.1.1⟩)); replace HO523 := Aside0.mk (Kd.R_mono (ok' := fun k_ => some k_ ≠ (.slice Ao48 t480.length co48 : Value).ownBlock ∧ some k_ ≠ (.slice Ao49 t484.length co49 : Value).ownBlock ∧ some k_ ≠ (.slice Ao66 t491.length co66 : Value).ownBlock ∧ some k_ ≠ (.slice Ao56 t497.length co56 : Value).ownBlock ∧ some k_ ≠ (.slice Ao59 t501.length co59 : Value).ownBlock ∧ some k_ ≠ (.slice Ao65 t509.length co65 : Value).ownBlock ∧ some k_ ≠ (.slice Ao72 t517.length co72 : Value).ownBlock) (Kd.R_keptB ((Kd.R_apart' HO523.out (Kd.R_typed HO496.out) (by decide))) hkp (fun k_ hk_ hs_ => (hk_.2) hs_)) (fun k_ hk_ => ⟨hk_.1.1.1.1.1.1.1.2, hk_.1.1.1.1.1.1.2, hk_.1.1.1.1.1.2, hk_.1.1.1.1.2, hk_.1.1.1.2, hk_.1.1.2, hk_.1.1.1.1.1.1.1.1⟩)); replace HO528 := Aside0.mk (Kd.R_mono (ok' := fun k_ => some k_ ≠ (.slice Ao50 t488.length co50 : Value).ownBlock ∧ some k_ ≠ (.slice Ao63 t506.length co63 : Value).ownBlock) (Kd.R_keptB ((Kd.R_apart' HO528.out (Kd.R_typed HO496.out) (by decide))) hkp (fun k_ hk_ hs_ => (hk_.2) hs_)) (fun k_ hk_ => ⟨hk_.1.1.1.2, hk_.1.1.2⟩)); replace HO496 := Aside0.mk (Kd.R_reok rfl hy0 (fun k_ e_ => HO496.out.1 k_ e_)); replace HB := Aside0.mk (hb); (try clear hb); (try clear hkp); (try clear hy0); have hcz79_0 : w78.cell? ⟨gb505, 0, none⟩ = some (.slice Ao56 t497.length co56) := bC BK505 0; have hcz79_1 : w78.cell? ⟨gb505, 1, none⟩ = some (.int .i64 t500) := bC BK505 1; have hcz79_2 : w78.cell? ⟨gb505, 2, none⟩ = some (.slice Ao59 t501.length co59) := bC BK505 2; have hcz79_3 : w78.cell? ⟨gb505, 3, none⟩ = some (.int .i64 t504) := bC BK505 3; have hfz79_0 := blk_frozen BK505.out 0; have hfz79_1 := blk_frozen BK505.out 1; have hfz79_2 := blk_frozen BK505.out 2; have hfz79_3 := blk_frozen BK505.out 3) | ((with_reducible refine gate_callee (f := 44) rfl ?_); refine gL (some 73) Try.func44 #[.agg #[.slice Ao56 t497.length co56, .int .i64 t500, .slice Ao59 t501.length co59, .int .i64 t504], .int .i64 t530] ?_; (with_reducible refine (laws_markControl.calls k (fun k_ => some k_ = (.slice Ao56 t497.length co56 : Value).ownBlock) (.slice Ao56 t497.length co56) t497 t500 (fun k_ => some k_ = (.slice Ao59 t501.length co59 : Value).ownBlock) (.slice Ao59 t501.length co59) t501 t504 t530 t532 t533 t534 w _ ?side1 ?side2 ?side3 ?side4 ?side5 A37.out).mono ?_); (case side1 => repeat (first | (with_reducible first | exact HB.out | apply below_alloc | apply pw_below_drewN | apply below_drew1 | refine below_set ?_ GE473.out | refine below_set ?_ GE505.out) | exact HB.out)); (case side2 => exact Kd.R_tight rfl HO499.out); (case side3 => exact fun k_ e_ => (HO499.out.1 k_ e_.symm).2.2.2.1); (case side4 => exact Kd.R_tight rfl HO503.out); (case side5 => exact fun k_ e_ => (HO503.out.1 k_ e_.symm).2.2.2.1); rintro e w80 ⟨rfl, hy0, hy1, hb, hkp⟩; refine ⟨_, rfl, ?_⟩; replace BK473 := Aside0.mk (blk_kept (bK BK473) hkp (fun hs_ => Or.elim hs_ (fun e_ => (fun e_ => (Kd.R_ne HO499.out BK473.out (by decide)) e_) e_) (fun e_ => (fun e_ => (Kd.R_ne HO503.out BK473.out (by decide)) e_) e_))); replace HO479 := Aside0.mk (Kd.R_mono (ok' := fun k_ => some k_ ≠ (.slice Ao62 t494.length co62 : Value).ownBlock ∧ some k_ ≠ (.slice Ao68 t513.length co68 : Value).ownBlock) (Kd.R_keptB ((Kd.R_apart' (Kd.R_apart' HO479.out (Kd.R_typed HO499.out) (by decide)) (Kd.R_typed HO503.out) (by decide))) hkp (fun k_ hk_ hs_ => Or.elim hs_ (fun e_ => (hk_.1.2) e_) (fun e_ => (hk_.2) e_))) (fun k_ hk_ => ⟨hk_.1.1.1.1, hk_.1.1.1.2⟩)); replace HO482 := Aside0.mk (Kd.R_mono (ok' := fun k_ => some k_ ≠ (.slice Ao49 t484.length co49 : Value).ownBlock ∧ some k_ ≠ (.slice Ao66 t491.length co66 : Value).ownBlock ∧ some k_ ≠ (.slice Ao56 t497.length co56 : Value).ownBlock ∧ some k_ ≠ (.slice Ao59 t501.length co59 : Value).ownBlock ∧ some k_ ≠ (.slice Ao65 t509.length co65 : Value).ownBlock ∧ some k_ ≠ (.slice Ao72 t517.length co72 : Value).ownBlock ∧ some k_ ≠ (.slice Ao73 t521.length co73 : Value).ownBlock) (Kd.R_keptB (HO482.out) hkp (fun k_ hk_ hs_ => Or.elim hs_ (fun e_ => (hk_.2.2.1) e_) (fun e_ => (hk_.2.2.2.1) e_))) (fun k_ hk_ => ⟨hk_.1.1, hk_.1.2.1, hk_.1.2.2.1, hk_.1.2.2.2.1, hk_.1.2.2.2.2.1, hk_.1.2.2.2.2.2.1, hk_.1.2.2.2.2.2.2⟩)); replace HO486 := Aside0.mk (Kd.R_mono (ok' := fun k_ => some k_ ≠ (.slice Ao48 t480.length co48 : Value).ownBlock ∧ some k_ ≠ (.slice Ao66 t491.length co66 : Value).ownBlock ∧ some k_ ≠ (.slice Ao56 t497.length co56 : Value).ownBlock ∧ some k_ ≠ (.slice Ao59 t501.length co59 : Value).ownBlock ∧ some k_ ≠ (.slice Ao65 t509.length co65 : Value).ownBlock ∧ some k_ ≠ (.slice Ao72 t517.length co72 : Value).ownBlock ∧ some k_ ≠ (.slice Ao73 t521.length co73 : Value).ownBlock) (Kd.R_keptB (HO486.out) hkp (fun k_ hk_ hs_ => Or.elim hs_ (fun e_ => (hk_.2.2.1) e_) (fun e_ => (hk_.2.2.2.1) e_))) (fun k_ hk_ => ⟨hk_.1.1, hk_.1.2.1, hk_.1.2.2.1, hk_.1.2.2.2.1, hk_.1.2.2.2.2.1, hk_.1.2.2.2.2.2.1, hk_.1.2.2.2.2.2.2⟩)); replace HO490 := Aside0.mk (Kd.R_mono (ok' := fun k_ => some k_ ≠ (.slice Ao63 t506.length co63 : Value).ownBlock ∧ some k_ ≠ (.slice Ao76 t526.length co76 : Value).ownBlock) (Kd.R_keptB ((Kd.R_apart' (Kd.R_apart' HO490.out (Kd.R_typed HO499.out) (by decide)) (Kd.R_typed HO503.out) (by decide))) hkp (fun k_ hk_ hs_ => Or.elim hs_ (fun e_ => (hk_.1.2) e_) (fun e_ => (hk_.2) e_))) (fun k_ hk_ => ⟨hk_.1.1.1.1, hk_.1.1.1.2⟩)); replace HO493 := Aside0.mk (Kd.R_mono (ok' := fun k_ => some k_ ≠ (.slice Ao48 t480.length co48 : Value).ownBlock ∧ some k_ ≠ (.slice Ao49 t484.length co49 : Value).ownBlock ∧ some k_ ≠ (.slice Ao56 t497.length co56 : Value).ownBlock ∧ some k_ ≠ (.slice Ao59 t501.length co59 : Value).ownBlock ∧ some k_ ≠ (.slice Ao65 t509.length co65 : Value).ownBlock ∧ some k_ ≠ (.slice Ao72 t517.length co72 : Value).ownBlock ∧ some k_ ≠ (.slice Ao73 t521.length co73 : Value).ownBlock) (Kd.R_keptB (HO493.out) hkp (fun k_ hk_ hs_ => Or.elim hs_ (fun e_ => (hk_.2.2.1) e_) (fun e_ => (hk_.2.2.2.1) e_))) (fun k_ hk_ => ⟨hk_.1.1, hk_.1.2.1, hk_.1.2.2.1, hk_.1.2.2.2.1, hk_.1.2.2.2.2.1, hk_.1.2.2.2.2.2.1, hk_.1.2.2.2.2.2.2⟩)); replace HO496 := Aside0.mk (Kd.R_mono (ok' := fun k_ => some k_ ≠ (.slice Ao47 t477.length co47 : Value).ownBlock ∧ some k_ ≠ (.slice Ao68 t513.length co68 : Value).ownBlock) (Kd.R_keptB ((Kd.R_apart' (Kd.R_apart' HO496.out (Kd.R_typed HO499.out) (by decide)) (Kd.R_typed HO503.out) (by decide))) hkp (fun k_ hk_ hs_ => Or.elim hs_ (fun e_ => (hk_.1.2) e_) (fun e_ => (hk_.2) e_))) (fun k_ hk_ => ⟨hk_.1.1.1.1.2, hk_.1.1.1.2⟩)); replace BK505 := Aside0.mk (blk_kept (bK BK505) hkp (fun hs_ => Or.elim hs_ (fun e_ => (fun e_ => (Kd.R_ne HO499.out BK505.out (by decide)) e_) e_) (fun e_ => (fun e_ => (Kd.R_ne HO503.out BK505.out (by decide)) e_) e_))); replace HO508 := Aside0.mk (Kd.R_mono (ok' := fun k_ => some k_ ≠ (.slice Ao50 t488.length co50 : Value).ownBlock ∧ some k_ ≠ (.slice Ao76 t526.length co76 : Value).ownBlock) (Kd.R_keptB ((Kd.R_apart' (Kd.R_apart' HO508.out (Kd.R_typed HO499.out) (by decide)) (Kd.R_typed HO503.out) (by decide))) hkp (fun k_ hk_ hs_ => Or.elim hs_ (fun e_ => (hk_.1.2) e_) (fun e_ => (hk_.2) e_))) (fun k_ hk_ => ⟨hk_.1.1.1.1, hk_.1.1.1.2⟩)); replace HO511 := Aside0.mk (Kd.R_mono (ok' := fun k_ => some k_ ≠ (.slice Ao48 t480.length co48 : Value).ownBlock ∧ some k_ ≠ (.slice Ao49 t484.length co49 : Value).ownBlock ∧ some k_ ≠ (.slice Ao66 t491.length co66 : Value).ownBlock ∧ some k_ ≠ (.slice Ao56 t497.length co56 : Value).ownBlock ∧ some k_ ≠ (.slice Ao59 t501.length co59 : Value).ownBlock ∧ some k_ ≠ (.slice Ao72 t517.length co72 : Value).ownBlock ∧ some k_ ≠ (.slice Ao73 t521.length co73 : Value).ownBlock) (Kd.R_keptB (HO511.out) hkp (fun k_ hk_ hs_ => Or.elim hs_ (fun e_ => (hk_.2.2.2.1) e_) (fun e_ => (hk_.2.2.2.2.1) e_))) (fun k_ hk_ => ⟨hk_.1.1, hk_.1.2.1, hk_.1.2.2.1, hk_.1.2.2.2.1, hk_.1.2.2.2.2.1, hk_.1.2.2.2.2.2.1, hk_.1.2.2.2.2.2.2⟩)); replace HO515 := Aside0.mk (Kd.R_mono (ok' := fun k_ => some k_ ≠ (.slice Ao47 t477.length co47 : Value).ownBlock ∧ some k_ ≠ (.slice Ao62 t494.length co62 : Value).ownBlock) (Kd.R_keptB ((Kd.R_apart' (Kd.R_apart' HO515.out (Kd.R_typed HO499.out) (by decide)) (Kd.R_typed HO503.out) (by decide))) hkp (fun k_ hk_ hs_ => Or.elim hs_ (fun e_ => (hk_.1.2) e_) (fun e_ => (hk_.2) e_))) (fun k_ hk_ => ⟨hk_.1.1.1.1, hk_.1.1.1.2⟩)); replace HO519 := Aside0.mk (Kd.R_mono (ok' := fun k_ => some k_ ≠ (.slice Ao48 t480.length co48 : Value).ownBlock ∧ some k_ ≠ (.slice Ao49 t484.length co49 : Value).ownBlock ∧ some k_ ≠ (.slice Ao66 t491.length co66 : Value).ownBlock ∧ some k_ ≠ (.slice Ao56 t497.length co56 : Value).ownBlock ∧ some k_ ≠ (.slice Ao59 t501.length co59 : Value).ownBlock ∧ some k_ ≠ (.slice Ao65 t509.length co65 : Value).ownBlock ∧ some k_ ≠ (.slice Ao73 t521.length co73 : Value).ownBlock) (Kd.R_keptB (HO519.out) hkp (fun k_ hk_ hs_ => Or.elim hs_ (fun e_ => (hk_.2.2.2.1) e_) (fun e_ => (hk_.2.2.2.2.1) e_))) (fun k_ hk_ => ⟨hk_.1.1, hk_.1.2.1, hk_.1.2.2.1, hk_.1.2.2.2.1, hk_.1.2.2.2.2.1, hk_.1.2.2.2.2.2.1, hk_.1.2.2.2.2.2.2⟩)); replace HO523 := Aside0.mk (Kd.R_mono (ok' := fun k_ => some k_ ≠ (.slice Ao48 t480.length co48 : Value).ownBlock ∧ some k_ ≠ (.slice Ao49 t484.length co49 : Value).ownBlock ∧ some k_ ≠ (.slice Ao66 t491.length co66 : Value).ownBlock ∧ some k_ ≠ (.slice Ao56 t497.length co56 : Value).ownBlock ∧ some k_ ≠ (.slice Ao59 t501.length co59 : Value).ownBlock ∧ some k_ ≠ (.slice Ao65 t509.length co65 : Value).ownBlock ∧ some k_ ≠ (.slice Ao72 t517.length co72 : Value).ownBlock) (Kd.R_keptB (HO523.out) hkp (fun k_ hk_ hs_ => Or.elim hs_ (fun e_ => (hk_.2.2.2.1) e_) (fun e_ => (hk_.2.2.2.2.1) e_))) (fun k_ hk_ => ⟨hk_.1.1, hk_.1.2.1, hk_.1.2.2.1, hk_.1.2.2.2.1, hk_.1.2.2.2.2.1, hk_.1.2.2.2.2.2.1, hk_.1.2.2.2.2.2.2⟩)); replace HO528 := Aside0.mk (Kd.R_mono (ok' := fun k_ => some k_ ≠ (.slice Ao50 t488.length co50 : Value).ownBlock ∧ some k_ ≠ (.slice Ao63 t506.length co63 : Value).ownBlock) (Kd.R_keptB ((Kd.R_apart' (Kd.R_apart' HO528.out (Kd.R_typed HO499.out) (by decide)) (Kd.R_typed HO503.out) (by decide))) hkp (fun k_ hk_ hs_ => Or.elim hs_ (fun e_ => (hk_.1.2) e_) (fun e_ => (hk_.2) e_))) (fun k_ hk_ => ⟨hk_.1.1.1.1, hk_.1.1.1.2⟩)); replace HO499 := Aside0.mk (Kd.R_reok rfl hy0 (fun k_ e_ => HO499.out.1 k_ e_)); replace HO503 := Aside0.mk (Kd.R_reok rfl hy1 (fun k_ e_ => HO503.out.1 k_ e_)); replace HB := Aside0.mk (hb); (try clear hb); (try clear hkp); (try clear hy0); (try clear hy1)) | ((with_reducible refine gate_callee (f := 51) rfl ?_); refine gL (some 76) Try.func51 #[.slice Ao63 t506.length co63, .int .i64 t532] ?_; (with_reducible refine (laws_markWantS.calls k (fun k_ => some k_ = (.slice Ao63 t506.length co63 : Value).ownBlock) (.slice Ao63 t506.length co63) t506 t532 t535 t536 w _ ?side1 ?side2 A38.out).mono ?_); (case side1 => repeat (first | (with_reducible first | exact HB.out | apply below_alloc | apply pw_below_drewN | apply below_drew1 | refine below_set ?_ GE473.out | refine below_set ?_ GE505.out) | exact HB.out)); (case side2 => exact Kd.R_tight rfl HO508.out); rintro e w81 ⟨rfl, hy0, hb, hkp⟩; refine ⟨_, rfl, ?_⟩; replace BK473 := Aside0.mk (blk_kept (bK BK473) hkp (fun hs_ => (fun e_ => (Kd.R_ne HO508.out BK473.out (by decide)) e_) hs_)); replace HO479 := Aside0.mk (Kd.R_mono (ok' := fun k_ => some k_ ≠ (.slice Ao62 t494.length co62 : Value).ownBlock ∧ some k_ ≠ (.slice Ao68 t513.length co68 : Value).ownBlock) (Kd.R_keptB ((Kd.R_apart' HO479.out (Kd.R_typed HO508.out) (by decide))) hkp (fun k_ hk_ hs_ => (hk_.2) hs_)) (fun k_ hk_ => ⟨hk_.1.1.1, hk_.1.1.2⟩)); replace HO482 := Aside0.mk (Kd.R_mono (ok' := fun k_ => some k_ ≠ (.slice Ao49 t484.length co49 : Value).ownBlock ∧ some k_ ≠ (.slice Ao66 t491.length co66 : Value).ownBlock ∧ some k_ ≠ (.slice Ao56 t497.length co56 : Value).ownBlock ∧ some k_ ≠ (.slice Ao59 t501.length co59 : Value).ownBlock ∧ some k_ ≠ (.slice Ao65 t509.length co65 : Value).ownBlock ∧ some k_ ≠ (.slice Ao72 t517.length co72 : Value).ownBlock ∧ some k_ ≠ (.slice Ao73 t521.length co73 : Value).ownBlock) (Kd.R_keptB ((Kd.R_apart' HO482.out (Kd.R_typed HO508.out) (by decide))) hkp (fun k_ hk_ hs_ => (hk_.2) hs_)) (fun k_ hk_ => ⟨hk_.1.1.1, hk_.1.1.2.1, hk_.1.1.2.2.1, hk_.1.1.2.2.2.1, hk_.1.1.2.2.2.2.1, hk_.1.1.2.2.2.2.2.1, hk_.1.1.2.2.2.2.2.2⟩)); replace HO486 := Aside0.mk (Kd.R_mono (ok' := fun k_ => some k_ ≠ (.slice Ao48 t480.length co48 : Value).ownBlock ∧ some k_ ≠ (.slice Ao66 t491.length co66 : Value).ownBlock ∧ some k_ ≠ (.slice Ao56 t497.length co56 : Value).ownBlock ∧ some k_ ≠ (.slice Ao59 t501.length co59 : Value).ownBlock ∧ some k_ ≠ (.slice Ao65 t509.length co65 : Value).ownBlock ∧ some k_ ≠ (.slice Ao72 t517.length co72 : Value).ownBlock ∧ some k_ ≠ (.slice Ao73 t521.length co73 : Value).ownBlock) (Kd.R_keptB ((Kd.R_apart' HO486.out (Kd.R_typed HO508.out) (by decide))) hkp (fun k_ hk_ hs_ => (hk_.2) hs_)) (fun k_ hk_ => ⟨hk_.1.1.1, hk_.1.1.2.1, hk_.1.1.2.2.1, hk_.1.1.2.2.2.1, hk_.1.1.2.2.2.2.1, hk_.1.1.2.2.2.2.2.1, hk_.1.1.2.2.2.2.2.2⟩)); replace HO490 := Aside0.mk (Kd.R_mono (ok' := fun k_ => some k_ ≠ (.slice Ao63 t506.length co63 : Value).ownBlock ∧ some k_ ≠ (.slice Ao76 t526.length co76 : Value).ownBlock) (Kd.R_keptB (HO490.out) hkp (fun k_ hk_ hs_ => (hk_.1) hs_)) (fun k_ hk_ => ⟨hk_.1.1, hk_.1.2⟩)); replace HO493 := Aside0.mk (Kd.R_mono (ok' := fun k_ => some k_ ≠ (.slice Ao48 t480.length co48 : Value).ownBlock ∧ some k_ ≠ (.slice Ao49 t484.length co49 : Value).ownBlock ∧ some k_ ≠ (.slice Ao56 t497.length co56 : Value).ownBlock ∧ some k_ ≠ (.slice Ao59 t501.length co59 : Value).ownBlock ∧ some k_ ≠ (.slice Ao65 t509.length co65 : Value).ownBlock ∧ some k_ ≠ (.slice Ao72 t517.length co72 : Value).ownBlock ∧ some k_ ≠ (.slice Ao73 t521.length co73 : Value).ownBlock) (Kd.R_keptB ((Kd.R_apart' HO493.out (Kd.R_typed HO508.out) (by decide))) hkp (fun k_ hk_ hs_ => (hk_.2) hs_)) (fun k_ hk_ => ⟨hk_.1.1.1, hk_.1.1.2.1, hk_.1.1.2.2.1, hk_.1.1.2.2.2.1, hk_.1.1.2.2.2.2.1, hk_.1.1.2.2.2.2.2.1, hk_.1.1.2.2.2.2.2.2⟩)); replace HO496 := Aside0.mk (Kd.R_mono (ok' := fun k_ => some k_ ≠ (.slice Ao47 t477.length co47 : Value).ownBlock ∧ some k_ ≠ (.slice Ao68 t513.length co68 : Value).ownBlock) (Kd.R_keptB ((Kd.R_apart' HO496.out (Kd.R_typed HO508.out) (by decide))) hkp (fun k_ hk_ hs_ => (hk_.2) hs_)) (fun k_ hk_ => ⟨hk_.1.1.1, hk_.1.1.2⟩)); replace HO499 := Aside0.mk (Kd.R_mono (ok' := fun k_ => some k_ ≠ (.slice Ao48 t480.length co48 : Value).ownBlock ∧ some k_ ≠ (.slice Ao49 t484.length co49 : Value).ownBlock ∧ some k_ ≠ (.slice Ao66 t491.length co66 : Value).ownBlock ∧ some k_ ≠ (.slice Ao59 t501.length co59 : Value).ownBlock ∧ some k_ ≠ (.slice Ao65 t509.length co65 : Value).ownBlock ∧ some k_ ≠ (.slice Ao72 t517.length co72 : Value).ownBlock ∧ some k_ ≠ (.slice Ao73 t521.length co73 : Value).ownBlock) (Kd.R_keptB ((Kd.R_apart' HO499.out (Kd.R_typed HO508.out) (by decide))) hkp (fun k_ hk_ hs_ => (hk_.2) hs_)) (fun k_ hk_ => ⟨hk_.1.1.1, hk_.1.1.2.1, hk_.1.1.2.2.1, hk_.1.1.2.2.2.1, hk_.1.1.2.2.2.2.1, hk_.1.1.2.2.2.2.2.1, hk_.1.1.2.2.2.2.2.2⟩)); replace HO503 := Aside0.mk (Kd.R_mono (ok' := fun k_ => some k_ ≠ (.slice Ao48 t480.length co48 : Value).ownBlock ∧ some k_ ≠ (.slice Ao49 t484.length co49 : Value).ownBlock ∧ some k_ ≠ (.slice Ao66 t491.length co66 : Value).ownBlock ∧ some k_ ≠ (.slice Ao56 t497.length co56 : Value).ownBlock ∧ some k_ ≠ (.slice Ao65 t509.length co65 : Value).ownBlock ∧ some k_ ≠ (.slice Ao72 t517.length co72 : Value).ownBlock ∧ some k_ ≠ (.slice Ao73 t521.length co73 : Value).ownBlock) (Kd.R_keptB ((Kd.R_apart' HO503.out (Kd.R_typed HO508.out) (by decide))) hkp (fun k_ hk_ hs_ => (hk_.2) hs_)) (fun k_ hk_ => ⟨hk_.1.1.1, hk_.1.1.2.1, hk_.1.1.2.2.1, hk_.1.1.2.2.2.1, hk_.1.1.2.2.2.2.1, hk_.1.1.2.2.2.2.2.1, hk_.1.1.2.2.2.2.2.2⟩)); replace BK505 := Aside0.mk (blk_kept (bK BK505) hkp (fun hs_ => (fun e_ => (Kd.R_ne HO508.out BK505.out (by decide)) e_) hs_)); replace HO511 := Aside0.mk (Kd.R_mono (ok' := fun k_ => some k_ ≠ (.slice Ao48 t480.length co48 : Value).ownBlock ∧ some k_ ≠ (.slice Ao49 t484.length co49 : Value).ownBlock ∧ some k_ ≠ (.slice Ao66 t491.length co66 : Value).ownBlock ∧ some k_ ≠ (.slice Ao56 t497.length co56 : Value).ownBlock ∧ some k_ ≠ (.slice Ao59 t501.length co59 : Value).ownBlock ∧ some k_ ≠ (.slice Ao72 t517.length co72 : Value).ownBlock ∧ some k_ ≠ (.slice Ao73 t521.length co73 : Value).ownBlock) (Kd.R_keptB ((Kd.R_apart' HO511.out (Kd.R_typed HO508.out) (by decide))) hkp (fun k_ hk_ hs_ => (hk_.2) hs_)) (fun k_ hk_ => ⟨hk_.1.1.1, hk_.1.1.2.1, hk_.1.1.2.2.1, hk_.1.1.2.2.2.1, hk_.1.1.2.2.2.2.1, hk_.1.1.2.2.2.2.2.1, hk_.1.1.2.2.2.2.2.2⟩)); replace HO515 := Aside0.mk (Kd.R_mono (ok' := fun k_ => some k_ ≠ (.slice Ao47 t477.length co47 : Value).ownBlock ∧ some k_ ≠ (.slice Ao62 t494.length co62 : Value).ownBlock) (Kd.R_keptB ((Kd.R_apart' HO515.out (Kd.R_typed HO508.out) (by decide))) hkp (fun k_ hk_ hs_ => (hk_.2) hs_)) (fun k_ hk_ => ⟨hk_.1.1.1, hk_.1.1.2⟩)); replace HO519 := Aside0.mk (Kd.R_mono (ok' := fun k_ => some k_ ≠ (.slice Ao48 t480.length co48 : Value).ownBlock ∧ some k_ ≠ (.slice Ao49 t484.length co49 : Value).ownBlock ∧ some k_ ≠ (.slice Ao66 t491.length co66 : Value).ownBlock ∧ some k_ ≠ (.slice Ao56 t497.length co56 : Value).ownBlock ∧ some k_ ≠ (.slice Ao59 t501.length co59 : Value).ownBlock ∧ some k_ ≠ (.slice Ao65 t509.length co65 : Value).ownBlock ∧ some k_ ≠ (.slice Ao73 t521.length co73 : Value).ownBlock) (Kd.R_keptB ((Kd.R_apart' HO519.out (Kd.R_typed HO508.out) (by decide))) hkp (fun k_ hk_ hs_ => (hk_.2) hs_)) (fun k_ hk_ => ⟨hk_.1.1.1, hk_.1.1.2.1, hk_.1.1.2.2.1, hk_.1.1.2.2.2.1, hk_.1.1.2.2.2.2.1, hk_.1.1.2.2.2.2.2.1, hk_.1.1.2.2.2.2.2.2⟩)); replace HO523 := Aside0.mk (Kd.R_mono (ok' := fun k_ => some k_ ≠ (.slice Ao48 t480.length co48 : Value).ownBlock ∧ some k_ ≠ (.slice Ao49 t484.length co49 : Value).ownBlock ∧ some k_ ≠ (.slice Ao66 t491.length co66 : Value).ownBlock ∧ some k_ ≠ (.slice Ao56 t497.length co56 : Value).ownBlock ∧ some k_ ≠ (.slice Ao59 t501.length co59 : Value).ownBlock ∧ some k_ ≠ (.slice Ao65 t509.length co65 : Value).ownBlock ∧ some k_ ≠ (.slice Ao72 t517.length co72 : Value).ownBlock) (Kd.R_keptB ((Kd.R_apart' HO523.out (Kd.R_typed HO508.out) (by decide))) hkp (fun k_ hk_ hs_ => (hk_.2) hs_)) (fun k_ hk_ => ⟨hk_.1.1.1, hk_.1.1.2.1, hk_.1.1.2.2.1, hk_.1.1.2.2.2.1, hk_.1.1.2.2.2.2.1, hk_.1.1.2.2.2.2.2.1, hk_.1.1.2.2.2.2.2.2⟩)); replace HO508 := Aside0.mk (Kd.R_reok rfl hy0 (fun k_ e_ => HO508.out.1 k_ e_)); replace HO528 := Aside0.mk (Kd.R_mono (ok' := fun k_ => some k_ ≠ (.slice Ao50 t488.length co50 : Value).ownBlock ∧ some k_ ≠ (.slice Ao63 t506.length co63 : Value).ownBlock) (Kd.R_keptB (HO528.out) hkp (fun k_ hk_ hs_ => (hk_.2) hs_)) (fun k_ hk_ => ⟨hk_.1.1, hk_.1.2⟩)); replace HB := Aside0.mk (hb); (try clear hb); (try clear hkp); (try clear hy0)))
    (try simp only [Act.put, List.setIfInBounds_toArray, List.set_cons_zero, List.set_cons_succ])
    go_cut [84] (fun v84 wc => ∃ (kq : Nat) (x84_38 : Bool), v84 = .bool x84_38 ∧ Aside0 (laws_FnExactNextStage.j0 kq l0 l2 t491 t509 x84_38 l1_0 a1_1 l1_2 a1_3 = some r) ∧ Aside0 (kq ≤ k) ∧ Aside0 (Kd.R (Kd.int .i64) 3 wc w.heap.size (fun k_ => some k_ ≠ ((.slice Ao65 t509.length co65) : Value).ownBlock ∧ some k_ ≠ ((.slice Ao56 t497.length co56) : Value).ownBlock ∧ some k_ ≠ ((.slice Ao59 t501.length co59) : Value).ownBlock) (.slice Ao66 t491.length co66) t491) ∧ Aside0 (Kd.R (Kd.int .i64) 3 wc w.heap.size (fun k_ => some k_ ≠ ((.slice Ao66 t491.length co66) : Value).ownBlock ∧ some k_ ≠ ((.slice Ao56 t497.length co56) : Value).ownBlock ∧ some k_ ≠ ((.slice Ao59 t501.length co59) : Value).ownBlock) (.slice Ao65 t509.length co65) t509) ∧ Aside0 (Kd.R (Kd.int .i64) 3 wc w.heap.size (fun k_ => some k_ ≠ ((.slice Ao66 t491.length co66) : Value).ownBlock ∧ some k_ ≠ ((.slice Ao65 t509.length co65) : Value).ownBlock ∧ some k_ ≠ ((.slice Ao59 t501.length co59) : Value).ownBlock) (.slice Ao56 t497.length co56) t533) ∧ Aside0 (Kd.R (Kd.int .i64) 3 wc w.heap.size (fun k_ => some k_ ≠ ((.slice Ao66 t491.length co66) : Value).ownBlock ∧ some k_ ≠ ((.slice Ao65 t509.length co65) : Value).ownBlock ∧ some k_ ≠ ((.slice Ao56 t497.length co56) : Value).ownBlock) (.slice Ao59 t501.length co59) t534) ∧ Aside0 (wc.heap[gb473]? = some (.cells #[(.slice A1_0 l1_0.length c1_0), .int .i64 a1_1, (.slice A1_2 l1_2.length c1_2), .int .i64 a1_3] 55 (0, 0))) ∧ Aside0 (wc.heap[gb505]? = some (.cells #[(.slice Ao56 t497.length co56), .int .i64 t500, (.slice Ao59 t501.length co59), .int .i64 t504] 57 (0, 0))) ∧ Aside0 (Below w.heap.size w wc))
    case first =>
     have H := HC39.out
     clear HC39
     by_cases c82 : t535 < 0
     ·
      rw [if_pos c82] at H
      have c82b0 := decide_eq_true c82
      clear c82
      (first | rw [c82b0] | (simp only [i64_w, i32_w]; rw [c82b0]) | skip)
      have H' := Aside0.mk H
      clear H
      go_wp2
      go_meet
      case rel => exact ⟨_, (true), rS, H', ⟨by first | omega | exact Nat.le_refl _⟩, ⟨by (with_reducible repeat (first | apply Kd.R_alloc | apply Kd.R_drewN | apply Kd.R_drew)); exact Kd.R_mono HO493.out (fun _ hk => ⟨hk.2.2.2.2.1, ⟨hk.2.2.1, hk.2.2.2.1⟩⟩)⟩, ⟨by (with_reducible repeat (first | apply Kd.R_alloc | apply Kd.R_drewN | apply Kd.R_drew)); exact Kd.R_mono HO511.out (fun _ hk => ⟨hk.2.2.1, ⟨hk.2.2.2.1, hk.2.2.2.2.1⟩⟩)⟩, ⟨by (with_reducible repeat (first | apply Kd.R_alloc | apply Kd.R_drewN | apply Kd.R_drew)); exact Kd.R_mono HO499.out (fun _ hk => ⟨hk.2.2.1, ⟨hk.2.2.2.2.1, hk.2.2.2.1⟩⟩)⟩, ⟨by (with_reducible repeat (first | apply Kd.R_alloc | apply Kd.R_drewN | apply Kd.R_drew)); exact Kd.R_mono HO503.out (fun _ hk => ⟨hk.2.2.1, ⟨hk.2.2.2.2.1, hk.2.2.2.1⟩⟩)⟩, ⟨bK BK473⟩, ⟨bK BK505⟩, ⟨bG⟩⟩
     ·
      rw [if_neg c82] at H
      have c82b0 := decide_eq_false c82
      clear c82
      (first | rw [c82b0] | (simp only [i64_w, i32_w]; rw [c82b0]) | skip)
      obtain ⟨t537, A83, H⟩ := bindE H
      try dsimp only at H
      have H' := Aside0.mk H
      clear H
      go_wp2_with (first | (go_at_call 28; (with_reducible refine (laws_eqIntS.calls k _ _ t509 _ _ t491 t537 _ ?side1 ?side2 ?side3 ?side4 A83.out).mono ?_); (case side1 => exact cO ⟨(Kd.R_reads' HO511.out).2.2⟩); (case side2 => exact (Kd.R_reads' HO511.out).2.1); (case side3 => exact cO ⟨(Kd.R_reads' HO493.out).2.2⟩); (case side4 => exact (Kd.R_reads' HO493.out).2.1); rintro e w' ⟨rfl, ⟨nd, rfl⟩⟩))
      go_meet
      case rel => exact ⟨_, (!t537), rS, H', ⟨by first | omega | exact Nat.le_refl _⟩, ⟨by (with_reducible repeat (first | apply Kd.R_alloc | apply Kd.R_drewN | apply Kd.R_drew)); exact Kd.R_mono HO493.out (fun _ hk => ⟨hk.2.2.2.2.1, ⟨hk.2.2.1, hk.2.2.2.1⟩⟩)⟩, ⟨by (with_reducible repeat (first | apply Kd.R_alloc | apply Kd.R_drewN | apply Kd.R_drew)); exact Kd.R_mono HO511.out (fun _ hk => ⟨hk.2.2.1, ⟨hk.2.2.2.1, hk.2.2.2.2.1⟩⟩)⟩, ⟨by (with_reducible repeat (first | apply Kd.R_alloc | apply Kd.R_drewN | apply Kd.R_drew)); exact Kd.R_mono HO499.out (fun _ hk => ⟨hk.2.2.1, ⟨hk.2.2.2.2.1, hk.2.2.2.1⟩⟩)⟩, ⟨by (with_reducible repeat (first | apply Kd.R_alloc | apply Kd.R_drewN | apply Kd.R_drew)); exact Kd.R_mono HO503.out (fun _ hk => ⟨hk.2.2.1, ⟨hk.2.2.2.2.1, hk.2.2.2.1⟩⟩)⟩, ⟨bK BK473⟩, ⟨bK BK505⟩, ⟨bG⟩⟩
    case rest =>
     clear HC39
     try clear c1
     try clear c2
     try clear p2
     try clear c3
     try clear c4
     try clear c5
     try clear c5b0
     try clear c8
     try clear c8b0
     try clear c11
     try clear c13
     try clear c13b0
     try clear c14
     try clear c18
     try clear c20
     try clear c26
     try clear c28
     try clear c29
     try clear c32
     try clear c35
     try clear c38
     try clear c40
     try clear c43
     try clear c44
     try clear c46
     try clear c47
     try clear c48
     try clear c49
     try clear c50
     try clear c51
     try clear c57
     try clear c82
     try clear c82b0
     try clear hcz10_0
     try clear hcz10_1
     try clear hcz10_2
     try clear hcz10_3
     try clear hcz15_0
     try clear hcz15_1
     try clear hcz15_2
     try clear hcz15_3
     try clear hcz41_0
     try clear hcz41_1
     try clear hcz41_2
     try clear hcz41_3
     try clear hcz53_0
     try clear hcz53_1
     try clear hcz53_2
     try clear hcz53_3
     try clear hcz58_0
     try clear hcz58_1
     try clear hcz58_2
     try clear hcz58_3
     try clear hcz61_0
     try clear hcz61_1
     try clear hcz61_2
     try clear hcz61_3
     try clear hcz79_0
     try clear hcz79_1
     try clear hcz79_2
     try clear hcz79_3
     try clear hfz10_0
     try clear hfz10_1
     try clear hfz10_2
     try clear hfz10_3
     try clear hfz15_0
     try clear hfz15_1
     try clear hfz15_2
     try clear hfz15_3
     try clear hfz41_0
     try clear hfz41_1
     try clear hfz41_2
     try clear hfz41_3
     try clear hfz53_0
     try clear hfz53_1
     try clear hfz53_2
     try clear hfz53_3
     try clear hfz58_0
     try clear hfz58_1
     try clear hfz58_2
     try clear hfz58_3
     try clear hfz61_0
     try clear hfz61_1
     try clear hfz61_2
     try clear hfz61_3
     try clear hfz79_0
     try clear hfz79_1
     try clear hfz79_2
     try clear hfz79_3
     obtain ⟨kq, x84_38, rfl, HA, HJ38, HO_8, HO_12, HO_506000, HO_506002, BK473, BK505, HB⟩ := hcut
     have hl506000_38 := (Kd.R_reads' HO_506000.out).1
     rw [hl506000_38] at HO_506000
     (try simp only [hl506000_38])
     (try simp only [hl506000_38] at BK473)
     (try simp only [hl506000_38] at BK505)
     (try simp only [hl506000_38] at HO_8)
     (try simp only [hl506000_38] at HO_12)
     (try simp only [hl506000_38] at HO_506002)
     have hl506002_38 := (Kd.R_reads' HO_506002.out).1
     rw [hl506002_38] at HO_506002
     (try simp only [hl506002_38])
     (try simp only [hl506002_38] at BK473)
     (try simp only [hl506002_38] at BK505)
     (try simp only [hl506002_38] at HO_8)
     (try simp only [hl506002_38] at HO_12)
     (try simp only [hl506002_38] at HO_506000)
     cases kq with
     | zero => exact absurd HA.out (by simp [laws_FnExactNextStage.j0])
     | succ kj38 =>
      have H := HA.out
      clear HA
      simp only [laws_FnExactNextStage.j0] at H
      have c84 := ifN' H
      replace H := ifT' H
      replace c84 := Bool.eq_false_iff.mpr c84
      subst c84
      obtain ⟨⟨t538, t539⟩, A85, H⟩ := bindE H
      try dsimp only at H
      obtain ⟨t540, A86, H⟩ := bindE H
      try dsimp only at H
      have c87 : ¬ (t540 < 0) := ifN' H
      replace H := ifT' H
      have c87b0 := decide_eq_false c87
      clear c87
      have c88 : t540 = t538 := ifN H
      replace H := ifT H
      have c88b0 : (t540 == t538) = true := beq_iff_eq.mpr c88
      have c88b1 : (t540 != t538) = false := bne_eq_false_iff_eq.mpr c88
      clear c88
      obtain ⟨t541, A89, H⟩ := bindE H
      try dsimp only at H
      obtain ⟨⟨t544, t547, t548, t551⟩, A90, H⟩ := bindE H
      try dsimp only at H
      obtain ⟨t552, A91, H⟩ := bindE H
      try dsimp only at H
      obtain ⟨t555, A92, H⟩ := bindE H
      try dsimp only at H
      obtain ⟨t558, A93, H⟩ := bindE H
      try dsimp only at H
      have c94 := ifN H
      replace H := ifT H
      subst c94
      obtain ⟨t559, A95, H⟩ := bindE H
      try dsimp only at H
      have c96 : ¬ (t559 < 0) := ifN' H
      replace H := ifT' H
      have c96b0 := decide_eq_false c96
      clear c96
      have c97 : t559 = t538 := ifN H
      replace H := ifT H
      have c97b0 : (t559 == t538) = true := beq_iff_eq.mpr c97
      have c97b1 : (t559 != t538) = false := bne_eq_false_iff_eq.mpr c97
      clear c97
      obtain rfl := Option.some.inj H
      try go_wp2_with (first | ((with_reducible refine gate_callee (f := 31) rfl ?_); refine gL (some 87) Try.func31 #[.slice Ao65 t509.length co65, .int .i64 1] ?_; (with_reducible refine (laws_markIntS.calls kj38 (fun k_ => some k_ = (.slice Ao65 t509.length co65 : Value).ownBlock) (.slice Ao65 t509.length co65) t509 1 t538 t539 w _ ?side1 ?side2 A85.out).mono ?_); (case side1 => repeat (first | (with_reducible first | exact HB.out | apply below_alloc | apply pw_below_drewN | apply below_drew1 | refine below_set ?_ GE473.out | refine below_set ?_ GE505.out) | exact HB.out)); (case side2 => exact Kd.R_tight rfl HO_12.out); rintro e w98 ⟨rfl, hy0, hb, hkp⟩; refine ⟨_, rfl, ?_⟩; replace HO_8 := Aside0.mk (Kd.R_mono (ok' := fun k_ => some k_ ≠ (.slice Ao65 t509.length co65 : Value).ownBlock ∧ some k_ ≠ (.slice Ao56 t533.length co56 : Value).ownBlock ∧ some k_ ≠ (.slice Ao59 t534.length co59 : Value).ownBlock) (Kd.R_keptB (HO_8.out) hkp (fun k_ hk_ hs_ => (hk_.1) hs_)) (fun k_ hk_ => ⟨hk_.1.1, hk_.1.2.1, hk_.1.2.2⟩)); replace HO_506000 := Aside0.mk (Kd.R_mono (ok' := fun k_ => some k_ ≠ (.slice Ao66 t491.length co66 : Value).ownBlock ∧ some k_ ≠ (.slice Ao65 t509.length co65 : Value).ownBlock ∧ some k_ ≠ (.slice Ao59 t534.length co59 : Value).ownBlock) (Kd.R_keptB (HO_506000.out) hkp (fun k_ hk_ hs_ => (hk_.2.1) hs_)) (fun k_ hk_ => ⟨hk_.1.1, hk_.1.2.1, hk_.1.2.2⟩)); replace HO_506002 := Aside0.mk (Kd.R_mono (ok' := fun k_ => some k_ ≠ (.slice Ao66 t491.length co66 : Value).ownBlock ∧ some k_ ≠ (.slice Ao65 t509.length co65 : Value).ownBlock ∧ some k_ ≠ (.slice Ao56 t533.length co56 : Value).ownBlock) (Kd.R_keptB (HO_506002.out) hkp (fun k_ hk_ hs_ => (hk_.2.1) hs_)) (fun k_ hk_ => ⟨hk_.1.1, hk_.1.2.1, hk_.1.2.2⟩)); replace BK473 := Aside0.mk (blk_kept (bK BK473) hkp (fun hs_ => (fun e_ => (Kd.R_ne HO_12.out BK473.out (by decide)) e_) hs_)); replace BK505 := Aside0.mk (blk_kept (bK BK505) hkp (fun hs_ => (fun e_ => (Kd.R_ne HO_12.out BK505.out (by decide)) e_) hs_)); replace HO_12 := Aside0.mk (Kd.R_reok rfl hy0 (fun k_ e_ => HO_12.out.1 k_ e_)); replace HB := Aside0.mk (hb); (try clear hb); (try clear hkp); (try clear hy0)) | ((with_reducible refine gate_callee (f := 32) rfl ?_); refine goesL_ (some 90) rfl rfl Try.func32 (by kernel_rfl) rfl #[.slice Ao65 t539.length co65, .int .i64 1] rfl (by (try simp only [List.map_toArray, List.map_cons, List.map_nil]); first | done | (rw [show t539.length = t509.length from (Kd.R_reads' HO_12.out).1.symm] <;> rfl) | rfl | (simp only [List.length_drop, List.length_take]; rfl)) ?_; (with_reducible refine (laws_heldIntS.calls kj38 _ _ t539 1 t540 _ ?side1 ?side2 A86.out).mono ?_); (case side1 => exact cO ⟨(Kd.R_reads' HO_12.out).2.2⟩); (case side2 => rw [show t539.length = t509.length from (Kd.R_reads' HO_12.out).1.symm]; exact (Kd.R_reads' HO_12.out).2.1); rintro e w' ⟨rfl, ⟨nd, rfl⟩⟩; refine ⟨_, rfl, ?_⟩))
      (try (rw [drewN_self w98]; generalize hq_ : World.drewN w98 _ = w98; have n0_ : Aside0 (Kd.R (Kd.int .i64) 3 w98 w.heap.size (fun k_ => some k_ ≠ (.slice Ao56 t533.length co56 : Value).ownBlock ∧ some k_ ≠ (.slice Ao59 t534.length co59 : Value).ownBlock ∧ some k_ ≠ (.slice Ao66 t491.length co66 : Value).ownBlock) (.slice Ao65 t509.length co65) t539) := ⟨by rw [← hq_]; exact (by (with_reducible repeat (first | apply Kd.R_alloc | apply Kd.R_drewN | apply Kd.R_drew)); exact Kd.R_mono HO_12.out (fun _ hk => ⟨hk.2.1, ⟨hk.2.2, hk.1⟩⟩))⟩; have n1_ : Aside0 (Kd.R (Kd.int .i64) 3 w98 w.heap.size (fun k_ => some k_ ≠ (.slice Ao65 t509.length co65 : Value).ownBlock ∧ some k_ ≠ (.slice Ao59 t534.length co59 : Value).ownBlock ∧ some k_ ≠ (.slice Ao66 t491.length co66 : Value).ownBlock) (.slice Ao56 t533.length co56) t533) := ⟨by rw [← hq_]; exact (by (with_reducible repeat (first | apply Kd.R_alloc | apply Kd.R_drewN | apply Kd.R_drew)); exact Kd.R_mono HO_506000.out (fun _ hk => ⟨hk.2.1, ⟨hk.2.2, hk.1⟩⟩))⟩; have n2_ : Aside0 (Kd.R (Kd.int .i64) 3 w98 w.heap.size (fun k_ => some k_ ≠ (.slice Ao65 t509.length co65 : Value).ownBlock ∧ some k_ ≠ (.slice Ao56 t533.length co56 : Value).ownBlock ∧ some k_ ≠ (.slice Ao66 t491.length co66 : Value).ownBlock) (.slice Ao59 t534.length co59) t534) := ⟨by rw [← hq_]; exact (by (with_reducible repeat (first | apply Kd.R_alloc | apply Kd.R_drewN | apply Kd.R_drew)); exact Kd.R_mono HO_506002.out (fun _ hk => ⟨hk.2.1, ⟨hk.2.2, hk.1⟩⟩))⟩; have n3_ : Aside0 (Kd.R (Kd.int .i64) 3 w98 w.heap.size (fun k_ => some k_ ≠ (.slice Ao65 t509.length co65 : Value).ownBlock ∧ some k_ ≠ (.slice Ao56 t533.length co56 : Value).ownBlock ∧ some k_ ≠ (.slice Ao59 t534.length co59 : Value).ownBlock) (.slice Ao66 t491.length co66) t491) := ⟨by rw [← hq_]; exact (rK HO_8)⟩; have n4_ : Aside0 (w98.heap[gb473]? = some (.cells #[.slice A1_0 l1_0.length c1_0, .int .i64 a1_1, .slice A1_2 l1_2.length c1_2, .int .i64 a1_3] 55 (0, 0))) := ⟨by rw [← hq_]; exact (bK BK473)⟩; have n5_ : Aside0 (w98.heap[gb505]? = some (.cells #[.slice Ao56 t533.length co56, .int .i64 t500, .slice Ao59 t534.length co59, .int .i64 t504] 57 (0, 0))) := ⟨by rw [← hq_]; exact (bK BK505)⟩; have n6_ : Aside0 (Below w.heap.size w w98) := ⟨by rw [← hq_]; exact bG⟩; clear HO_12 HO_506000 HO_506002 HO_8 BK473 BK505 HB hq_; have HO_12 := n0_; have HO_506000 := n1_; have HO_506002 := n2_; have HO_8 := n3_; have BK473 := n4_; have BK505 := n5_; have HB := n6_; clear n0_ n1_ n2_ n3_ n4_ n5_ n6_))
      replace HO_8 := Aside0.mk (Kd.R_drew HO_8.out)
      replace HO_12 := Aside0.mk (Kd.R_drew HO_12.out)
      replace HO_506000 := Aside0.mk (Kd.R_drew HO_506000.out)
      replace HO_506002 := Aside0.mk (Kd.R_drew HO_506002.out)
      replace BK473 := Aside0.mk (blk_drew BK473.out)
      replace BK505 := Aside0.mk (blk_drew BK505.out)
      have HBo := HB
      replace HB := Aside0.mk (below_drew1 HB.out)
      refine start_ (n := 8) (S := fun w' => w'.cell? ⟨gb473, 0, none⟩ = some (.slice A1_0 l1_0.length c1_0) ∧ w'.cell? ⟨gb473, 1, none⟩ = some (.int .i64 a1_1) ∧ w'.cell? ⟨gb473, 2, none⟩ = some (.slice A1_2 l1_2.length c1_2) ∧ w'.cell? ⟨gb473, 3, none⟩ = some (.int .i64 a1_3)) (ds := []) (mb 8 0) (by kernel_rfl) rfl rfl ⟨bC BK473 0, bC BK473 1, bC BK473 2, bC BK473 3⟩ (fun hHeld => ?_); refine with_tabW laws_FnExactNextStage.tab38 laws_FnExactNextStage.bits38 (fun HT_ HW_ => ?_)
      generalize w98.drew = w99 at HO_8 HO_12 HO_506000 HO_506002 BK473 BK505 HB hHeld ⊢
      refine pA (i := 0) (N := some 96) (mb 8 1) HT_ ?_
      refine pA (i := 4) (N := some 100) (mb 8 17) HT_ ?_
      refine tA4 (i := 2) (N := some 98) (mb 8 21) HT_ HW_ hHeld ?_
      refine oA (i := 1) (N := some 97) (mb 8 23) HT_ (fun K hK => ?_)
      refine gA Try.func14 #[.slice A0 l0.length c0] ?_
      with_reducible refine (laws_toPathS.calls kj38 _ _ l0 t541 _ ?side1 ?side2 A89.out).mono ?_
      (case side1 => exact cB HR0)
      (case side2 => exact HC0.out)
      rintro e w100 ⟨v542, rfl, ho0, hb⟩
      refine ⟨_, rfl, ?_⟩
      replace HO_8 := Aside0.mk (Kd.R_below (rK HO_8) hb)
      replace HO_12 := Aside0.mk (Kd.R_below (rK HO_12) hb)
      replace HO_506000 := Aside0.mk (Kd.R_below (rK HO_506000) hb)
      replace HO_506002 := Aside0.mk (Kd.R_below (rK HO_506002) hb)
      have HO543 := Aside0.mk (Kd.R_lower ho0 (below_size bG))
      replace BK473 := Aside0.mk (blk_below (g := gb473) (bK BK473) hb)
      replace BK505 := Aside0.mk (blk_below (g := gb505) (bK BK505) hb)
      replace HB := Aside0.mk (below_step bG hb)
      (try clear hb)
      (try clear hb2)
      (try clear hk)
      (try clear hi)
      (try clear ho0)
      refine hK.out _ _ ⟨bC BK473 0, bC BK473 1, bC BK473 2, bC BK473 3⟩ (fun hHeld => ?_)
      clear hK K
      refine nB ?_
      refine oA (i := 3) (N := some 99) (mb 8 31) HT_ (fun K hK => ?_)
      refine gA Try.func40 #[.agg #[.slice A1_0 l1_0.length c1_0, .int .i64 a1_1, .slice A1_2 l1_2.length c1_2, .int .i64 a1_3]] ?_
      with_reducible refine (laws_toControl.calls kj38 _ _ l1_0 a1_1 _ _ l1_2 a1_3 t544 t547 t548 t551 _ ?side1 ?side2 ?side3 ?side4 A90.out).mono ?_
      (case side1 => exact cB HR1_0)
      (case side2 => exact HC1_0.out)
      (case side3 => exact cB HR1_2)
      (case side4 => exact HC1_2.out)
      rintro e w101 ⟨v545, v549, rfl, ho0, ho1, hb⟩
      refine ⟨_, rfl, ?_⟩
      replace HO543 := Aside0.mk (Kd.R_below (rK HO543) hb)
      have HO546 := Aside0.mk (Kd.R_lower (Kd.R_new' (Kd.R_new' (Kd.R_new' (Kd.R_new' ho0 (Kd.R_lt (rK HO_8))) (Kd.R_lt (rK HO_12))) (Kd.R_lt (rK HO_506000))) (Kd.R_lt (rK HO_506002))) (below_size bG))
      have HO550 := Aside0.mk (Kd.R_lower (Kd.R_new' (Kd.R_new' (Kd.R_new' (Kd.R_new' ho1 (Kd.R_lt (rK HO_8))) (Kd.R_lt (rK HO_12))) (Kd.R_lt (rK HO_506000))) (Kd.R_lt (rK HO_506002))) (below_size bG))
      replace HO_8 := Aside0.mk (Kd.R_mono (Kd.R_told (Kd.R_told (Kd.R_old (rK HO_8) hb) (Kd.R_base ho0)) (Kd.R_base ho1)) (fun _ h_ => h_.1))
      replace HO_12 := Aside0.mk (Kd.R_mono (Kd.R_told (Kd.R_told (Kd.R_old (rK HO_12) hb) (Kd.R_base ho0)) (Kd.R_base ho1)) (fun _ h_ => h_.1))
      replace HO_506000 := Aside0.mk (Kd.R_mono (Kd.R_told (Kd.R_told (Kd.R_old (rK HO_506000) hb) (Kd.R_base ho0)) (Kd.R_base ho1)) (fun _ h_ => h_.1))
      replace HO_506002 := Aside0.mk (Kd.R_mono (Kd.R_told (Kd.R_told (Kd.R_old (rK HO_506002) hb) (Kd.R_base ho0)) (Kd.R_base ho1)) (fun _ h_ => h_.1))
      replace BK473 := Aside0.mk (blk_below (g := gb473) (bK BK473) hb)
      replace BK505 := Aside0.mk (blk_below (g := gb505) (bK BK505) hb)
      replace HB := Aside0.mk (below_step bG hb)
      (try clear hb)
      (try clear hb2)
      (try clear hk)
      (try clear hi)
      (try clear ho0)
      (try clear ho1)
      refine hK.out _ _ ⟨bC BK473 0, bC BK473 1, bC BK473 2, bC BK473 3⟩ (fun hHeld => ?_)
      clear hK K
      refine nB ?_
      refine oA (i := 5) (N := some 101) (mb 8 63) HT_ (fun K hK => ?_)
      refine gA Try.func48 #[.slice A2 l2.length c2] ?_
      with_reducible refine (laws_toWantS.calls kj38 _ _ l2 t552 _ ?side1 ?side2 A91.out).mono ?_
      (case side1 => exact cB HR2)
      (case side2 => exact HC2.out)
      rintro e w102 ⟨v553, rfl, ho0, hb⟩
      refine ⟨_, rfl, ?_⟩
      replace HO_8 := Aside0.mk (Kd.R_below (rK HO_8) hb)
      replace HO_12 := Aside0.mk (Kd.R_below (rK HO_12) hb)
      replace HO_506000 := Aside0.mk (Kd.R_below (rK HO_506000) hb)
      replace HO_506002 := Aside0.mk (Kd.R_below (rK HO_506002) hb)
      replace HO543 := Aside0.mk (Kd.R_below (rK HO543) hb)
      replace HO546 := Aside0.mk (Kd.R_below (rK HO546) hb)
      replace HO550 := Aside0.mk (Kd.R_below (rK HO550) hb)
      have HO554 := Aside0.mk (Kd.R_lower ho0 (below_size bG))
      replace BK473 := Aside0.mk (blk_below (g := gb473) (bK BK473) hb)
      replace BK505 := Aside0.mk (blk_below (g := gb505) (bK BK505) hb)
      replace HB := Aside0.mk (below_step bG hb)
      (try clear hb)
      (try clear hb2)
      (try clear hk)
      (try clear hi)
      (try clear ho0)
      obtain ⟨Ao103, co103, eo103⟩ := Kd.R_slice HO543.out
      (first | subst eo103 | (injection eo103 with f1_ f2_ f3_; have f4_ := f1_.symm; have f5_ := f3_.symm; clear f1_ f2_ f3_; subst f4_; subst f5_))
      obtain ⟨Ao104, co104, eo104⟩ := Kd.R_slice HO546.out
      (first | subst eo104 | (injection eo104 with f1_ f2_ f3_; have f4_ := f1_.symm; have f5_ := f3_.symm; clear f1_ f2_ f3_; subst f4_; subst f5_))
      obtain ⟨Ao105, co105, eo105⟩ := Kd.R_slice HO550.out
      (first | subst eo105 | (injection eo105 with f1_ f2_ f3_; have f4_ := f1_.symm; have f5_ := f3_.symm; clear f1_ f2_ f3_; subst f4_; subst f5_))
      obtain ⟨Ao106, co106, eo106⟩ := Kd.R_slice HO554.out
      (first | subst eo106 | (injection eo106 with f1_ f2_ f3_; have f4_ := f1_.symm; have f5_ := f3_.symm; clear f1_ f2_ f3_; subst f4_; subst f5_))
      refine hK.out _ _ ⟨bC BK473 0, bC BK473 1, bC BK473 2, bC BK473 3⟩ (fun hHeld => ?_)
      clear hK K
      refine nB ?_
      refine oA (i := 6) (N := some 102) (mb 8 127) HT_ (fun K hK => ?_)
      refine gA Try.func49 #[.slice Ao103 t541.length co103, .agg #[.slice Ao104 t544.length co104, .int .i64 t547, .slice Ao105 t548.length co105, .int .i64 t551], .slice Ao106 t552.length co106] ?_
      with_reducible refine (impl_NextStage.calls kj38 _ _ t541 _ _ t544 t547 _ _ t548 t551 _ _ t552 t555 _ ?side1 ?side2 ?side3 ?side4 ?side5 ?side6 ?side7 ?side8 A92.out).mono ?_
      (case side1 => exact cO ⟨(Kd.R_reads' HO543.out).2.2⟩)
      (case side2 => exact (Kd.R_reads' HO543.out).2.1)
      (case side3 => exact cO ⟨(Kd.R_reads' HO546.out).2.2⟩)
      (case side4 => exact (Kd.R_reads' HO546.out).2.1)
      (case side5 => exact cO ⟨(Kd.R_reads' HO550.out).2.2⟩)
      (case side6 => exact (Kd.R_reads' HO550.out).2.1)
      (case side7 => exact cO ⟨(Kd.R_reads' HO554.out).2.2⟩)
      (case side8 => exact (Kd.R_reads' HO554.out).2.1)
      rintro e w107 ⟨v556, rfl, ho0, hb⟩
      refine ⟨_, rfl, ?_⟩
      replace HO543 := Aside0.mk (Kd.R_below (rK HO543) hb)
      replace HO554 := Aside0.mk (Kd.R_below (rK HO554) hb)
      have HO557 := Aside0.mk (Kd.R_lower (Kd.R_new' (Kd.R_new' (Kd.R_new' (Kd.R_new' (Kd.R_new' (Kd.R_new' ho0 (Kd.R_lt (rK HO_8))) (Kd.R_lt (rK HO_12))) (Kd.R_lt (rK HO_506000))) (Kd.R_lt (rK HO_506002))) (Kd.R_lt (rK HO546))) (Kd.R_lt (rK HO550))) (below_size bG))
      replace HO_8 := Aside0.mk (Kd.R_elder' (rK HO_8) (Kd.R_base ho0) hb)
      replace HO_12 := Aside0.mk (Kd.R_elder' (rK HO_12) (Kd.R_base ho0) hb)
      replace HO_506000 := Aside0.mk (Kd.R_elder' (rK HO_506000) (Kd.R_base ho0) hb)
      replace HO_506002 := Aside0.mk (Kd.R_elder' (rK HO_506002) (Kd.R_base ho0) hb)
      replace HO546 := Aside0.mk (Kd.R_elder' (rK HO546) (Kd.R_base ho0) hb)
      replace HO550 := Aside0.mk (Kd.R_elder' (rK HO550) (Kd.R_base ho0) hb)
      replace BK473 := Aside0.mk (blk_below (g := gb473) (bK BK473) hb)
      replace BK505 := Aside0.mk (blk_below (g := gb505) (bK BK505) hb)
      replace HB := Aside0.mk (below_step bG hb)
      (try clear hb)
      (try clear hb2)
      (try clear hk)
      (try clear hi)
      (try clear ho0)
      refine hK.out _ _ ⟨bC BK473 0, bC BK473 1, bC BK473 2, bC BK473 3⟩ (fun hHeld => ?_)
      clear hK K
      refine nB ?_
      refine pA (i := 7) (N := some 16) (mb 8 255) HT_ ?_
      refine eA HT_ ?_
      obtain ⟨Ao108, co108, eo108⟩ := Kd.R_slice HO557.out
      subst eo108
      try go_wp2_with (first | ((with_reducible refine gate_callee (f := 28) rfl ?_); refine gL (some 105) Try.func28 #[.slice Ao108 t555.length co108, .slice Ao66 t491.length co66] ?_; (with_reducible refine (laws_eqIntS.calls kj38 _ _ t555 _ _ t491 true _ ?side1 ?side2 ?side3 ?side4 A93.out).mono ?_); (case side1 => exact cO ⟨(Kd.R_reads' HO557.out).2.2⟩); (case side2 => exact (Kd.R_reads' HO557.out).2.1); (case side3 => exact cO ⟨(Kd.R_reads' HO_8.out).2.2⟩); (case side4 => exact (Kd.R_reads' HO_8.out).2.1); rintro e w' ⟨rfl, ⟨nd, rfl⟩⟩; refine ⟨_, rfl, ?_⟩) | ((with_reducible refine gate_callee (f := 32) rfl ?_); refine goesL_ (some 109) rfl rfl Try.func32 (by kernel_rfl) rfl #[.slice Ao65 t539.length co65, .int .i64 1] rfl (by (try simp only [List.map_toArray, List.map_cons, List.map_nil]); first | done | (rw [show t539.length = t509.length from (Kd.R_reads' HO_12.out).1.symm] <;> rfl) | rfl | (simp only [List.length_drop, List.length_take]; rfl)) ?_; (with_reducible refine (laws_heldIntS.calls kj38 _ _ t539 1 t559 _ ?side1 ?side2 A95.out).mono ?_); (case side1 => exact cO ⟨(Kd.R_reads' HO_12.out).2.2⟩); (case side2 => rw [show t539.length = t509.length from (Kd.R_reads' HO_12.out).1.symm]; exact (Kd.R_reads' HO_12.out).2.1); rintro e w' ⟨rfl, ⟨nd, rfl⟩⟩; refine ⟨_, rfl, ?_⟩))
      go_ret
      exact ⟨rA, bG⟩

end Go.Proofs.Ytdkmmefmhfbgkaa.P
