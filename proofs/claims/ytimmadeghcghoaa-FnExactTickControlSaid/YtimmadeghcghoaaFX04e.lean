/- Printed by myprint.py (wip/tools) over the kit's print: what Go's functions compute, and that they do. Lean checks it. -/
import Derived.Test.YtimmadeghcghoaaF0
import Derived.Test.YtimmadeghcghoaaFX04
import Derived.Test.YtimmadeghcghoaaFX04c
import Derived.Test.YtimmadeghcghoaaFX04d
namespace Go.Proofs.Ytimmadeghcghoaa.P
open Go.RowKit Go.Proofs.YtimmadeghcghoaaW.PrintWords Go.Proofs.YtimmadeghcghoaaW.PrintLast Go.Proofs.YtimmadeghcghoaaW.PrintMore Go.Proofs.Ytimmadeghcghoaa.Sq
attribute [local go_sem] max2_int min2_int max_two min_two max_three min_three max_four min_four
set_option linter.unusedVariables false
set_option linter.unusedSimpArgs false

/-! ### laws_FnExactTickControl: function 14 -/
def laws_FnExactTickControl.j0 : Nat → List (S92) → Bool → List Int → Int → List Int → Int → List Int → Int → List Int → Int → List Int → Int → List Int → Int → Option (Bool)
 | 0, _, _, _, _, _, _, _, _, _, _, _, _, _, _ => none
 | k + 1, x0, x63, x579000, x579001, x579002, x579003, x601000, x601001, x601002, x601003, x622000, x622001, x622002, x622003 => if x63 = true then (none) else ((laws_markControl.f k x622000 x622001 x622002 x622003 1).bind fun bt642 => ((laws_heldControl.f k bt642.2.1 x622001 bt642.2.2 x622003 1).bind fun t645 => (if t645 < 0 then (none) else (if t645 = bt642.1 then ((laws_toPathS.f k x0).bind fun t646 => ((laws_toControl.f k x579000 x579001 x579002 x579003).bind fun bt649 => ((impl_TickControl.f k t646 bt649.1 bt649.2.1 bt649.2.2.1 bt649.2.2.2).bind fun bt657 => ((laws_eqControl.f k bt657.1 bt657.2.1 bt657.2.2.1 bt657.2.2.2 x601000 x601001 x601002 x601003).bind fun t666 => (if t666 = true then ((laws_heldControl.f k bt642.2.1 x622001 bt642.2.2 x622003 1).bind fun t667 => (if t667 < 0 then (none) else (if t667 = bt642.1 then (some true) else (none)))) else (none)))))) else (none)))))
def laws_FnExactTickControl.f (k : Nat) (l0 : List (S92)) (l1_0 : List Int) (a1_1 : Int) (l1_2 : List Int) (a1_3 : Int) : Option (Bool) := (laws_szPathS.f l0 1048576).bind fun t579 => (if t579 < 0 then (some true) else ((laws_szControl.f l1_0 a1_1 l1_2 a1_3 t579).bind fun t580 => (if t580 < 0 then (some true) else ((laws_toPathS.f k l0).bind fun t581 => ((laws_toControl.f k l1_0 a1_1 l1_2 a1_3).bind fun bt584 => ((spec_TickControl.f k t581 bt584.1 bt584.2.1 bt584.2.2.1 bt584.2.2.2).bind fun bt592 => ((laws_toPathS.f k l0).bind fun t601 => ((laws_toControl.f k l1_0 a1_1 l1_2 a1_3).bind fun bt604 => ((impl_TickControl.f k t601 bt604.1 bt604.2.1 bt604.2.2.1 bt604.2.2.2).bind fun bt613 => ((laws_eqControl.f k bt613.1 bt613.2.1 bt613.2.2.1 bt613.2.2.2 bt592.1 bt592.2.1 bt592.2.2.1 bt592.2.2.2).bind fun t622 => (if t622 = true then ((laws_toPathS.f k l0).bind fun t623 => ((laws_eqPathS.f k t601 t623).bind fun t626 => (if t626 = true then ((laws_toControl.f k l1_0 a1_1 l1_2 a1_3).bind fun bt627 => ((laws_eqControl.f k bt604.1 bt604.2.1 bt604.2.2.1 bt604.2.2.2 bt627.1 bt627.2.1 bt627.2.2.1 bt627.2.2.2).bind fun t635 => (if t635 = true then ((laws_markPathS.f k t601 1).bind fun bt636 => ((laws_markControl.f k bt604.1 bt604.2.1 bt604.2.2.1 bt604.2.2.2 bt636.1).bind fun bt638 => (if bt638.1 < 0 then (laws_FnExactTickControl.j0 k l0 true l1_0 a1_1 l1_2 a1_3 bt592.1 bt592.2.1 bt592.2.2.1 bt592.2.2.2 bt613.1 bt613.2.1 bt613.2.2.1 bt613.2.2.2) else ((laws_eqControl.f k bt613.1 bt613.2.1 bt613.2.2.1 bt613.2.2.2 bt592.1 bt592.2.1 bt592.2.2.1 bt592.2.2.2).bind fun t641 => (laws_FnExactTickControl.j0 k l0 (!t641) l1_0 a1_1 l1_2 a1_3 bt592.1 bt592.2.1 bt592.2.2.1 bt592.2.2.2 bt613.1 bt613.2.1 bt613.2.2.1 bt613.2.2.2))))) else (none)))) else (none)))) else (none))))))))))))
theorem laws_FnExactTickControl.mono_l : ∀ k, (∀ y0 y1 y2 y3 y4 y5 y6 y7 y8 y9 y10 y11 y12 y13, LeO (laws_FnExactTickControl.j0 k y0 y1 y2 y3 y4 y5 y6 y7 y8 y9 y10 y11 y12 y13) (laws_FnExactTickControl.j0 (k + 1) y0 y1 y2 y3 y4 y5 y6 y7 y8 y9 y10 y11 y12 y13))
 | 0 => fun _ _ _ _ _ _ _ _ _ _ _ _ _ _ r h => by simp [laws_FnExactTickControl.j0] at h
 | k + 1 => by
  have ih0 := laws_FnExactTickControl.mono_l k
  ·
   intro y0 y1 y2 y3 y4 y5 y6 y7 y8 y9 y10 y11 y12 y13
   unfold laws_FnExactTickControl.j0
   repeat' first | (with_reducible first | exact LeO.refl _ | exact LeO.none _ | refine LeO.ite ?_ ?_ | refine LeO.bind ?_ (fun _ => ?_) | exact ih0 _ _ _ _ _ _ _ _ _ _ _ _ _ _ | exact impl_TickControl.mono _ _ _ _ _ _ | exact laws_eqControl.mono _ _ _ _ _ _ _ _ _ | exact laws_eqPathS.mono _ _ _ | exact laws_heldControl.mono _ _ _ _ _ _ | exact laws_markControl.mono _ _ _ _ _ _ | exact laws_markPathS.mono _ _ _ | exact laws_toControl.mono _ _ _ _ _ | exact laws_toPathS.mono _ _ | exact spec_TickControl.mono _ _ _ _ _ _) | exact LeO.none _ | refine LeO.ite ?_ ?_ | refine LeO.bind ?_ (fun _ => ?_) | exact ih0 _ _ _ _ _ _ _ _ _ _ _ _ _ _ | exact impl_TickControl.mono _ _ _ _ _ _ | exact laws_eqControl.mono _ _ _ _ _ _ _ _ _ | exact laws_eqPathS.mono _ _ _ | exact laws_heldControl.mono _ _ _ _ _ _ | exact laws_markControl.mono _ _ _ _ _ _ | exact laws_markPathS.mono _ _ _ | exact laws_toControl.mono _ _ _ _ _ | exact laws_toPathS.mono _ _ | exact spec_TickControl.mono _ _ _ _ _ _
theorem laws_FnExactTickControl.mono : ∀ a0 a1 a2 a3 a4 k, LeO (laws_FnExactTickControl.f k a0 a1 a2 a3 a4) (laws_FnExactTickControl.f (k + 1) a0 a1 a2 a3 a4) := by
 intro a0 a1 a2 a3 a4 k
 have ih0 := laws_FnExactTickControl.mono_l k
 unfold laws_FnExactTickControl.f
 repeat' first | (with_reducible first | exact LeO.refl _ | exact LeO.none _ | refine LeO.ite ?_ ?_ | refine LeO.bind ?_ (fun _ => ?_) | exact ih0 _ _ _ _ _ _ _ _ _ _ _ _ _ _ | exact impl_TickControl.mono _ _ _ _ _ _ | exact laws_eqControl.mono _ _ _ _ _ _ _ _ _ | exact laws_eqPathS.mono _ _ _ | exact laws_heldControl.mono _ _ _ _ _ _ | exact laws_markControl.mono _ _ _ _ _ _ | exact laws_markPathS.mono _ _ _ | exact laws_toControl.mono _ _ _ _ _ | exact laws_toPathS.mono _ _ | exact spec_TickControl.mono _ _ _ _ _ _) | exact LeO.none _ | refine LeO.ite ?_ ?_ | refine LeO.bind ?_ (fun _ => ?_) | exact ih0 _ _ _ _ _ _ _ _ _ _ _ _ _ _ | exact impl_TickControl.mono _ _ _ _ _ _ | exact laws_eqControl.mono _ _ _ _ _ _ _ _ _ | exact laws_eqPathS.mono _ _ _ | exact laws_heldControl.mono _ _ _ _ _ _ | exact laws_markControl.mono _ _ _ _ _ _ | exact laws_markPathS.mono _ _ _ | exact laws_toControl.mono _ _ _ _ _ | exact laws_toPathS.mono _ _ | exact spec_TickControl.mono _ _ _ _ _ _
set_option maxHeartbeats 8000000 in
set_option maxRecDepth 100000 in
theorem laws_FnExactTickControl.calls (k : Nat) (A0 : Option Addr) (c0 : Nat) (l0 : List (S92)) (A1_0 : Option Addr) (c1_0 : Nat) (l1_0 : List Int) (a1_1 : Int) (A1_2 : Option Addr) (c1_2 : Nat) (l1_2 : List Int) (a1_3 : Int) (r : Bool) (w : World) (hr0 : Kd.C k92 w A0 l0.length l0) (hc0 : l0.length ≤ c0) (hr1_0 : Kd.C (Kd.int .i64) w A1_0 l1_0.length l1_0) (hc1_0 : l1_0.length ≤ c1_0) (hr1_2 : Kd.C (Kd.int .i64) w A1_2 l1_2.length l1_2) (hc1_2 : l1_2.length ≤ c1_2) (h : laws_FnExactTickControl.f k l0 l1_0 a1_1 l1_2 a1_3 = some r) :
  Calls Try.prog 14 #[.slice A0 l0.length c0, .agg #[.slice A1_0 l1_0.length c1_0, .int .i64 a1_1, .slice A1_2 l1_2.length c1_2, .int .i64 a1_3]] w fun e w' => e = .returned (.bool r) ∧ Below w.heap.size w w' := by
 have hu67 := Try.underlying67
 have hu70 := Try.underlying70
 have HR0 := Aside0.mk hr0
 have HC0 := Aside0.mk hc0
 clear hr0 hc0
 have HR1_0 := Aside0.mk hr1_0
 have HC1_0 := Aside0.mk hc1_0
 clear hr1_0 hc1_0
 have HR1_2 := Aside0.mk hr1_2
 have HC1_2 := Aside0.mk hc1_2
 clear hr1_2 hc1_2
 have HB := Aside0.mk (Below.refl w.heap.size w)
 have H : ((laws_szPathS.f l0 1048576).bind fun t579 => (if t579 < 0 then (some true) else ((laws_szControl.f l1_0 a1_1 l1_2 a1_3 t579).bind fun t580 => (if t580 < 0 then (some true) else ((laws_toPathS.f k l0).bind fun t581 => ((laws_toControl.f k l1_0 a1_1 l1_2 a1_3).bind fun bt584 => ((spec_TickControl.f k t581 bt584.1 bt584.2.1 bt584.2.2.1 bt584.2.2.2).bind fun bt592 => ((laws_toPathS.f k l0).bind fun t601 => ((laws_toControl.f k l1_0 a1_1 l1_2 a1_3).bind fun bt604 => ((impl_TickControl.f k t601 bt604.1 bt604.2.1 bt604.2.2.1 bt604.2.2.2).bind fun bt613 => ((laws_eqControl.f k bt613.1 bt613.2.1 bt613.2.2.1 bt613.2.2.2 bt592.1 bt592.2.1 bt592.2.2.1 bt592.2.2.2).bind fun t622 => (if t622 = true then ((laws_toPathS.f k l0).bind fun t623 => ((laws_eqPathS.f k t601 t623).bind fun t626 => (if t626 = true then ((laws_toControl.f k l1_0 a1_1 l1_2 a1_3).bind fun bt627 => ((laws_eqControl.f k bt604.1 bt604.2.1 bt604.2.2.1 bt604.2.2.2 bt627.1 bt627.2.1 bt627.2.2.1 bt627.2.2.2).bind fun t635 => (if t635 = true then ((laws_markPathS.f k t601 1).bind fun bt636 => ((laws_markControl.f k bt604.1 bt604.2.1 bt604.2.2.1 bt604.2.2.2 bt636.1).bind fun bt638 => (if bt638.1 < 0 then (laws_FnExactTickControl.j0 k l0 true l1_0 a1_1 l1_2 a1_3 bt592.1 bt592.2.1 bt592.2.2.1 bt592.2.2.2 bt613.1 bt613.2.1 bt613.2.2.1 bt613.2.2.2) else ((laws_eqControl.f k bt613.1 bt613.2.1 bt613.2.2.1 bt613.2.2.2 bt592.1 bt592.2.1 bt592.2.2.1 bt592.2.2.2).bind fun t641 => (laws_FnExactTickControl.j0 k l0 (!t641) l1_0 a1_1 l1_2 a1_3 bt592.1 bt592.2.1 bt592.2.2.1 bt592.2.2.2 bt613.1 bt613.2.1 bt613.2.2.1 bt613.2.2.2))))) else (none)))) else (none)))) else (none))))))))))))) = some r := h
 clear h
 obtain ⟨t579, A3, H⟩ := bindE H
 try dsimp only at H
 by_cases c4 : t579 < 0
 ·
  rw [if_pos c4] at H
  have c4b0 : decide (t579 < 0) = true := decide_eq_true c4
  clear c4
  obtain rfl := Option.some.inj H
  go_enter Try.func14, Try.ntmps14
  go_wp2_with (first | ((with_reducible refine gate_dst (N := 3) rfl ?_); refine bE (N := 3) (cs := #[.slice A1_0 l1_0.length c1_0, .int .i64 a1_1, .slice A1_2 l1_2.length c1_2, .int .i64 a1_3]) (t := 67) ?_; intro gb578 hg w5 hbox hb; have n0_ := Aside0.mk (below_step bA hb); have n1_ := Aside0.mk (hbox); have n2_ := Aside0.mk ((by rw [hg]; exact (below_size bA) : w.heap.size ≤ gb578)); have n3_ := Aside0.mk ((by rw [hg]; exact (below_size bA) : w.heap.size ≤ gb578)); clear HB; have HB := n0_; have BK578 := n1_; have GW578 := n2_; have GE578 := n3_; clear n0_ n1_ n2_ n3_; clear hb hbox hg) | ((with_reducible refine gate_callee (f := 31) rfl ?_); refine gL (some 16) Try.func31 #[.slice A0 l0.length c0, .int .i64 1048576] ?_; (with_reducible refine (laws_szPathS.calls _ _ l0 1048576 t579 _ ?side1 ?side2 A3.out).mono ?_); (case side1 => exact cB HR0); (case side2 => exact HC0.out); rintro e w' ⟨rfl, ⟨nd, rfl⟩⟩; refine ⟨_, rfl, ?_⟩))
  go_ret
  exact ⟨rA, bG⟩
 ·
  rw [if_neg c4] at H
  have c4b0 : decide (t579 < 0) = false := decide_eq_false c4
  clear c4
  obtain ⟨t580, A6, H⟩ := bindE H
  try dsimp only at H
  by_cases c7 : t580 < 0
  ·
   rw [if_pos c7] at H
   have c7b0 : decide (t580 < 0) = true := decide_eq_true c7
   clear c7
   obtain rfl := Option.some.inj H
   go_enter Try.func14, Try.ntmps14
   go_wp2_with (first | ((with_reducible refine gate_dst (N := 3) rfl ?_); refine bE (N := 3) (cs := #[.slice A1_0 l1_0.length c1_0, .int .i64 a1_1, .slice A1_2 l1_2.length c1_2, .int .i64 a1_3]) (t := 67) ?_; intro gb578 hg w8 hbox hb; have n0_ := Aside0.mk (below_step bA hb); have n1_ := Aside0.mk (hbox); have n2_ := Aside0.mk ((by rw [hg]; exact (below_size bA) : w.heap.size ≤ gb578)); have n3_ := Aside0.mk ((by rw [hg]; exact (below_size bA) : w.heap.size ≤ gb578)); clear HB; have HB := n0_; have BK578 := n1_; have GW578 := n2_; have GE578 := n3_; clear n0_ n1_ n2_ n3_; clear hb hbox hg) | ((with_reducible refine gate_callee (f := 31) rfl ?_); refine gL (some 16) Try.func31 #[.slice A0 l0.length c0, .int .i64 1048576] ?_; (with_reducible refine (laws_szPathS.calls _ _ l0 1048576 t579 _ ?side1 ?side2 A3.out).mono ?_); (case side1 => exact cB HR0); (case side2 => exact HC0.out); rintro e w' ⟨rfl, ⟨nd, rfl⟩⟩; refine ⟨_, rfl, ?_⟩; have hcz9_0 : w8.cell? ⟨gb578, 0, none⟩ = some (.slice A1_0 l1_0.length c1_0) := bC BK578 0; have hcz9_1 : w8.cell? ⟨gb578, 1, none⟩ = some (.int .i64 a1_1) := bC BK578 1; have hcz9_2 : w8.cell? ⟨gb578, 2, none⟩ = some (.slice A1_2 l1_2.length c1_2) := bC BK578 2; have hcz9_3 : w8.cell? ⟨gb578, 3, none⟩ = some (.int .i64 a1_3) := bC BK578 3; have hfz9_0 := blk_frozen BK578.out 0; have hfz9_1 := blk_frozen BK578.out 1; have hfz9_2 := blk_frozen BK578.out 2; have hfz9_3 := blk_frozen BK578.out 3) | ((with_reducible refine gate_callee (f := 54) rfl ?_); refine gL (some 21) Try.func54 #[.agg #[.slice A1_0 l1_0.length c1_0, .int .i64 a1_1, .slice A1_2 l1_2.length c1_2, .int .i64 a1_3], .int .i64 t579] ?_; (with_reducible refine (laws_szControl.calls _ _ l1_0 a1_1 _ _ l1_2 a1_3 t579 t580 _ ?side1 ?side2 ?side3 ?side4 A6.out).mono ?_); (case side1 => exact cG HR1_0); (case side2 => exact HC1_0.out); (case side3 => exact cG HR1_2); (case side4 => exact HC1_2.out); rintro e w10 ⟨rfl, hb⟩; refine ⟨_, rfl, ?_⟩; replace BK578 := Aside0.mk (blk_below (g := gb578) (bK BK578) hb); replace HB := Aside0.mk (below_step bG hb); (try clear hb); (try clear hb2); (try clear hk); (try clear hi)))
   go_ret
   exact ⟨rA, bG⟩
  ·
   rw [if_neg c7] at H
   have c7b0 : decide (t580 < 0) = false := decide_eq_false c7
   clear c7
   obtain ⟨t581, A11, H⟩ := bindE H
   try dsimp only at H
   obtain ⟨⟨t584, t587, t588, t591⟩, A12, H⟩ := bindE H
   try dsimp only at H
   obtain ⟨⟨t592, t595, t596, t599⟩, A13, H⟩ := bindE H
   try dsimp only at H
   obtain ⟨t601, A14, H⟩ := bindE H
   try dsimp only at H
   obtain ⟨⟨t604, t607, t608, t611⟩, A15, H⟩ := bindE H
   try dsimp only at H
   obtain ⟨⟨t613, t616, t617, t620⟩, A16, H⟩ := bindE H
   try dsimp only at H
   obtain ⟨t622, A17, H⟩ := bindE H
   try dsimp only at H
   have c18 := ifN H
   replace H := ifT H
   subst c18
   obtain ⟨t623, A19, H⟩ := bindE H
   try dsimp only at H
   obtain ⟨t626, A20, H⟩ := bindE H
   try dsimp only at H
   have c21 := ifN H
   replace H := ifT H
   subst c21
   obtain ⟨⟨t627, t630, t631, t634⟩, A22, H⟩ := bindE H
   try dsimp only at H
   obtain ⟨t635, A23, H⟩ := bindE H
   try dsimp only at H
   have c24 := ifN H
   replace H := ifT H
   subst c24
   obtain ⟨⟨t636, t637⟩, A25, H⟩ := bindE H
   try dsimp only at H
   obtain ⟨⟨t638, t639, t640⟩, A26, H⟩ := bindE H
   try dsimp only at H
   have HC27 := Aside0.mk H
   clear H
   go_enter Try.func14, Try.ntmps14
   try go_wp2_with (first | ((with_reducible refine gate_dst (N := 3) rfl ?_); refine bE (N := 3) (cs := #[.slice A1_0 l1_0.length c1_0, .int .i64 a1_1, .slice A1_2 l1_2.length c1_2, .int .i64 a1_3]) (t := 67) ?_; intro gb578 hg w28 hbox hb; have n0_ := Aside0.mk (below_step bA hb); have n1_ := Aside0.mk (hbox); have n2_ := Aside0.mk ((by rw [hg]; exact (below_size bA) : w.heap.size ≤ gb578)); have n3_ := Aside0.mk ((by rw [hg]; exact (below_size bA) : w.heap.size ≤ gb578)); clear HB; have HB := n0_; have BK578 := n1_; have GW578 := n2_; have GE578 := n3_; clear n0_ n1_ n2_ n3_; clear hb hbox hg) | ((with_reducible refine gate_callee (f := 31) rfl ?_); refine gL (some 16) Try.func31 #[.slice A0 l0.length c0, .int .i64 1048576] ?_; (with_reducible refine (laws_szPathS.calls _ _ l0 1048576 t579 _ ?side1 ?side2 A3.out).mono ?_); (case side1 => exact cB HR0); (case side2 => exact HC0.out); rintro e w' ⟨rfl, ⟨nd, rfl⟩⟩; refine ⟨_, rfl, ?_⟩; (try (rw [drewN_self w28]; generalize hq_ : World.drewN w28 _ = w28; have n0_ : Aside0 (w28.heap[gb578]? = some (.cells #[.slice A1_0 l1_0.length c1_0, .int .i64 a1_1, .slice A1_2 l1_2.length c1_2, .int .i64 a1_3] 67 (0, 0))) := ⟨by rw [← hq_]; exact (bK BK578)⟩; have n1_ : Aside0 (Below w.heap.size w w28) := ⟨by rw [← hq_]; exact bG⟩; clear BK578 HB hq_; have BK578 := n0_; have HB := n1_; clear n0_ n1_)); have hcz29_0 : w28.cell? ⟨gb578, 0, none⟩ = some (.slice A1_0 l1_0.length c1_0) := bC BK578 0; have hcz29_1 : w28.cell? ⟨gb578, 1, none⟩ = some (.int .i64 a1_1) := bC BK578 1; have hcz29_2 : w28.cell? ⟨gb578, 2, none⟩ = some (.slice A1_2 l1_2.length c1_2) := bC BK578 2; have hcz29_3 : w28.cell? ⟨gb578, 3, none⟩ = some (.int .i64 a1_3) := bC BK578 3; have hfz29_0 := blk_frozen BK578.out 0; have hfz29_1 := blk_frozen BK578.out 1; have hfz29_2 := blk_frozen BK578.out 2; have hfz29_3 := blk_frozen BK578.out 3) | ((with_reducible refine gate_callee (f := 54) rfl ?_); refine gL (some 21) Try.func54 #[.agg #[.slice A1_0 l1_0.length c1_0, .int .i64 a1_1, .slice A1_2 l1_2.length c1_2, .int .i64 a1_3], .int .i64 t579] ?_; (with_reducible refine (laws_szControl.calls _ _ l1_0 a1_1 _ _ l1_2 a1_3 t579 t580 _ ?side1 ?side2 ?side3 ?side4 A6.out).mono ?_); (case side1 => exact cB HR1_0); (case side2 => exact HC1_0.out); (case side3 => exact cB HR1_2); (case side4 => exact HC1_2.out); rintro e w30 ⟨rfl, hb⟩; refine ⟨_, rfl, ?_⟩; replace BK578 := Aside0.mk (blk_below (g := gb578) (bK BK578) hb); replace HB := Aside0.mk (below_step bG hb); (try clear hb); (try clear hb2); (try clear hk); (try clear hi)))
   replace BK578 := Aside0.mk (blk_drew BK578.out)
   have HBo := HB
   replace HB := Aside0.mk (below_drew1 HB.out)
   refine start_ (n := 7) (S := fun w' => w'.cell? ⟨gb578, 0, none⟩ = some (.slice A1_0 l1_0.length c1_0) ∧ w'.cell? ⟨gb578, 1, none⟩ = some (.int .i64 a1_1) ∧ w'.cell? ⟨gb578, 2, none⟩ = some (.slice A1_2 l1_2.length c1_2) ∧ w'.cell? ⟨gb578, 3, none⟩ = some (.int .i64 a1_3)) (ds := []) (mb 7 0) (by kernel_rfl) rfl rfl ⟨bC BK578 0, bC BK578 1, bC BK578 2, bC BK578 3⟩ (fun hHeld => ?_)
   generalize w30.drew = w31 at BK578 HB hHeld ⊢
   refine pure_ (i := 0) (N := some 24) (v := ?_) (a' := ?_) (mb 7 1) rfl rfl (by kernel_rfl) (fun _ _ _ h => h) (Or.inl ⟨by rfl, ?_⟩) ?_ ?_
   rotate_left
   ·
    intro w'
    go_simp
    with_reducible rfl
   rotate_left
   ·
    simp only [Act.put, List.setIfInBounds_toArray, List.set_cons_zero, List.set_cons_succ, i64_w, i32_w]
    rfl
   refine take_ (i := 2) (N := some 26) (v := ?_) (a' := ?_) (mb 7 5) rfl rfl (by kernel_rfl) (fun _ _ _ h => h) (Or.inl ⟨by rfl, ?_⟩) hHeld ?_ ?_
   rotate_left
   ·
    rintro w' ⟨s0, s1, s2, s3⟩
    go_simp
    with_reducible rfl
   rotate_left
   ·
    simp only [Act.put, List.setIfInBounds_toArray, List.set_cons_zero, List.set_cons_succ, i64_w, i32_w]
    rfl
   refine join_ (σ := Value × Value × Value × Value × Value × Nat) 1 (mb 7 63) (fun s_ => [(25, s_.1), (27, .agg #[s_.2.1, .int .i64 t587, s_.2.2.1, .int .i64 t591]), (28, .agg #[s_.2.2.2.1, .int .i64 t595, s_.2.2.2.2.1, .int .i64 t599]), (6, .pointer (some ⟨s_.2.2.2.2.2, 0, none⟩))]) (fun s_ w' => (w'.cell? ⟨gb578, 0, none⟩ = some (.slice A1_0 l1_0.length c1_0) ∧ w'.cell? ⟨gb578, 1, none⟩ = some (.int .i64 a1_1) ∧ w'.cell? ⟨gb578, 2, none⟩ = some (.slice A1_2 l1_2.length c1_2) ∧ w'.cell? ⟨gb578, 3, none⟩ = some (.int .i64 a1_3)) ∧ (Kd.R k90 90 w' w.heap.size (fun _ => True) s_.1 t581) ∧ (Kd.R (Kd.int .i64) 3 w' w.heap.size (fun k_ => some k_ ≠ (s_.2.2.1 : Value).ownBlock ∧ some k_ ≠ (s_.2.2.2.1 : Value).ownBlock ∧ some k_ ≠ (s_.2.2.2.2.1 : Value).ownBlock) s_.2.1 t584) ∧ (Kd.R (Kd.int .i64) 3 w' w.heap.size (fun k_ => some k_ ≠ (s_.2.1 : Value).ownBlock ∧ some k_ ≠ (s_.2.2.2.1 : Value).ownBlock ∧ some k_ ≠ (s_.2.2.2.2.1 : Value).ownBlock) s_.2.2.1 t588) ∧ (Kd.R (Kd.int .i64) 3 w' w.heap.size (fun k_ => some k_ ≠ (s_.2.1 : Value).ownBlock ∧ some k_ ≠ (s_.2.2.1 : Value).ownBlock ∧ some k_ ≠ (s_.2.2.2.2.1 : Value).ownBlock) s_.2.2.2.1 t592) ∧ (Kd.R (Kd.int .i64) 3 w' w.heap.size (fun k_ => some k_ ≠ (s_.2.1 : Value).ownBlock ∧ some k_ ≠ (s_.2.2.1 : Value).ownBlock ∧ some k_ ≠ (s_.2.2.2.1 : Value).ownBlock) s_.2.2.2.2.1 t596) ∧ (w'.heap[gb578]? = some (.cells #[.slice A1_0 l1_0.length c1_0, .int .i64 a1_1, .slice A1_2 l1_2.length c1_2, .int .i64 a1_3] 67 (0, 0))) ∧ (w'.heap[s_.2.2.2.2.2]? = some (.cells #[.slice none 0 0, .int .i64 0, .slice none 0 0, .int .i64 0] 70 (0, 0))) ∧ (w.heap.size ≤ s_.2.2.2.2.2) ∧ (w.heap.size ≤ s_.2.2.2.2.2) ∧ (gb578 ≠ s_.2.2.2.2.2) ∧ (s_.2.2.2.2.2 ≠ gb578) ∧ (Below w.heap.size w w')) ?_ ?_
   rotate_left
   ·
    intro hCont
    refine two_ (i := 1) (j := 5) (Ni := some 25) (Nj := some 6) (mb 7 7) (mb 7 37) rfl rfl rfl rfl (by kernel_rfl) (by decide) (by decide) (fun K hK => ?_) (fun K hK => ?_)
    ·
     skip
     refine gA Try.func34 #[.slice A0 l0.length c0] ?_
     with_reducible refine (laws_toPathS.calls k _ _ l0 t581 _ ?side1 ?side2 A11.out).mono ?_
     (case side1 => exact cB HR0)
     (case side2 => exact HC0.out)
     rintro e w32 ⟨v582, rfl, ho0, hb⟩
     refine ⟨_, rfl, ?_⟩
     have HO583 := Aside0.mk (Kd.R_lower ho0 (below_size bG))
     replace BK578 := Aside0.mk (blk_below (g := gb578) (bK BK578) hb)
     replace HB := Aside0.mk (below_step bG hb)
     (try clear hb)
     (try clear hb2)
     (try clear hk)
     (try clear hi)
     (try clear ho0)
     refine hK.out _ _ ⟨bC BK578 0, bC BK578 1, bC BK578 2, bC BK578 3⟩ (fun hHeld => ?_)
     clear hK K
     refine nB ?_
     refine two_ (i := 3) (j := 5) (Ni := some 27) (Nj := some 6) (mb 7 15) (mb 7 39) rfl rfl rfl rfl (by kernel_rfl) (by decide) (by decide) (fun K hK => ?_) (fun K hK => ?_)
     ·
      skip
      refine gA Try.func56 #[.agg #[.slice A1_0 l1_0.length c1_0, .int .i64 a1_1, .slice A1_2 l1_2.length c1_2, .int .i64 a1_3]] ?_
      with_reducible refine (laws_toControl.calls k _ _ l1_0 a1_1 _ _ l1_2 a1_3 t584 t587 t588 t591 _ ?side1 ?side2 ?side3 ?side4 A12.out).mono ?_
      (case side1 => exact cB HR1_0)
      (case side2 => exact HC1_0.out)
      (case side3 => exact cB HR1_2)
      (case side4 => exact HC1_2.out)
      rintro e w33 ⟨v585, v589, rfl, ho0, ho1, hb⟩
      refine ⟨_, rfl, ?_⟩
      replace HO583 := Aside0.mk (Kd.R_below (rK HO583) hb)
      have HO586 := Aside0.mk (Kd.R_lower ho0 (below_size bG))
      have HO590 := Aside0.mk (Kd.R_lower ho1 (below_size bG))
      replace BK578 := Aside0.mk (blk_below (g := gb578) (bK BK578) hb)
      replace HB := Aside0.mk (below_step bG hb)
      (try clear hb)
      (try clear hb2)
      (try clear hk)
      (try clear hi)
      (try clear ho0)
      (try clear ho1)
      obtain ⟨Ao34, co34, eo34⟩ := Kd.R_slice HO583.out
      (first | subst eo34 | (injection eo34 with f1_ f2_ f3_; have f4_ := f1_.symm; have f5_ := f3_.symm; clear f1_ f2_ f3_; subst f4_; subst f5_))
      obtain ⟨Ao35, co35, eo35⟩ := Kd.R_slice HO586.out
      (first | subst eo35 | (injection eo35 with f1_ f2_ f3_; have f4_ := f1_.symm; have f5_ := f3_.symm; clear f1_ f2_ f3_; subst f4_; subst f5_))
      obtain ⟨Ao36, co36, eo36⟩ := Kd.R_slice HO590.out
      (first | subst eo36 | (injection eo36 with f1_ f2_ f3_; have f4_ := f1_.symm; have f5_ := f3_.symm; clear f1_ f2_ f3_; subst f4_; subst f5_))
      refine hK.out _ _ ⟨bC BK578 0, bC BK578 1, bC BK578 2, bC BK578 3⟩ (fun hHeld => ?_)
      clear hK K
      refine nB ?_
      refine two_ (i := 4) (j := 5) (Ni := some 28) (Nj := some 6) (mb 7 31) (mb 7 47) rfl rfl rfl rfl (by kernel_rfl) (by decide) (by decide) (fun K hK => ?_) (fun K hK => ?_)
      ·
       skip
       refine gA Try.func64 #[.slice Ao34 t581.length co34, .agg #[.slice Ao35 t584.length co35, .int .i64 t587, .slice Ao36 t588.length co36, .int .i64 t591]] ?_
       with_reducible refine (spec_TickControl.calls k _ _ t581 _ _ t584 t587 _ _ t588 t591 t592 t595 t596 t599 _ ?side1 ?side2 ?side3 ?side4 ?side5 ?side6 A13.out).mono ?_
       (case side1 => exact cO ⟨(Kd.R_reads' HO583.out).2.2⟩)
       (case side2 => exact (Kd.R_reads' HO583.out).2.1)
       (case side3 => exact cO ⟨(Kd.R_reads' HO586.out).2.2⟩)
       (case side4 => exact (Kd.R_reads' HO586.out).2.1)
       (case side5 => exact cO ⟨(Kd.R_reads' HO590.out).2.2⟩)
       (case side6 => exact (Kd.R_reads' HO590.out).2.1)
       rintro e w37 ⟨v593, v597, rfl, ho0, ho1, hb⟩
       refine ⟨_, rfl, ?_⟩
       replace HO583 := Aside0.mk (Kd.R_below (rK HO583) hb)
       have HO594 := Aside0.mk (Kd.R_lower (Kd.R_new' (Kd.R_new' ho0 (Kd.R_lt (rK HO586))) (Kd.R_lt (rK HO590))) (below_size bG))
       have HO598 := Aside0.mk (Kd.R_lower (Kd.R_new' (Kd.R_new' ho1 (Kd.R_lt (rK HO586))) (Kd.R_lt (rK HO590))) (below_size bG))
       replace HO586 := Aside0.mk (Kd.R_mono (Kd.R_told (Kd.R_told (Kd.R_old (rK HO586) hb) (Kd.R_base ho0)) (Kd.R_base ho1)) (fun _ h_ => h_.1))
       replace HO590 := Aside0.mk (Kd.R_mono (Kd.R_told (Kd.R_told (Kd.R_old (rK HO590) hb) (Kd.R_base ho0)) (Kd.R_base ho1)) (fun _ h_ => h_.1))
       replace BK578 := Aside0.mk (blk_below (g := gb578) (bK BK578) hb)
       replace HB := Aside0.mk (below_step bG hb)
       (try clear hb)
       (try clear hb2)
       (try clear hk)
       (try clear hi)
       (try clear ho0)
       (try clear ho1)
       refine hK.out _ _ ⟨bC BK578 0, bC BK578 1, bC BK578 2, bC BK578 3⟩ (fun hHeld => ?_)
       clear hK K
       refine nB ?_
       refine one_ (i := 5) (N := some 6) (mb 7 63) rfl rfl (by kernel_rfl) (by decide) (fun K hK => ?_)
       refine box_step ?hg (N := 6) ?hd (cs := #[.slice none 0 0, .int .i64 0, .slice none 0 0, .int .i64 0]) (t := 70) ?hr ?_; (case hd => rfl); (case hg => rfl); (case hr => first | (go_simp; done) | (go_simp; rfl))
       intro gb600 hg w38 hbox hb
       replace HO583 := Aside0.mk (Kd.R_below (rK HO583) hb)
       replace HO586 := Aside0.mk (Kd.R_below (rK HO586) hb)
       replace HO590 := Aside0.mk (Kd.R_below (rK HO590) hb)
       replace HO594 := Aside0.mk (Kd.R_below (rK HO594) hb)
       replace HO598 := Aside0.mk (Kd.R_below (rK HO598) hb)
       have BK600 := Aside0.mk (hbox)
       have GW600 := Aside0.mk ((by rw [hg]; exact (below_size bG) : w.heap.size ≤ gb600))
       have GE600 := Aside0.mk ((by rw [hg]; exact (below_size bG) : w.heap.size ≤ gb600))
       replace HB := Aside0.mk (below_step bG hb)
       have NB578_600 := Aside0.mk ((by rw [hg]; exact Nat.ne_of_lt (blk_lt (g := gb578) (o := .cells #[.slice A1_0 l1_0.length c1_0, .int .i64 a1_1, .slice A1_2 l1_2.length c1_2, .int .i64 a1_3] 67 (0, 0)) (bK BK578)) : gb578 ≠ gb600))
       have NB600_578 := Aside0.mk ((by rw [hg]; exact Nat.ne_of_gt (blk_lt (g := gb578) (o := .cells #[.slice A1_0 l1_0.length c1_0, .int .i64 a1_1, .slice A1_2 l1_2.length c1_2, .int .i64 a1_3] 67 (0, 0)) (bK BK578)) : gb600 ≠ gb578))
       replace BK578 := Aside0.mk (blk_below (g := gb578) (bK BK578) hb)
       clear hb hbox hg
       refine hK.out _ _ ⟨bC BK578 0, bC BK578 1, bC BK578 2, bC BK578 3⟩ (fun hHeld => ?_)
       clear hK K
       refine nB ?_
       exact mB (hCont (.slice Ao34 t581.length co34, .slice Ao35 t584.length co35, .slice Ao36 t588.length co36, v593, v597, gb600) _ ⟨hHeld, (rK HO583), (by (with_reducible repeat (first | apply Kd.R_alloc | apply Kd.R_drewN | apply Kd.R_drew)); exact Kd.R_mono HO586.out (fun _ hk => ⟨hk.1.1, ⟨hk.1.2, hk.2⟩⟩)), (by (with_reducible repeat (first | apply Kd.R_alloc | apply Kd.R_drewN | apply Kd.R_drew)); exact Kd.R_mono HO590.out (fun _ hk => ⟨hk.1.1, ⟨hk.1.2, hk.2⟩⟩)), (by (with_reducible repeat (first | apply Kd.R_alloc | apply Kd.R_drewN | apply Kd.R_drew)); exact Kd.R_mono HO594.out (fun _ hk => ⟨hk.1.2, ⟨hk.2, hk.1.1⟩⟩)), (by (with_reducible repeat (first | apply Kd.R_alloc | apply Kd.R_drewN | apply Kd.R_drew)); exact Kd.R_mono HO598.out (fun _ hk => ⟨hk.1.2, ⟨hk.2, hk.1.1⟩⟩)), (bK BK578), (bK BK600), GW600.out, GE600.out, NB578_600.out, NB600_578.out, bG⟩)
      ·
       skip
       refine box_step ?hg (N := 6) ?hd (cs := #[.slice none 0 0, .int .i64 0, .slice none 0 0, .int .i64 0]) (t := 70) ?hr ?_; (case hd => rfl); (case hg => rfl); (case hr => first | (go_simp; done) | (go_simp; rfl))
       intro gb600 hg w34 hbox hb
       replace HO583 := Aside0.mk (Kd.R_below (rK HO583) hb)
       replace HO586 := Aside0.mk (Kd.R_below (rK HO586) hb)
       replace HO590 := Aside0.mk (Kd.R_below (rK HO590) hb)
       have BK600 := Aside0.mk (hbox)
       have GW600 := Aside0.mk ((by rw [hg]; exact (below_size bG) : w.heap.size ≤ gb600))
       have GE600 := Aside0.mk ((by rw [hg]; exact (below_size bG) : w.heap.size ≤ gb600))
       replace HB := Aside0.mk (below_step bG hb)
       have NB578_600 := Aside0.mk ((by rw [hg]; exact Nat.ne_of_lt (blk_lt (g := gb578) (o := .cells #[.slice A1_0 l1_0.length c1_0, .int .i64 a1_1, .slice A1_2 l1_2.length c1_2, .int .i64 a1_3] 67 (0, 0)) (bK BK578)) : gb578 ≠ gb600))
       have NB600_578 := Aside0.mk ((by rw [hg]; exact Nat.ne_of_gt (blk_lt (g := gb578) (o := .cells #[.slice A1_0 l1_0.length c1_0, .int .i64 a1_1, .slice A1_2 l1_2.length c1_2, .int .i64 a1_3] 67 (0, 0)) (bK BK578)) : gb600 ≠ gb578))
       replace BK578 := Aside0.mk (blk_below (g := gb578) (bK BK578) hb)
       clear hb hbox hg
       obtain ⟨Ao35, co35, eo35⟩ := Kd.R_slice HO583.out
       (first | subst eo35 | (injection eo35 with f1_ f2_ f3_; have f4_ := f1_.symm; have f5_ := f3_.symm; clear f1_ f2_ f3_; subst f4_; subst f5_))
       obtain ⟨Ao36, co36, eo36⟩ := Kd.R_slice HO586.out
       (first | subst eo36 | (injection eo36 with f1_ f2_ f3_; have f4_ := f1_.symm; have f5_ := f3_.symm; clear f1_ f2_ f3_; subst f4_; subst f5_))
       obtain ⟨Ao37, co37, eo37⟩ := Kd.R_slice HO590.out
       (first | subst eo37 | (injection eo37 with f1_ f2_ f3_; have f4_ := f1_.symm; have f5_ := f3_.symm; clear f1_ f2_ f3_; subst f4_; subst f5_))
       refine hK.out _ _ ⟨bC BK578 0, bC BK578 1, bC BK578 2, bC BK578 3⟩ (fun hHeld => ?_)
       clear hK K
       refine nB ?_
       refine one_ (i := 4) (N := some 28) (mb 7 63) rfl rfl (by kernel_rfl) (by decide) (fun K hK => ?_)
       refine gA Try.func64 #[.slice Ao35 t581.length co35, .agg #[.slice Ao36 t584.length co36, .int .i64 t587, .slice Ao37 t588.length co37, .int .i64 t591]] ?_
       with_reducible refine (spec_TickControl.calls k _ _ t581 _ _ t584 t587 _ _ t588 t591 t592 t595 t596 t599 _ ?side1 ?side2 ?side3 ?side4 ?side5 ?side6 A13.out).mono ?_
       (case side1 => exact cO ⟨(Kd.R_reads' HO583.out).2.2⟩)
       (case side2 => exact (Kd.R_reads' HO583.out).2.1)
       (case side3 => exact cO ⟨(Kd.R_reads' HO586.out).2.2⟩)
       (case side4 => exact (Kd.R_reads' HO586.out).2.1)
       (case side5 => exact cO ⟨(Kd.R_reads' HO590.out).2.2⟩)
       (case side6 => exact (Kd.R_reads' HO590.out).2.1)
       rintro e w38 ⟨v593, v597, rfl, ho0, ho1, hb⟩
       refine ⟨_, rfl, ?_⟩
       replace HO583 := Aside0.mk (Kd.R_below (rK HO583) hb)
       have HO594 := Aside0.mk (Kd.R_lower (Kd.R_new' (Kd.R_new' ho0 (Kd.R_lt (rK HO586))) (Kd.R_lt (rK HO590))) (below_size bG))
       have HO598 := Aside0.mk (Kd.R_lower (Kd.R_new' (Kd.R_new' ho1 (Kd.R_lt (rK HO586))) (Kd.R_lt (rK HO590))) (below_size bG))
       replace HO586 := Aside0.mk (Kd.R_mono (Kd.R_told (Kd.R_told (Kd.R_old (rK HO586) hb) (Kd.R_base ho0)) (Kd.R_base ho1)) (fun _ h_ => h_.1))
       replace HO590 := Aside0.mk (Kd.R_mono (Kd.R_told (Kd.R_told (Kd.R_old (rK HO590) hb) (Kd.R_base ho0)) (Kd.R_base ho1)) (fun _ h_ => h_.1))
       replace BK578 := Aside0.mk (blk_below (g := gb578) (bK BK578) hb)
       replace BK600 := Aside0.mk (blk_below (g := gb600) (bK BK600) hb)
       replace HB := Aside0.mk (below_step bG hb)
       (try clear hb)
       (try clear hb2)
       (try clear hk)
       (try clear hi)
       (try clear ho0)
       (try clear ho1)
       refine hK.out _ _ ⟨bC BK578 0, bC BK578 1, bC BK578 2, bC BK578 3⟩ (fun hHeld => ?_)
       clear hK K
       refine nB ?_
       exact mB (hCont (.slice Ao35 t581.length co35, .slice Ao36 t584.length co36, .slice Ao37 t588.length co37, v593, v597, gb600) _ ⟨hHeld, (rK HO583), (by (with_reducible repeat (first | apply Kd.R_alloc | apply Kd.R_drewN | apply Kd.R_drew)); exact Kd.R_mono HO586.out (fun _ hk => ⟨hk.1.1, ⟨hk.1.2, hk.2⟩⟩)), (by (with_reducible repeat (first | apply Kd.R_alloc | apply Kd.R_drewN | apply Kd.R_drew)); exact Kd.R_mono HO590.out (fun _ hk => ⟨hk.1.1, ⟨hk.1.2, hk.2⟩⟩)), (by (with_reducible repeat (first | apply Kd.R_alloc | apply Kd.R_drewN | apply Kd.R_drew)); exact Kd.R_mono HO594.out (fun _ hk => ⟨hk.1.2, ⟨hk.2, hk.1.1⟩⟩)), (by (with_reducible repeat (first | apply Kd.R_alloc | apply Kd.R_drewN | apply Kd.R_drew)); exact Kd.R_mono HO598.out (fun _ hk => ⟨hk.1.2, ⟨hk.2, hk.1.1⟩⟩)), (bK BK578), (bK BK600), GW600.out, GE600.out, NB578_600.out, NB600_578.out, bG⟩)
     ·
      skip
      refine box_step ?hg (N := 6) ?hd (cs := #[.slice none 0 0, .int .i64 0, .slice none 0 0, .int .i64 0]) (t := 70) ?hr ?_; (case hd => rfl); (case hg => rfl); (case hr => first | (go_simp; done) | (go_simp; rfl))
      intro gb600 hg w33 hbox hb
      replace HO583 := Aside0.mk (Kd.R_below (rK HO583) hb)
      have BK600 := Aside0.mk (hbox)
      have GW600 := Aside0.mk ((by rw [hg]; exact (below_size bG) : w.heap.size ≤ gb600))
      have GE600 := Aside0.mk ((by rw [hg]; exact (below_size bG) : w.heap.size ≤ gb600))
      replace HB := Aside0.mk (below_step bG hb)
      have NB578_600 := Aside0.mk ((by rw [hg]; exact Nat.ne_of_lt (blk_lt (g := gb578) (o := .cells #[.slice A1_0 l1_0.length c1_0, .int .i64 a1_1, .slice A1_2 l1_2.length c1_2, .int .i64 a1_3] 67 (0, 0)) (bK BK578)) : gb578 ≠ gb600))
      have NB600_578 := Aside0.mk ((by rw [hg]; exact Nat.ne_of_gt (blk_lt (g := gb578) (o := .cells #[.slice A1_0 l1_0.length c1_0, .int .i64 a1_1, .slice A1_2 l1_2.length c1_2, .int .i64 a1_3] 67 (0, 0)) (bK BK578)) : gb600 ≠ gb578))
      replace BK578 := Aside0.mk (blk_below (g := gb578) (bK BK578) hb)
      clear hb hbox hg
      refine hK.out _ _ ⟨bC BK578 0, bC BK578 1, bC BK578 2, bC BK578 3⟩ (fun hHeld => ?_)
      clear hK K
      refine nB ?_
      refine one_ (i := 3) (N := some 27) (mb 7 47) rfl rfl (by kernel_rfl) (by decide) (fun K hK => ?_)
      refine gA Try.func56 #[.agg #[.slice A1_0 l1_0.length c1_0, .int .i64 a1_1, .slice A1_2 l1_2.length c1_2, .int .i64 a1_3]] ?_
      with_reducible refine (laws_toControl.calls k _ _ l1_0 a1_1 _ _ l1_2 a1_3 t584 t587 t588 t591 _ ?side1 ?side2 ?side3 ?side4 A12.out).mono ?_
      (case side1 => exact cB HR1_0)
      (case side2 => exact HC1_0.out)
      (case side3 => exact cB HR1_2)
      (case side4 => exact HC1_2.out)
      rintro e w34 ⟨v585, v589, rfl, ho0, ho1, hb⟩
      refine ⟨_, rfl, ?_⟩
      replace HO583 := Aside0.mk (Kd.R_below (rK HO583) hb)
      have HO586 := Aside0.mk (Kd.R_lower ho0 (below_size bG))
      have HO590 := Aside0.mk (Kd.R_lower ho1 (below_size bG))
      replace BK578 := Aside0.mk (blk_below (g := gb578) (bK BK578) hb)
      replace BK600 := Aside0.mk (blk_below (g := gb600) (bK BK600) hb)
      replace HB := Aside0.mk (below_step bG hb)
      (try clear hb)
      (try clear hb2)
      (try clear hk)
      (try clear hi)
      (try clear ho0)
      (try clear ho1)
      obtain ⟨Ao35, co35, eo35⟩ := Kd.R_slice HO583.out
      (first | subst eo35 | (injection eo35 with f1_ f2_ f3_; have f4_ := f1_.symm; have f5_ := f3_.symm; clear f1_ f2_ f3_; subst f4_; subst f5_))
      obtain ⟨Ao36, co36, eo36⟩ := Kd.R_slice HO586.out
      (first | subst eo36 | (injection eo36 with f1_ f2_ f3_; have f4_ := f1_.symm; have f5_ := f3_.symm; clear f1_ f2_ f3_; subst f4_; subst f5_))
      obtain ⟨Ao37, co37, eo37⟩ := Kd.R_slice HO590.out
      (first | subst eo37 | (injection eo37 with f1_ f2_ f3_; have f4_ := f1_.symm; have f5_ := f3_.symm; clear f1_ f2_ f3_; subst f4_; subst f5_))
      refine hK.out _ _ ⟨bC BK578 0, bC BK578 1, bC BK578 2, bC BK578 3⟩ (fun hHeld => ?_)
      clear hK K
      refine nB ?_
      refine one_ (i := 4) (N := some 28) (mb 7 63) rfl rfl (by kernel_rfl) (by decide) (fun K hK => ?_)
      refine gA Try.func64 #[.slice Ao35 t581.length co35, .agg #[.slice Ao36 t584.length co36, .int .i64 t587, .slice Ao37 t588.length co37, .int .i64 t591]] ?_
      with_reducible refine (spec_TickControl.calls k _ _ t581 _ _ t584 t587 _ _ t588 t591 t592 t595 t596 t599 _ ?side1 ?side2 ?side3 ?side4 ?side5 ?side6 A13.out).mono ?_
      (case side1 => exact cO ⟨(Kd.R_reads' HO583.out).2.2⟩)
      (case side2 => exact (Kd.R_reads' HO583.out).2.1)
      (case side3 => exact cO ⟨(Kd.R_reads' HO586.out).2.2⟩)
      (case side4 => exact (Kd.R_reads' HO586.out).2.1)
      (case side5 => exact cO ⟨(Kd.R_reads' HO590.out).2.2⟩)
      (case side6 => exact (Kd.R_reads' HO590.out).2.1)
      rintro e w38 ⟨v593, v597, rfl, ho0, ho1, hb⟩
      refine ⟨_, rfl, ?_⟩
      replace HO583 := Aside0.mk (Kd.R_below (rK HO583) hb)
      have HO594 := Aside0.mk (Kd.R_lower (Kd.R_new' (Kd.R_new' ho0 (Kd.R_lt (rK HO586))) (Kd.R_lt (rK HO590))) (below_size bG))
      have HO598 := Aside0.mk (Kd.R_lower (Kd.R_new' (Kd.R_new' ho1 (Kd.R_lt (rK HO586))) (Kd.R_lt (rK HO590))) (below_size bG))
      replace HO586 := Aside0.mk (Kd.R_mono (Kd.R_told (Kd.R_told (Kd.R_old (rK HO586) hb) (Kd.R_base ho0)) (Kd.R_base ho1)) (fun _ h_ => h_.1))
      replace HO590 := Aside0.mk (Kd.R_mono (Kd.R_told (Kd.R_told (Kd.R_old (rK HO590) hb) (Kd.R_base ho0)) (Kd.R_base ho1)) (fun _ h_ => h_.1))
      replace BK578 := Aside0.mk (blk_below (g := gb578) (bK BK578) hb)
      replace BK600 := Aside0.mk (blk_below (g := gb600) (bK BK600) hb)
      replace HB := Aside0.mk (below_step bG hb)
      (try clear hb)
      (try clear hb2)
      (try clear hk)
      (try clear hi)
      (try clear ho0)
      (try clear ho1)
      refine hK.out _ _ ⟨bC BK578 0, bC BK578 1, bC BK578 2, bC BK578 3⟩ (fun hHeld => ?_)
      clear hK K
      refine nB ?_
      exact mB (hCont (.slice Ao35 t581.length co35, .slice Ao36 t584.length co36, .slice Ao37 t588.length co37, v593, v597, gb600) _ ⟨hHeld, (rK HO583), (by (with_reducible repeat (first | apply Kd.R_alloc | apply Kd.R_drewN | apply Kd.R_drew)); exact Kd.R_mono HO586.out (fun _ hk => ⟨hk.1.1, ⟨hk.1.2, hk.2⟩⟩)), (by (with_reducible repeat (first | apply Kd.R_alloc | apply Kd.R_drewN | apply Kd.R_drew)); exact Kd.R_mono HO590.out (fun _ hk => ⟨hk.1.1, ⟨hk.1.2, hk.2⟩⟩)), (by (with_reducible repeat (first | apply Kd.R_alloc | apply Kd.R_drewN | apply Kd.R_drew)); exact Kd.R_mono HO594.out (fun _ hk => ⟨hk.1.2, ⟨hk.2, hk.1.1⟩⟩)), (by (with_reducible repeat (first | apply Kd.R_alloc | apply Kd.R_drewN | apply Kd.R_drew)); exact Kd.R_mono HO598.out (fun _ hk => ⟨hk.1.2, ⟨hk.2, hk.1.1⟩⟩)), (bK BK578), (bK BK600), GW600.out, GE600.out, NB578_600.out, NB600_578.out, bG⟩)
    ·
     skip
     refine box_step ?hg (N := 6) ?hd (cs := #[.slice none 0 0, .int .i64 0, .slice none 0 0, .int .i64 0]) (t := 70) ?hr ?_; (case hd => rfl); (case hg => rfl); (case hr => first | (go_simp; done) | (go_simp; rfl))
     intro gb600 hg w32 hbox hb
     have BK600 := Aside0.mk (hbox)
     have GW600 := Aside0.mk ((by rw [hg]; exact (below_size bG) : w.heap.size ≤ gb600))
     have GE600 := Aside0.mk ((by rw [hg]; exact (below_size bG) : w.heap.size ≤ gb600))
     replace HB := Aside0.mk (below_step bG hb)
     have NB578_600 := Aside0.mk ((by rw [hg]; exact Nat.ne_of_lt (blk_lt (g := gb578) (o := .cells #[.slice A1_0 l1_0.length c1_0, .int .i64 a1_1, .slice A1_2 l1_2.length c1_2, .int .i64 a1_3] 67 (0, 0)) (bK BK578)) : gb578 ≠ gb600))
     have NB600_578 := Aside0.mk ((by rw [hg]; exact Nat.ne_of_gt (blk_lt (g := gb578) (o := .cells #[.slice A1_0 l1_0.length c1_0, .int .i64 a1_1, .slice A1_2 l1_2.length c1_2, .int .i64 a1_3] 67 (0, 0)) (bK BK578)) : gb600 ≠ gb578))
     replace BK578 := Aside0.mk (blk_below (g := gb578) (bK BK578) hb)
     clear hb hbox hg
     refine hK.out _ _ ⟨bC BK578 0, bC BK578 1, bC BK578 2, bC BK578 3⟩ (fun hHeld => ?_)
     clear hK K
     refine nB ?_
     refine one_ (i := 1) (N := some 25) (mb 7 39) rfl rfl (by kernel_rfl) (by decide) (fun K hK => ?_)
     refine gA Try.func34 #[.slice A0 l0.length c0] ?_
     with_reducible refine (laws_toPathS.calls k _ _ l0 t581 _ ?side1 ?side2 A11.out).mono ?_
     (case side1 => exact cB HR0)
     (case side2 => exact HC0.out)
     rintro e w33 ⟨v582, rfl, ho0, hb⟩
     refine ⟨_, rfl, ?_⟩
     have HO583 := Aside0.mk (Kd.R_lower ho0 (below_size bG))
     replace BK578 := Aside0.mk (blk_below (g := gb578) (bK BK578) hb)
     replace BK600 := Aside0.mk (blk_below (g := gb600) (bK BK600) hb)
     replace HB := Aside0.mk (below_step bG hb)
     (try clear hb)
     (try clear hb2)
     (try clear hk)
     (try clear hi)
     (try clear ho0)
     refine hK.out _ _ ⟨bC BK578 0, bC BK578 1, bC BK578 2, bC BK578 3⟩ (fun hHeld => ?_)
     clear hK K
     refine nB ?_
     refine one_ (i := 3) (N := some 27) (mb 7 47) rfl rfl (by kernel_rfl) (by decide) (fun K hK => ?_)
     refine gA Try.func56 #[.agg #[.slice A1_0 l1_0.length c1_0, .int .i64 a1_1, .slice A1_2 l1_2.length c1_2, .int .i64 a1_3]] ?_
     with_reducible refine (laws_toControl.calls k _ _ l1_0 a1_1 _ _ l1_2 a1_3 t584 t587 t588 t591 _ ?side1 ?side2 ?side3 ?side4 A12.out).mono ?_
     (case side1 => exact cB HR1_0)
     (case side2 => exact HC1_0.out)
     (case side3 => exact cB HR1_2)
     (case side4 => exact HC1_2.out)
     rintro e w34 ⟨v585, v589, rfl, ho0, ho1, hb⟩
     refine ⟨_, rfl, ?_⟩
     replace HO583 := Aside0.mk (Kd.R_below (rK HO583) hb)
     have HO586 := Aside0.mk (Kd.R_lower ho0 (below_size bG))
     have HO590 := Aside0.mk (Kd.R_lower ho1 (below_size bG))
     replace BK578 := Aside0.mk (blk_below (g := gb578) (bK BK578) hb)
     replace BK600 := Aside0.mk (blk_below (g := gb600) (bK BK600) hb)
     replace HB := Aside0.mk (below_step bG hb)
     (try clear hb)
     (try clear hb2)
     (try clear hk)
     (try clear hi)
     (try clear ho0)
     (try clear ho1)
     obtain ⟨Ao35, co35, eo35⟩ := Kd.R_slice HO583.out
     (first | subst eo35 | (injection eo35 with f1_ f2_ f3_; have f4_ := f1_.symm; have f5_ := f3_.symm; clear f1_ f2_ f3_; subst f4_; subst f5_))
     obtain ⟨Ao36, co36, eo36⟩ := Kd.R_slice HO586.out
     (first | subst eo36 | (injection eo36 with f1_ f2_ f3_; have f4_ := f1_.symm; have f5_ := f3_.symm; clear f1_ f2_ f3_; subst f4_; subst f5_))
     obtain ⟨Ao37, co37, eo37⟩ := Kd.R_slice HO590.out
     (first | subst eo37 | (injection eo37 with f1_ f2_ f3_; have f4_ := f1_.symm; have f5_ := f3_.symm; clear f1_ f2_ f3_; subst f4_; subst f5_))
     refine hK.out _ _ ⟨bC BK578 0, bC BK578 1, bC BK578 2, bC BK578 3⟩ (fun hHeld => ?_)
     clear hK K
     refine nB ?_
     refine one_ (i := 4) (N := some 28) (mb 7 63) rfl rfl (by kernel_rfl) (by decide) (fun K hK => ?_)
     refine gA Try.func64 #[.slice Ao35 t581.length co35, .agg #[.slice Ao36 t584.length co36, .int .i64 t587, .slice Ao37 t588.length co37, .int .i64 t591]] ?_
     with_reducible refine (spec_TickControl.calls k _ _ t581 _ _ t584 t587 _ _ t588 t591 t592 t595 t596 t599 _ ?side1 ?side2 ?side3 ?side4 ?side5 ?side6 A13.out).mono ?_
     (case side1 => exact cO ⟨(Kd.R_reads' HO583.out).2.2⟩)
     (case side2 => exact (Kd.R_reads' HO583.out).2.1)
     (case side3 => exact cO ⟨(Kd.R_reads' HO586.out).2.2⟩)
     (case side4 => exact (Kd.R_reads' HO586.out).2.1)
     (case side5 => exact cO ⟨(Kd.R_reads' HO590.out).2.2⟩)
     (case side6 => exact (Kd.R_reads' HO590.out).2.1)
     rintro e w38 ⟨v593, v597, rfl, ho0, ho1, hb⟩
     refine ⟨_, rfl, ?_⟩
     replace HO583 := Aside0.mk (Kd.R_below (rK HO583) hb)
     have HO594 := Aside0.mk (Kd.R_lower (Kd.R_new' (Kd.R_new' ho0 (Kd.R_lt (rK HO586))) (Kd.R_lt (rK HO590))) (below_size bG))
     have HO598 := Aside0.mk (Kd.R_lower (Kd.R_new' (Kd.R_new' ho1 (Kd.R_lt (rK HO586))) (Kd.R_lt (rK HO590))) (below_size bG))
     replace HO586 := Aside0.mk (Kd.R_mono (Kd.R_told (Kd.R_told (Kd.R_old (rK HO586) hb) (Kd.R_base ho0)) (Kd.R_base ho1)) (fun _ h_ => h_.1))
     replace HO590 := Aside0.mk (Kd.R_mono (Kd.R_told (Kd.R_told (Kd.R_old (rK HO590) hb) (Kd.R_base ho0)) (Kd.R_base ho1)) (fun _ h_ => h_.1))
     replace BK578 := Aside0.mk (blk_below (g := gb578) (bK BK578) hb)
     replace BK600 := Aside0.mk (blk_below (g := gb600) (bK BK600) hb)
     replace HB := Aside0.mk (below_step bG hb)
     (try clear hb)
     (try clear hb2)
     (try clear hk)
     (try clear hi)
     (try clear ho0)
     (try clear ho1)
     refine hK.out _ _ ⟨bC BK578 0, bC BK578 1, bC BK578 2, bC BK578 3⟩ (fun hHeld => ?_)
     clear hK K
     refine nB ?_
     exact mB (hCont (.slice Ao35 t581.length co35, .slice Ao36 t584.length co36, .slice Ao37 t588.length co37, v593, v597, gb600) _ ⟨hHeld, (rK HO583), (by (with_reducible repeat (first | apply Kd.R_alloc | apply Kd.R_drewN | apply Kd.R_drew)); exact Kd.R_mono HO586.out (fun _ hk => ⟨hk.1.1, ⟨hk.1.2, hk.2⟩⟩)), (by (with_reducible repeat (first | apply Kd.R_alloc | apply Kd.R_drewN | apply Kd.R_drew)); exact Kd.R_mono HO590.out (fun _ hk => ⟨hk.1.1, ⟨hk.1.2, hk.2⟩⟩)), (by (with_reducible repeat (first | apply Kd.R_alloc | apply Kd.R_drewN | apply Kd.R_drew)); exact Kd.R_mono HO594.out (fun _ hk => ⟨hk.1.2, ⟨hk.2, hk.1.1⟩⟩)), (by (with_reducible repeat (first | apply Kd.R_alloc | apply Kd.R_drewN | apply Kd.R_drew)); exact Kd.R_mono HO598.out (fun _ hk => ⟨hk.1.2, ⟨hk.2, hk.1.1⟩⟩)), (bK BK578), (bK BK600), GW600.out, GE600.out, NB578_600.out, NB600_578.out, bG⟩)
   rintro ⟨v582, v585, v589, v593, v597, gb600⟩ w39 ⟨hS_, h0_, h1_, h2_, h3_, h4_, h5_, h6_, h7_, h8_, h9_, h10_, h11_⟩
   have n0_ : Aside0 (Kd.R k90 90 w39 w.heap.size (fun _ => True) v582 t581) := ⟨h0_⟩
   have n1_ : Aside0 (Kd.R (Kd.int .i64) 3 w39 w.heap.size (fun k_ => some k_ ≠ (v589 : Value).ownBlock ∧ some k_ ≠ (v593 : Value).ownBlock ∧ some k_ ≠ (v597 : Value).ownBlock) v585 t584) := ⟨h1_⟩
   have n2_ : Aside0 (Kd.R (Kd.int .i64) 3 w39 w.heap.size (fun k_ => some k_ ≠ (v585 : Value).ownBlock ∧ some k_ ≠ (v593 : Value).ownBlock ∧ some k_ ≠ (v597 : Value).ownBlock) v589 t588) := ⟨h2_⟩
   have n3_ : Aside0 (Kd.R (Kd.int .i64) 3 w39 w.heap.size (fun k_ => some k_ ≠ (v585 : Value).ownBlock ∧ some k_ ≠ (v589 : Value).ownBlock ∧ some k_ ≠ (v597 : Value).ownBlock) v593 t592) := ⟨h3_⟩
   have n4_ : Aside0 (Kd.R (Kd.int .i64) 3 w39 w.heap.size (fun k_ => some k_ ≠ (v585 : Value).ownBlock ∧ some k_ ≠ (v589 : Value).ownBlock ∧ some k_ ≠ (v593 : Value).ownBlock) v597 t596) := ⟨h4_⟩
   have n5_ : Aside0 (w39.heap[gb578]? = some (.cells #[.slice A1_0 l1_0.length c1_0, .int .i64 a1_1, .slice A1_2 l1_2.length c1_2, .int .i64 a1_3] 67 (0, 0))) := ⟨h5_⟩
   have n6_ : Aside0 (w39.heap[gb600]? = some (.cells #[.slice none 0 0, .int .i64 0, .slice none 0 0, .int .i64 0] 70 (0, 0))) := ⟨h6_⟩
   have n7_ : Aside0 (w.heap.size ≤ gb600) := ⟨h7_⟩
   have n8_ : Aside0 (w.heap.size ≤ gb600) := ⟨h8_⟩
   have n9_ : Aside0 (gb578 ≠ gb600) := ⟨h9_⟩
   have n10_ : Aside0 (gb600 ≠ gb578) := ⟨h10_⟩
   have n11_ : Aside0 (Below w.heap.size w w39) := ⟨h11_⟩
   clear BK578
   clear HB
   clear h0_ h1_ h2_ h3_ h4_ h5_ h6_ h7_ h8_ h9_ h10_ h11_
   have HO583 := n0_
   have HO586 := n1_
   have HO590 := n2_
   have HO594 := n3_
   have HO598 := n4_
   have BK578 := n5_
   have BK600 := n6_
   have GW600 := n7_
   have GE600 := n8_
   have NB578_600 := n9_
   have NB600_578 := n10_
   have HB := n11_
   clear n0_ n1_ n2_ n3_ n4_ n5_ n6_ n7_ n8_ n9_ n10_ n11_
   have hHeld : w39.cell? ⟨gb578, 0, none⟩ = some (.slice A1_0 l1_0.length c1_0) ∧ w39.cell? ⟨gb578, 1, none⟩ = some (.int .i64 a1_1) ∧ w39.cell? ⟨gb578, 2, none⟩ = some (.slice A1_2 l1_2.length c1_2) ∧ w39.cell? ⟨gb578, 3, none⟩ = some (.int .i64 a1_3) := hS_
   obtain ⟨Ao40, co40, eo40⟩ := Kd.R_slice HO594.out
   (first | subst eo40 | (injection eo40 with f1_ f2_ f3_; have f4_ := f1_.symm; have f5_ := f3_.symm; clear f1_ f2_ f3_; subst f4_; subst f5_))
   obtain ⟨Ao43, co43, eo43⟩ := Kd.R_slice HO598.out
   (first | subst eo43 | (injection eo43 with f1_ f2_ f3_; have f4_ := f1_.symm; have f5_ := f3_.symm; clear f1_ f2_ f3_; subst f4_; subst f5_))
   refine norm_ (a' := ?_) ?_ ?_
   rotate_left
   ·
    simp only [putAll, Act.put, List.setIfInBounds_toArray, List.set_cons_zero, List.set_cons_succ]
    rfl
   refine one_ (i := 6) (N := none) (mb 7 127) rfl rfl (by kernel_rfl) (by decide) (fun K hK => ?_)
   have hs41 : w39.cell? ⟨gb600, 0, none⟩ = some (.slice none 0 0) := bC BK600 0
   have hfs41 := blk_frozen BK600.out 0
   have hns41_0 := NB578_600.out
   have hms41_0 := NB600_578.out
   have hs42 : w39.cell? ⟨gb600, 1, none⟩ = some (.int .i64 0) := bC BK600 1
   have hfs42 := blk_frozen BK600.out 1
   have hns42_0 := NB578_600.out
   have hms42_0 := NB600_578.out
   have hs44 : w39.cell? ⟨gb600, 2, none⟩ = some (.slice none 0 0) := bC BK600 2
   have hfs44 := blk_frozen BK600.out 2
   have hns44_0 := NB578_600.out
   have hms44_0 := NB600_578.out
   have hs45 : w39.cell? ⟨gb600, 3, none⟩ = some (.int .i64 0) := bC BK600 3
   have hfs45 := blk_frozen BK600.out 3
   have hns45_0 := NB578_600.out
   have hms45_0 := NB600_578.out
   refine skip_ (w1 := ?_) (by rfl) rfl ?_ ?_
   rotate_left
   ·
    go_simp
    rfl
   refine hK.out _ _ ⟨((cell_far (p := ⟨gb600, _, none⟩) NB578_600.out _).trans (((cell_far (p := ⟨gb600, _, none⟩) NB578_600.out _).trans (((cell_far (p := ⟨gb600, _, none⟩) NB578_600.out _).trans (((cell_far (p := ⟨gb600, _, none⟩) NB578_600.out _).trans (hHeld.1)))))))), ((cell_far (p := ⟨gb600, _, none⟩) NB578_600.out _).trans (((cell_far (p := ⟨gb600, _, none⟩) NB578_600.out _).trans (((cell_far (p := ⟨gb600, _, none⟩) NB578_600.out _).trans (((cell_far (p := ⟨gb600, _, none⟩) NB578_600.out _).trans (hHeld.2.1)))))))), ((cell_far (p := ⟨gb600, _, none⟩) NB578_600.out _).trans (((cell_far (p := ⟨gb600, _, none⟩) NB578_600.out _).trans (((cell_far (p := ⟨gb600, _, none⟩) NB578_600.out _).trans (((cell_far (p := ⟨gb600, _, none⟩) NB578_600.out _).trans (hHeld.2.2.1)))))))), ((cell_far (p := ⟨gb600, _, none⟩) NB578_600.out _).trans (((cell_far (p := ⟨gb600, _, none⟩) NB578_600.out _).trans (((cell_far (p := ⟨gb600, _, none⟩) NB578_600.out _).trans (((cell_far (p := ⟨gb600, _, none⟩) NB578_600.out _).trans (hHeld.2.2.2))))))))⟩ (fun hHeld => ?_)
   clear hK K
   refine done_ (by kernel_rfl) ?_
   try go_wp2_with (first | ((with_reducible refine gate_callee (f := 34) rfl ?_); refine gL (some 30) Try.func34 #[.slice A0 l0.length c0] ?_; (with_reducible refine (laws_toPathS.calls k _ _ l0 t601 _ ?side1 ?side2 A14.out).mono ?_); (case side1 => exact Kd.C_below HR0.out bG); (case side2 => exact HC0.out); rintro e w46 ⟨v602, rfl, ho0, hb⟩; refine ⟨_, rfl, ?_⟩; have n0_ := Aside0.mk (Kd.R_elder' (by (with_reducible repeat (first | apply Kd.R_alloc | apply Kd.R_drewN | apply Kd.R_drew)); exact (Kd.R_mono (Kd.R_far (p := ⟨gb600, 3, none⟩) (Kd.R_far (p := ⟨gb600, 2, none⟩) (Kd.R_far (p := ⟨gb600, 1, none⟩) (Kd.R_far (p := ⟨gb600, 0, none⟩) (Kd.R_types HO583.out BK600.out (by decide)) (fun _ hk => hk.2) (.slice Ao40 t592.length co40)) (fun _ hk => hk.2) (.int .i64 t595)) (fun _ hk => hk.2) (.slice Ao43 t596.length co43)) (fun _ hk => hk.2) (.int .i64 t599)) (fun _ h_ => h_.1))) (Kd.R_base ho0) hb); have n1_ := Aside0.mk (Kd.R_below (by (with_reducible repeat (first | apply Kd.R_alloc | apply Kd.R_drewN | apply Kd.R_drew)); exact (Kd.R_mono (Kd.R_far (p := ⟨gb600, 3, none⟩) (Kd.R_far (p := ⟨gb600, 2, none⟩) (Kd.R_far (p := ⟨gb600, 1, none⟩) (Kd.R_far (p := ⟨gb600, 0, none⟩) (Kd.R_types HO586.out BK600.out (by decide)) (fun _ hk => hk.2) (.slice Ao40 t592.length co40)) (fun _ hk => hk.2) (.int .i64 t595)) (fun _ hk => hk.2) (.slice Ao43 t596.length co43)) (fun _ hk => hk.2) (.int .i64 t599)) (fun _ h_ => h_.1))) hb); have n2_ := Aside0.mk (Kd.R_below (by (with_reducible repeat (first | apply Kd.R_alloc | apply Kd.R_drewN | apply Kd.R_drew)); exact (Kd.R_mono (Kd.R_far (p := ⟨gb600, 3, none⟩) (Kd.R_far (p := ⟨gb600, 2, none⟩) (Kd.R_far (p := ⟨gb600, 1, none⟩) (Kd.R_far (p := ⟨gb600, 0, none⟩) (Kd.R_types HO590.out BK600.out (by decide)) (fun _ hk => hk.2) (.slice Ao40 t592.length co40)) (fun _ hk => hk.2) (.int .i64 t595)) (fun _ hk => hk.2) (.slice Ao43 t596.length co43)) (fun _ hk => hk.2) (.int .i64 t599)) (fun _ h_ => h_.1))) hb); have n3_ := Aside0.mk (Kd.R_below (by (with_reducible repeat (first | apply Kd.R_alloc | apply Kd.R_drewN | apply Kd.R_drew)); exact (Kd.R_mono (Kd.R_far (p := ⟨gb600, 3, none⟩) (Kd.R_far (p := ⟨gb600, 2, none⟩) (Kd.R_far (p := ⟨gb600, 1, none⟩) (Kd.R_far (p := ⟨gb600, 0, none⟩) (Kd.R_types HO594.out BK600.out (by decide)) (fun _ hk => hk.2) (.slice Ao40 t592.length co40)) (fun _ hk => hk.2) (.int .i64 t595)) (fun _ hk => hk.2) (.slice Ao43 t596.length co43)) (fun _ hk => hk.2) (.int .i64 t599)) (fun _ h_ => h_.1))) hb); have n4_ := Aside0.mk (Kd.R_below (by (with_reducible repeat (first | apply Kd.R_alloc | apply Kd.R_drewN | apply Kd.R_drew)); exact (Kd.R_mono (Kd.R_far (p := ⟨gb600, 3, none⟩) (Kd.R_far (p := ⟨gb600, 2, none⟩) (Kd.R_far (p := ⟨gb600, 1, none⟩) (Kd.R_far (p := ⟨gb600, 0, none⟩) (Kd.R_types HO598.out BK600.out (by decide)) (fun _ hk => hk.2) (.slice Ao40 t592.length co40)) (fun _ hk => hk.2) (.int .i64 t595)) (fun _ hk => hk.2) (.slice Ao43 t596.length co43)) (fun _ hk => hk.2) (.int .i64 t599)) (fun _ h_ => h_.1))) hb); have n5_ := Aside0.mk (Kd.R_lower (Kd.R_new' ho0 (Kd.R_lt (by (with_reducible repeat (first | apply Kd.R_alloc | apply Kd.R_drewN | apply Kd.R_drew)); exact (Kd.R_mono (Kd.R_far (p := ⟨gb600, 3, none⟩) (Kd.R_far (p := ⟨gb600, 2, none⟩) (Kd.R_far (p := ⟨gb600, 1, none⟩) (Kd.R_far (p := ⟨gb600, 0, none⟩) (Kd.R_types HO583.out BK600.out (by decide)) (fun _ hk => hk.2) (.slice Ao40 t592.length co40)) (fun _ hk => hk.2) (.int .i64 t595)) (fun _ hk => hk.2) (.slice Ao43 t596.length co43)) (fun _ hk => hk.2) (.int .i64 t599)) (fun _ h_ => h_.1))))) (below_size bG)); have n6_ := Aside0.mk (blk_below (g := gb578) (o := .cells #[.slice A1_0 l1_0.length c1_0, .int .i64 a1_1, .slice A1_2 l1_2.length c1_2, .int .i64 a1_3] 67 (0, 0)) (by (with_reducible repeat (first | refine blk_drewN ?_ _ | refine blk_drew ?_ | refine blk_alloc ?_ _)); refine blk_far ?_ NB578_600.out _; (with_reducible repeat (first | refine blk_drewN ?_ _ | refine blk_drew ?_ | refine blk_alloc ?_ _)); refine blk_far ?_ NB578_600.out _; (with_reducible repeat (first | refine blk_drewN ?_ _ | refine blk_drew ?_ | refine blk_alloc ?_ _)); refine blk_far ?_ NB578_600.out _; (with_reducible repeat (first | refine blk_drewN ?_ _ | refine blk_drew ?_ | refine blk_alloc ?_ _)); refine blk_far ?_ NB578_600.out _; (with_reducible repeat (first | refine blk_drewN ?_ _ | refine blk_drew ?_ | refine blk_alloc ?_ _)); exact BK578.out) hb); have n7_ := Aside0.mk (blk_below (g := gb600) (o := .cells #[.slice Ao40 t592.length co40, .int .i64 t595, .slice Ao43 t596.length co43, .int .i64 t599] 70 (0, 0)) (by (with_reducible repeat (first | refine blk_drewN ?_ _ | refine blk_drew ?_ | refine blk_alloc ?_ _)); refine blk_put (cs := #[.slice Ao40 t592.length co40, .int .i64 t595, .slice Ao43 t596.length co43, .int .i64 0]) ?_ 3 _ rfl; (with_reducible repeat (first | refine blk_drewN ?_ _ | refine blk_drew ?_ | refine blk_alloc ?_ _)); refine blk_put (cs := #[.slice Ao40 t592.length co40, .int .i64 t595, .slice none 0 0, .int .i64 0]) ?_ 2 _ rfl; (with_reducible repeat (first | refine blk_drewN ?_ _ | refine blk_drew ?_ | refine blk_alloc ?_ _)); refine blk_put (cs := #[.slice Ao40 t592.length co40, .int .i64 0, .slice none 0 0, .int .i64 0]) ?_ 1 _ rfl; (with_reducible repeat (first | refine blk_drewN ?_ _ | refine blk_drew ?_ | refine blk_alloc ?_ _)); refine blk_put (cs := #[.slice none 0 0, .int .i64 0, .slice none 0 0, .int .i64 0]) ?_ 0 _ rfl; (with_reducible repeat (first | refine blk_drewN ?_ _ | refine blk_drew ?_ | refine blk_alloc ?_ _)); exact BK600.out) hb); have n8_ := Aside0.mk (below_step bG hb); clear HO583; clear HO586; clear HO590; clear HO594; clear HO598; clear BK578; clear BK600; clear HB; have HO583 := n0_; have HO586 := n1_; have HO590 := n2_; have HO594 := n3_; have HO598 := n4_; have HO603 := n5_; have BK578 := n6_; have BK600 := n7_; have HB := n8_; clear n0_ n1_ n2_ n3_ n4_ n5_ n6_ n7_ n8_; (try clear hb); (try clear hb2); (try clear hk); (try clear hi); (try clear ho0); have hnb47 := NB578_600.out; have hnc47 := NB600_578.out; have hcz48_0 : w46.cell? ⟨gb578, 0, none⟩ = some (.slice A1_0 l1_0.length c1_0) := bC BK578 0; have hcz48_1 : w46.cell? ⟨gb578, 1, none⟩ = some (.int .i64 a1_1) := bC BK578 1; have hcz48_2 : w46.cell? ⟨gb578, 2, none⟩ = some (.slice A1_2 l1_2.length c1_2) := bC BK578 2; have hcz48_3 : w46.cell? ⟨gb578, 3, none⟩ = some (.int .i64 a1_3) := bC BK578 3; have hfz48_0 := blk_frozen BK578.out 0; have hfz48_1 := blk_frozen BK578.out 1; have hfz48_2 := blk_frozen BK578.out 2; have hfz48_3 := blk_frozen BK578.out 3) | ((with_reducible refine gate_callee (f := 56) rfl ?_); refine gL (some 32) Try.func56 #[.agg #[.slice A1_0 l1_0.length c1_0, .int .i64 a1_1, .slice A1_2 l1_2.length c1_2, .int .i64 a1_3]] ?_; (with_reducible refine (laws_toControl.calls k _ _ l1_0 a1_1 _ _ l1_2 a1_3 t604 t607 t608 t611 _ ?side1 ?side2 ?side3 ?side4 A15.out).mono ?_); (case side1 => exact cB HR1_0); (case side2 => exact HC1_0.out); (case side3 => exact cB HR1_2); (case side4 => exact HC1_2.out); rintro e w49 ⟨v605, v609, rfl, ho0, ho1, hb⟩; refine ⟨_, rfl, ?_⟩; replace HO583 := Aside0.mk (Kd.R_below (rK HO583) hb); replace HO603 := Aside0.mk (Kd.R_below (rK HO603) hb); have HO606 := Aside0.mk (Kd.R_lower (Kd.R_new' (Kd.R_new' (Kd.R_new' (Kd.R_new' ho0 (Kd.R_lt (rK HO586))) (Kd.R_lt (rK HO590))) (Kd.R_lt (rK HO594))) (Kd.R_lt (rK HO598))) (below_size bG)); have HO610 := Aside0.mk (Kd.R_lower (Kd.R_new' (Kd.R_new' (Kd.R_new' (Kd.R_new' ho1 (Kd.R_lt (rK HO586))) (Kd.R_lt (rK HO590))) (Kd.R_lt (rK HO594))) (Kd.R_lt (rK HO598))) (below_size bG)); replace HO586 := Aside0.mk (Kd.R_mono (Kd.R_told (Kd.R_told (Kd.R_old (rK HO586) hb) (Kd.R_base ho0)) (Kd.R_base ho1)) (fun _ h_ => h_.1)); replace HO590 := Aside0.mk (Kd.R_mono (Kd.R_told (Kd.R_told (Kd.R_old (rK HO590) hb) (Kd.R_base ho0)) (Kd.R_base ho1)) (fun _ h_ => h_.1)); replace HO594 := Aside0.mk (Kd.R_mono (Kd.R_told (Kd.R_told (Kd.R_old (rK HO594) hb) (Kd.R_base ho0)) (Kd.R_base ho1)) (fun _ h_ => h_.1)); replace HO598 := Aside0.mk (Kd.R_mono (Kd.R_told (Kd.R_told (Kd.R_old (rK HO598) hb) (Kd.R_base ho0)) (Kd.R_base ho1)) (fun _ h_ => h_.1)); replace BK578 := Aside0.mk (blk_below (g := gb578) (bK BK578) hb); replace BK600 := Aside0.mk (blk_below (g := gb600) (bK BK600) hb); replace HB := Aside0.mk (below_step bG hb); (try clear hb); (try clear hb2); (try clear hk); (try clear hi); (try clear ho0); (try clear ho1)) | ((with_reducible refine gate_dst (N := 8) rfl ?_); refine bE (N := 8) (cs := #[.slice none 0 0, .int .i64 0, .slice none 0 0, .int .i64 0]) (t := 70) ?_; intro gb612 hg w50 hbox hb; have n0_ := Aside0.mk (Kd.R_below (rK HO583) hb); have n1_ := Aside0.mk (Kd.R_below (rK HO586) hb); have n2_ := Aside0.mk (Kd.R_below (rK HO590) hb); have n3_ := Aside0.mk (Kd.R_below (rK HO594) hb); have n4_ := Aside0.mk (Kd.R_below (rK HO598) hb); have n5_ := Aside0.mk (Kd.R_below (rK HO603) hb); have n6_ := Aside0.mk (Kd.R_below (rK HO606) hb); have n7_ := Aside0.mk (Kd.R_below (rK HO610) hb); have n8_ := Aside0.mk (blk_below (g := gb578) (bK BK578) hb); have n9_ := Aside0.mk (blk_below (g := gb600) (bK BK600) hb); have n10_ := Aside0.mk (below_step bG hb); have n11_ := Aside0.mk (hbox); have n12_ := Aside0.mk ((by rw [hg]; exact (below_size bG) : w.heap.size ≤ gb612)); have n13_ := Aside0.mk ((by rw [hg]; exact (below_size bG) : w.heap.size ≤ gb612)); have n14_ := Aside0.mk ((by rw [hg]; exact Nat.ne_of_lt (blk_lt (g := gb578) (o := .cells #[.slice A1_0 l1_0.length c1_0, .int .i64 a1_1, .slice A1_2 l1_2.length c1_2, .int .i64 a1_3] 67 (0, 0)) (bK BK578)) : gb578 ≠ gb612)); have n15_ := Aside0.mk ((by rw [hg]; exact Nat.ne_of_gt (blk_lt (g := gb578) (o := .cells #[.slice A1_0 l1_0.length c1_0, .int .i64 a1_1, .slice A1_2 l1_2.length c1_2, .int .i64 a1_3] 67 (0, 0)) (bK BK578)) : gb612 ≠ gb578)); have n16_ := Aside0.mk ((by rw [hg]; exact Nat.ne_of_lt (blk_lt (g := gb600) (o := .cells #[.slice Ao40 t592.length co40, .int .i64 t595, .slice Ao43 t596.length co43, .int .i64 t599] 70 (0, 0)) (bK BK600)) : gb600 ≠ gb612)); have n17_ := Aside0.mk ((by rw [hg]; exact Nat.ne_of_gt (blk_lt (g := gb600) (o := .cells #[.slice Ao40 t592.length co40, .int .i64 t595, .slice Ao43 t596.length co43, .int .i64 t599] 70 (0, 0)) (bK BK600)) : gb612 ≠ gb600)); clear HO583; clear HO586; clear HO590; clear HO594; clear HO598; clear HO603; clear HO606; clear HO610; clear BK578; clear BK600; clear HB; have HO583 := n0_; have HO586 := n1_; have HO590 := n2_; have HO594 := n3_; have HO598 := n4_; have HO603 := n5_; have HO606 := n6_; have HO610 := n7_; have BK578 := n8_; have BK600 := n9_; have HB := n10_; have BK612 := n11_; have GW612 := n12_; have GE612 := n13_; have NB578_612 := n14_; have NB612_578 := n15_; have NB600_612 := n16_; have NB612_600 := n17_; clear n0_ n1_ n2_ n3_ n4_ n5_ n6_ n7_ n8_ n9_ n10_ n11_ n12_ n13_ n14_ n15_ n16_ n17_; clear hb hbox hg; obtain ⟨Ao51, co51, eo51⟩ := Kd.R_slice HO606.out; subst eo51; have hnb52 := NB612_578.out; have hnc52 := NB578_612.out; have hnb53 := NB612_600.out; have hnc53 := NB600_612.out; obtain ⟨hcz54_0, hcz54_1, hcz54_2, hcz54_3, hfz54_0, hfz54_1, hfz54_2, hfz54_3⟩ := blkc4 BK612; obtain ⟨Ao55, co55, eo55⟩ := Kd.R_slice HO610.out; subst eo55; obtain ⟨Ao56, co56, eo56⟩ := Kd.R_slice HO603.out; subst eo56) | ((with_reducible refine gate_callee (f := 65) rfl ?_); refine gL (some 35) Try.func65 #[.slice Ao56 t601.length co56, .agg #[.slice Ao51 t604.length co51, .int .i64 t607, .slice Ao55 t608.length co55, .int .i64 t611]] ?_; (with_reducible refine (impl_TickControl.calls k _ _ t601 _ _ t604 t607 _ _ t608 t611 t613 t616 t617 t620 _ ?side1 ?side2 ?side3 ?side4 ?side5 ?side6 A16.out).mono ?_); (case side1 => refine (Kd.R_reads' (e := 90) (base := w.heap.size) (ok := fun k_ => (True ∧ some k_ ≠ (v582 : Value).ownBlock)) (n := t601.length) (c := co56) ?_).2.2; exact (by (with_reducible repeat (first | apply Kd.R_alloc | apply Kd.R_drewN | apply Kd.R_drew)); exact (Kd.R_mono (Kd.R_far (p := ⟨gb612, 3, none⟩) (Kd.R_far (p := ⟨gb612, 2, none⟩) (Kd.R_far (p := ⟨gb612, 1, none⟩) (Kd.R_far (p := ⟨gb612, 0, none⟩) (Kd.R_types HO603.out BK612.out (by decide)) (fun _ hk => hk.2) (.slice Ao51 t604.length co51)) (fun _ hk => hk.2) (.int .i64 t607)) (fun _ hk => hk.2) (.slice Ao55 t608.length co55)) (fun _ hk => hk.2) (.int .i64 t611)) (fun _ h_ => h_.1)))); (case side2 => exact (Kd.R_reads' HO603.out).2.1); (case side3 => refine (Kd.R_reads' (e := 3) (base := w.heap.size) (ok := fun k_ => ((((some k_ ≠ (.slice Ao55 t608.length co55 : Value).ownBlock ∧ some k_ ≠ (v585 : Value).ownBlock) ∧ some k_ ≠ (v589 : Value).ownBlock) ∧ some k_ ≠ (.slice Ao40 t592.length co40 : Value).ownBlock) ∧ some k_ ≠ (.slice Ao43 t596.length co43 : Value).ownBlock)) (n := t604.length) (c := co51) ?_).2.2; exact (by (with_reducible repeat (first | apply Kd.R_alloc | apply Kd.R_drewN | apply Kd.R_drew)); exact (Kd.R_mono (Kd.R_far (p := ⟨gb612, 3, none⟩) (Kd.R_far (p := ⟨gb612, 2, none⟩) (Kd.R_far (p := ⟨gb612, 1, none⟩) (Kd.R_far (p := ⟨gb612, 0, none⟩) (Kd.R_types HO606.out BK612.out (by decide)) (fun _ hk => hk.2) (.slice Ao51 t604.length co51)) (fun _ hk => hk.2) (.int .i64 t607)) (fun _ hk => hk.2) (.slice Ao55 t608.length co55)) (fun _ hk => hk.2) (.int .i64 t611)) (fun _ h_ => h_.1)))); (case side4 => exact (Kd.R_reads' HO606.out).2.1); (case side5 => refine (Kd.R_reads' (e := 3) (base := w.heap.size) (ok := fun k_ => ((((some k_ ≠ (.slice Ao51 t604.length co51 : Value).ownBlock ∧ some k_ ≠ (v585 : Value).ownBlock) ∧ some k_ ≠ (v589 : Value).ownBlock) ∧ some k_ ≠ (.slice Ao40 t592.length co40 : Value).ownBlock) ∧ some k_ ≠ (.slice Ao43 t596.length co43 : Value).ownBlock)) (n := t608.length) (c := co55) ?_).2.2; exact (by (with_reducible repeat (first | apply Kd.R_alloc | apply Kd.R_drewN | apply Kd.R_drew)); exact (Kd.R_mono (Kd.R_far (p := ⟨gb612, 3, none⟩) (Kd.R_far (p := ⟨gb612, 2, none⟩) (Kd.R_far (p := ⟨gb612, 1, none⟩) (Kd.R_far (p := ⟨gb612, 0, none⟩) (Kd.R_types HO610.out BK612.out (by decide)) (fun _ hk => hk.2) (.slice Ao51 t604.length co51)) (fun _ hk => hk.2) (.int .i64 t607)) (fun _ hk => hk.2) (.slice Ao55 t608.length co55)) (fun _ hk => hk.2) (.int .i64 t611)) (fun _ h_ => h_.1)))); (case side6 => exact (Kd.R_reads' HO610.out).2.1); rintro e w57 ⟨v614, v618, rfl, ho0, ho1, hb⟩; refine ⟨_, rfl, ?_⟩; have n0_ := Aside0.mk (Kd.R_below (by (with_reducible repeat (first | apply Kd.R_alloc | apply Kd.R_drewN | apply Kd.R_drew)); exact (Kd.R_mono (Kd.R_far (p := ⟨gb612, 3, none⟩) (Kd.R_far (p := ⟨gb612, 2, none⟩) (Kd.R_far (p := ⟨gb612, 1, none⟩) (Kd.R_far (p := ⟨gb612, 0, none⟩) (Kd.R_types HO583.out BK612.out (by decide)) (fun _ hk => hk.2) (.slice Ao51 t604.length co51)) (fun _ hk => hk.2) (.int .i64 t607)) (fun _ hk => hk.2) (.slice Ao55 t608.length co55)) (fun _ hk => hk.2) (.int .i64 t611)) (fun _ h_ => h_.1))) hb); have n1_ := Aside0.mk (Kd.R_mono (Kd.R_told (Kd.R_told (Kd.R_old (by (with_reducible repeat (first | apply Kd.R_alloc | apply Kd.R_drewN | apply Kd.R_drew)); exact (Kd.R_mono (Kd.R_far (p := ⟨gb612, 3, none⟩) (Kd.R_far (p := ⟨gb612, 2, none⟩) (Kd.R_far (p := ⟨gb612, 1, none⟩) (Kd.R_far (p := ⟨gb612, 0, none⟩) (Kd.R_types HO586.out BK612.out (by decide)) (fun _ hk => hk.2) (.slice Ao51 t604.length co51)) (fun _ hk => hk.2) (.int .i64 t607)) (fun _ hk => hk.2) (.slice Ao55 t608.length co55)) (fun _ hk => hk.2) (.int .i64 t611)) (fun _ h_ => h_.1))) hb) (Kd.R_base ho0)) (Kd.R_base ho1)) (fun _ h_ => h_.1)); have n2_ := Aside0.mk (Kd.R_mono (Kd.R_told (Kd.R_told (Kd.R_old (by (with_reducible repeat (first | apply Kd.R_alloc | apply Kd.R_drewN | apply Kd.R_drew)); exact (Kd.R_mono (Kd.R_far (p := ⟨gb612, 3, none⟩) (Kd.R_far (p := ⟨gb612, 2, none⟩) (Kd.R_far (p := ⟨gb612, 1, none⟩) (Kd.R_far (p := ⟨gb612, 0, none⟩) (Kd.R_types HO590.out BK612.out (by decide)) (fun _ hk => hk.2) (.slice Ao51 t604.length co51)) (fun _ hk => hk.2) (.int .i64 t607)) (fun _ hk => hk.2) (.slice Ao55 t608.length co55)) (fun _ hk => hk.2) (.int .i64 t611)) (fun _ h_ => h_.1))) hb) (Kd.R_base ho0)) (Kd.R_base ho1)) (fun _ h_ => h_.1)); have n3_ := Aside0.mk (Kd.R_mono (Kd.R_told (Kd.R_told (Kd.R_old (by (with_reducible repeat (first | apply Kd.R_alloc | apply Kd.R_drewN | apply Kd.R_drew)); exact (Kd.R_mono (Kd.R_far (p := ⟨gb612, 3, none⟩) (Kd.R_far (p := ⟨gb612, 2, none⟩) (Kd.R_far (p := ⟨gb612, 1, none⟩) (Kd.R_far (p := ⟨gb612, 0, none⟩) (Kd.R_types HO594.out BK612.out (by decide)) (fun _ hk => hk.2) (.slice Ao51 t604.length co51)) (fun _ hk => hk.2) (.int .i64 t607)) (fun _ hk => hk.2) (.slice Ao55 t608.length co55)) (fun _ hk => hk.2) (.int .i64 t611)) (fun _ h_ => h_.1))) hb) (Kd.R_base ho0)) (Kd.R_base ho1)) (fun _ h_ => h_.1)); have n4_ := Aside0.mk (Kd.R_mono (Kd.R_told (Kd.R_told (Kd.R_old (by (with_reducible repeat (first | apply Kd.R_alloc | apply Kd.R_drewN | apply Kd.R_drew)); exact (Kd.R_mono (Kd.R_far (p := ⟨gb612, 3, none⟩) (Kd.R_far (p := ⟨gb612, 2, none⟩) (Kd.R_far (p := ⟨gb612, 1, none⟩) (Kd.R_far (p := ⟨gb612, 0, none⟩) (Kd.R_types HO598.out BK612.out (by decide)) (fun _ hk => hk.2) (.slice Ao51 t604.length co51)) (fun _ hk => hk.2) (.int .i64 t607)) (fun _ hk => hk.2) (.slice Ao55 t608.length co55)) (fun _ hk => hk.2) (.int .i64 t611)) (fun _ h_ => h_.1))) hb) (Kd.R_base ho0)) (Kd.R_base ho1)) (fun _ h_ => h_.1)); have n5_ := Aside0.mk (Kd.R_below (by (with_reducible repeat (first | apply Kd.R_alloc | apply Kd.R_drewN | apply Kd.R_drew)); exact (Kd.R_mono (Kd.R_far (p := ⟨gb612, 3, none⟩) (Kd.R_far (p := ⟨gb612, 2, none⟩) (Kd.R_far (p := ⟨gb612, 1, none⟩) (Kd.R_far (p := ⟨gb612, 0, none⟩) (Kd.R_types HO603.out BK612.out (by decide)) (fun _ hk => hk.2) (.slice Ao51 t604.length co51)) (fun _ hk => hk.2) (.int .i64 t607)) (fun _ hk => hk.2) (.slice Ao55 t608.length co55)) (fun _ hk => hk.2) (.int .i64 t611)) (fun _ h_ => h_.1))) hb); have n6_ := Aside0.mk (Kd.R_mono (Kd.R_told (Kd.R_told (Kd.R_old (by (with_reducible repeat (first | apply Kd.R_alloc | apply Kd.R_drewN | apply Kd.R_drew)); exact (Kd.R_mono (Kd.R_far (p := ⟨gb612, 3, none⟩) (Kd.R_far (p := ⟨gb612, 2, none⟩) (Kd.R_far (p := ⟨gb612, 1, none⟩) (Kd.R_far (p := ⟨gb612, 0, none⟩) (Kd.R_types HO606.out BK612.out (by decide)) (fun _ hk => hk.2) (.slice Ao51 t604.length co51)) (fun _ hk => hk.2) (.int .i64 t607)) (fun _ hk => hk.2) (.slice Ao55 t608.length co55)) (fun _ hk => hk.2) (.int .i64 t611)) (fun _ h_ => h_.1))) hb) (Kd.R_base ho0)) (Kd.R_base ho1)) (fun _ h_ => h_.1)); have n7_ := Aside0.mk (Kd.R_mono (Kd.R_told (Kd.R_told (Kd.R_old (by (with_reducible repeat (first | apply Kd.R_alloc | apply Kd.R_drewN | apply Kd.R_drew)); exact (Kd.R_mono (Kd.R_far (p := ⟨gb612, 3, none⟩) (Kd.R_far (p := ⟨gb612, 2, none⟩) (Kd.R_far (p := ⟨gb612, 1, none⟩) (Kd.R_far (p := ⟨gb612, 0, none⟩) (Kd.R_types HO610.out BK612.out (by decide)) (fun _ hk => hk.2) (.slice Ao51 t604.length co51)) (fun _ hk => hk.2) (.int .i64 t607)) (fun _ hk => hk.2) (.slice Ao55 t608.length co55)) (fun _ hk => hk.2) (.int .i64 t611)) (fun _ h_ => h_.1))) hb) (Kd.R_base ho0)) (Kd.R_base ho1)) (fun _ h_ => h_.1)); have n8_ := Aside0.mk (Kd.R_lower (Kd.R_new' (Kd.R_new' (Kd.R_new' (Kd.R_new' (Kd.R_new' (Kd.R_new' ho0 (Kd.R_lt (by (with_reducible repeat (first | apply Kd.R_alloc | apply Kd.R_drewN | apply Kd.R_drew)); exact (Kd.R_mono (Kd.R_far (p := ⟨gb612, 3, none⟩) (Kd.R_far (p := ⟨gb612, 2, none⟩) (Kd.R_far (p := ⟨gb612, 1, none⟩) (Kd.R_far (p := ⟨gb612, 0, none⟩) (Kd.R_types HO586.out BK612.out (by decide)) (fun _ hk => hk.2) (.slice Ao51 t604.length co51)) (fun _ hk => hk.2) (.int .i64 t607)) (fun _ hk => hk.2) (.slice Ao55 t608.length co55)) (fun _ hk => hk.2) (.int .i64 t611)) (fun _ h_ => h_.1))))) (Kd.R_lt (by (with_reducible repeat (first | apply Kd.R_alloc | apply Kd.R_drewN | apply Kd.R_drew)); exact (Kd.R_mono (Kd.R_far (p := ⟨gb612, 3, none⟩) (Kd.R_far (p := ⟨gb612, 2, none⟩) (Kd.R_far (p := ⟨gb612, 1, none⟩) (Kd.R_far (p := ⟨gb612, 0, none⟩) (Kd.R_types HO590.out BK612.out (by decide)) (fun _ hk => hk.2) (.slice Ao51 t604.length co51)) (fun _ hk => hk.2) (.int .i64 t607)) (fun _ hk => hk.2) (.slice Ao55 t608.length co55)) (fun _ hk => hk.2) (.int .i64 t611)) (fun _ h_ => h_.1))))) (Kd.R_lt (by (with_reducible repeat (first | apply Kd.R_alloc | apply Kd.R_drewN | apply Kd.R_drew)); exact (Kd.R_mono (Kd.R_far (p := ⟨gb612, 3, none⟩) (Kd.R_far (p := ⟨gb612, 2, none⟩) (Kd.R_far (p := ⟨gb612, 1, none⟩) (Kd.R_far (p := ⟨gb612, 0, none⟩) (Kd.R_types HO594.out BK612.out (by decide)) (fun _ hk => hk.2) (.slice Ao51 t604.length co51)) (fun _ hk => hk.2) (.int .i64 t607)) (fun _ hk => hk.2) (.slice Ao55 t608.length co55)) (fun _ hk => hk.2) (.int .i64 t611)) (fun _ h_ => h_.1))))) (Kd.R_lt (by (with_reducible repeat (first | apply Kd.R_alloc | apply Kd.R_drewN | apply Kd.R_drew)); exact (Kd.R_mono (Kd.R_far (p := ⟨gb612, 3, none⟩) (Kd.R_far (p := ⟨gb612, 2, none⟩) (Kd.R_far (p := ⟨gb612, 1, none⟩) (Kd.R_far (p := ⟨gb612, 0, none⟩) (Kd.R_types HO598.out BK612.out (by decide)) (fun _ hk => hk.2) (.slice Ao51 t604.length co51)) (fun _ hk => hk.2) (.int .i64 t607)) (fun _ hk => hk.2) (.slice Ao55 t608.length co55)) (fun _ hk => hk.2) (.int .i64 t611)) (fun _ h_ => h_.1))))) (Kd.R_lt (by (with_reducible repeat (first | apply Kd.R_alloc | apply Kd.R_drewN | apply Kd.R_drew)); exact (Kd.R_mono (Kd.R_far (p := ⟨gb612, 3, none⟩) (Kd.R_far (p := ⟨gb612, 2, none⟩) (Kd.R_far (p := ⟨gb612, 1, none⟩) (Kd.R_far (p := ⟨gb612, 0, none⟩) (Kd.R_types HO606.out BK612.out (by decide)) (fun _ hk => hk.2) (.slice Ao51 t604.length co51)) (fun _ hk => hk.2) (.int .i64 t607)) (fun _ hk => hk.2) (.slice Ao55 t608.length co55)) (fun _ hk => hk.2) (.int .i64 t611)) (fun _ h_ => h_.1))))) (Kd.R_lt (by (with_reducible repeat (first | apply Kd.R_alloc | apply Kd.R_drewN | apply Kd.R_drew)); exact (Kd.R_mono (Kd.R_far (p := ⟨gb612, 3, none⟩) (Kd.R_far (p := ⟨gb612, 2, none⟩) (Kd.R_far (p := ⟨gb612, 1, none⟩) (Kd.R_far (p := ⟨gb612, 0, none⟩) (Kd.R_types HO610.out BK612.out (by decide)) (fun _ hk => hk.2) (.slice Ao51 t604.length co51)) (fun _ hk => hk.2) (.int .i64 t607)) (fun _ hk => hk.2) (.slice Ao55 t608.length co55)) (fun _ hk => hk.2) (.int .i64 t611)) (fun _ h_ => h_.1))))) (below_size bG)); have n9_ := Aside0.mk (Kd.R_lower (Kd.R_new' (Kd.R_new' (Kd.R_new' (Kd.R_new' (Kd.R_new' (Kd.R_new' ho1 (Kd.R_lt (by (with_reducible repeat (first | apply Kd.R_alloc | apply Kd.R_drewN | apply Kd.R_drew)); exact (Kd.R_mono (Kd.R_far (p := ⟨gb612, 3, none⟩) (Kd.R_far (p := ⟨gb612, 2, none⟩) (Kd.R_far (p := ⟨gb612, 1, none⟩) (Kd.R_far (p := ⟨gb612, 0, none⟩) (Kd.R_types HO586.out BK612.out (by decide)) (fun _ hk => hk.2) (.slice Ao51 t604.length co51)) (fun _ hk => hk.2) (.int .i64 t607)) (fun _ hk => hk.2) (.slice Ao55 t608.length co55)) (fun _ hk => hk.2) (.int .i64 t611)) (fun _ h_ => h_.1))))) (Kd.R_lt (by (with_reducible repeat (first | apply Kd.R_alloc | apply Kd.R_drewN | apply Kd.R_drew)); exact (Kd.R_mono (Kd.R_far (p := ⟨gb612, 3, none⟩) (Kd.R_far (p := ⟨gb612, 2, none⟩) (Kd.R_far (p := ⟨gb612, 1, none⟩) (Kd.R_far (p := ⟨gb612, 0, none⟩) (Kd.R_types HO590.out BK612.out (by decide)) (fun _ hk => hk.2) (.slice Ao51 t604.length co51)) (fun _ hk => hk.2) (.int .i64 t607)) (fun _ hk => hk.2) (.slice Ao55 t608.length co55)) (fun _ hk => hk.2) (.int .i64 t611)) (fun _ h_ => h_.1))))) (Kd.R_lt (by (with_reducible repeat (first | apply Kd.R_alloc | apply Kd.R_drewN | apply Kd.R_drew)); exact (Kd.R_mono (Kd.R_far (p := ⟨gb612, 3, none⟩) (Kd.R_far (p := ⟨gb612, 2, none⟩) (Kd.R_far (p := ⟨gb612, 1, none⟩) (Kd.R_far (p := ⟨gb612, 0, none⟩) (Kd.R_types HO594.out BK612.out (by decide)) (fun _ hk => hk.2) (.slice Ao51 t604.length co51)) (fun _ hk => hk.2) (.int .i64 t607)) (fun _ hk => hk.2) (.slice Ao55 t608.length co55)) (fun _ hk => hk.2) (.int .i64 t611)) (fun _ h_ => h_.1))))) (Kd.R_lt (by (with_reducible repeat (first | apply Kd.R_alloc | apply Kd.R_drewN | apply Kd.R_drew)); exact (Kd.R_mono (Kd.R_far (p := ⟨gb612, 3, none⟩) (Kd.R_far (p := ⟨gb612, 2, none⟩) (Kd.R_far (p := ⟨gb612, 1, none⟩) (Kd.R_far (p := ⟨gb612, 0, none⟩) (Kd.R_types HO598.out BK612.out (by decide)) (fun _ hk => hk.2) (.slice Ao51 t604.length co51)) (fun _ hk => hk.2) (.int .i64 t607)) (fun _ hk => hk.2) (.slice Ao55 t608.length co55)) (fun _ hk => hk.2) (.int .i64 t611)) (fun _ h_ => h_.1))))) (Kd.R_lt (by (with_reducible repeat (first | apply Kd.R_alloc | apply Kd.R_drewN | apply Kd.R_drew)); exact (Kd.R_mono (Kd.R_far (p := ⟨gb612, 3, none⟩) (Kd.R_far (p := ⟨gb612, 2, none⟩) (Kd.R_far (p := ⟨gb612, 1, none⟩) (Kd.R_far (p := ⟨gb612, 0, none⟩) (Kd.R_types HO606.out BK612.out (by decide)) (fun _ hk => hk.2) (.slice Ao51 t604.length co51)) (fun _ hk => hk.2) (.int .i64 t607)) (fun _ hk => hk.2) (.slice Ao55 t608.length co55)) (fun _ hk => hk.2) (.int .i64 t611)) (fun _ h_ => h_.1))))) (Kd.R_lt (by (with_reducible repeat (first | apply Kd.R_alloc | apply Kd.R_drewN | apply Kd.R_drew)); exact (Kd.R_mono (Kd.R_far (p := ⟨gb612, 3, none⟩) (Kd.R_far (p := ⟨gb612, 2, none⟩) (Kd.R_far (p := ⟨gb612, 1, none⟩) (Kd.R_far (p := ⟨gb612, 0, none⟩) (Kd.R_types HO610.out BK612.out (by decide)) (fun _ hk => hk.2) (.slice Ao51 t604.length co51)) (fun _ hk => hk.2) (.int .i64 t607)) (fun _ hk => hk.2) (.slice Ao55 t608.length co55)) (fun _ hk => hk.2) (.int .i64 t611)) (fun _ h_ => h_.1))))) (below_size bG)); have n10_ := Aside0.mk (blk_below (g := gb578) (o := .cells #[.slice A1_0 l1_0.length c1_0, .int .i64 a1_1, .slice A1_2 l1_2.length c1_2, .int .i64 a1_3] 67 (0, 0)) (by (with_reducible repeat (first | refine blk_drewN ?_ _ | refine blk_drew ?_ | refine blk_alloc ?_ _)); refine blk_far ?_ NB578_612.out _; (with_reducible repeat (first | refine blk_drewN ?_ _ | refine blk_drew ?_ | refine blk_alloc ?_ _)); refine blk_far ?_ NB578_612.out _; (with_reducible repeat (first | refine blk_drewN ?_ _ | refine blk_drew ?_ | refine blk_alloc ?_ _)); refine blk_far ?_ NB578_612.out _; (with_reducible repeat (first | refine blk_drewN ?_ _ | refine blk_drew ?_ | refine blk_alloc ?_ _)); refine blk_far ?_ NB578_612.out _; (with_reducible repeat (first | refine blk_drewN ?_ _ | refine blk_drew ?_ | refine blk_alloc ?_ _)); exact BK578.out) hb); have n11_ := Aside0.mk (blk_below (g := gb600) (o := .cells #[.slice Ao40 t592.length co40, .int .i64 t595, .slice Ao43 t596.length co43, .int .i64 t599] 70 (0, 0)) (by (with_reducible repeat (first | refine blk_drewN ?_ _ | refine blk_drew ?_ | refine blk_alloc ?_ _)); refine blk_far ?_ NB600_612.out _; (with_reducible repeat (first | refine blk_drewN ?_ _ | refine blk_drew ?_ | refine blk_alloc ?_ _)); refine blk_far ?_ NB600_612.out _; (with_reducible repeat (first | refine blk_drewN ?_ _ | refine blk_drew ?_ | refine blk_alloc ?_ _)); refine blk_far ?_ NB600_612.out _; (with_reducible repeat (first | refine blk_drewN ?_ _ | refine blk_drew ?_ | refine blk_alloc ?_ _)); refine blk_far ?_ NB600_612.out _; (with_reducible repeat (first | refine blk_drewN ?_ _ | refine blk_drew ?_ | refine blk_alloc ?_ _)); exact BK600.out) hb); have n12_ := Aside0.mk (blk_below (g := gb612) (o := .cells #[.slice Ao51 t604.length co51, .int .i64 t607, .slice Ao55 t608.length co55, .int .i64 t611] 70 (0, 0)) (by (with_reducible repeat (first | refine blk_drewN ?_ _ | refine blk_drew ?_ | refine blk_alloc ?_ _)); refine blk_put (cs := #[.slice Ao51 t604.length co51, .int .i64 t607, .slice Ao55 t608.length co55, .int .i64 0]) ?_ 3 _ rfl; (with_reducible repeat (first | refine blk_drewN ?_ _ | refine blk_drew ?_ | refine blk_alloc ?_ _)); refine blk_put (cs := #[.slice Ao51 t604.length co51, .int .i64 t607, .slice none 0 0, .int .i64 0]) ?_ 2 _ rfl; (with_reducible repeat (first | refine blk_drewN ?_ _ | refine blk_drew ?_ | refine blk_alloc ?_ _)); refine blk_put (cs := #[.slice Ao51 t604.length co51, .int .i64 0, .slice none 0 0, .int .i64 0]) ?_ 1 _ rfl; (with_reducible repeat (first | refine blk_drewN ?_ _ | refine blk_drew ?_ | refine blk_alloc ?_ _)); refine blk_put (cs := #[.slice none 0 0, .int .i64 0, .slice none 0 0, .int .i64 0]) ?_ 0 _ rfl; (with_reducible repeat (first | refine blk_drewN ?_ _ | refine blk_drew ?_ | refine blk_alloc ?_ _)); exact BK612.out) hb); have n13_ := Aside0.mk (below_step bG hb); clear HO583; clear HO586; clear HO590; clear HO594; clear HO598; clear HO603; clear HO606; clear HO610; clear BK578; clear BK600; clear BK612; clear HB; have HO583 := n0_; have HO586 := n1_; have HO590 := n2_; have HO594 := n3_; have HO598 := n4_; have HO603 := n5_; have HO606 := n6_; have HO610 := n7_; have HO615 := n8_; have HO619 := n9_; have BK578 := n10_; have BK600 := n11_; have BK612 := n12_; have HB := n13_; clear n0_ n1_ n2_ n3_ n4_ n5_ n6_ n7_ n8_ n9_ n10_ n11_ n12_ n13_; (try clear hb); (try clear hb2); (try clear hk); (try clear hi); (try clear ho0); (try clear ho1)) | ((with_reducible refine gate_dst (N := 9) rfl ?_); refine bE (N := 9) (cs := #[.slice none 0 0, .int .i64 0, .slice none 0 0, .int .i64 0]) (t := 70) ?_; intro gb621 hg w58 hbox hb; have n0_ := Aside0.mk (Kd.R_below (rK HO583) hb); have n1_ := Aside0.mk (Kd.R_below (rK HO586) hb); have n2_ := Aside0.mk (Kd.R_below (rK HO590) hb); have n3_ := Aside0.mk (Kd.R_below (rK HO594) hb); have n4_ := Aside0.mk (Kd.R_below (rK HO598) hb); have n5_ := Aside0.mk (Kd.R_below (rK HO603) hb); have n6_ := Aside0.mk (Kd.R_below (rK HO606) hb); have n7_ := Aside0.mk (Kd.R_below (rK HO610) hb); have n8_ := Aside0.mk (Kd.R_below (rK HO615) hb); have n9_ := Aside0.mk (Kd.R_below (rK HO619) hb); have n10_ := Aside0.mk (blk_below (g := gb578) (bK BK578) hb); have n11_ := Aside0.mk (blk_below (g := gb600) (bK BK600) hb); have n12_ := Aside0.mk (blk_below (g := gb612) (bK BK612) hb); have n13_ := Aside0.mk (below_step bG hb); have n14_ := Aside0.mk (hbox); have n15_ := Aside0.mk ((by rw [hg]; exact (below_size bG) : w.heap.size ≤ gb621)); have n16_ := Aside0.mk ((by rw [hg]; exact (below_size bG) : w.heap.size ≤ gb621)); have n17_ := Aside0.mk ((by rw [hg]; exact Nat.ne_of_lt (blk_lt (g := gb578) (o := .cells #[.slice A1_0 l1_0.length c1_0, .int .i64 a1_1, .slice A1_2 l1_2.length c1_2, .int .i64 a1_3] 67 (0, 0)) (bK BK578)) : gb578 ≠ gb621)); have n18_ := Aside0.mk ((by rw [hg]; exact Nat.ne_of_gt (blk_lt (g := gb578) (o := .cells #[.slice A1_0 l1_0.length c1_0, .int .i64 a1_1, .slice A1_2 l1_2.length c1_2, .int .i64 a1_3] 67 (0, 0)) (bK BK578)) : gb621 ≠ gb578)); have n19_ := Aside0.mk ((by rw [hg]; exact Nat.ne_of_lt (blk_lt (g := gb600) (o := .cells #[.slice Ao40 t592.length co40, .int .i64 t595, .slice Ao43 t596.length co43, .int .i64 t599] 70 (0, 0)) (bK BK600)) : gb600 ≠ gb621)); have n20_ := Aside0.mk ((by rw [hg]; exact Nat.ne_of_gt (blk_lt (g := gb600) (o := .cells #[.slice Ao40 t592.length co40, .int .i64 t595, .slice Ao43 t596.length co43, .int .i64 t599] 70 (0, 0)) (bK BK600)) : gb621 ≠ gb600)); have n21_ := Aside0.mk ((by rw [hg]; exact Nat.ne_of_lt (blk_lt (g := gb612) (o := .cells #[.slice Ao51 t604.length co51, .int .i64 t607, .slice Ao55 t608.length co55, .int .i64 t611] 70 (0, 0)) (bK BK612)) : gb612 ≠ gb621)); have n22_ := Aside0.mk ((by rw [hg]; exact Nat.ne_of_gt (blk_lt (g := gb612) (o := .cells #[.slice Ao51 t604.length co51, .int .i64 t607, .slice Ao55 t608.length co55, .int .i64 t611] 70 (0, 0)) (bK BK612)) : gb621 ≠ gb612)); clear HO583; clear HO586; clear HO590; clear HO594; clear HO598; clear HO603; clear HO606; clear HO610; clear HO615; clear HO619; clear BK578; clear BK600; clear BK612; clear HB; have HO583 := n0_; have HO586 := n1_; have HO590 := n2_; have HO594 := n3_; have HO598 := n4_; have HO603 := n5_; have HO606 := n6_; have HO610 := n7_; have HO615 := n8_; have HO619 := n9_; have BK578 := n10_; have BK600 := n11_; have BK612 := n12_; have HB := n13_; have BK621 := n14_; have GW621 := n15_; have GE621 := n16_; have NB578_621 := n17_; have NB621_578 := n18_; have NB600_621 := n19_; have NB621_600 := n20_; have NB612_621 := n21_; have NB621_612 := n22_; clear n0_ n1_ n2_ n3_ n4_ n5_ n6_ n7_ n8_ n9_ n10_ n11_ n12_ n13_ n14_ n15_ n16_ n17_ n18_ n19_ n20_ n21_ n22_; clear hb hbox hg; obtain ⟨Ao59, co59, eo59⟩ := Kd.R_slice HO615.out; subst eo59; have hnb60 := NB621_578.out; have hnc60 := NB578_621.out; have hnb61 := NB621_600.out; have hnc61 := NB600_621.out; have hnb62 := NB621_612.out; have hnc62 := NB612_621.out; obtain ⟨hcz63_0, hcz63_1, hcz63_2, hcz63_3, hfz63_0, hfz63_1, hfz63_2, hfz63_3⟩ := blkc4 BK621; obtain ⟨Ao64, co64, eo64⟩ := Kd.R_slice HO619.out; subst eo64; have hcz65_0 : w58.cell? ⟨gb600, 0, none⟩ = some (.slice Ao40 t592.length co40) := bC BK600 0; have hcz65_1 : w58.cell? ⟨gb600, 1, none⟩ = some (.int .i64 t595) := bC BK600 1; have hcz65_2 : w58.cell? ⟨gb600, 2, none⟩ = some (.slice Ao43 t596.length co43) := bC BK600 2; have hcz65_3 : w58.cell? ⟨gb600, 3, none⟩ = some (.int .i64 t599) := bC BK600 3; have hfz65_0 := blk_frozen BK600.out 0; have hfz65_1 := blk_frozen BK600.out 1; have hfz65_2 := blk_frozen BK600.out 2; have hfz65_3 := blk_frozen BK600.out 3) | ((with_reducible refine gate_callee (f := 58) rfl ?_); refine gL (some 38) Try.func58 #[.agg #[.slice Ao59 t613.length co59, .int .i64 t616, .slice Ao64 t617.length co64, .int .i64 t620], .agg #[.slice Ao40 t592.length co40, .int .i64 t595, .slice Ao43 t596.length co43, .int .i64 t599]] ?_; (with_reducible refine (laws_eqControl.calls k _ _ t613 t616 _ _ t617 t620 _ _ t592 t595 _ _ t596 t599 true _ ?side1 ?side2 ?side3 ?side4 ?side5 ?side6 ?side7 ?side8 A17.out).mono ?_); (case side1 => refine (Kd.R_reads' (e := 3) (base := w.heap.size) (ok := fun k_ => ((((((some k_ ≠ (.slice Ao64 t617.length co64 : Value).ownBlock ∧ some k_ ≠ (v585 : Value).ownBlock) ∧ some k_ ≠ (v589 : Value).ownBlock) ∧ some k_ ≠ (.slice Ao40 t592.length co40 : Value).ownBlock) ∧ some k_ ≠ (.slice Ao43 t596.length co43 : Value).ownBlock) ∧ some k_ ≠ (.slice Ao51 t604.length co51 : Value).ownBlock) ∧ some k_ ≠ (.slice Ao55 t608.length co55 : Value).ownBlock)) (n := t613.length) (c := co59) ?_).2.2; exact (by (with_reducible repeat (first | apply Kd.R_alloc | apply Kd.R_drewN | apply Kd.R_drew)); exact (Kd.R_mono (Kd.R_far (p := ⟨gb621, 3, none⟩) (Kd.R_far (p := ⟨gb621, 2, none⟩) (Kd.R_far (p := ⟨gb621, 1, none⟩) (Kd.R_far (p := ⟨gb621, 0, none⟩) (Kd.R_types HO615.out BK621.out (by decide)) (fun _ hk => hk.2) (.slice Ao59 t613.length co59)) (fun _ hk => hk.2) (.int .i64 t616)) (fun _ hk => hk.2) (.slice Ao64 t617.length co64)) (fun _ hk => hk.2) (.int .i64 t620)) (fun _ h_ => h_.1)))); (case side2 => exact (Kd.R_reads' HO615.out).2.1); (case side3 => refine (Kd.R_reads' (e := 3) (base := w.heap.size) (ok := fun k_ => ((((((some k_ ≠ (.slice Ao59 t613.length co59 : Value).ownBlock ∧ some k_ ≠ (v585 : Value).ownBlock) ∧ some k_ ≠ (v589 : Value).ownBlock) ∧ some k_ ≠ (.slice Ao40 t592.length co40 : Value).ownBlock) ∧ some k_ ≠ (.slice Ao43 t596.length co43 : Value).ownBlock) ∧ some k_ ≠ (.slice Ao51 t604.length co51 : Value).ownBlock) ∧ some k_ ≠ (.slice Ao55 t608.length co55 : Value).ownBlock)) (n := t617.length) (c := co64) ?_).2.2; exact (by (with_reducible repeat (first | apply Kd.R_alloc | apply Kd.R_drewN | apply Kd.R_drew)); exact (Kd.R_mono (Kd.R_far (p := ⟨gb621, 3, none⟩) (Kd.R_far (p := ⟨gb621, 2, none⟩) (Kd.R_far (p := ⟨gb621, 1, none⟩) (Kd.R_far (p := ⟨gb621, 0, none⟩) (Kd.R_types HO619.out BK621.out (by decide)) (fun _ hk => hk.2) (.slice Ao59 t613.length co59)) (fun _ hk => hk.2) (.int .i64 t616)) (fun _ hk => hk.2) (.slice Ao64 t617.length co64)) (fun _ hk => hk.2) (.int .i64 t620)) (fun _ h_ => h_.1)))); (case side4 => exact (Kd.R_reads' HO619.out).2.1); (case side5 => refine (Kd.R_reads' (e := 3) (base := w.heap.size) (ok := fun k_ => (((((some k_ ≠ (v585 : Value).ownBlock ∧ (some k_ ≠ (v589 : Value).ownBlock ∧ some k_ ≠ (.slice Ao43 t596.length co43 : Value).ownBlock)) ∧ some k_ ≠ (.slice Ao51 t604.length co51 : Value).ownBlock) ∧ some k_ ≠ (.slice Ao55 t608.length co55 : Value).ownBlock) ∧ some k_ ≠ (.slice Ao59 t613.length co59 : Value).ownBlock) ∧ some k_ ≠ (.slice Ao64 t617.length co64 : Value).ownBlock)) (n := t592.length) (c := co40) ?_).2.2; exact (by (with_reducible repeat (first | apply Kd.R_alloc | apply Kd.R_drewN | apply Kd.R_drew)); exact (Kd.R_mono (Kd.R_far (p := ⟨gb621, 3, none⟩) (Kd.R_far (p := ⟨gb621, 2, none⟩) (Kd.R_far (p := ⟨gb621, 1, none⟩) (Kd.R_far (p := ⟨gb621, 0, none⟩) (Kd.R_types HO594.out BK621.out (by decide)) (fun _ hk => hk.2) (.slice Ao59 t613.length co59)) (fun _ hk => hk.2) (.int .i64 t616)) (fun _ hk => hk.2) (.slice Ao64 t617.length co64)) (fun _ hk => hk.2) (.int .i64 t620)) (fun _ h_ => h_.1)))); (case side6 => exact (Kd.R_reads' HO594.out).2.1); (case side7 => refine (Kd.R_reads' (e := 3) (base := w.heap.size) (ok := fun k_ => (((((some k_ ≠ (v585 : Value).ownBlock ∧ (some k_ ≠ (v589 : Value).ownBlock ∧ some k_ ≠ (.slice Ao40 t592.length co40 : Value).ownBlock)) ∧ some k_ ≠ (.slice Ao51 t604.length co51 : Value).ownBlock) ∧ some k_ ≠ (.slice Ao55 t608.length co55 : Value).ownBlock) ∧ some k_ ≠ (.slice Ao59 t613.length co59 : Value).ownBlock) ∧ some k_ ≠ (.slice Ao64 t617.length co64 : Value).ownBlock)) (n := t596.length) (c := co43) ?_).2.2; exact (by (with_reducible repeat (first | apply Kd.R_alloc | apply Kd.R_drewN | apply Kd.R_drew)); exact (Kd.R_mono (Kd.R_far (p := ⟨gb621, 3, none⟩) (Kd.R_far (p := ⟨gb621, 2, none⟩) (Kd.R_far (p := ⟨gb621, 1, none⟩) (Kd.R_far (p := ⟨gb621, 0, none⟩) (Kd.R_types HO598.out BK621.out (by decide)) (fun _ hk => hk.2) (.slice Ao59 t613.length co59)) (fun _ hk => hk.2) (.int .i64 t616)) (fun _ hk => hk.2) (.slice Ao64 t617.length co64)) (fun _ hk => hk.2) (.int .i64 t620)) (fun _ h_ => h_.1)))); (case side8 => exact (Kd.R_reads' HO598.out).2.1); rintro e w66 ⟨rfl, hb⟩; refine ⟨_, rfl, ?_⟩; have n0_ := Aside0.mk (Kd.R_below (by (with_reducible repeat (first | apply Kd.R_alloc | apply Kd.R_drewN | apply Kd.R_drew)); exact (Kd.R_mono (Kd.R_far (p := ⟨gb621, 3, none⟩) (Kd.R_far (p := ⟨gb621, 2, none⟩) (Kd.R_far (p := ⟨gb621, 1, none⟩) (Kd.R_far (p := ⟨gb621, 0, none⟩) (Kd.R_types HO583.out BK621.out (by decide)) (fun _ hk => hk.2) (.slice Ao59 t613.length co59)) (fun _ hk => hk.2) (.int .i64 t616)) (fun _ hk => hk.2) (.slice Ao64 t617.length co64)) (fun _ hk => hk.2) (.int .i64 t620)) (fun _ h_ => h_.1))) hb); have n1_ := Aside0.mk (Kd.R_below (by (with_reducible repeat (first | apply Kd.R_alloc | apply Kd.R_drewN | apply Kd.R_drew)); exact (Kd.R_mono (Kd.R_far (p := ⟨gb621, 3, none⟩) (Kd.R_far (p := ⟨gb621, 2, none⟩) (Kd.R_far (p := ⟨gb621, 1, none⟩) (Kd.R_far (p := ⟨gb621, 0, none⟩) (Kd.R_types HO586.out BK621.out (by decide)) (fun _ hk => hk.2) (.slice Ao59 t613.length co59)) (fun _ hk => hk.2) (.int .i64 t616)) (fun _ hk => hk.2) (.slice Ao64 t617.length co64)) (fun _ hk => hk.2) (.int .i64 t620)) (fun _ h_ => h_.1))) hb); have n2_ := Aside0.mk (Kd.R_below (by (with_reducible repeat (first | apply Kd.R_alloc | apply Kd.R_drewN | apply Kd.R_drew)); exact (Kd.R_mono (Kd.R_far (p := ⟨gb621, 3, none⟩) (Kd.R_far (p := ⟨gb621, 2, none⟩) (Kd.R_far (p := ⟨gb621, 1, none⟩) (Kd.R_far (p := ⟨gb621, 0, none⟩) (Kd.R_types HO590.out BK621.out (by decide)) (fun _ hk => hk.2) (.slice Ao59 t613.length co59)) (fun _ hk => hk.2) (.int .i64 t616)) (fun _ hk => hk.2) (.slice Ao64 t617.length co64)) (fun _ hk => hk.2) (.int .i64 t620)) (fun _ h_ => h_.1))) hb); have n3_ := Aside0.mk (Kd.R_below (by (with_reducible repeat (first | apply Kd.R_alloc | apply Kd.R_drewN | apply Kd.R_drew)); exact (Kd.R_mono (Kd.R_far (p := ⟨gb621, 3, none⟩) (Kd.R_far (p := ⟨gb621, 2, none⟩) (Kd.R_far (p := ⟨gb621, 1, none⟩) (Kd.R_far (p := ⟨gb621, 0, none⟩) (Kd.R_types HO594.out BK621.out (by decide)) (fun _ hk => hk.2) (.slice Ao59 t613.length co59)) (fun _ hk => hk.2) (.int .i64 t616)) (fun _ hk => hk.2) (.slice Ao64 t617.length co64)) (fun _ hk => hk.2) (.int .i64 t620)) (fun _ h_ => h_.1))) hb); have n4_ := Aside0.mk (Kd.R_below (by (with_reducible repeat (first | apply Kd.R_alloc | apply Kd.R_drewN | apply Kd.R_drew)); exact (Kd.R_mono (Kd.R_far (p := ⟨gb621, 3, none⟩) (Kd.R_far (p := ⟨gb621, 2, none⟩) (Kd.R_far (p := ⟨gb621, 1, none⟩) (Kd.R_far (p := ⟨gb621, 0, none⟩) (Kd.R_types HO598.out BK621.out (by decide)) (fun _ hk => hk.2) (.slice Ao59 t613.length co59)) (fun _ hk => hk.2) (.int .i64 t616)) (fun _ hk => hk.2) (.slice Ao64 t617.length co64)) (fun _ hk => hk.2) (.int .i64 t620)) (fun _ h_ => h_.1))) hb); have n5_ := Aside0.mk (Kd.R_below (by (with_reducible repeat (first | apply Kd.R_alloc | apply Kd.R_drewN | apply Kd.R_drew)); exact (Kd.R_mono (Kd.R_far (p := ⟨gb621, 3, none⟩) (Kd.R_far (p := ⟨gb621, 2, none⟩) (Kd.R_far (p := ⟨gb621, 1, none⟩) (Kd.R_far (p := ⟨gb621, 0, none⟩) (Kd.R_types HO603.out BK621.out (by decide)) (fun _ hk => hk.2) (.slice Ao59 t613.length co59)) (fun _ hk => hk.2) (.int .i64 t616)) (fun _ hk => hk.2) (.slice Ao64 t617.length co64)) (fun _ hk => hk.2) (.int .i64 t620)) (fun _ h_ => h_.1))) hb); have n6_ := Aside0.mk (Kd.R_below (by (with_reducible repeat (first | apply Kd.R_alloc | apply Kd.R_drewN | apply Kd.R_drew)); exact (Kd.R_mono (Kd.R_far (p := ⟨gb621, 3, none⟩) (Kd.R_far (p := ⟨gb621, 2, none⟩) (Kd.R_far (p := ⟨gb621, 1, none⟩) (Kd.R_far (p := ⟨gb621, 0, none⟩) (Kd.R_types HO606.out BK621.out (by decide)) (fun _ hk => hk.2) (.slice Ao59 t613.length co59)) (fun _ hk => hk.2) (.int .i64 t616)) (fun _ hk => hk.2) (.slice Ao64 t617.length co64)) (fun _ hk => hk.2) (.int .i64 t620)) (fun _ h_ => h_.1))) hb); have n7_ := Aside0.mk (Kd.R_below (by (with_reducible repeat (first | apply Kd.R_alloc | apply Kd.R_drewN | apply Kd.R_drew)); exact (Kd.R_mono (Kd.R_far (p := ⟨gb621, 3, none⟩) (Kd.R_far (p := ⟨gb621, 2, none⟩) (Kd.R_far (p := ⟨gb621, 1, none⟩) (Kd.R_far (p := ⟨gb621, 0, none⟩) (Kd.R_types HO610.out BK621.out (by decide)) (fun _ hk => hk.2) (.slice Ao59 t613.length co59)) (fun _ hk => hk.2) (.int .i64 t616)) (fun _ hk => hk.2) (.slice Ao64 t617.length co64)) (fun _ hk => hk.2) (.int .i64 t620)) (fun _ h_ => h_.1))) hb); have n8_ := Aside0.mk (Kd.R_below (by (with_reducible repeat (first | apply Kd.R_alloc | apply Kd.R_drewN | apply Kd.R_drew)); exact (Kd.R_mono (Kd.R_far (p := ⟨gb621, 3, none⟩) (Kd.R_far (p := ⟨gb621, 2, none⟩) (Kd.R_far (p := ⟨gb621, 1, none⟩) (Kd.R_far (p := ⟨gb621, 0, none⟩) (Kd.R_types HO615.out BK621.out (by decide)) (fun _ hk => hk.2) (.slice Ao59 t613.length co59)) (fun _ hk => hk.2) (.int .i64 t616)) (fun _ hk => hk.2) (.slice Ao64 t617.length co64)) (fun _ hk => hk.2) (.int .i64 t620)) (fun _ h_ => h_.1))) hb); have n9_ := Aside0.mk (Kd.R_below (by (with_reducible repeat (first | apply Kd.R_alloc | apply Kd.R_drewN | apply Kd.R_drew)); exact (Kd.R_mono (Kd.R_far (p := ⟨gb621, 3, none⟩) (Kd.R_far (p := ⟨gb621, 2, none⟩) (Kd.R_far (p := ⟨gb621, 1, none⟩) (Kd.R_far (p := ⟨gb621, 0, none⟩) (Kd.R_types HO619.out BK621.out (by decide)) (fun _ hk => hk.2) (.slice Ao59 t613.length co59)) (fun _ hk => hk.2) (.int .i64 t616)) (fun _ hk => hk.2) (.slice Ao64 t617.length co64)) (fun _ hk => hk.2) (.int .i64 t620)) (fun _ h_ => h_.1))) hb); have n10_ := Aside0.mk (blk_below (g := gb578) (o := .cells #[.slice A1_0 l1_0.length c1_0, .int .i64 a1_1, .slice A1_2 l1_2.length c1_2, .int .i64 a1_3] 67 (0, 0)) (by (with_reducible repeat (first | refine blk_drewN ?_ _ | refine blk_drew ?_ | refine blk_alloc ?_ _)); refine blk_far ?_ NB578_621.out _; (with_reducible repeat (first | refine blk_drewN ?_ _ | refine blk_drew ?_ | refine blk_alloc ?_ _)); refine blk_far ?_ NB578_621.out _; (with_reducible repeat (first | refine blk_drewN ?_ _ | refine blk_drew ?_ | refine blk_alloc ?_ _)); refine blk_far ?_ NB578_621.out _; (with_reducible repeat (first | refine blk_drewN ?_ _ | refine blk_drew ?_ | refine blk_alloc ?_ _)); refine blk_far ?_ NB578_621.out _; (with_reducible repeat (first | refine blk_drewN ?_ _ | refine blk_drew ?_ | refine blk_alloc ?_ _)); exact BK578.out) hb); have n11_ := Aside0.mk (blk_below (g := gb600) (o := .cells #[.slice Ao40 t592.length co40, .int .i64 t595, .slice Ao43 t596.length co43, .int .i64 t599] 70 (0, 0)) (by (with_reducible repeat (first | refine blk_drewN ?_ _ | refine blk_drew ?_ | refine blk_alloc ?_ _)); refine blk_far ?_ NB600_621.out _; (with_reducible repeat (first | refine blk_drewN ?_ _ | refine blk_drew ?_ | refine blk_alloc ?_ _)); refine blk_far ?_ NB600_621.out _; (with_reducible repeat (first | refine blk_drewN ?_ _ | refine blk_drew ?_ | refine blk_alloc ?_ _)); refine blk_far ?_ NB600_621.out _; (with_reducible repeat (first | refine blk_drewN ?_ _ | refine blk_drew ?_ | refine blk_alloc ?_ _)); refine blk_far ?_ NB600_621.out _; (with_reducible repeat (first | refine blk_drewN ?_ _ | refine blk_drew ?_ | refine blk_alloc ?_ _)); exact BK600.out) hb); have n12_ := Aside0.mk (blk_below (g := gb612) (o := .cells #[.slice Ao51 t604.length co51, .int .i64 t607, .slice Ao55 t608.length co55, .int .i64 t611] 70 (0, 0)) (by (with_reducible repeat (first | refine blk_drewN ?_ _ | refine blk_drew ?_ | refine blk_alloc ?_ _)); refine blk_far ?_ NB612_621.out _; (with_reducible repeat (first | refine blk_drewN ?_ _ | refine blk_drew ?_ | refine blk_alloc ?_ _)); refine blk_far ?_ NB612_621.out _; (with_reducible repeat (first | refine blk_drewN ?_ _ | refine blk_drew ?_ | refine blk_alloc ?_ _)); refine blk_far ?_ NB612_621.out _; (with_reducible repeat (first | refine blk_drewN ?_ _ | refine blk_drew ?_ | refine blk_alloc ?_ _)); refine blk_far ?_ NB612_621.out _; (with_reducible repeat (first | refine blk_drewN ?_ _ | refine blk_drew ?_ | refine blk_alloc ?_ _)); exact BK612.out) hb); have n13_ := Aside0.mk (blk_below (g := gb621) (o := .cells #[.slice Ao59 t613.length co59, .int .i64 t616, .slice Ao64 t617.length co64, .int .i64 t620] 70 (0, 0)) (by (with_reducible repeat (first | refine blk_drewN ?_ _ | refine blk_drew ?_ | refine blk_alloc ?_ _)); refine blk_put (cs := #[.slice Ao59 t613.length co59, .int .i64 t616, .slice Ao64 t617.length co64, .int .i64 0]) ?_ 3 _ rfl; (with_reducible repeat (first | refine blk_drewN ?_ _ | refine blk_drew ?_ | refine blk_alloc ?_ _)); refine blk_put (cs := #[.slice Ao59 t613.length co59, .int .i64 t616, .slice none 0 0, .int .i64 0]) ?_ 2 _ rfl; (with_reducible repeat (first | refine blk_drewN ?_ _ | refine blk_drew ?_ | refine blk_alloc ?_ _)); refine blk_put (cs := #[.slice Ao59 t613.length co59, .int .i64 0, .slice none 0 0, .int .i64 0]) ?_ 1 _ rfl; (with_reducible repeat (first | refine blk_drewN ?_ _ | refine blk_drew ?_ | refine blk_alloc ?_ _)); refine blk_put (cs := #[.slice none 0 0, .int .i64 0, .slice none 0 0, .int .i64 0]) ?_ 0 _ rfl; (with_reducible repeat (first | refine blk_drewN ?_ _ | refine blk_drew ?_ | refine blk_alloc ?_ _)); exact BK621.out) hb); have n14_ := Aside0.mk (below_step bG hb); clear HO583; clear HO586; clear HO590; clear HO594; clear HO598; clear HO603; clear HO606; clear HO610; clear HO615; clear HO619; clear BK578; clear BK600; clear BK612; clear BK621; clear HB; have HO583 := n0_; have HO586 := n1_; have HO590 := n2_; have HO594 := n3_; have HO598 := n4_; have HO603 := n5_; have HO606 := n6_; have HO610 := n7_; have HO615 := n8_; have HO619 := n9_; have BK578 := n10_; have BK600 := n11_; have BK612 := n12_; have BK621 := n13_; have HB := n14_; clear n0_ n1_ n2_ n3_ n4_ n5_ n6_ n7_ n8_ n9_ n10_ n11_ n12_ n13_ n14_; (try clear hb); (try clear hb2); (try clear hk); (try clear hi)) | ((with_reducible refine gate_callee (f := 34) rfl ?_); refine gL (some 42) Try.func34 #[.slice A0 l0.length c0] ?_; (with_reducible refine (laws_toPathS.calls k _ _ l0 t623 _ ?side1 ?side2 A19.out).mono ?_); (case side1 => exact cB HR0); (case side2 => exact HC0.out); rintro e w67 ⟨v624, rfl, ho0, hb⟩; refine ⟨_, rfl, ?_⟩; replace HO586 := Aside0.mk (Kd.R_below (rK HO586) hb); replace HO590 := Aside0.mk (Kd.R_below (rK HO590) hb); replace HO594 := Aside0.mk (Kd.R_below (rK HO594) hb); replace HO598 := Aside0.mk (Kd.R_below (rK HO598) hb); replace HO606 := Aside0.mk (Kd.R_below (rK HO606) hb); replace HO610 := Aside0.mk (Kd.R_below (rK HO610) hb); replace HO615 := Aside0.mk (Kd.R_below (rK HO615) hb); replace HO619 := Aside0.mk (Kd.R_below (rK HO619) hb); have HO625 := Aside0.mk (Kd.R_lower (Kd.R_new' (Kd.R_new' ho0 (Kd.R_lt (rK HO583))) (Kd.R_lt (rK HO603))) (below_size bG)); replace HO583 := Aside0.mk (Kd.R_elder' (rK HO583) (Kd.R_base ho0) hb); replace HO603 := Aside0.mk (Kd.R_elder' (rK HO603) (Kd.R_base ho0) hb); replace BK578 := Aside0.mk (blk_below (g := gb578) (bK BK578) hb); replace BK600 := Aside0.mk (blk_below (g := gb600) (bK BK600) hb); replace BK612 := Aside0.mk (blk_below (g := gb612) (bK BK612) hb); replace BK621 := Aside0.mk (blk_below (g := gb621) (bK BK621) hb); replace HB := Aside0.mk (below_step bG hb); (try clear hb); (try clear hb2); (try clear hk); (try clear hi); (try clear ho0); obtain ⟨Ao68, co68, eo68⟩ := Kd.R_slice HO625.out; subst eo68) | ((with_reducible refine gate_callee (f := 37) rfl ?_); refine gL (some 43) Try.func37 #[.slice Ao56 t601.length co56, .slice Ao68 t623.length co68] ?_; (with_reducible refine (laws_eqPathS.calls k _ _ t601 _ _ t623 true _ ?side1 ?side2 ?side3 ?side4 A20.out).mono ?_); (case side1 => exact cO ⟨(Kd.R_reads' HO603.out).2.2⟩); (case side2 => exact (Kd.R_reads' HO603.out).2.1); (case side3 => exact cO ⟨(Kd.R_reads' HO625.out).2.2⟩); (case side4 => exact (Kd.R_reads' HO625.out).2.1); rintro e w69 ⟨rfl, hb⟩; refine ⟨_, rfl, ?_⟩; replace HO583 := Aside0.mk (Kd.R_below (rK HO583) hb); replace HO586 := Aside0.mk (Kd.R_below (rK HO586) hb); replace HO590 := Aside0.mk (Kd.R_below (rK HO590) hb); replace HO594 := Aside0.mk (Kd.R_below (rK HO594) hb); replace HO598 := Aside0.mk (Kd.R_below (rK HO598) hb); replace HO603 := Aside0.mk (Kd.R_below (rK HO603) hb); replace HO606 := Aside0.mk (Kd.R_below (rK HO606) hb); replace HO610 := Aside0.mk (Kd.R_below (rK HO610) hb); replace HO615 := Aside0.mk (Kd.R_below (rK HO615) hb); replace HO619 := Aside0.mk (Kd.R_below (rK HO619) hb); replace HO625 := Aside0.mk (Kd.R_below (rK HO625) hb); replace BK578 := Aside0.mk (blk_below (g := gb578) (bK BK578) hb); replace BK600 := Aside0.mk (blk_below (g := gb600) (bK BK600) hb); replace BK612 := Aside0.mk (blk_below (g := gb612) (bK BK612) hb); replace BK621 := Aside0.mk (blk_below (g := gb621) (bK BK621) hb); replace HB := Aside0.mk (below_step bG hb); (try clear hb); (try clear hb2); (try clear hk); (try clear hi)))
   replace HO583 := Aside0.mk (Kd.R_drew HO583.out)
   replace HO586 := Aside0.mk (Kd.R_drew HO586.out)
   replace HO590 := Aside0.mk (Kd.R_drew HO590.out)
   replace HO594 := Aside0.mk (Kd.R_drew HO594.out)
   replace HO598 := Aside0.mk (Kd.R_drew HO598.out)
   replace HO603 := Aside0.mk (Kd.R_drew HO603.out)
   replace HO606 := Aside0.mk (Kd.R_drew HO606.out)
   replace HO610 := Aside0.mk (Kd.R_drew HO610.out)
   replace HO615 := Aside0.mk (Kd.R_drew HO615.out)
   replace HO619 := Aside0.mk (Kd.R_drew HO619.out)
   replace HO625 := Aside0.mk (Kd.R_drew HO625.out)
   replace BK578 := Aside0.mk (blk_drew BK578.out)
   replace BK600 := Aside0.mk (blk_drew BK600.out)
   replace BK612 := Aside0.mk (blk_drew BK612.out)
   replace BK621 := Aside0.mk (blk_drew BK621.out)
   have HBo := HB
   replace HB := Aside0.mk (below_drew1 HB.out)
   refine start_ (n := 5) (S := fun w' => w'.cell? ⟨gb612, 0, none⟩ = some (.slice Ao51 t604.length co51) ∧ w'.cell? ⟨gb612, 1, none⟩ = some (.int .i64 t607) ∧ w'.cell? ⟨gb612, 2, none⟩ = some (.slice Ao55 t608.length co55) ∧ w'.cell? ⟨gb612, 3, none⟩ = some (.int .i64 t611) ∧ w'.cell? ⟨gb578, 0, none⟩ = some (.slice A1_0 l1_0.length c1_0) ∧ w'.cell? ⟨gb578, 1, none⟩ = some (.int .i64 a1_1) ∧ w'.cell? ⟨gb578, 2, none⟩ = some (.slice A1_2 l1_2.length c1_2) ∧ w'.cell? ⟨gb578, 3, none⟩ = some (.int .i64 a1_3)) (ds := []) (mb 5 0) (by kernel_rfl) rfl rfl ⟨bC BK612 0, bC BK612 1, bC BK612 2, bC BK612 3, bC BK578 0, bC BK578 1, bC BK578 2, bC BK578 3⟩ (fun hHeld => ?_)
   generalize w69.drew = w70 at HO583 HO586 HO590 HO594 HO598 HO603 HO606 HO610 HO615 HO619 HO625 BK578 BK600 BK612 BK621 HB hHeld ⊢
   refine take_ (i := 0) (N := some 45) (v := ?_) (a' := ?_) (mb 5 1) rfl rfl (by kernel_rfl) (fun _ _ _ h => h) (Or.inl ⟨by rfl, ?_⟩) hHeld ?_ ?_
   rotate_left
   ·
    rintro w' ⟨s0, s1, s2, s3, s4, s5, s6, s7⟩
    go_simp
    with_reducible rfl
   rotate_left
   ·
    simp only [Act.put, List.setIfInBounds_toArray, List.set_cons_zero, List.set_cons_succ, i64_w, i32_w]
    rfl
   refine take_ (i := 1) (N := some 46) (v := ?_) (a' := ?_) (mb 5 3) rfl rfl (by kernel_rfl) (fun _ _ _ h => h) (Or.inl ⟨by rfl, ?_⟩) hHeld ?_ ?_
   rotate_left
   ·
    rintro w' ⟨s0, s1, s2, s3, s4, s5, s6, s7⟩
    go_simp
    with_reducible rfl
   rotate_left
   ·
    simp only [Act.put, List.setIfInBounds_toArray, List.set_cons_zero, List.set_cons_succ, i64_w, i32_w]
    rfl
   refine one_ (i := 2) (N := some 47) (mb 5 7) rfl rfl (by kernel_rfl) (by decide) (fun K hK => ?_)
   refine gA Try.func56 #[.agg #[.slice A1_0 l1_0.length c1_0, .int .i64 a1_1, .slice A1_2 l1_2.length c1_2, .int .i64 a1_3]] ?_
   with_reducible refine (laws_toControl.calls k _ _ l1_0 a1_1 _ _ l1_2 a1_3 t627 t630 t631 t634 _ ?side1 ?side2 ?side3 ?side4 A22.out).mono ?_
   (case side1 => exact cB HR1_0)
   (case side2 => exact HC1_0.out)
   (case side3 => exact cB HR1_2)
   (case side4 => exact HC1_2.out)
   rintro e w71 ⟨v628, v632, rfl, ho0, ho1, hb⟩
   refine ⟨_, rfl, ?_⟩
   replace HO583 := Aside0.mk (Kd.R_below (rK HO583) hb)
   replace HO603 := Aside0.mk (Kd.R_below (rK HO603) hb)
   replace HO625 := Aside0.mk (Kd.R_below (rK HO625) hb)
   have HO629 := Aside0.mk (Kd.R_lower (Kd.R_new' (Kd.R_new' (Kd.R_new' (Kd.R_new' (Kd.R_new' (Kd.R_new' (Kd.R_new' (Kd.R_new' ho0 (Kd.R_lt (rK HO586))) (Kd.R_lt (rK HO590))) (Kd.R_lt (rK HO594))) (Kd.R_lt (rK HO598))) (Kd.R_lt (rK HO606))) (Kd.R_lt (rK HO610))) (Kd.R_lt (rK HO615))) (Kd.R_lt (rK HO619))) (below_size bG))
   have HO633 := Aside0.mk (Kd.R_lower (Kd.R_new' (Kd.R_new' (Kd.R_new' (Kd.R_new' (Kd.R_new' (Kd.R_new' (Kd.R_new' (Kd.R_new' ho1 (Kd.R_lt (rK HO586))) (Kd.R_lt (rK HO590))) (Kd.R_lt (rK HO594))) (Kd.R_lt (rK HO598))) (Kd.R_lt (rK HO606))) (Kd.R_lt (rK HO610))) (Kd.R_lt (rK HO615))) (Kd.R_lt (rK HO619))) (below_size bG))
   replace HO586 := Aside0.mk (Kd.R_mono (Kd.R_told (Kd.R_told (Kd.R_old (rK HO586) hb) (Kd.R_base ho0)) (Kd.R_base ho1)) (fun _ h_ => h_.1))
   replace HO590 := Aside0.mk (Kd.R_mono (Kd.R_told (Kd.R_told (Kd.R_old (rK HO590) hb) (Kd.R_base ho0)) (Kd.R_base ho1)) (fun _ h_ => h_.1))
   replace HO594 := Aside0.mk (Kd.R_mono (Kd.R_told (Kd.R_told (Kd.R_old (rK HO594) hb) (Kd.R_base ho0)) (Kd.R_base ho1)) (fun _ h_ => h_.1))
   replace HO598 := Aside0.mk (Kd.R_mono (Kd.R_told (Kd.R_told (Kd.R_old (rK HO598) hb) (Kd.R_base ho0)) (Kd.R_base ho1)) (fun _ h_ => h_.1))
   replace HO606 := Aside0.mk (Kd.R_mono (Kd.R_told (Kd.R_told (Kd.R_old (rK HO606) hb) (Kd.R_base ho0)) (Kd.R_base ho1)) (fun _ h_ => h_.1))
   replace HO610 := Aside0.mk (Kd.R_mono (Kd.R_told (Kd.R_told (Kd.R_old (rK HO610) hb) (Kd.R_base ho0)) (Kd.R_base ho1)) (fun _ h_ => h_.1))
   replace HO615 := Aside0.mk (Kd.R_mono (Kd.R_told (Kd.R_told (Kd.R_old (rK HO615) hb) (Kd.R_base ho0)) (Kd.R_base ho1)) (fun _ h_ => h_.1))
   replace HO619 := Aside0.mk (Kd.R_mono (Kd.R_told (Kd.R_told (Kd.R_old (rK HO619) hb) (Kd.R_base ho0)) (Kd.R_base ho1)) (fun _ h_ => h_.1))
   replace BK578 := Aside0.mk (blk_below (g := gb578) (bK BK578) hb)
   replace BK600 := Aside0.mk (blk_below (g := gb600) (bK BK600) hb)
   replace BK612 := Aside0.mk (blk_below (g := gb612) (bK BK612) hb)
   replace BK621 := Aside0.mk (blk_below (g := gb621) (bK BK621) hb)
   replace HB := Aside0.mk (below_step bG hb)
   (try clear hb)
   (try clear hb2)
   (try clear hk)
   (try clear hi)
   (try clear ho0)
   (try clear ho1)
   obtain ⟨Ao72, co72, eo72⟩ := Kd.R_slice HO629.out
   (first | subst eo72 | (injection eo72 with f1_ f2_ f3_; have f4_ := f1_.symm; have f5_ := f3_.symm; clear f1_ f2_ f3_; subst f4_; subst f5_))
   obtain ⟨Ao73, co73, eo73⟩ := Kd.R_slice HO633.out
   (first | subst eo73 | (injection eo73 with f1_ f2_ f3_; have f4_ := f1_.symm; have f5_ := f3_.symm; clear f1_ f2_ f3_; subst f4_; subst f5_))
   refine hK.out _ _ ⟨bC BK612 0, bC BK612 1, bC BK612 2, bC BK612 3, bC BK578 0, bC BK578 1, bC BK578 2, bC BK578 3⟩ (fun hHeld => ?_)
   clear hK K
   refine nB ?_
   refine one_ (i := 3) (N := some 48) (mb 5 15) rfl rfl (by kernel_rfl) (by decide) (fun K hK => ?_)
   refine gA Try.func58 #[.agg #[.slice Ao51 t604.length co51, .int .i64 t607, .slice Ao55 t608.length co55, .int .i64 t611], .agg #[.slice Ao72 t627.length co72, .int .i64 t630, .slice Ao73 t631.length co73, .int .i64 t634]] ?_
   with_reducible refine (laws_eqControl.calls k _ _ t604 t607 _ _ t608 t611 _ _ t627 t630 _ _ t631 t634 true _ ?side1 ?side2 ?side3 ?side4 ?side5 ?side6 ?side7 ?side8 A23.out).mono ?_
   (case side1 => exact cO ⟨(Kd.R_reads' HO606.out).2.2⟩)
   (case side2 => exact (Kd.R_reads' HO606.out).2.1)
   (case side3 => exact cO ⟨(Kd.R_reads' HO610.out).2.2⟩)
   (case side4 => exact (Kd.R_reads' HO610.out).2.1)
   (case side5 => exact cO ⟨(Kd.R_reads' HO629.out).2.2⟩)
   (case side6 => exact (Kd.R_reads' HO629.out).2.1)
   (case side7 => exact cO ⟨(Kd.R_reads' HO633.out).2.2⟩)
   (case side8 => exact (Kd.R_reads' HO633.out).2.1)
   rintro e w74 ⟨rfl, hb⟩
   refine ⟨_, rfl, ?_⟩
   replace HO583 := Aside0.mk (Kd.R_below (rK HO583) hb)
   replace HO586 := Aside0.mk (Kd.R_below (rK HO586) hb)
   replace HO590 := Aside0.mk (Kd.R_below (rK HO590) hb)
   replace HO594 := Aside0.mk (Kd.R_below (rK HO594) hb)
   replace HO598 := Aside0.mk (Kd.R_below (rK HO598) hb)
   replace HO603 := Aside0.mk (Kd.R_below (rK HO603) hb)
   replace HO606 := Aside0.mk (Kd.R_below (rK HO606) hb)
   replace HO610 := Aside0.mk (Kd.R_below (rK HO610) hb)
   replace HO615 := Aside0.mk (Kd.R_below (rK HO615) hb)
   replace HO619 := Aside0.mk (Kd.R_below (rK HO619) hb)
   replace HO625 := Aside0.mk (Kd.R_below (rK HO625) hb)
   replace HO629 := Aside0.mk (Kd.R_below (rK HO629) hb)
   replace HO633 := Aside0.mk (Kd.R_below (rK HO633) hb)
   replace BK578 := Aside0.mk (blk_below (g := gb578) (bK BK578) hb)
   replace BK600 := Aside0.mk (blk_below (g := gb600) (bK BK600) hb)
   replace BK612 := Aside0.mk (blk_below (g := gb612) (bK BK612) hb)
   replace BK621 := Aside0.mk (blk_below (g := gb621) (bK BK621) hb)
   replace HB := Aside0.mk (below_step bG hb)
   (try clear hb)
   (try clear hb2)
   (try clear hk)
   (try clear hi)
   refine hK.out _ _ ⟨bC BK612 0, bC BK612 1, bC BK612 2, bC BK612 3, bC BK578 0, bC BK578 1, bC BK578 2, bC BK578 3⟩ (fun hHeld => ?_)
   clear hK K
   refine nB ?_
   refine pure_ (i := 4) (N := some 49) (v := ?_) (a' := ?_) (mb 5 31) rfl rfl (by kernel_rfl) (fun _ _ _ h => h) (Or.inl ⟨by rfl, ?_⟩) ?_ ?_
   rotate_left
   ·
    intro w'
    go_simp
    with_reducible rfl
   rotate_left
   ·
    simp only [Act.put, List.setIfInBounds_toArray, List.set_cons_zero, List.set_cons_succ, i64_w, i32_w]
    rfl
   refine done_ (by kernel_rfl) ?_
   go_upto_region 21 with (first | ((with_reducible refine gate_callee (f := 46) rfl ?_); refine gL (some 52) Try.func46 #[.slice Ao56 t601.length co56, .int .i64 1] ?_; (with_reducible refine (laws_markPathS.calls k (fun k_ => some k_ = (.slice Ao56 t601.length co56 : Value).ownBlock) (.slice Ao56 t601.length co56) t601 1 t636 t637 w _ ?side1 ?side2 A25.out).mono ?_); (case side1 => repeat (first | (with_reducible first | exact HB.out | apply below_alloc | apply pw_below_drewN | apply below_drew1 | refine below_set ?_ GE578.out | refine below_set ?_ GE600.out | refine below_set ?_ GE612.out | refine below_set ?_ GE621.out) | exact HB.out)); (case side2 => exact Kd.R_tight rfl HO603.out); rintro e w75 ⟨rfl, hy0, hb, hkp⟩; refine ⟨_, rfl, ?_⟩; replace BK578 := Aside0.mk (blk_kept (bK BK578) hkp (fun hs_ => (fun e_ => (Kd.R_ne HO603.out BK578.out (by decide)) e_) hs_)); replace HO583 := Aside0.mk (Kd.R_mono (ok' := fun k_ => some k_ ≠ (.slice Ao56 t601.length co56 : Value).ownBlock ∧ some k_ ≠ (.slice Ao68 t623.length co68 : Value).ownBlock) (Kd.R_keptB (HO583.out) hkp (fun k_ hk_ hs_ => (hk_.1.2) hs_)) (fun k_ hk_ => ⟨hk_.1.1.2, hk_.1.2⟩)); replace HO586 := Aside0.mk (Kd.R_mono (ok' := fun k_ => some k_ ≠ (v589 : Value).ownBlock ∧ some k_ ≠ (.slice Ao40 t592.length co40 : Value).ownBlock ∧ some k_ ≠ (.slice Ao43 t596.length co43 : Value).ownBlock ∧ some k_ ≠ (.slice Ao51 t604.length co51 : Value).ownBlock ∧ some k_ ≠ (.slice Ao55 t608.length co55 : Value).ownBlock ∧ some k_ ≠ (.slice Ao59 t613.length co59 : Value).ownBlock ∧ some k_ ≠ (.slice Ao64 t617.length co64 : Value).ownBlock ∧ some k_ ≠ (.slice Ao72 t627.length co72 : Value).ownBlock ∧ some k_ ≠ (.slice Ao73 t631.length co73 : Value).ownBlock) (Kd.R_keptB ((Kd.R_apart' HO586.out (Kd.R_typed HO603.out) (by decide))) hkp (fun k_ hk_ hs_ => (hk_.2) hs_)) (fun k_ hk_ => ⟨hk_.1.1.1.1.1.1.1.1.1, hk_.1.1.1.1.1.1.1.1.2.1, hk_.1.1.1.1.1.1.1.1.2.2, hk_.1.1.1.1.1.1.1.2, hk_.1.1.1.1.1.1.2, hk_.1.1.1.1.1.2, hk_.1.1.1.1.2, hk_.1.1.1.2, hk_.1.1.2⟩)); replace HO590 := Aside0.mk (Kd.R_mono (ok' := fun k_ => some k_ ≠ (v585 : Value).ownBlock ∧ some k_ ≠ (.slice Ao40 t592.length co40 : Value).ownBlock ∧ some k_ ≠ (.slice Ao43 t596.length co43 : Value).ownBlock ∧ some k_ ≠ (.slice Ao51 t604.length co51 : Value).ownBlock ∧ some k_ ≠ (.slice Ao55 t608.length co55 : Value).ownBlock ∧ some k_ ≠ (.slice Ao59 t613.length co59 : Value).ownBlock ∧ some k_ ≠ (.slice Ao64 t617.length co64 : Value).ownBlock ∧ some k_ ≠ (.slice Ao72 t627.length co72 : Value).ownBlock ∧ some k_ ≠ (.slice Ao73 t631.length co73 : Value).ownBlock) (Kd.R_keptB ((Kd.R_apart' HO590.out (Kd.R_typed HO603.out) (by decide))) hkp (fun k_ hk_ hs_ => (hk_.2) hs_)) (fun k_ hk_ => ⟨hk_.1.1.1.1.1.1.1.1.1, hk_.1.1.1.1.1.1.1.1.2.1, hk_.1.1.1.1.1.1.1.1.2.2, hk_.1.1.1.1.1.1.1.2, hk_.1.1.1.1.1.1.2, hk_.1.1.1.1.1.2, hk_.1.1.1.1.2, hk_.1.1.1.2, hk_.1.1.2⟩)); replace HO594 := Aside0.mk (Kd.R_mono (ok' := fun k_ => some k_ ≠ (v585 : Value).ownBlock ∧ some k_ ≠ (v589 : Value).ownBlock ∧ some k_ ≠ (.slice Ao43 t596.length co43 : Value).ownBlock ∧ some k_ ≠ (.slice Ao51 t604.length co51 : Value).ownBlock ∧ some k_ ≠ (.slice Ao55 t608.length co55 : Value).ownBlock ∧ some k_ ≠ (.slice Ao59 t613.length co59 : Value).ownBlock ∧ some k_ ≠ (.slice Ao64 t617.length co64 : Value).ownBlock ∧ some k_ ≠ (.slice Ao72 t627.length co72 : Value).ownBlock ∧ some k_ ≠ (.slice Ao73 t631.length co73 : Value).ownBlock) (Kd.R_keptB ((Kd.R_apart' HO594.out (Kd.R_typed HO603.out) (by decide))) hkp (fun k_ hk_ hs_ => (hk_.2) hs_)) (fun k_ hk_ => ⟨hk_.1.1.1.1.1.1.1.1.1, hk_.1.1.1.1.1.1.1.1.2.1, hk_.1.1.1.1.1.1.1.1.2.2, hk_.1.1.1.1.1.1.1.2, hk_.1.1.1.1.1.1.2, hk_.1.1.1.1.1.2, hk_.1.1.1.1.2, hk_.1.1.1.2, hk_.1.1.2⟩)); replace HO598 := Aside0.mk (Kd.R_mono (ok' := fun k_ => some k_ ≠ (v585 : Value).ownBlock ∧ some k_ ≠ (v589 : Value).ownBlock ∧ some k_ ≠ (.slice Ao40 t592.length co40 : Value).ownBlock ∧ some k_ ≠ (.slice Ao51 t604.length co51 : Value).ownBlock ∧ some k_ ≠ (.slice Ao55 t608.length co55 : Value).ownBlock ∧ some k_ ≠ (.slice Ao59 t613.length co59 : Value).ownBlock ∧ some k_ ≠ (.slice Ao64 t617.length co64 : Value).ownBlock ∧ some k_ ≠ (.slice Ao72 t627.length co72 : Value).ownBlock ∧ some k_ ≠ (.slice Ao73 t631.length co73 : Value).ownBlock) (Kd.R_keptB ((Kd.R_apart' HO598.out (Kd.R_typed HO603.out) (by decide))) hkp (fun k_ hk_ hs_ => (hk_.2) hs_)) (fun k_ hk_ => ⟨hk_.1.1.1.1.1.1.1.1.1, hk_.1.1.1.1.1.1.1.1.2.1, hk_.1.1.1.1.1.1.1.1.2.2, hk_.1.1.1.1.1.1.1.2, hk_.1.1.1.1.1.1.2, hk_.1.1.1.1.1.2, hk_.1.1.1.1.2, hk_.1.1.1.2, hk_.1.1.2⟩)); replace BK600 := Aside0.mk (blk_kept (bK BK600) hkp (fun hs_ => (fun e_ => (Kd.R_ne HO603.out BK600.out (by decide)) e_) hs_)); replace HO606 := Aside0.mk (Kd.R_mono (ok' := fun k_ => some k_ ≠ (v585 : Value).ownBlock ∧ some k_ ≠ (v589 : Value).ownBlock ∧ some k_ ≠ (.slice Ao40 t592.length co40 : Value).ownBlock ∧ some k_ ≠ (.slice Ao43 t596.length co43 : Value).ownBlock ∧ some k_ ≠ (.slice Ao55 t608.length co55 : Value).ownBlock ∧ some k_ ≠ (.slice Ao59 t613.length co59 : Value).ownBlock ∧ some k_ ≠ (.slice Ao64 t617.length co64 : Value).ownBlock ∧ some k_ ≠ (.slice Ao72 t627.length co72 : Value).ownBlock ∧ some k_ ≠ (.slice Ao73 t631.length co73 : Value).ownBlock) (Kd.R_keptB ((Kd.R_apart' HO606.out (Kd.R_typed HO603.out) (by decide))) hkp (fun k_ hk_ hs_ => (hk_.2) hs_)) (fun k_ hk_ => ⟨hk_.1.1.1.1.1.1.1.1.1.2, hk_.1.1.1.1.1.1.1.1.2, hk_.1.1.1.1.1.1.1.2, hk_.1.1.1.1.1.1.2, hk_.1.1.1.1.1.1.1.1.1.1, hk_.1.1.1.1.1.2, hk_.1.1.1.1.2, hk_.1.1.1.2, hk_.1.1.2⟩)); replace HO610 := Aside0.mk (Kd.R_mono (ok' := fun k_ => some k_ ≠ (v585 : Value).ownBlock ∧ some k_ ≠ (v589 : Value).ownBlock ∧ some k_ ≠ (.slice Ao40 t592.length co40 : Value).ownBlock ∧ some k_ ≠ (.slice Ao43 t596.length co43 : Value).ownBlock ∧ some k_ ≠ (.slice Ao51 t604.length co51 : Value).ownBlock ∧ some k_ ≠ (.slice Ao59 t613.length co59 : Value).ownBlock ∧ some k_ ≠ (.slice Ao64 t617.length co64 : Value).ownBlock ∧ some k_ ≠ (.slice Ao72 t627.length co72 : Value).ownBlock ∧ some k_ ≠ (.slice Ao73 t631.length co73 : Value).ownBlock) (Kd.R_keptB ((Kd.R_apart' HO610.out (Kd.R_typed HO603.out) (by decide))) hkp (fun k_ hk_ hs_ => (hk_.2) hs_)) (fun k_ hk_ => ⟨hk_.1.1.1.1.1.1.1.1.1.2, hk_.1.1.1.1.1.1.1.1.2, hk_.1.1.1.1.1.1.1.2, hk_.1.1.1.1.1.1.2, hk_.1.1.1.1.1.1.1.1.1.1, hk_.1.1.1.1.1.2, hk_.1.1.1.1.2, hk_.1.1.1.2, hk_.1.1.2⟩)); replace BK612 := Aside0.mk (blk_kept (bK BK612) hkp (fun hs_ => (fun e_ => (Kd.R_ne HO603.out BK612.out (by decide)) e_) hs_)); replace HO615 := Aside0.mk (Kd.R_mono (ok' := fun k_ => some k_ ≠ (v585 : Value).ownBlock ∧ some k_ ≠ (v589 : Value).ownBlock ∧ some k_ ≠ (.slice Ao40 t592.length co40 : Value).ownBlock ∧ some k_ ≠ (.slice Ao43 t596.length co43 : Value).ownBlock ∧ some k_ ≠ (.slice Ao51 t604.length co51 : Value).ownBlock ∧ some k_ ≠ (.slice Ao55 t608.length co55 : Value).ownBlock ∧ some k_ ≠ (.slice Ao64 t617.length co64 : Value).ownBlock ∧ some k_ ≠ (.slice Ao72 t627.length co72 : Value).ownBlock ∧ some k_ ≠ (.slice Ao73 t631.length co73 : Value).ownBlock) (Kd.R_keptB ((Kd.R_apart' HO615.out (Kd.R_typed HO603.out) (by decide))) hkp (fun k_ hk_ hs_ => (hk_.2) hs_)) (fun k_ hk_ => ⟨hk_.1.1.1.1.1.1.1.1.1.2, hk_.1.1.1.1.1.1.1.1.2, hk_.1.1.1.1.1.1.1.2, hk_.1.1.1.1.1.1.2, hk_.1.1.1.1.1.2, hk_.1.1.1.1.2, hk_.1.1.1.1.1.1.1.1.1.1, hk_.1.1.1.2, hk_.1.1.2⟩)); replace HO619 := Aside0.mk (Kd.R_mono (ok' := fun k_ => some k_ ≠ (v585 : Value).ownBlock ∧ some k_ ≠ (v589 : Value).ownBlock ∧ some k_ ≠ (.slice Ao40 t592.length co40 : Value).ownBlock ∧ some k_ ≠ (.slice Ao43 t596.length co43 : Value).ownBlock ∧ some k_ ≠ (.slice Ao51 t604.length co51 : Value).ownBlock ∧ some k_ ≠ (.slice Ao55 t608.length co55 : Value).ownBlock ∧ some k_ ≠ (.slice Ao59 t613.length co59 : Value).ownBlock ∧ some k_ ≠ (.slice Ao72 t627.length co72 : Value).ownBlock ∧ some k_ ≠ (.slice Ao73 t631.length co73 : Value).ownBlock) (Kd.R_keptB ((Kd.R_apart' HO619.out (Kd.R_typed HO603.out) (by decide))) hkp (fun k_ hk_ hs_ => (hk_.2) hs_)) (fun k_ hk_ => ⟨hk_.1.1.1.1.1.1.1.1.1.2, hk_.1.1.1.1.1.1.1.1.2, hk_.1.1.1.1.1.1.1.2, hk_.1.1.1.1.1.1.2, hk_.1.1.1.1.1.2, hk_.1.1.1.1.2, hk_.1.1.1.1.1.1.1.1.1.1, hk_.1.1.1.2, hk_.1.1.2⟩)); replace BK621 := Aside0.mk (blk_kept (bK BK621) hkp (fun hs_ => (fun e_ => (Kd.R_ne HO603.out BK621.out (by decide)) e_) hs_)); replace HO625 := Aside0.mk (Kd.R_mono (ok' := fun k_ => some k_ ≠ (v582 : Value).ownBlock ∧ some k_ ≠ (.slice Ao56 t601.length co56 : Value).ownBlock) (Kd.R_keptB (HO625.out) hkp (fun k_ hk_ hs_ => (hk_.2) hs_)) (fun k_ hk_ => ⟨hk_.1.1.2, hk_.1.2⟩)); replace HO629 := Aside0.mk (Kd.R_mono (ok' := fun k_ => some k_ ≠ (v585 : Value).ownBlock ∧ some k_ ≠ (v589 : Value).ownBlock ∧ some k_ ≠ (.slice Ao40 t592.length co40 : Value).ownBlock ∧ some k_ ≠ (.slice Ao43 t596.length co43 : Value).ownBlock ∧ some k_ ≠ (.slice Ao51 t604.length co51 : Value).ownBlock ∧ some k_ ≠ (.slice Ao55 t608.length co55 : Value).ownBlock ∧ some k_ ≠ (.slice Ao59 t613.length co59 : Value).ownBlock ∧ some k_ ≠ (.slice Ao64 t617.length co64 : Value).ownBlock ∧ some k_ ≠ (.slice Ao73 t631.length co73 : Value).ownBlock) (Kd.R_keptB ((Kd.R_apart' HO629.out (Kd.R_typed HO603.out) (by decide))) hkp (fun k_ hk_ hs_ => (hk_.2) hs_)) (fun k_ hk_ => ⟨hk_.1.1.1.1.1.1.1.1.1.2, hk_.1.1.1.1.1.1.1.1.2, hk_.1.1.1.1.1.1.1.2, hk_.1.1.1.1.1.1.2, hk_.1.1.1.1.1.2, hk_.1.1.1.1.2, hk_.1.1.1.2, hk_.1.1.2, hk_.1.1.1.1.1.1.1.1.1.1⟩)); replace HO633 := Aside0.mk (Kd.R_mono (ok' := fun k_ => some k_ ≠ (v585 : Value).ownBlock ∧ some k_ ≠ (v589 : Value).ownBlock ∧ some k_ ≠ (.slice Ao40 t592.length co40 : Value).ownBlock ∧ some k_ ≠ (.slice Ao43 t596.length co43 : Value).ownBlock ∧ some k_ ≠ (.slice Ao51 t604.length co51 : Value).ownBlock ∧ some k_ ≠ (.slice Ao55 t608.length co55 : Value).ownBlock ∧ some k_ ≠ (.slice Ao59 t613.length co59 : Value).ownBlock ∧ some k_ ≠ (.slice Ao64 t617.length co64 : Value).ownBlock ∧ some k_ ≠ (.slice Ao72 t627.length co72 : Value).ownBlock) (Kd.R_keptB ((Kd.R_apart' HO633.out (Kd.R_typed HO603.out) (by decide))) hkp (fun k_ hk_ hs_ => (hk_.2) hs_)) (fun k_ hk_ => ⟨hk_.1.1.1.1.1.1.1.1.1.2, hk_.1.1.1.1.1.1.1.1.2, hk_.1.1.1.1.1.1.1.2, hk_.1.1.1.1.1.1.2, hk_.1.1.1.1.1.2, hk_.1.1.1.1.2, hk_.1.1.1.2, hk_.1.1.2, hk_.1.1.1.1.1.1.1.1.1.1⟩)); replace HO603 := Aside0.mk (Kd.R_reok rfl hy0 (fun k_ e_ => HO603.out.1 k_ e_)); replace HB := Aside0.mk (hb); (try clear hb); (try clear hkp); (try clear hy0); have hcz76_0 : w75.cell? ⟨gb612, 0, none⟩ = some (.slice Ao51 t604.length co51) := bC BK612 0; have hcz76_1 : w75.cell? ⟨gb612, 1, none⟩ = some (.int .i64 t607) := bC BK612 1; have hcz76_2 : w75.cell? ⟨gb612, 2, none⟩ = some (.slice Ao55 t608.length co55) := bC BK612 2; have hcz76_3 : w75.cell? ⟨gb612, 3, none⟩ = some (.int .i64 t611) := bC BK612 3; have hfz76_0 := blk_frozen BK612.out 0; have hfz76_1 := blk_frozen BK612.out 1; have hfz76_2 := blk_frozen BK612.out 2; have hfz76_3 := blk_frozen BK612.out 3) | ((with_reducible refine gate_callee (f := 63) rfl ?_); refine gL (some 55) Try.func63 #[.agg #[.slice Ao51 t604.length co51, .int .i64 t607, .slice Ao55 t608.length co55, .int .i64 t611], .int .i64 t636] ?_; (with_reducible refine (laws_markControl.calls k (fun k_ => some k_ = (.slice Ao51 t604.length co51 : Value).ownBlock) (.slice Ao51 t604.length co51) t604 t607 (fun k_ => some k_ = (.slice Ao55 t608.length co55 : Value).ownBlock) (.slice Ao55 t608.length co55) t608 t611 t636 t638 t639 t640 w _ ?side1 ?side2 ?side3 ?side4 ?side5 A26.out).mono ?_); (case side1 => repeat (first | (with_reducible first | exact HB.out | apply below_alloc | apply pw_below_drewN | apply below_drew1 | refine below_set ?_ GE578.out | refine below_set ?_ GE600.out | refine below_set ?_ GE612.out | refine below_set ?_ GE621.out) | exact HB.out)); (case side2 => exact Kd.R_tight rfl HO606.out); (case side3 => exact fun k_ e_ => (HO606.out.1 k_ e_.symm).2.2.2.2.1); (case side4 => exact Kd.R_tight rfl HO610.out); (case side5 => exact fun k_ e_ => (HO610.out.1 k_ e_.symm).2.2.2.2.1); rintro e w77 ⟨rfl, hy0, hy1, hb, hkp⟩; refine ⟨_, rfl, ?_⟩; replace BK578 := Aside0.mk (blk_kept (bK BK578) hkp (fun hs_ => Or.elim hs_ (fun e_ => (fun e_ => (Kd.R_ne HO606.out BK578.out (by decide)) e_) e_) (fun e_ => (fun e_ => (Kd.R_ne HO610.out BK578.out (by decide)) e_) e_))); replace HO583 := Aside0.mk (Kd.R_mono (ok' := fun k_ => some k_ ≠ (.slice Ao56 t601.length co56 : Value).ownBlock ∧ some k_ ≠ (.slice Ao68 t623.length co68 : Value).ownBlock) (Kd.R_keptB ((Kd.R_apart' (Kd.R_apart' HO583.out (Kd.R_typed HO606.out) (by decide)) (Kd.R_typed HO610.out) (by decide))) hkp (fun k_ hk_ hs_ => Or.elim hs_ (fun e_ => (hk_.1.2) e_) (fun e_ => (hk_.2) e_))) (fun k_ hk_ => ⟨hk_.1.1.1.1, hk_.1.1.1.2⟩)); replace HO586 := Aside0.mk (Kd.R_mono (ok' := fun k_ => some k_ ≠ (v589 : Value).ownBlock ∧ some k_ ≠ (.slice Ao40 t592.length co40 : Value).ownBlock ∧ some k_ ≠ (.slice Ao43 t596.length co43 : Value).ownBlock ∧ some k_ ≠ (.slice Ao51 t604.length co51 : Value).ownBlock ∧ some k_ ≠ (.slice Ao55 t608.length co55 : Value).ownBlock ∧ some k_ ≠ (.slice Ao59 t613.length co59 : Value).ownBlock ∧ some k_ ≠ (.slice Ao64 t617.length co64 : Value).ownBlock ∧ some k_ ≠ (.slice Ao72 t627.length co72 : Value).ownBlock ∧ some k_ ≠ (.slice Ao73 t631.length co73 : Value).ownBlock) (Kd.R_keptB (HO586.out) hkp (fun k_ hk_ hs_ => Or.elim hs_ (fun e_ => (hk_.2.2.2.1) e_) (fun e_ => (hk_.2.2.2.2.1) e_))) (fun k_ hk_ => ⟨hk_.1.1, hk_.1.2.1, hk_.1.2.2.1, hk_.1.2.2.2.1, hk_.1.2.2.2.2.1, hk_.1.2.2.2.2.2.1, hk_.1.2.2.2.2.2.2.1, hk_.1.2.2.2.2.2.2.2.1, hk_.1.2.2.2.2.2.2.2.2⟩)); replace HO590 := Aside0.mk (Kd.R_mono (ok' := fun k_ => some k_ ≠ (v585 : Value).ownBlock ∧ some k_ ≠ (.slice Ao40 t592.length co40 : Value).ownBlock ∧ some k_ ≠ (.slice Ao43 t596.length co43 : Value).ownBlock ∧ some k_ ≠ (.slice Ao51 t604.length co51 : Value).ownBlock ∧ some k_ ≠ (.slice Ao55 t608.length co55 : Value).ownBlock ∧ some k_ ≠ (.slice Ao59 t613.length co59 : Value).ownBlock ∧ some k_ ≠ (.slice Ao64 t617.length co64 : Value).ownBlock ∧ some k_ ≠ (.slice Ao72 t627.length co72 : Value).ownBlock ∧ some k_ ≠ (.slice Ao73 t631.length co73 : Value).ownBlock) (Kd.R_keptB (HO590.out) hkp (fun k_ hk_ hs_ => Or.elim hs_ (fun e_ => (hk_.2.2.2.1) e_) (fun e_ => (hk_.2.2.2.2.1) e_))) (fun k_ hk_ => ⟨hk_.1.1, hk_.1.2.1, hk_.1.2.2.1, hk_.1.2.2.2.1, hk_.1.2.2.2.2.1, hk_.1.2.2.2.2.2.1, hk_.1.2.2.2.2.2.2.1, hk_.1.2.2.2.2.2.2.2.1, hk_.1.2.2.2.2.2.2.2.2⟩)); replace HO594 := Aside0.mk (Kd.R_mono (ok' := fun k_ => some k_ ≠ (v585 : Value).ownBlock ∧ some k_ ≠ (v589 : Value).ownBlock ∧ some k_ ≠ (.slice Ao43 t596.length co43 : Value).ownBlock ∧ some k_ ≠ (.slice Ao51 t604.length co51 : Value).ownBlock ∧ some k_ ≠ (.slice Ao55 t608.length co55 : Value).ownBlock ∧ some k_ ≠ (.slice Ao59 t613.length co59 : Value).ownBlock ∧ some k_ ≠ (.slice Ao64 t617.length co64 : Value).ownBlock ∧ some k_ ≠ (.slice Ao72 t627.length co72 : Value).ownBlock ∧ some k_ ≠ (.slice Ao73 t631.length co73 : Value).ownBlock) (Kd.R_keptB (HO594.out) hkp (fun k_ hk_ hs_ => Or.elim hs_ (fun e_ => (hk_.2.2.2.1) e_) (fun e_ => (hk_.2.2.2.2.1) e_))) (fun k_ hk_ => ⟨hk_.1.1, hk_.1.2.1, hk_.1.2.2.1, hk_.1.2.2.2.1, hk_.1.2.2.2.2.1, hk_.1.2.2.2.2.2.1, hk_.1.2.2.2.2.2.2.1, hk_.1.2.2.2.2.2.2.2.1, hk_.1.2.2.2.2.2.2.2.2⟩)); replace HO598 := Aside0.mk (Kd.R_mono (ok' := fun k_ => some k_ ≠ (v585 : Value).ownBlock ∧ some k_ ≠ (v589 : Value).ownBlock ∧ some k_ ≠ (.slice Ao40 t592.length co40 : Value).ownBlock ∧ some k_ ≠ (.slice Ao51 t604.length co51 : Value).ownBlock ∧ some k_ ≠ (.slice Ao55 t608.length co55 : Value).ownBlock ∧ some k_ ≠ (.slice Ao59 t613.length co59 : Value).ownBlock ∧ some k_ ≠ (.slice Ao64 t617.length co64 : Value).ownBlock ∧ some k_ ≠ (.slice Ao72 t627.length co72 : Value).ownBlock ∧ some k_ ≠ (.slice Ao73 t631.length co73 : Value).ownBlock) (Kd.R_keptB (HO598.out) hkp (fun k_ hk_ hs_ => Or.elim hs_ (fun e_ => (hk_.2.2.2.1) e_) (fun e_ => (hk_.2.2.2.2.1) e_))) (fun k_ hk_ => ⟨hk_.1.1, hk_.1.2.1, hk_.1.2.2.1, hk_.1.2.2.2.1, hk_.1.2.2.2.2.1, hk_.1.2.2.2.2.2.1, hk_.1.2.2.2.2.2.2.1, hk_.1.2.2.2.2.2.2.2.1, hk_.1.2.2.2.2.2.2.2.2⟩)); replace BK600 := Aside0.mk (blk_kept (bK BK600) hkp (fun hs_ => Or.elim hs_ (fun e_ => (fun e_ => (Kd.R_ne HO606.out BK600.out (by decide)) e_) e_) (fun e_ => (fun e_ => (Kd.R_ne HO610.out BK600.out (by decide)) e_) e_))); replace HO603 := Aside0.mk (Kd.R_mono (ok' := fun k_ => some k_ ≠ (v582 : Value).ownBlock ∧ some k_ ≠ (.slice Ao68 t623.length co68 : Value).ownBlock) (Kd.R_keptB ((Kd.R_apart' (Kd.R_apart' HO603.out (Kd.R_typed HO606.out) (by decide)) (Kd.R_typed HO610.out) (by decide))) hkp (fun k_ hk_ hs_ => Or.elim hs_ (fun e_ => (hk_.1.2) e_) (fun e_ => (hk_.2) e_))) (fun k_ hk_ => ⟨hk_.1.1.1.1.2, hk_.1.1.1.2⟩)); replace BK612 := Aside0.mk (blk_kept (bK BK612) hkp (fun hs_ => Or.elim hs_ (fun e_ => (fun e_ => (Kd.R_ne HO606.out BK612.out (by decide)) e_) e_) (fun e_ => (fun e_ => (Kd.R_ne HO610.out BK612.out (by decide)) e_) e_))); replace HO615 := Aside0.mk (Kd.R_mono (ok' := fun k_ => some k_ ≠ (v585 : Value).ownBlock ∧ some k_ ≠ (v589 : Value).ownBlock ∧ some k_ ≠ (.slice Ao40 t592.length co40 : Value).ownBlock ∧ some k_ ≠ (.slice Ao43 t596.length co43 : Value).ownBlock ∧ some k_ ≠ (.slice Ao51 t604.length co51 : Value).ownBlock ∧ some k_ ≠ (.slice Ao55 t608.length co55 : Value).ownBlock ∧ some k_ ≠ (.slice Ao64 t617.length co64 : Value).ownBlock ∧ some k_ ≠ (.slice Ao72 t627.length co72 : Value).ownBlock ∧ some k_ ≠ (.slice Ao73 t631.length co73 : Value).ownBlock) (Kd.R_keptB (HO615.out) hkp (fun k_ hk_ hs_ => Or.elim hs_ (fun e_ => (hk_.2.2.2.2.1) e_) (fun e_ => (hk_.2.2.2.2.2.1) e_))) (fun k_ hk_ => ⟨hk_.1.1, hk_.1.2.1, hk_.1.2.2.1, hk_.1.2.2.2.1, hk_.1.2.2.2.2.1, hk_.1.2.2.2.2.2.1, hk_.1.2.2.2.2.2.2.1, hk_.1.2.2.2.2.2.2.2.1, hk_.1.2.2.2.2.2.2.2.2⟩)); replace HO619 := Aside0.mk (Kd.R_mono (ok' := fun k_ => some k_ ≠ (v585 : Value).ownBlock ∧ some k_ ≠ (v589 : Value).ownBlock ∧ some k_ ≠ (.slice Ao40 t592.length co40 : Value).ownBlock ∧ some k_ ≠ (.slice Ao43 t596.length co43 : Value).ownBlock ∧ some k_ ≠ (.slice Ao51 t604.length co51 : Value).ownBlock ∧ some k_ ≠ (.slice Ao55 t608.length co55 : Value).ownBlock ∧ some k_ ≠ (.slice Ao59 t613.length co59 : Value).ownBlock ∧ some k_ ≠ (.slice Ao72 t627.length co72 : Value).ownBlock ∧ some k_ ≠ (.slice Ao73 t631.length co73 : Value).ownBlock) (Kd.R_keptB (HO619.out) hkp (fun k_ hk_ hs_ => Or.elim hs_ (fun e_ => (hk_.2.2.2.2.1) e_) (fun e_ => (hk_.2.2.2.2.2.1) e_))) (fun k_ hk_ => ⟨hk_.1.1, hk_.1.2.1, hk_.1.2.2.1, hk_.1.2.2.2.1, hk_.1.2.2.2.2.1, hk_.1.2.2.2.2.2.1, hk_.1.2.2.2.2.2.2.1, hk_.1.2.2.2.2.2.2.2.1, hk_.1.2.2.2.2.2.2.2.2⟩)); replace BK621 := Aside0.mk (blk_kept (bK BK621) hkp (fun hs_ => Or.elim hs_ (fun e_ => (fun e_ => (Kd.R_ne HO606.out BK621.out (by decide)) e_) e_) (fun e_ => (fun e_ => (Kd.R_ne HO610.out BK621.out (by decide)) e_) e_))); replace HO625 := Aside0.mk (Kd.R_mono (ok' := fun k_ => some k_ ≠ (v582 : Value).ownBlock ∧ some k_ ≠ (.slice Ao56 t601.length co56 : Value).ownBlock) (Kd.R_keptB ((Kd.R_apart' (Kd.R_apart' HO625.out (Kd.R_typed HO606.out) (by decide)) (Kd.R_typed HO610.out) (by decide))) hkp (fun k_ hk_ hs_ => Or.elim hs_ (fun e_ => (hk_.1.2) e_) (fun e_ => (hk_.2) e_))) (fun k_ hk_ => ⟨hk_.1.1.1.1, hk_.1.1.1.2⟩)); replace HO606 := Aside0.mk (Kd.R_reok rfl hy0 (fun k_ e_ => HO606.out.1 k_ e_)); replace HO610 := Aside0.mk (Kd.R_reok rfl hy1 (fun k_ e_ => HO610.out.1 k_ e_)); replace HO629 := Aside0.mk (Kd.R_mono (ok' := fun k_ => some k_ ≠ (v585 : Value).ownBlock ∧ some k_ ≠ (v589 : Value).ownBlock ∧ some k_ ≠ (.slice Ao40 t592.length co40 : Value).ownBlock ∧ some k_ ≠ (.slice Ao43 t596.length co43 : Value).ownBlock ∧ some k_ ≠ (.slice Ao51 t604.length co51 : Value).ownBlock ∧ some k_ ≠ (.slice Ao55 t608.length co55 : Value).ownBlock ∧ some k_ ≠ (.slice Ao59 t613.length co59 : Value).ownBlock ∧ some k_ ≠ (.slice Ao64 t617.length co64 : Value).ownBlock ∧ some k_ ≠ (.slice Ao73 t631.length co73 : Value).ownBlock) (Kd.R_keptB (HO629.out) hkp (fun k_ hk_ hs_ => Or.elim hs_ (fun e_ => (hk_.2.2.2.2.1) e_) (fun e_ => (hk_.2.2.2.2.2.1) e_))) (fun k_ hk_ => ⟨hk_.1.1, hk_.1.2.1, hk_.1.2.2.1, hk_.1.2.2.2.1, hk_.1.2.2.2.2.1, hk_.1.2.2.2.2.2.1, hk_.1.2.2.2.2.2.2.1, hk_.1.2.2.2.2.2.2.2.1, hk_.1.2.2.2.2.2.2.2.2⟩)); replace HO633 := Aside0.mk (Kd.R_mono (ok' := fun k_ => some k_ ≠ (v585 : Value).ownBlock ∧ some k_ ≠ (v589 : Value).ownBlock ∧ some k_ ≠ (.slice Ao40 t592.length co40 : Value).ownBlock ∧ some k_ ≠ (.slice Ao43 t596.length co43 : Value).ownBlock ∧ some k_ ≠ (.slice Ao51 t604.length co51 : Value).ownBlock ∧ some k_ ≠ (.slice Ao55 t608.length co55 : Value).ownBlock ∧ some k_ ≠ (.slice Ao59 t613.length co59 : Value).ownBlock ∧ some k_ ≠ (.slice Ao64 t617.length co64 : Value).ownBlock ∧ some k_ ≠ (.slice Ao72 t627.length co72 : Value).ownBlock) (Kd.R_keptB (HO633.out) hkp (fun k_ hk_ hs_ => Or.elim hs_ (fun e_ => (hk_.2.2.2.2.1) e_) (fun e_ => (hk_.2.2.2.2.2.1) e_))) (fun k_ hk_ => ⟨hk_.1.1, hk_.1.2.1, hk_.1.2.2.1, hk_.1.2.2.2.1, hk_.1.2.2.2.2.1, hk_.1.2.2.2.2.2.1, hk_.1.2.2.2.2.2.2.1, hk_.1.2.2.2.2.2.2.2.1, hk_.1.2.2.2.2.2.2.2.2⟩)); replace HB := Aside0.mk (hb); (try clear hb); (try clear hkp); (try clear hy0); (try clear hy1)))
   (try simp only [Act.put, List.setIfInBounds_toArray, List.set_cons_zero, List.set_cons_succ])
   go_cut [63] (fun v63 wc => ∃ (kq : Nat) (x63_26 : Bool), v63 = .bool x63_26 ∧ Aside0 (laws_FnExactTickControl.j0 kq l0 x63_26 l1_0 a1_1 l1_2 a1_3 t592 t595 t596 t599 t613 t616 t617 t620 = some r) ∧ Aside0 (kq ≤ k) ∧ Aside0 (Kd.R (Kd.int .i64) 3 wc w.heap.size (fun k_ => some k_ ≠ ((.slice Ao43 t596.length co43) : Value).ownBlock ∧ some k_ ≠ ((.slice Ao51 t604.length co51) : Value).ownBlock ∧ some k_ ≠ ((.slice Ao55 t608.length co55) : Value).ownBlock ∧ some k_ ≠ ((.slice Ao59 t613.length co59) : Value).ownBlock ∧ some k_ ≠ ((.slice Ao64 t617.length co64) : Value).ownBlock) (.slice Ao40 t592.length co40) t592) ∧ Aside0 (Kd.R (Kd.int .i64) 3 wc w.heap.size (fun k_ => some k_ ≠ ((.slice Ao40 t592.length co40) : Value).ownBlock ∧ some k_ ≠ ((.slice Ao51 t604.length co51) : Value).ownBlock ∧ some k_ ≠ ((.slice Ao55 t608.length co55) : Value).ownBlock ∧ some k_ ≠ ((.slice Ao59 t613.length co59) : Value).ownBlock ∧ some k_ ≠ ((.slice Ao64 t617.length co64) : Value).ownBlock) (.slice Ao43 t596.length co43) t596) ∧ Aside0 (Kd.R (Kd.int .i64) 3 wc w.heap.size (fun k_ => some k_ ≠ ((.slice Ao40 t592.length co40) : Value).ownBlock ∧ some k_ ≠ ((.slice Ao43 t596.length co43) : Value).ownBlock ∧ some k_ ≠ ((.slice Ao55 t608.length co55) : Value).ownBlock ∧ some k_ ≠ ((.slice Ao59 t613.length co59) : Value).ownBlock ∧ some k_ ≠ ((.slice Ao64 t617.length co64) : Value).ownBlock) (.slice Ao51 t604.length co51) t639) ∧ Aside0 (Kd.R (Kd.int .i64) 3 wc w.heap.size (fun k_ => some k_ ≠ ((.slice Ao40 t592.length co40) : Value).ownBlock ∧ some k_ ≠ ((.slice Ao43 t596.length co43) : Value).ownBlock ∧ some k_ ≠ ((.slice Ao51 t604.length co51) : Value).ownBlock ∧ some k_ ≠ ((.slice Ao59 t613.length co59) : Value).ownBlock ∧ some k_ ≠ ((.slice Ao64 t617.length co64) : Value).ownBlock) (.slice Ao55 t608.length co55) t640) ∧ Aside0 (Kd.R (Kd.int .i64) 3 wc w.heap.size (fun k_ => some k_ ≠ ((.slice Ao40 t592.length co40) : Value).ownBlock ∧ some k_ ≠ ((.slice Ao43 t596.length co43) : Value).ownBlock ∧ some k_ ≠ ((.slice Ao51 t604.length co51) : Value).ownBlock ∧ some k_ ≠ ((.slice Ao55 t608.length co55) : Value).ownBlock ∧ some k_ ≠ ((.slice Ao64 t617.length co64) : Value).ownBlock) (.slice Ao59 t613.length co59) t613) ∧ Aside0 (Kd.R (Kd.int .i64) 3 wc w.heap.size (fun k_ => some k_ ≠ ((.slice Ao40 t592.length co40) : Value).ownBlock ∧ some k_ ≠ ((.slice Ao43 t596.length co43) : Value).ownBlock ∧ some k_ ≠ ((.slice Ao51 t604.length co51) : Value).ownBlock ∧ some k_ ≠ ((.slice Ao55 t608.length co55) : Value).ownBlock ∧ some k_ ≠ ((.slice Ao59 t613.length co59) : Value).ownBlock) (.slice Ao64 t617.length co64) t617) ∧ Aside0 (wc.heap[gb578]? = some (.cells #[(.slice A1_0 l1_0.length c1_0), .int .i64 a1_1, (.slice A1_2 l1_2.length c1_2), .int .i64 a1_3] 67 (0, 0))) ∧ Aside0 (wc.heap[gb600]? = some (.cells #[(.slice Ao40 t592.length co40), .int .i64 t595, (.slice Ao43 t596.length co43), .int .i64 t599] 70 (0, 0))) ∧ Aside0 (wc.heap[gb612]? = some (.cells #[(.slice Ao51 t604.length co51), .int .i64 t607, (.slice Ao55 t608.length co55), .int .i64 t611] 70 (0, 0))) ∧ Aside0 (wc.heap[gb621]? = some (.cells #[(.slice Ao59 t613.length co59), .int .i64 t616, (.slice Ao64 t617.length co64), .int .i64 t620] 70 (0, 0))) ∧ Aside0 (Below w.heap.size w wc))
   case first =>
    have H := HC27.out
    clear HC27
    by_cases c78 : t638 < 0
    ·
     rw [if_pos c78] at H
     have c78b0 : decide (t638 < 0) = true := decide_eq_true c78
     clear c78
     (first | rw [c78b0] | (simp only [i64_w, i32_w]; rw [c78b0]) | skip)
     have H' := Aside0.mk H
     clear H
     go_wp2
     go_meet
     case rel => exact ⟨_, (true), rS, H', ⟨by first | omega | exact Nat.le_refl _⟩, ⟨by (with_reducible repeat (first | apply Kd.R_alloc | apply Kd.R_drewN | apply Kd.R_drew)); exact Kd.R_mono HO594.out (fun _ hk => ⟨hk.2.2.1, ⟨hk.2.2.2.1, ⟨hk.2.2.2.2.1, ⟨hk.2.2.2.2.2.1, hk.2.2.2.2.2.2.1⟩⟩⟩⟩)⟩, ⟨by (with_reducible repeat (first | apply Kd.R_alloc | apply Kd.R_drewN | apply Kd.R_drew)); exact Kd.R_mono HO598.out (fun _ hk => ⟨hk.2.2.1, ⟨hk.2.2.2.1, ⟨hk.2.2.2.2.1, ⟨hk.2.2.2.2.2.1, hk.2.2.2.2.2.2.1⟩⟩⟩⟩)⟩, ⟨by (with_reducible repeat (first | apply Kd.R_alloc | apply Kd.R_drewN | apply Kd.R_drew)); exact Kd.R_mono HO606.out (fun _ hk => ⟨hk.2.2.1, ⟨hk.2.2.2.1, ⟨hk.2.2.2.2.1, ⟨hk.2.2.2.2.2.1, hk.2.2.2.2.2.2.1⟩⟩⟩⟩)⟩, ⟨by (with_reducible repeat (first | apply Kd.R_alloc | apply Kd.R_drewN | apply Kd.R_drew)); exact Kd.R_mono HO610.out (fun _ hk => ⟨hk.2.2.1, ⟨hk.2.2.2.1, ⟨hk.2.2.2.2.1, ⟨hk.2.2.2.2.2.1, hk.2.2.2.2.2.2.1⟩⟩⟩⟩)⟩, ⟨by (with_reducible repeat (first | apply Kd.R_alloc | apply Kd.R_drewN | apply Kd.R_drew)); exact Kd.R_mono HO615.out (fun _ hk => ⟨hk.2.2.1, ⟨hk.2.2.2.1, ⟨hk.2.2.2.2.1, ⟨hk.2.2.2.2.2.1, hk.2.2.2.2.2.2.1⟩⟩⟩⟩)⟩, ⟨by (with_reducible repeat (first | apply Kd.R_alloc | apply Kd.R_drewN | apply Kd.R_drew)); exact Kd.R_mono HO619.out (fun _ hk => ⟨hk.2.2.1, ⟨hk.2.2.2.1, ⟨hk.2.2.2.2.1, ⟨hk.2.2.2.2.2.1, hk.2.2.2.2.2.2.1⟩⟩⟩⟩)⟩, ⟨bK BK578⟩, ⟨bK BK600⟩, ⟨bK BK612⟩, ⟨bK BK621⟩, ⟨bG⟩⟩
    ·
     rw [if_neg c78] at H
     have c78b0 : decide (t638 < 0) = false := decide_eq_false c78
     clear c78
     (first | rw [c78b0] | (simp only [i64_w, i32_w]; rw [c78b0]) | skip)
     obtain ⟨t641, A79, H⟩ := bindE H
     try dsimp only at H
     have H' := Aside0.mk H
     clear H
     have hnb80 := NB621_578.out
     have hnc80 := NB578_621.out
     have hnb81 := NB621_600.out
     have hnc81 := NB600_621.out
     have hnb82 := NB621_612.out
     have hnc82 := NB612_621.out
     obtain ⟨hcz83_0, hcz83_1, hcz83_2, hcz83_3, hfz83_0, hfz83_1, hfz83_2, hfz83_3⟩ := blkc4 BK621
     have hnb84 := NB600_578.out
     have hnc84 := NB578_600.out
     have hnb85 := NB600_612.out
     have hnc85 := NB612_600.out
     obtain ⟨hcz86_0, hcz86_1, hcz86_2, hcz86_3, hfz86_0, hfz86_1, hfz86_2, hfz86_3⟩ := blkc4 BK600
     go_wp2_with (first | (go_at_call 58; (with_reducible refine (laws_eqControl.calls k _ _ t613 t616 _ _ t617 t620 _ _ t592 t595 _ _ t596 t599 t641 _ ?side1 ?side2 ?side3 ?side4 ?side5 ?side6 ?side7 ?side8 A79.out).mono ?_); (case side1 => exact cO ⟨(Kd.R_reads' HO615.out).2.2⟩); (case side2 => exact (Kd.R_reads' HO615.out).2.1); (case side3 => exact cO ⟨(Kd.R_reads' HO619.out).2.2⟩); (case side4 => exact (Kd.R_reads' HO619.out).2.1); (case side5 => exact cO ⟨(Kd.R_reads' HO594.out).2.2⟩); (case side6 => exact (Kd.R_reads' HO594.out).2.1); (case side7 => exact cO ⟨(Kd.R_reads' HO598.out).2.2⟩); (case side8 => exact (Kd.R_reads' HO598.out).2.1); rintro e w87 ⟨rfl, hb⟩; replace HO583 := Aside0.mk (Kd.R_below (rK HO583) hb); replace HO586 := Aside0.mk (Kd.R_below (rK HO586) hb); replace HO590 := Aside0.mk (Kd.R_below (rK HO590) hb); replace HO594 := Aside0.mk (Kd.R_below (rK HO594) hb); replace HO598 := Aside0.mk (Kd.R_below (rK HO598) hb); replace HO603 := Aside0.mk (Kd.R_below (rK HO603) hb); replace HO606 := Aside0.mk (Kd.R_below (rK HO606) hb); replace HO610 := Aside0.mk (Kd.R_below (rK HO610) hb); replace HO615 := Aside0.mk (Kd.R_below (rK HO615) hb); replace HO619 := Aside0.mk (Kd.R_below (rK HO619) hb); replace HO625 := Aside0.mk (Kd.R_below (rK HO625) hb); replace HO629 := Aside0.mk (Kd.R_below (rK HO629) hb); replace HO633 := Aside0.mk (Kd.R_below (rK HO633) hb); replace BK578 := Aside0.mk (blk_below (g := gb578) (bK BK578) hb); replace BK600 := Aside0.mk (blk_below (g := gb600) (bK BK600) hb); replace BK612 := Aside0.mk (blk_below (g := gb612) (bK BK612) hb); replace BK621 := Aside0.mk (blk_below (g := gb621) (bK BK621) hb); replace HB := Aside0.mk (below_step bG hb); (try clear hb); (try clear hb2); (try clear hk); (try clear hi)))
     go_meet
     case rel => exact ⟨_, (!t641), rS, H', ⟨by first | omega | exact Nat.le_refl _⟩, ⟨by (with_reducible repeat (first | apply Kd.R_alloc | apply Kd.R_drewN | apply Kd.R_drew)); exact Kd.R_mono HO594.out (fun _ hk => ⟨hk.2.2.1, ⟨hk.2.2.2.1, ⟨hk.2.2.2.2.1, ⟨hk.2.2.2.2.2.1, hk.2.2.2.2.2.2.1⟩⟩⟩⟩)⟩, ⟨by (with_reducible repeat (first | apply Kd.R_alloc | apply Kd.R_drewN | apply Kd.R_drew)); exact Kd.R_mono HO598.out (fun _ hk => ⟨hk.2.2.1, ⟨hk.2.2.2.1, ⟨hk.2.2.2.2.1, ⟨hk.2.2.2.2.2.1, hk.2.2.2.2.2.2.1⟩⟩⟩⟩)⟩, ⟨by (with_reducible repeat (first | apply Kd.R_alloc | apply Kd.R_drewN | apply Kd.R_drew)); exact Kd.R_mono HO606.out (fun _ hk => ⟨hk.2.2.1, ⟨hk.2.2.2.1, ⟨hk.2.2.2.2.1, ⟨hk.2.2.2.2.2.1, hk.2.2.2.2.2.2.1⟩⟩⟩⟩)⟩, ⟨by (with_reducible repeat (first | apply Kd.R_alloc | apply Kd.R_drewN | apply Kd.R_drew)); exact Kd.R_mono HO610.out (fun _ hk => ⟨hk.2.2.1, ⟨hk.2.2.2.1, ⟨hk.2.2.2.2.1, ⟨hk.2.2.2.2.2.1, hk.2.2.2.2.2.2.1⟩⟩⟩⟩)⟩, ⟨by (with_reducible repeat (first | apply Kd.R_alloc | apply Kd.R_drewN | apply Kd.R_drew)); exact Kd.R_mono HO615.out (fun _ hk => ⟨hk.2.2.1, ⟨hk.2.2.2.1, ⟨hk.2.2.2.2.1, ⟨hk.2.2.2.2.2.1, hk.2.2.2.2.2.2.1⟩⟩⟩⟩)⟩, ⟨by (with_reducible repeat (first | apply Kd.R_alloc | apply Kd.R_drewN | apply Kd.R_drew)); exact Kd.R_mono HO619.out (fun _ hk => ⟨hk.2.2.1, ⟨hk.2.2.2.1, ⟨hk.2.2.2.2.1, ⟨hk.2.2.2.2.2.1, hk.2.2.2.2.2.2.1⟩⟩⟩⟩)⟩, ⟨bK BK578⟩, ⟨bK BK600⟩, ⟨bK BK612⟩, ⟨bK BK621⟩, ⟨bG⟩⟩
   case rest =>
    clear HC27
    try clear c1
    try clear p2
    try clear c3
    try clear c4
    try clear c5
    try clear c6
    try clear c7
    try clear c8
    try clear c34
    try clear c37
    try clear c46
    try clear c47
    try clear c52
    try clear c53
    try clear c56
    try clear c58
    try clear c60
    try clear c61
    try clear c62
    try clear c63
    try clear c64
    try clear c65
    try clear c78
    try clear c78b0
    try clear c80
    try clear c81
    try clear c82
    try clear c84
    try clear c85
    try clear hcz48_0
    try clear hcz48_1
    try clear hcz48_2
    try clear hcz48_3
    try clear hcz54_0
    try clear hcz54_1
    try clear hcz54_2
    try clear hcz54_3
    try clear hcz63_0
    try clear hcz63_1
    try clear hcz63_2
    try clear hcz63_3
    try clear hcz65_0
    try clear hcz65_1
    try clear hcz65_2
    try clear hcz65_3
    try clear hcz76_0
    try clear hcz76_1
    try clear hcz76_2
    try clear hcz76_3
    try clear hcz83_0
    try clear hcz83_1
    try clear hcz83_2
    try clear hcz83_3
    try clear hcz86_0
    try clear hcz86_1
    try clear hcz86_2
    try clear hcz86_3
    try clear hfz48_0
    try clear hfz48_1
    try clear hfz48_2
    try clear hfz48_3
    try clear hfz54_0
    try clear hfz54_1
    try clear hfz54_2
    try clear hfz54_3
    try clear hfz63_0
    try clear hfz63_1
    try clear hfz63_2
    try clear hfz63_3
    try clear hfz65_0
    try clear hfz65_1
    try clear hfz65_2
    try clear hfz65_3
    try clear hfz76_0
    try clear hfz76_1
    try clear hfz76_2
    try clear hfz76_3
    try clear hfz83_0
    try clear hfz83_1
    try clear hfz83_2
    try clear hfz83_3
    try clear hfz86_0
    try clear hfz86_1
    try clear hfz86_2
    try clear hfz86_3
    obtain ⟨kq, x63_26, rfl, HA, HJ26, HO_601000, HO_601002, HO_613000, HO_613002, HO_622000, HO_622002, BK578, BK600, BK612, BK621, HB⟩ := hcut
    have hl613000_26 := (Kd.R_reads' HO_613000.out).1
    rw [hl613000_26] at HO_613000
    (try simp only [hl613000_26])
    (try simp only [hl613000_26] at BK578)
    (try simp only [hl613000_26] at BK600)
    (try simp only [hl613000_26] at BK612)
    (try simp only [hl613000_26] at BK621)
    (try simp only [hl613000_26] at HO_601000)
    (try simp only [hl613000_26] at HO_601002)
    (try simp only [hl613000_26] at HO_613002)
    (try simp only [hl613000_26] at HO_622000)
    (try simp only [hl613000_26] at HO_622002)
    have hl613002_26 := (Kd.R_reads' HO_613002.out).1
    rw [hl613002_26] at HO_613002
    (try simp only [hl613002_26])
    (try simp only [hl613002_26] at BK578)
    (try simp only [hl613002_26] at BK600)
    (try simp only [hl613002_26] at BK612)
    (try simp only [hl613002_26] at BK621)
    (try simp only [hl613002_26] at HO_601000)
    (try simp only [hl613002_26] at HO_601002)
    (try simp only [hl613002_26] at HO_613000)
    (try simp only [hl613002_26] at HO_622000)
    (try simp only [hl613002_26] at HO_622002)
    cases kq with
    | zero => exact absurd HA.out (by simp [laws_FnExactTickControl.j0])
    | succ kj26 =>
     have H := HA.out
     clear HA
     simp only [laws_FnExactTickControl.j0] at H
     have c88 := ifN' H
     replace H := ifT' H
     replace c88 := Bool.eq_false_iff.mpr c88
     subst c88
     obtain ⟨⟨t642, t643, t644⟩, A89, H⟩ := bindE H
     try dsimp only at H
     obtain ⟨t645, A90, H⟩ := bindE H
     try dsimp only at H
     have c91 : ¬ (t645 < 0) := ifN' H
     replace H := ifT' H
     have c91b0 : decide (t645 < 0) = false := decide_eq_false c91
     clear c91
     have c92 : t645 = t642 := ifN H
     replace H := ifT H
     have c92b0 : (t645 == t642) = true := beq_iff_eq.mpr c92
     have c92b1 : (t645 != t642) = false := bne_eq_false_iff_eq.mpr c92
     clear c92
     obtain ⟨t646, A93, H⟩ := bindE H
     try dsimp only at H
     obtain ⟨⟨t649, t652, t653, t656⟩, A94, H⟩ := bindE H
     try dsimp only at H
     obtain ⟨⟨t657, t660, t661, t664⟩, A95, H⟩ := bindE H
     try dsimp only at H
     obtain ⟨t666, A96, H⟩ := bindE H
     try dsimp only at H
     have c97 := ifN H
     replace H := ifT H
     subst c97
     obtain ⟨t667, A98, H⟩ := bindE H
     try dsimp only at H
     have c99 : ¬ (t667 < 0) := ifN' H
     replace H := ifT' H
     have c99b0 : decide (t667 < 0) = false := decide_eq_false c99
     clear c99
     have c100 : t667 = t642 := ifN H
     replace H := ifT H
     have c100b0 : (t667 == t642) = true := beq_iff_eq.mpr c100
     have c100b1 : (t667 != t642) = false := bne_eq_false_iff_eq.mpr c100
     clear c100
     obtain rfl := Option.some.inj H
     have hnb101 := NB621_578.out
     have hnc101 := NB578_621.out
     have hnb102 := NB621_600.out
     have hnc102 := NB600_621.out
     have hnb103 := NB621_612.out
     have hnc103 := NB612_621.out
     obtain ⟨hcz104_0, hcz104_1, hcz104_2, hcz104_3, hfz104_0, hfz104_1, hfz104_2, hfz104_3⟩ := blkc4 BK621
     try go_wp2_with (first | ((with_reducible refine gate_callee (f := 63) rfl ?_); refine gL (some 66) Try.func63 #[.agg #[.slice Ao59 t613.length co59, .int .i64 t616, .slice Ao64 t617.length co64, .int .i64 t620], .int .i64 1] ?_; (with_reducible refine (laws_markControl.calls kj26 (fun k_ => some k_ = (.slice Ao59 t613.length co59 : Value).ownBlock) (.slice Ao59 t613.length co59) t613 t616 (fun k_ => some k_ = (.slice Ao64 t617.length co64 : Value).ownBlock) (.slice Ao64 t617.length co64) t617 t620 1 t642 t643 t644 w _ ?side1 ?side2 ?side3 ?side4 ?side5 A89.out).mono ?_); (case side1 => repeat (first | (with_reducible first | exact HB.out | apply below_alloc | apply pw_below_drewN | apply below_drew1 | refine below_set ?_ GE578.out | refine below_set ?_ GE600.out | refine below_set ?_ GE612.out | refine below_set ?_ GE621.out) | exact HB.out)); (case side2 => exact Kd.R_tight rfl HO_622000.out); (case side3 => exact fun k_ e_ => (HO_622000.out.1 k_ e_.symm).2.2.2.2); (case side4 => exact Kd.R_tight rfl HO_622002.out); (case side5 => exact fun k_ e_ => (HO_622002.out.1 k_ e_.symm).2.2.2.2); rintro e w105 ⟨rfl, hy0, hy1, hb, hkp⟩; refine ⟨_, rfl, ?_⟩; replace HO_601000 := Aside0.mk (Kd.R_mono (ok' := fun k_ => some k_ ≠ (.slice Ao43 t596.length co43 : Value).ownBlock ∧ some k_ ≠ (.slice Ao51 t639.length co51 : Value).ownBlock ∧ some k_ ≠ (.slice Ao55 t640.length co55 : Value).ownBlock ∧ some k_ ≠ (.slice Ao59 t613.length co59 : Value).ownBlock ∧ some k_ ≠ (.slice Ao64 t617.length co64 : Value).ownBlock) (Kd.R_keptB (HO_601000.out) hkp (fun k_ hk_ hs_ => Or.elim hs_ (fun e_ => (hk_.2.2.2.1) e_) (fun e_ => (hk_.2.2.2.2) e_))) (fun k_ hk_ => ⟨hk_.1.1, hk_.1.2.1, hk_.1.2.2.1, hk_.1.2.2.2.1, hk_.1.2.2.2.2⟩)); replace HO_601002 := Aside0.mk (Kd.R_mono (ok' := fun k_ => some k_ ≠ (.slice Ao40 t592.length co40 : Value).ownBlock ∧ some k_ ≠ (.slice Ao51 t639.length co51 : Value).ownBlock ∧ some k_ ≠ (.slice Ao55 t640.length co55 : Value).ownBlock ∧ some k_ ≠ (.slice Ao59 t613.length co59 : Value).ownBlock ∧ some k_ ≠ (.slice Ao64 t617.length co64 : Value).ownBlock) (Kd.R_keptB (HO_601002.out) hkp (fun k_ hk_ hs_ => Or.elim hs_ (fun e_ => (hk_.2.2.2.1) e_) (fun e_ => (hk_.2.2.2.2) e_))) (fun k_ hk_ => ⟨hk_.1.1, hk_.1.2.1, hk_.1.2.2.1, hk_.1.2.2.2.1, hk_.1.2.2.2.2⟩)); replace HO_613000 := Aside0.mk (Kd.R_mono (ok' := fun k_ => some k_ ≠ (.slice Ao40 t592.length co40 : Value).ownBlock ∧ some k_ ≠ (.slice Ao43 t596.length co43 : Value).ownBlock ∧ some k_ ≠ (.slice Ao55 t640.length co55 : Value).ownBlock ∧ some k_ ≠ (.slice Ao59 t613.length co59 : Value).ownBlock ∧ some k_ ≠ (.slice Ao64 t617.length co64 : Value).ownBlock) (Kd.R_keptB (HO_613000.out) hkp (fun k_ hk_ hs_ => Or.elim hs_ (fun e_ => (hk_.2.2.2.1) e_) (fun e_ => (hk_.2.2.2.2) e_))) (fun k_ hk_ => ⟨hk_.1.1, hk_.1.2.1, hk_.1.2.2.1, hk_.1.2.2.2.1, hk_.1.2.2.2.2⟩)); replace HO_613002 := Aside0.mk (Kd.R_mono (ok' := fun k_ => some k_ ≠ (.slice Ao40 t592.length co40 : Value).ownBlock ∧ some k_ ≠ (.slice Ao43 t596.length co43 : Value).ownBlock ∧ some k_ ≠ (.slice Ao51 t639.length co51 : Value).ownBlock ∧ some k_ ≠ (.slice Ao59 t613.length co59 : Value).ownBlock ∧ some k_ ≠ (.slice Ao64 t617.length co64 : Value).ownBlock) (Kd.R_keptB (HO_613002.out) hkp (fun k_ hk_ hs_ => Or.elim hs_ (fun e_ => (hk_.2.2.2.1) e_) (fun e_ => (hk_.2.2.2.2) e_))) (fun k_ hk_ => ⟨hk_.1.1, hk_.1.2.1, hk_.1.2.2.1, hk_.1.2.2.2.1, hk_.1.2.2.2.2⟩)); replace BK578 := Aside0.mk (blk_kept (bK BK578) hkp (fun hs_ => Or.elim hs_ (fun e_ => (fun e_ => (Kd.R_ne HO_622000.out BK578.out (by decide)) e_) e_) (fun e_ => (fun e_ => (Kd.R_ne HO_622002.out BK578.out (by decide)) e_) e_))); replace BK600 := Aside0.mk (blk_kept (bK BK600) hkp (fun hs_ => Or.elim hs_ (fun e_ => (fun e_ => (Kd.R_ne HO_622000.out BK600.out (by decide)) e_) e_) (fun e_ => (fun e_ => (Kd.R_ne HO_622002.out BK600.out (by decide)) e_) e_))); replace BK612 := Aside0.mk (blk_kept (bK BK612) hkp (fun hs_ => Or.elim hs_ (fun e_ => (fun e_ => (Kd.R_ne HO_622000.out BK612.out (by decide)) e_) e_) (fun e_ => (fun e_ => (Kd.R_ne HO_622002.out BK612.out (by decide)) e_) e_))); replace BK621 := Aside0.mk (blk_kept (bK BK621) hkp (fun hs_ => Or.elim hs_ (fun e_ => (fun e_ => (Kd.R_ne HO_622000.out BK621.out (by decide)) e_) e_) (fun e_ => (fun e_ => (Kd.R_ne HO_622002.out BK621.out (by decide)) e_) e_))); replace HO_622000 := Aside0.mk (Kd.R_reok rfl hy0 (fun k_ e_ => HO_622000.out.1 k_ e_)); replace HO_622002 := Aside0.mk (Kd.R_reok rfl hy1 (fun k_ e_ => HO_622002.out.1 k_ e_)); replace HB := Aside0.mk (hb); (try clear hb); (try clear hkp); (try clear hy0); (try clear hy1); have hcz106_0 : w105.cell? ⟨gb621, 0, none⟩ = some (.slice Ao59 t613.length co59) := bC BK621 0; have hcz106_1 : w105.cell? ⟨gb621, 1, none⟩ = some (.int .i64 t616) := bC BK621 1; have hcz106_2 : w105.cell? ⟨gb621, 2, none⟩ = some (.slice Ao64 t617.length co64) := bC BK621 2; have hcz106_3 : w105.cell? ⟨gb621, 3, none⟩ = some (.int .i64 t620) := bC BK621 3; have hfz106_0 := blk_frozen BK621.out 0; have hfz106_1 := blk_frozen BK621.out 1; have hfz106_2 := blk_frozen BK621.out 2; have hfz106_3 := blk_frozen BK621.out 3) | ((with_reducible refine gate_callee (f := 66) rfl ?_); refine goesL_ (some 69) rfl rfl Try.func66 (by kernel_rfl) rfl #[.agg #[.slice Ao59 t643.length co59, .int .i64 t616, .slice Ao64 t644.length co64, .int .i64 t620], .int .i64 1] rfl (by (try simp only [List.map_toArray, List.map_cons, List.map_nil]); first | done | (rw [show t643.length = t613.length from (Kd.R_reads' HO_622000.out).1.symm, show t644.length = t617.length from (Kd.R_reads' HO_622002.out).1.symm] <;> rfl) | rfl | (simp only [List.length_drop, List.length_take]; rfl)) ?_; (with_reducible refine (laws_heldControl.calls kj26 _ _ t643 t616 _ _ t644 t620 1 t645 _ ?side1 ?side2 ?side3 ?side4 A90.out).mono ?_); (case side1 => exact cO ⟨(Kd.R_reads' HO_622000.out).2.2⟩); (case side2 => rw [show t643.length = t613.length from (Kd.R_reads' HO_622000.out).1.symm]; exact (Kd.R_reads' HO_622000.out).2.1); (case side3 => exact cO ⟨(Kd.R_reads' HO_622002.out).2.2⟩); (case side4 => rw [show t644.length = t617.length from (Kd.R_reads' HO_622002.out).1.symm]; exact (Kd.R_reads' HO_622002.out).2.1); rintro e w107 ⟨rfl, hb⟩; refine ⟨_, rfl, ?_⟩; replace HO_601000 := Aside0.mk (Kd.R_below (rK HO_601000) hb); replace HO_601002 := Aside0.mk (Kd.R_below (rK HO_601002) hb); replace HO_613000 := Aside0.mk (Kd.R_below (rK HO_613000) hb); replace HO_613002 := Aside0.mk (Kd.R_below (rK HO_613002) hb); replace HO_622000 := Aside0.mk (Kd.R_below (rK HO_622000) hb); replace HO_622002 := Aside0.mk (Kd.R_below (rK HO_622002) hb); replace BK578 := Aside0.mk (blk_below (g := gb578) (bK BK578) hb); replace BK600 := Aside0.mk (blk_below (g := gb600) (bK BK600) hb); replace BK612 := Aside0.mk (blk_below (g := gb612) (bK BK612) hb); replace BK621 := Aside0.mk (blk_below (g := gb621) (bK BK621) hb); replace HB := Aside0.mk (below_step bG hb); (try clear hb); (try clear hb2); (try clear hk); (try clear hi)))
     replace HO_601000 := Aside0.mk (Kd.R_drew HO_601000.out)
     replace HO_601002 := Aside0.mk (Kd.R_drew HO_601002.out)
     replace HO_613000 := Aside0.mk (Kd.R_drew HO_613000.out)
     replace HO_613002 := Aside0.mk (Kd.R_drew HO_613002.out)
     replace HO_622000 := Aside0.mk (Kd.R_drew HO_622000.out)
     replace HO_622002 := Aside0.mk (Kd.R_drew HO_622002.out)
     replace BK578 := Aside0.mk (blk_drew BK578.out)
     replace BK600 := Aside0.mk (blk_drew BK600.out)
     replace BK612 := Aside0.mk (blk_drew BK612.out)
     replace BK621 := Aside0.mk (blk_drew BK621.out)
     have HBo := HB
     replace HB := Aside0.mk (below_drew1 HB.out)
     refine start_ (n := 7) (S := fun w' => w'.cell? ⟨gb578, 0, none⟩ = some (.slice A1_0 l1_0.length c1_0) ∧ w'.cell? ⟨gb578, 1, none⟩ = some (.int .i64 a1_1) ∧ w'.cell? ⟨gb578, 2, none⟩ = some (.slice A1_2 l1_2.length c1_2) ∧ w'.cell? ⟨gb578, 3, none⟩ = some (.int .i64 a1_3)) (ds := []) (mb 7 0) (by kernel_rfl) rfl rfl ⟨bC BK578 0, bC BK578 1, bC BK578 2, bC BK578 3⟩ (fun hHeld => ?_)
     generalize w107.drew = w108 at HO_601000 HO_601002 HO_613000 HO_613002 HO_622000 HO_622002 BK578 BK600 BK612 BK621 HB hHeld ⊢
     refine pure_ (i := 0) (N := some 75) (v := ?_) (a' := ?_) (mb 7 1) rfl rfl (by kernel_rfl) (fun _ _ _ h => h) (Or.inl ⟨by rfl, ?_⟩) ?_ ?_
     rotate_left
     ·
      intro w'
      go_simp
      with_reducible rfl
     rotate_left
     ·
      simp only [Act.put, List.setIfInBounds_toArray, List.set_cons_zero, List.set_cons_succ, i64_w, i32_w]
      rfl
     refine take_ (i := 2) (N := some 77) (v := ?_) (a' := ?_) (mb 7 5) rfl rfl (by kernel_rfl) (fun _ _ _ h => h) (Or.inl ⟨by rfl, ?_⟩) hHeld ?_ ?_
     rotate_left
     ·
      rintro w' ⟨s0, s1, s2, s3⟩
      go_simp
      with_reducible rfl
     rotate_left
     ·
      simp only [Act.put, List.setIfInBounds_toArray, List.set_cons_zero, List.set_cons_succ, i64_w, i32_w]
      rfl
     refine join_ (σ := Value × Value × Value × Value × Value × Nat) 1 (mb 7 63) (fun s_ => [(76, s_.1), (78, .agg #[s_.2.1, .int .i64 t652, s_.2.2.1, .int .i64 t656]), (79, .agg #[s_.2.2.2.1, .int .i64 t660, s_.2.2.2.2.1, .int .i64 t664]), (13, .pointer (some ⟨s_.2.2.2.2.2, 0, none⟩))]) (fun s_ w' => (w'.cell? ⟨gb578, 0, none⟩ = some (.slice A1_0 l1_0.length c1_0) ∧ w'.cell? ⟨gb578, 1, none⟩ = some (.int .i64 a1_1) ∧ w'.cell? ⟨gb578, 2, none⟩ = some (.slice A1_2 l1_2.length c1_2) ∧ w'.cell? ⟨gb578, 3, none⟩ = some (.int .i64 a1_3)) ∧ (Kd.R k90 90 w' w.heap.size (fun _ => True) s_.1 t646) ∧ (Kd.R (Kd.int .i64) 3 w' w.heap.size (fun k_ => some k_ ≠ (s_.2.2.1 : Value).ownBlock ∧ some k_ ≠ (s_.2.2.2.1 : Value).ownBlock ∧ some k_ ≠ (s_.2.2.2.2.1 : Value).ownBlock ∧ some k_ ≠ (.slice Ao40 t592.length co40 : Value).ownBlock ∧ some k_ ≠ (.slice Ao43 t596.length co43 : Value).ownBlock ∧ some k_ ≠ (.slice Ao51 t639.length co51 : Value).ownBlock ∧ some k_ ≠ (.slice Ao55 t640.length co55 : Value).ownBlock ∧ some k_ ≠ (.slice Ao59 t613.length co59 : Value).ownBlock ∧ some k_ ≠ (.slice Ao64 t617.length co64 : Value).ownBlock) s_.2.1 t649) ∧ (Kd.R (Kd.int .i64) 3 w' w.heap.size (fun k_ => some k_ ≠ (s_.2.1 : Value).ownBlock ∧ some k_ ≠ (s_.2.2.2.1 : Value).ownBlock ∧ some k_ ≠ (s_.2.2.2.2.1 : Value).ownBlock ∧ some k_ ≠ (.slice Ao40 t592.length co40 : Value).ownBlock ∧ some k_ ≠ (.slice Ao43 t596.length co43 : Value).ownBlock ∧ some k_ ≠ (.slice Ao51 t639.length co51 : Value).ownBlock ∧ some k_ ≠ (.slice Ao55 t640.length co55 : Value).ownBlock ∧ some k_ ≠ (.slice Ao59 t613.length co59 : Value).ownBlock ∧ some k_ ≠ (.slice Ao64 t617.length co64 : Value).ownBlock) s_.2.2.1 t653) ∧ (Kd.R (Kd.int .i64) 3 w' w.heap.size (fun k_ => some k_ ≠ (s_.2.1 : Value).ownBlock ∧ some k_ ≠ (s_.2.2.1 : Value).ownBlock ∧ some k_ ≠ (s_.2.2.2.2.1 : Value).ownBlock ∧ some k_ ≠ (.slice Ao40 t592.length co40 : Value).ownBlock ∧ some k_ ≠ (.slice Ao43 t596.length co43 : Value).ownBlock ∧ some k_ ≠ (.slice Ao51 t639.length co51 : Value).ownBlock ∧ some k_ ≠ (.slice Ao55 t640.length co55 : Value).ownBlock ∧ some k_ ≠ (.slice Ao59 t613.length co59 : Value).ownBlock ∧ some k_ ≠ (.slice Ao64 t617.length co64 : Value).ownBlock) s_.2.2.2.1 t657) ∧ (Kd.R (Kd.int .i64) 3 w' w.heap.size (fun k_ => some k_ ≠ (s_.2.1 : Value).ownBlock ∧ some k_ ≠ (s_.2.2.1 : Value).ownBlock ∧ some k_ ≠ (s_.2.2.2.1 : Value).ownBlock ∧ some k_ ≠ (.slice Ao40 t592.length co40 : Value).ownBlock ∧ some k_ ≠ (.slice Ao43 t596.length co43 : Value).ownBlock ∧ some k_ ≠ (.slice Ao51 t639.length co51 : Value).ownBlock ∧ some k_ ≠ (.slice Ao55 t640.length co55 : Value).ownBlock ∧ some k_ ≠ (.slice Ao59 t613.length co59 : Value).ownBlock ∧ some k_ ≠ (.slice Ao64 t617.length co64 : Value).ownBlock) s_.2.2.2.2.1 t661) ∧ (Kd.R (Kd.int .i64) 3 w' w.heap.size (fun k_ => some k_ ≠ (s_.2.1 : Value).ownBlock ∧ some k_ ≠ (s_.2.2.1 : Value).ownBlock ∧ some k_ ≠ (s_.2.2.2.1 : Value).ownBlock ∧ some k_ ≠ (s_.2.2.2.2.1 : Value).ownBlock ∧ some k_ ≠ (.slice Ao43 t596.length co43 : Value).ownBlock ∧ some k_ ≠ (.slice Ao51 t639.length co51 : Value).ownBlock ∧ some k_ ≠ (.slice Ao55 t640.length co55 : Value).ownBlock ∧ some k_ ≠ (.slice Ao59 t613.length co59 : Value).ownBlock ∧ some k_ ≠ (.slice Ao64 t617.length co64 : Value).ownBlock) (.slice Ao40 t592.length co40) t592) ∧ (Kd.R (Kd.int .i64) 3 w' w.heap.size (fun k_ => some k_ ≠ (s_.2.1 : Value).ownBlock ∧ some k_ ≠ (s_.2.2.1 : Value).ownBlock ∧ some k_ ≠ (s_.2.2.2.1 : Value).ownBlock ∧ some k_ ≠ (s_.2.2.2.2.1 : Value).ownBlock ∧ some k_ ≠ (.slice Ao40 t592.length co40 : Value).ownBlock ∧ some k_ ≠ (.slice Ao51 t639.length co51 : Value).ownBlock ∧ some k_ ≠ (.slice Ao55 t640.length co55 : Value).ownBlock ∧ some k_ ≠ (.slice Ao59 t613.length co59 : Value).ownBlock ∧ some k_ ≠ (.slice Ao64 t617.length co64 : Value).ownBlock) (.slice Ao43 t596.length co43) t596) ∧ (Kd.R (Kd.int .i64) 3 w' w.heap.size (fun k_ => some k_ ≠ (s_.2.1 : Value).ownBlock ∧ some k_ ≠ (s_.2.2.1 : Value).ownBlock ∧ some k_ ≠ (s_.2.2.2.1 : Value).ownBlock ∧ some k_ ≠ (s_.2.2.2.2.1 : Value).ownBlock ∧ some k_ ≠ (.slice Ao40 t592.length co40 : Value).ownBlock ∧ some k_ ≠ (.slice Ao43 t596.length co43 : Value).ownBlock ∧ some k_ ≠ (.slice Ao55 t640.length co55 : Value).ownBlock ∧ some k_ ≠ (.slice Ao59 t613.length co59 : Value).ownBlock ∧ some k_ ≠ (.slice Ao64 t617.length co64 : Value).ownBlock) (.slice Ao51 t639.length co51) t639) ∧ (Kd.R (Kd.int .i64) 3 w' w.heap.size (fun k_ => some k_ ≠ (s_.2.1 : Value).ownBlock ∧ some k_ ≠ (s_.2.2.1 : Value).ownBlock ∧ some k_ ≠ (s_.2.2.2.1 : Value).ownBlock ∧ some k_ ≠ (s_.2.2.2.2.1 : Value).ownBlock ∧ some k_ ≠ (.slice Ao40 t592.length co40 : Value).ownBlock ∧ some k_ ≠ (.slice Ao43 t596.length co43 : Value).ownBlock ∧ some k_ ≠ (.slice Ao51 t639.length co51 : Value).ownBlock ∧ some k_ ≠ (.slice Ao59 t613.length co59 : Value).ownBlock ∧ some k_ ≠ (.slice Ao64 t617.length co64 : Value).ownBlock) (.slice Ao55 t640.length co55) t640) ∧ (Kd.R (Kd.int .i64) 3 w' w.heap.size (fun k_ => some k_ ≠ (s_.2.1 : Value).ownBlock ∧ some k_ ≠ (s_.2.2.1 : Value).ownBlock ∧ some k_ ≠ (s_.2.2.2.1 : Value).ownBlock ∧ some k_ ≠ (s_.2.2.2.2.1 : Value).ownBlock ∧ some k_ ≠ (.slice Ao40 t592.length co40 : Value).ownBlock ∧ some k_ ≠ (.slice Ao43 t596.length co43 : Value).ownBlock ∧ some k_ ≠ (.slice Ao51 t639.length co51 : Value).ownBlock ∧ some k_ ≠ (.slice Ao55 t640.length co55 : Value).ownBlock ∧ some k_ ≠ (.slice Ao64 t617.length co64 : Value).ownBlock) (.slice Ao59 t613.length co59) t643) ∧ (Kd.R (Kd.int .i64) 3 w' w.heap.size (fun k_ => some k_ ≠ (s_.2.1 : Value).ownBlock ∧ some k_ ≠ (s_.2.2.1 : Value).ownBlock ∧ some k_ ≠ (s_.2.2.2.1 : Value).ownBlock ∧ some k_ ≠ (s_.2.2.2.2.1 : Value).ownBlock ∧ some k_ ≠ (.slice Ao40 t592.length co40 : Value).ownBlock ∧ some k_ ≠ (.slice Ao43 t596.length co43 : Value).ownBlock ∧ some k_ ≠ (.slice Ao51 t639.length co51 : Value).ownBlock ∧ some k_ ≠ (.slice Ao55 t640.length co55 : Value).ownBlock ∧ some k_ ≠ (.slice Ao59 t613.length co59 : Value).ownBlock) (.slice Ao64 t617.length co64) t644) ∧ (w'.heap[gb578]? = some (.cells #[.slice A1_0 l1_0.length c1_0, .int .i64 a1_1, .slice A1_2 l1_2.length c1_2, .int .i64 a1_3] 67 (0, 0))) ∧ (w'.heap[gb600]? = some (.cells #[.slice Ao40 t592.length co40, .int .i64 t595, .slice Ao43 t596.length co43, .int .i64 t599] 70 (0, 0))) ∧ (w'.heap[gb612]? = some (.cells #[.slice Ao51 t639.length co51, .int .i64 t607, .slice Ao55 t640.length co55, .int .i64 t611] 70 (0, 0))) ∧ (w'.heap[gb621]? = some (.cells #[.slice Ao59 t613.length co59, .int .i64 t616, .slice Ao64 t617.length co64, .int .i64 t620] 70 (0, 0))) ∧ (w'.heap[s_.2.2.2.2.2]? = some (.cells #[.slice none 0 0, .int .i64 0, .slice none 0 0, .int .i64 0] 70 (0, 0))) ∧ (w.heap.size ≤ s_.2.2.2.2.2) ∧ (w.heap.size ≤ s_.2.2.2.2.2) ∧ (gb578 ≠ s_.2.2.2.2.2) ∧ (s_.2.2.2.2.2 ≠ gb578) ∧ (gb600 ≠ s_.2.2.2.2.2) ∧ (s_.2.2.2.2.2 ≠ gb600) ∧ (gb612 ≠ s_.2.2.2.2.2) ∧ (s_.2.2.2.2.2 ≠ gb612) ∧ (gb621 ≠ s_.2.2.2.2.2) ∧ (s_.2.2.2.2.2 ≠ gb621) ∧ (Below w.heap.size w w')) ?_ ?_
     rotate_left
     ·
      intro hCont
      refine two_ (i := 1) (j := 5) (Ni := some 76) (Nj := some 13) (mb 7 7) (mb 7 37) rfl rfl rfl rfl (by kernel_rfl) (by decide) (by decide) (fun K hK => ?_) (fun K hK => ?_)
      ·
       skip
       refine gA Try.func34 #[.slice A0 l0.length c0] ?_
       with_reducible refine (laws_toPathS.calls kj26 _ _ l0 t646 _ ?side1 ?side2 A93.out).mono ?_
       (case side1 => exact cB HR0)
       (case side2 => exact HC0.out)
       rintro e w109 ⟨v647, rfl, ho0, hb⟩
       refine ⟨_, rfl, ?_⟩
       replace HO_601000 := Aside0.mk (Kd.R_below (rK HO_601000) hb)
       replace HO_601002 := Aside0.mk (Kd.R_below (rK HO_601002) hb)
       replace HO_613000 := Aside0.mk (Kd.R_below (rK HO_613000) hb)
       replace HO_613002 := Aside0.mk (Kd.R_below (rK HO_613002) hb)
       replace HO_622000 := Aside0.mk (Kd.R_below (rK HO_622000) hb)
       replace HO_622002 := Aside0.mk (Kd.R_below (rK HO_622002) hb)
       have HO648 := Aside0.mk (Kd.R_lower ho0 (below_size bG))
       replace BK578 := Aside0.mk (blk_below (g := gb578) (bK BK578) hb)
       replace BK600 := Aside0.mk (blk_below (g := gb600) (bK BK600) hb)
       replace BK612 := Aside0.mk (blk_below (g := gb612) (bK BK612) hb)
       replace BK621 := Aside0.mk (blk_below (g := gb621) (bK BK621) hb)
       replace HB := Aside0.mk (below_step bG hb)
       (try clear hb)
       (try clear hb2)
       (try clear hk)
       (try clear hi)
       (try clear ho0)
       refine hK.out _ _ ⟨bC BK578 0, bC BK578 1, bC BK578 2, bC BK578 3⟩ (fun hHeld => ?_)
       clear hK K
       refine nB ?_
       refine two_ (i := 3) (j := 5) (Ni := some 78) (Nj := some 13) (mb 7 15) (mb 7 39) rfl rfl rfl rfl (by kernel_rfl) (by decide) (by decide) (fun K hK => ?_) (fun K hK => ?_)
       ·
        skip
        refine gA Try.func56 #[.agg #[.slice A1_0 l1_0.length c1_0, .int .i64 a1_1, .slice A1_2 l1_2.length c1_2, .int .i64 a1_3]] ?_
        with_reducible refine (laws_toControl.calls kj26 _ _ l1_0 a1_1 _ _ l1_2 a1_3 t649 t652 t653 t656 _ ?side1 ?side2 ?side3 ?side4 A94.out).mono ?_
        (case side1 => exact cB HR1_0)
        (case side2 => exact HC1_0.out)
        (case side3 => exact cB HR1_2)
        (case side4 => exact HC1_2.out)
        rintro e w110 ⟨v650, v654, rfl, ho0, ho1, hb⟩
        refine ⟨_, rfl, ?_⟩
        replace HO648 := Aside0.mk (Kd.R_below (rK HO648) hb)
        have HO651 := Aside0.mk (Kd.R_lower (Kd.R_new' (Kd.R_new' (Kd.R_new' (Kd.R_new' (Kd.R_new' (Kd.R_new' ho0 (Kd.R_lt (rK HO_601000))) (Kd.R_lt (rK HO_601002))) (Kd.R_lt (rK HO_613000))) (Kd.R_lt (rK HO_613002))) (Kd.R_lt (rK HO_622000))) (Kd.R_lt (rK HO_622002))) (below_size bG))
        have HO655 := Aside0.mk (Kd.R_lower (Kd.R_new' (Kd.R_new' (Kd.R_new' (Kd.R_new' (Kd.R_new' (Kd.R_new' ho1 (Kd.R_lt (rK HO_601000))) (Kd.R_lt (rK HO_601002))) (Kd.R_lt (rK HO_613000))) (Kd.R_lt (rK HO_613002))) (Kd.R_lt (rK HO_622000))) (Kd.R_lt (rK HO_622002))) (below_size bG))
        replace HO_601000 := Aside0.mk (Kd.R_mono (Kd.R_told (Kd.R_told (Kd.R_old (rK HO_601000) hb) (Kd.R_base ho0)) (Kd.R_base ho1)) (fun _ h_ => h_.1))
        replace HO_601002 := Aside0.mk (Kd.R_mono (Kd.R_told (Kd.R_told (Kd.R_old (rK HO_601002) hb) (Kd.R_base ho0)) (Kd.R_base ho1)) (fun _ h_ => h_.1))
        replace HO_613000 := Aside0.mk (Kd.R_mono (Kd.R_told (Kd.R_told (Kd.R_old (rK HO_613000) hb) (Kd.R_base ho0)) (Kd.R_base ho1)) (fun _ h_ => h_.1))
        replace HO_613002 := Aside0.mk (Kd.R_mono (Kd.R_told (Kd.R_told (Kd.R_old (rK HO_613002) hb) (Kd.R_base ho0)) (Kd.R_base ho1)) (fun _ h_ => h_.1))
        replace HO_622000 := Aside0.mk (Kd.R_mono (Kd.R_told (Kd.R_told (Kd.R_old (rK HO_622000) hb) (Kd.R_base ho0)) (Kd.R_base ho1)) (fun _ h_ => h_.1))
        replace HO_622002 := Aside0.mk (Kd.R_mono (Kd.R_told (Kd.R_told (Kd.R_old (rK HO_622002) hb) (Kd.R_base ho0)) (Kd.R_base ho1)) (fun _ h_ => h_.1))
        replace BK578 := Aside0.mk (blk_below (g := gb578) (bK BK578) hb)
        replace BK600 := Aside0.mk (blk_below (g := gb600) (bK BK600) hb)
        replace BK612 := Aside0.mk (blk_below (g := gb612) (bK BK612) hb)
        replace BK621 := Aside0.mk (blk_below (g := gb621) (bK BK621) hb)
        replace HB := Aside0.mk (below_step bG hb)
        (try clear hb)
        (try clear hb2)
        (try clear hk)
        (try clear hi)
        (try clear ho0)
        (try clear ho1)
        obtain ⟨Ao111, co111, eo111⟩ := Kd.R_slice HO648.out
        (first | subst eo111 | (injection eo111 with f1_ f2_ f3_; have f4_ := f1_.symm; have f5_ := f3_.symm; clear f1_ f2_ f3_; subst f4_; subst f5_))
        obtain ⟨Ao112, co112, eo112⟩ := Kd.R_slice HO651.out
        (first | subst eo112 | (injection eo112 with f1_ f2_ f3_; have f4_ := f1_.symm; have f5_ := f3_.symm; clear f1_ f2_ f3_; subst f4_; subst f5_))
        obtain ⟨Ao113, co113, eo113⟩ := Kd.R_slice HO655.out
        (first | subst eo113 | (injection eo113 with f1_ f2_ f3_; have f4_ := f1_.symm; have f5_ := f3_.symm; clear f1_ f2_ f3_; subst f4_; subst f5_))
        refine hK.out _ _ ⟨bC BK578 0, bC BK578 1, bC BK578 2, bC BK578 3⟩ (fun hHeld => ?_)
        clear hK K
        refine nB ?_
        refine two_ (i := 4) (j := 5) (Ni := some 79) (Nj := some 13) (mb 7 31) (mb 7 47) rfl rfl rfl rfl (by kernel_rfl) (by decide) (by decide) (fun K hK => ?_) (fun K hK => ?_)
        ·
         skip
         refine gA Try.func65 #[.slice Ao111 t646.length co111, .agg #[.slice Ao112 t649.length co112, .int .i64 t652, .slice Ao113 t653.length co113, .int .i64 t656]] ?_
         with_reducible refine (impl_TickControl.calls kj26 _ _ t646 _ _ t649 t652 _ _ t653 t656 t657 t660 t661 t664 _ ?side1 ?side2 ?side3 ?side4 ?side5 ?side6 A95.out).mono ?_
         (case side1 => exact cO ⟨(Kd.R_reads' HO648.out).2.2⟩)
         (case side2 => exact (Kd.R_reads' HO648.out).2.1)
         (case side3 => exact cO ⟨(Kd.R_reads' HO651.out).2.2⟩)
         (case side4 => exact (Kd.R_reads' HO651.out).2.1)
         (case side5 => exact cO ⟨(Kd.R_reads' HO655.out).2.2⟩)
         (case side6 => exact (Kd.R_reads' HO655.out).2.1)
         rintro e w114 ⟨v658, v662, rfl, ho0, ho1, hb⟩
         refine ⟨_, rfl, ?_⟩
         replace HO648 := Aside0.mk (Kd.R_below (rK HO648) hb)
         have HO659 := Aside0.mk (Kd.R_lower (Kd.R_new' (Kd.R_new' (Kd.R_new' (Kd.R_new' (Kd.R_new' (Kd.R_new' (Kd.R_new' (Kd.R_new' ho0 (Kd.R_lt (rK HO_601000))) (Kd.R_lt (rK HO_601002))) (Kd.R_lt (rK HO_613000))) (Kd.R_lt (rK HO_613002))) (Kd.R_lt (rK HO_622000))) (Kd.R_lt (rK HO_622002))) (Kd.R_lt (rK HO651))) (Kd.R_lt (rK HO655))) (below_size bG))
         have HO663 := Aside0.mk (Kd.R_lower (Kd.R_new' (Kd.R_new' (Kd.R_new' (Kd.R_new' (Kd.R_new' (Kd.R_new' (Kd.R_new' (Kd.R_new' ho1 (Kd.R_lt (rK HO_601000))) (Kd.R_lt (rK HO_601002))) (Kd.R_lt (rK HO_613000))) (Kd.R_lt (rK HO_613002))) (Kd.R_lt (rK HO_622000))) (Kd.R_lt (rK HO_622002))) (Kd.R_lt (rK HO651))) (Kd.R_lt (rK HO655))) (below_size bG))
         replace HO_601000 := Aside0.mk (Kd.R_mono (Kd.R_told (Kd.R_told (Kd.R_old (rK HO_601000) hb) (Kd.R_base ho0)) (Kd.R_base ho1)) (fun _ h_ => h_.1))
         replace HO_601002 := Aside0.mk (Kd.R_mono (Kd.R_told (Kd.R_told (Kd.R_old (rK HO_601002) hb) (Kd.R_base ho0)) (Kd.R_base ho1)) (fun _ h_ => h_.1))
         replace HO_613000 := Aside0.mk (Kd.R_mono (Kd.R_told (Kd.R_told (Kd.R_old (rK HO_613000) hb) (Kd.R_base ho0)) (Kd.R_base ho1)) (fun _ h_ => h_.1))
         replace HO_613002 := Aside0.mk (Kd.R_mono (Kd.R_told (Kd.R_told (Kd.R_old (rK HO_613002) hb) (Kd.R_base ho0)) (Kd.R_base ho1)) (fun _ h_ => h_.1))
         replace HO_622000 := Aside0.mk (Kd.R_mono (Kd.R_told (Kd.R_told (Kd.R_old (rK HO_622000) hb) (Kd.R_base ho0)) (Kd.R_base ho1)) (fun _ h_ => h_.1))
         replace HO_622002 := Aside0.mk (Kd.R_mono (Kd.R_told (Kd.R_told (Kd.R_old (rK HO_622002) hb) (Kd.R_base ho0)) (Kd.R_base ho1)) (fun _ h_ => h_.1))
         replace HO651 := Aside0.mk (Kd.R_mono (Kd.R_told (Kd.R_told (Kd.R_old (rK HO651) hb) (Kd.R_base ho0)) (Kd.R_base ho1)) (fun _ h_ => h_.1))
         replace HO655 := Aside0.mk (Kd.R_mono (Kd.R_told (Kd.R_told (Kd.R_old (rK HO655) hb) (Kd.R_base ho0)) (Kd.R_base ho1)) (fun _ h_ => h_.1))
         replace BK578 := Aside0.mk (blk_below (g := gb578) (bK BK578) hb)
         replace BK600 := Aside0.mk (blk_below (g := gb600) (bK BK600) hb)
         replace BK612 := Aside0.mk (blk_below (g := gb612) (bK BK612) hb)
         replace BK621 := Aside0.mk (blk_below (g := gb621) (bK BK621) hb)
         replace HB := Aside0.mk (below_step bG hb)
         (try clear hb)
         (try clear hb2)
         (try clear hk)
         (try clear hi)
         (try clear ho0)
         (try clear ho1)
         refine hK.out _ _ ⟨bC BK578 0, bC BK578 1, bC BK578 2, bC BK578 3⟩ (fun hHeld => ?_)
         clear hK K
         refine nB ?_
         refine one_ (i := 5) (N := some 13) (mb 7 63) rfl rfl (by kernel_rfl) (by decide) (fun K hK => ?_)
         refine box_step ?hg (N := 13) ?hd (cs := #[.slice none 0 0, .int .i64 0, .slice none 0 0, .int .i64 0]) (t := 70) ?hr ?_; (case hd => rfl); (case hg => rfl); (case hr => first | (go_simp; done) | (go_simp; rfl))
         intro gb665 hg w115 hbox hb
         replace HO_601000 := Aside0.mk (Kd.R_below (rK HO_601000) hb)
         replace HO_601002 := Aside0.mk (Kd.R_below (rK HO_601002) hb)
         replace HO_613000 := Aside0.mk (Kd.R_below (rK HO_613000) hb)
         replace HO_613002 := Aside0.mk (Kd.R_below (rK HO_613002) hb)
         replace HO_622000 := Aside0.mk (Kd.R_below (rK HO_622000) hb)
         replace HO_622002 := Aside0.mk (Kd.R_below (rK HO_622002) hb)
         replace HO648 := Aside0.mk (Kd.R_below (rK HO648) hb)
         replace HO651 := Aside0.mk (Kd.R_below (rK HO651) hb)
         replace HO655 := Aside0.mk (Kd.R_below (rK HO655) hb)
         replace HO659 := Aside0.mk (Kd.R_below (rK HO659) hb)
         replace HO663 := Aside0.mk (Kd.R_below (rK HO663) hb)
         have BK665 := Aside0.mk (hbox)
         have GW665 := Aside0.mk ((by rw [hg]; exact (below_size bG) : w.heap.size ≤ gb665))
         have GE665 := Aside0.mk ((by rw [hg]; exact (below_size bG) : w.heap.size ≤ gb665))
         replace HB := Aside0.mk (below_step bG hb)
         have NB578_665 := Aside0.mk ((by rw [hg]; exact Nat.ne_of_lt (blk_lt (g := gb578) (o := .cells #[.slice A1_0 l1_0.length c1_0, .int .i64 a1_1, .slice A1_2 l1_2.length c1_2, .int .i64 a1_3] 67 (0, 0)) (bK BK578)) : gb578 ≠ gb665))
         have NB665_578 := Aside0.mk ((by rw [hg]; exact Nat.ne_of_gt (blk_lt (g := gb578) (o := .cells #[.slice A1_0 l1_0.length c1_0, .int .i64 a1_1, .slice A1_2 l1_2.length c1_2, .int .i64 a1_3] 67 (0, 0)) (bK BK578)) : gb665 ≠ gb578))
         replace BK578 := Aside0.mk (blk_below (g := gb578) (bK BK578) hb)
         have NB600_665 := Aside0.mk ((by rw [hg]; exact Nat.ne_of_lt (blk_lt (g := gb600) (o := .cells #[.slice Ao40 t592.length co40, .int .i64 t595, .slice Ao43 t596.length co43, .int .i64 t599] 70 (0, 0)) (bK BK600)) : gb600 ≠ gb665))
         have NB665_600 := Aside0.mk ((by rw [hg]; exact Nat.ne_of_gt (blk_lt (g := gb600) (o := .cells #[.slice Ao40 t592.length co40, .int .i64 t595, .slice Ao43 t596.length co43, .int .i64 t599] 70 (0, 0)) (bK BK600)) : gb665 ≠ gb600))
         replace BK600 := Aside0.mk (blk_below (g := gb600) (bK BK600) hb)
         have NB612_665 := Aside0.mk ((by rw [hg]; exact Nat.ne_of_lt (blk_lt (g := gb612) (o := .cells #[.slice Ao51 t639.length co51, .int .i64 t607, .slice Ao55 t640.length co55, .int .i64 t611] 70 (0, 0)) (bK BK612)) : gb612 ≠ gb665))
         have NB665_612 := Aside0.mk ((by rw [hg]; exact Nat.ne_of_gt (blk_lt (g := gb612) (o := .cells #[.slice Ao51 t639.length co51, .int .i64 t607, .slice Ao55 t640.length co55, .int .i64 t611] 70 (0, 0)) (bK BK612)) : gb665 ≠ gb612))
         replace BK612 := Aside0.mk (blk_below (g := gb612) (bK BK612) hb)
         have NB621_665 := Aside0.mk ((by rw [hg]; exact Nat.ne_of_lt (blk_lt (g := gb621) (o := .cells #[.slice Ao59 t613.length co59, .int .i64 t616, .slice Ao64 t617.length co64, .int .i64 t620] 70 (0, 0)) (bK BK621)) : gb621 ≠ gb665))
         have NB665_621 := Aside0.mk ((by rw [hg]; exact Nat.ne_of_gt (blk_lt (g := gb621) (o := .cells #[.slice Ao59 t613.length co59, .int .i64 t616, .slice Ao64 t617.length co64, .int .i64 t620] 70 (0, 0)) (bK BK621)) : gb665 ≠ gb621))
         replace BK621 := Aside0.mk (blk_below (g := gb621) (bK BK621) hb)
         clear hb hbox hg
         refine hK.out _ _ ⟨bC BK578 0, bC BK578 1, bC BK578 2, bC BK578 3⟩ (fun hHeld => ?_)
         clear hK K
         refine nB ?_
         exact mB (hCont (.slice Ao111 t646.length co111, .slice Ao112 t649.length co112, .slice Ao113 t653.length co113, v658, v662, gb665) _ ⟨hHeld, (rK HO648), (by (with_reducible repeat (first | apply Kd.R_alloc | apply Kd.R_drewN | apply Kd.R_drew)); exact Kd.R_mono HO651.out (fun _ hk => ⟨hk.1.1.1.1.1.1.1.1, ⟨hk.1.2, ⟨hk.2, ⟨hk.1.1.1.1.1.1.1.2, ⟨hk.1.1.1.1.1.1.2, ⟨hk.1.1.1.1.1.2, ⟨hk.1.1.1.1.2, ⟨hk.1.1.1.2, hk.1.1.2⟩⟩⟩⟩⟩⟩⟩⟩)), (by (with_reducible repeat (first | apply Kd.R_alloc | apply Kd.R_drewN | apply Kd.R_drew)); exact Kd.R_mono HO655.out (fun _ hk => ⟨hk.1.1.1.1.1.1.1.1, ⟨hk.1.2, ⟨hk.2, ⟨hk.1.1.1.1.1.1.1.2, ⟨hk.1.1.1.1.1.1.2, ⟨hk.1.1.1.1.1.2, ⟨hk.1.1.1.1.2, ⟨hk.1.1.1.2, hk.1.1.2⟩⟩⟩⟩⟩⟩⟩⟩)), (by (with_reducible repeat (first | apply Kd.R_alloc | apply Kd.R_drewN | apply Kd.R_drew)); exact Kd.R_mono HO659.out (fun _ hk => ⟨hk.1.2, ⟨hk.2, ⟨hk.1.1.1.1.1.1.1.1, ⟨hk.1.1.1.1.1.1.1.2, ⟨hk.1.1.1.1.1.1.2, ⟨hk.1.1.1.1.1.2, ⟨hk.1.1.1.1.2, ⟨hk.1.1.1.2, hk.1.1.2⟩⟩⟩⟩⟩⟩⟩⟩)), (by (with_reducible repeat (first | apply Kd.R_alloc | apply Kd.R_drewN | apply Kd.R_drew)); exact Kd.R_mono HO663.out (fun _ hk => ⟨hk.1.2, ⟨hk.2, ⟨hk.1.1.1.1.1.1.1.1, ⟨hk.1.1.1.1.1.1.1.2, ⟨hk.1.1.1.1.1.1.2, ⟨hk.1.1.1.1.1.2, ⟨hk.1.1.1.1.2, ⟨hk.1.1.1.2, hk.1.1.2⟩⟩⟩⟩⟩⟩⟩⟩)), (by (with_reducible repeat (first | apply Kd.R_alloc | apply Kd.R_drewN | apply Kd.R_drew)); exact Kd.R_mono HO_601000.out (fun _ hk => ⟨hk.1.1.1.2, ⟨hk.1.1.2, ⟨hk.1.2, ⟨hk.2, ⟨hk.1.1.1.1.1, ⟨hk.1.1.1.1.2.1, ⟨hk.1.1.1.1.2.2.1, ⟨hk.1.1.1.1.2.2.2.1, hk.1.1.1.1.2.2.2.2⟩⟩⟩⟩⟩⟩⟩⟩)), (by (with_reducible repeat (first | apply Kd.R_alloc | apply Kd.R_drewN | apply Kd.R_drew)); exact Kd.R_mono HO_601002.out (fun _ hk => ⟨hk.1.1.1.2, ⟨hk.1.1.2, ⟨hk.1.2, ⟨hk.2, ⟨hk.1.1.1.1.1, ⟨hk.1.1.1.1.2.1, ⟨hk.1.1.1.1.2.2.1, ⟨hk.1.1.1.1.2.2.2.1, hk.1.1.1.1.2.2.2.2⟩⟩⟩⟩⟩⟩⟩⟩)), (by (with_reducible repeat (first | apply Kd.R_alloc | apply Kd.R_drewN | apply Kd.R_drew)); exact Kd.R_mono HO_613000.out (fun _ hk => ⟨hk.1.1.1.2, ⟨hk.1.1.2, ⟨hk.1.2, ⟨hk.2, ⟨hk.1.1.1.1.1, ⟨hk.1.1.1.1.2.1, ⟨hk.1.1.1.1.2.2.1, ⟨hk.1.1.1.1.2.2.2.1, hk.1.1.1.1.2.2.2.2⟩⟩⟩⟩⟩⟩⟩⟩)), (by (with_reducible repeat (first | apply Kd.R_alloc | apply Kd.R_drewN | apply Kd.R_drew)); exact Kd.R_mono HO_613002.out (fun _ hk => ⟨hk.1.1.1.2, ⟨hk.1.1.2, ⟨hk.1.2, ⟨hk.2, ⟨hk.1.1.1.1.1, ⟨hk.1.1.1.1.2.1, ⟨hk.1.1.1.1.2.2.1, ⟨hk.1.1.1.1.2.2.2.1, hk.1.1.1.1.2.2.2.2⟩⟩⟩⟩⟩⟩⟩⟩)), (by (with_reducible repeat (first | apply Kd.R_alloc | apply Kd.R_drewN | apply Kd.R_drew)); exact Kd.R_mono HO_622000.out (fun _ hk => ⟨hk.1.1.1.2, ⟨hk.1.1.2, ⟨hk.1.2, ⟨hk.2, ⟨hk.1.1.1.1.1, ⟨hk.1.1.1.1.2.1, ⟨hk.1.1.1.1.2.2.1, ⟨hk.1.1.1.1.2.2.2.1, hk.1.1.1.1.2.2.2.2⟩⟩⟩⟩⟩⟩⟩⟩)), (by (with_reducible repeat (first | apply Kd.R_alloc | apply Kd.R_drewN | apply Kd.R_drew)); exact Kd.R_mono HO_622002.out (fun _ hk => ⟨hk.1.1.1.2, ⟨hk.1.1.2, ⟨hk.1.2, ⟨hk.2, ⟨hk.1.1.1.1.1, ⟨hk.1.1.1.1.2.1, ⟨hk.1.1.1.1.2.2.1, ⟨hk.1.1.1.1.2.2.2.1, hk.1.1.1.1.2.2.2.2⟩⟩⟩⟩⟩⟩⟩⟩)), (bK BK578), (bK BK600), (bK BK612), (bK BK621), (bK BK665), GW665.out, GE665.out, NB578_665.out, NB665_578.out, NB600_665.out, NB665_600.out, NB612_665.out, NB665_612.out, NB621_665.out, NB665_621.out, bG⟩)
        ·
         skip
         refine box_step ?hg (N := 13) ?hd (cs := #[.slice none 0 0, .int .i64 0, .slice none 0 0, .int .i64 0]) (t := 70) ?hr ?_; (case hd => rfl); (case hg => rfl); (case hr => first | (go_simp; done) | (go_simp; rfl))
         intro gb665 hg w111 hbox hb
         replace HO_601000 := Aside0.mk (Kd.R_below (rK HO_601000) hb)
         replace HO_601002 := Aside0.mk (Kd.R_below (rK HO_601002) hb)
         replace HO_613000 := Aside0.mk (Kd.R_below (rK HO_613000) hb)
         replace HO_613002 := Aside0.mk (Kd.R_below (rK HO_613002) hb)
         replace HO_622000 := Aside0.mk (Kd.R_below (rK HO_622000) hb)
         replace HO_622002 := Aside0.mk (Kd.R_below (rK HO_622002) hb)
         replace HO648 := Aside0.mk (Kd.R_below (rK HO648) hb)
         replace HO651 := Aside0.mk (Kd.R_below (rK HO651) hb)
         replace HO655 := Aside0.mk (Kd.R_below (rK HO655) hb)
         have BK665 := Aside0.mk (hbox)
         have GW665 := Aside0.mk ((by rw [hg]; exact (below_size bG) : w.heap.size ≤ gb665))
         have GE665 := Aside0.mk ((by rw [hg]; exact (below_size bG) : w.heap.size ≤ gb665))
         replace HB := Aside0.mk (below_step bG hb)
         have NB578_665 := Aside0.mk ((by rw [hg]; exact Nat.ne_of_lt (blk_lt (g := gb578) (o := .cells #[.slice A1_0 l1_0.length c1_0, .int .i64 a1_1, .slice A1_2 l1_2.length c1_2, .int .i64 a1_3] 67 (0, 0)) (bK BK578)) : gb578 ≠ gb665))
         have NB665_578 := Aside0.mk ((by rw [hg]; exact Nat.ne_of_gt (blk_lt (g := gb578) (o := .cells #[.slice A1_0 l1_0.length c1_0, .int .i64 a1_1, .slice A1_2 l1_2.length c1_2, .int .i64 a1_3] 67 (0, 0)) (bK BK578)) : gb665 ≠ gb578))
         replace BK578 := Aside0.mk (blk_below (g := gb578) (bK BK578) hb)
         have NB600_665 := Aside0.mk ((by rw [hg]; exact Nat.ne_of_lt (blk_lt (g := gb600) (o := .cells #[.slice Ao40 t592.length co40, .int .i64 t595, .slice Ao43 t596.length co43, .int .i64 t599] 70 (0, 0)) (bK BK600)) : gb600 ≠ gb665))
         have NB665_600 := Aside0.mk ((by rw [hg]; exact Nat.ne_of_gt (blk_lt (g := gb600) (o := .cells #[.slice Ao40 t592.length co40, .int .i64 t595, .slice Ao43 t596.length co43, .int .i64 t599] 70 (0, 0)) (bK BK600)) : gb665 ≠ gb600))
         replace BK600 := Aside0.mk (blk_below (g := gb600) (bK BK600) hb)
         have NB612_665 := Aside0.mk ((by rw [hg]; exact Nat.ne_of_lt (blk_lt (g := gb612) (o := .cells #[.slice Ao51 t639.length co51, .int .i64 t607, .slice Ao55 t640.length co55, .int .i64 t611] 70 (0, 0)) (bK BK612)) : gb612 ≠ gb665))
         have NB665_612 := Aside0.mk ((by rw [hg]; exact Nat.ne_of_gt (blk_lt (g := gb612) (o := .cells #[.slice Ao51 t639.length co51, .int .i64 t607, .slice Ao55 t640.length co55, .int .i64 t611] 70 (0, 0)) (bK BK612)) : gb665 ≠ gb612))
         replace BK612 := Aside0.mk (blk_below (g := gb612) (bK BK612) hb)
         have NB621_665 := Aside0.mk ((by rw [hg]; exact Nat.ne_of_lt (blk_lt (g := gb621) (o := .cells #[.slice Ao59 t613.length co59, .int .i64 t616, .slice Ao64 t617.length co64, .int .i64 t620] 70 (0, 0)) (bK BK621)) : gb621 ≠ gb665))
         have NB665_621 := Aside0.mk ((by rw [hg]; exact Nat.ne_of_gt (blk_lt (g := gb621) (o := .cells #[.slice Ao59 t613.length co59, .int .i64 t616, .slice Ao64 t617.length co64, .int .i64 t620] 70 (0, 0)) (bK BK621)) : gb665 ≠ gb621))
         replace BK621 := Aside0.mk (blk_below (g := gb621) (bK BK621) hb)
         clear hb hbox hg
         obtain ⟨Ao112, co112, eo112⟩ := Kd.R_slice HO648.out
         (first | subst eo112 | (injection eo112 with f1_ f2_ f3_; have f4_ := f1_.symm; have f5_ := f3_.symm; clear f1_ f2_ f3_; subst f4_; subst f5_))
         obtain ⟨Ao113, co113, eo113⟩ := Kd.R_slice HO651.out
         (first | subst eo113 | (injection eo113 with f1_ f2_ f3_; have f4_ := f1_.symm; have f5_ := f3_.symm; clear f1_ f2_ f3_; subst f4_; subst f5_))
         obtain ⟨Ao114, co114, eo114⟩ := Kd.R_slice HO655.out
         (first | subst eo114 | (injection eo114 with f1_ f2_ f3_; have f4_ := f1_.symm; have f5_ := f3_.symm; clear f1_ f2_ f3_; subst f4_; subst f5_))
         refine hK.out _ _ ⟨bC BK578 0, bC BK578 1, bC BK578 2, bC BK578 3⟩ (fun hHeld => ?_)
         clear hK K
         refine nB ?_
         refine one_ (i := 4) (N := some 79) (mb 7 63) rfl rfl (by kernel_rfl) (by decide) (fun K hK => ?_)
         refine gA Try.func65 #[.slice Ao112 t646.length co112, .agg #[.slice Ao113 t649.length co113, .int .i64 t652, .slice Ao114 t653.length co114, .int .i64 t656]] ?_
         with_reducible refine (impl_TickControl.calls kj26 _ _ t646 _ _ t649 t652 _ _ t653 t656 t657 t660 t661 t664 _ ?side1 ?side2 ?side3 ?side4 ?side5 ?side6 A95.out).mono ?_
         (case side1 => exact cO ⟨(Kd.R_reads' HO648.out).2.2⟩)
         (case side2 => exact (Kd.R_reads' HO648.out).2.1)
         (case side3 => exact cO ⟨(Kd.R_reads' HO651.out).2.2⟩)
         (case side4 => exact (Kd.R_reads' HO651.out).2.1)
         (case side5 => exact cO ⟨(Kd.R_reads' HO655.out).2.2⟩)
         (case side6 => exact (Kd.R_reads' HO655.out).2.1)
         rintro e w115 ⟨v658, v662, rfl, ho0, ho1, hb⟩
         refine ⟨_, rfl, ?_⟩
         replace HO648 := Aside0.mk (Kd.R_below (rK HO648) hb)
         have HO659 := Aside0.mk (Kd.R_lower (Kd.R_new' (Kd.R_new' (Kd.R_new' (Kd.R_new' (Kd.R_new' (Kd.R_new' (Kd.R_new' (Kd.R_new' ho0 (Kd.R_lt (rK HO_601000))) (Kd.R_lt (rK HO_601002))) (Kd.R_lt (rK HO_613000))) (Kd.R_lt (rK HO_613002))) (Kd.R_lt (rK HO_622000))) (Kd.R_lt (rK HO_622002))) (Kd.R_lt (rK HO651))) (Kd.R_lt (rK HO655))) (below_size bG))
         have HO663 := Aside0.mk (Kd.R_lower (Kd.R_new' (Kd.R_new' (Kd.R_new' (Kd.R_new' (Kd.R_new' (Kd.R_new' (Kd.R_new' (Kd.R_new' ho1 (Kd.R_lt (rK HO_601000))) (Kd.R_lt (rK HO_601002))) (Kd.R_lt (rK HO_613000))) (Kd.R_lt (rK HO_613002))) (Kd.R_lt (rK HO_622000))) (Kd.R_lt (rK HO_622002))) (Kd.R_lt (rK HO651))) (Kd.R_lt (rK HO655))) (below_size bG))
         replace HO_601000 := Aside0.mk (Kd.R_mono (Kd.R_told (Kd.R_told (Kd.R_old (rK HO_601000) hb) (Kd.R_base ho0)) (Kd.R_base ho1)) (fun _ h_ => h_.1))
         replace HO_601002 := Aside0.mk (Kd.R_mono (Kd.R_told (Kd.R_told (Kd.R_old (rK HO_601002) hb) (Kd.R_base ho0)) (Kd.R_base ho1)) (fun _ h_ => h_.1))
         replace HO_613000 := Aside0.mk (Kd.R_mono (Kd.R_told (Kd.R_told (Kd.R_old (rK HO_613000) hb) (Kd.R_base ho0)) (Kd.R_base ho1)) (fun _ h_ => h_.1))
         replace HO_613002 := Aside0.mk (Kd.R_mono (Kd.R_told (Kd.R_told (Kd.R_old (rK HO_613002) hb) (Kd.R_base ho0)) (Kd.R_base ho1)) (fun _ h_ => h_.1))
         replace HO_622000 := Aside0.mk (Kd.R_mono (Kd.R_told (Kd.R_told (Kd.R_old (rK HO_622000) hb) (Kd.R_base ho0)) (Kd.R_base ho1)) (fun _ h_ => h_.1))
         replace HO_622002 := Aside0.mk (Kd.R_mono (Kd.R_told (Kd.R_told (Kd.R_old (rK HO_622002) hb) (Kd.R_base ho0)) (Kd.R_base ho1)) (fun _ h_ => h_.1))
         replace HO651 := Aside0.mk (Kd.R_mono (Kd.R_told (Kd.R_told (Kd.R_old (rK HO651) hb) (Kd.R_base ho0)) (Kd.R_base ho1)) (fun _ h_ => h_.1))
         replace HO655 := Aside0.mk (Kd.R_mono (Kd.R_told (Kd.R_told (Kd.R_old (rK HO655) hb) (Kd.R_base ho0)) (Kd.R_base ho1)) (fun _ h_ => h_.1))
         replace BK578 := Aside0.mk (blk_below (g := gb578) (bK BK578) hb)
         replace BK600 := Aside0.mk (blk_below (g := gb600) (bK BK600) hb)
         replace BK612 := Aside0.mk (blk_below (g := gb612) (bK BK612) hb)
         replace BK621 := Aside0.mk (blk_below (g := gb621) (bK BK621) hb)
         replace BK665 := Aside0.mk (blk_below (g := gb665) (bK BK665) hb)
         replace HB := Aside0.mk (below_step bG hb)
         (try clear hb)
         (try clear hb2)
         (try clear hk)
         (try clear hi)
         (try clear ho0)
         (try clear ho1)
         refine hK.out _ _ ⟨bC BK578 0, bC BK578 1, bC BK578 2, bC BK578 3⟩ (fun hHeld => ?_)
         clear hK K
         refine nB ?_
         exact mB (hCont (.slice Ao112 t646.length co112, .slice Ao113 t649.length co113, .slice Ao114 t653.length co114, v658, v662, gb665) _ ⟨hHeld, (rK HO648), (by (with_reducible repeat (first | apply Kd.R_alloc | apply Kd.R_drewN | apply Kd.R_drew)); exact Kd.R_mono HO651.out (fun _ hk => ⟨hk.1.1.1.1.1.1.1.1, ⟨hk.1.2, ⟨hk.2, ⟨hk.1.1.1.1.1.1.1.2, ⟨hk.1.1.1.1.1.1.2, ⟨hk.1.1.1.1.1.2, ⟨hk.1.1.1.1.2, ⟨hk.1.1.1.2, hk.1.1.2⟩⟩⟩⟩⟩⟩⟩⟩)), (by (with_reducible repeat (first | apply Kd.R_alloc | apply Kd.R_drewN | apply Kd.R_drew)); exact Kd.R_mono HO655.out (fun _ hk => ⟨hk.1.1.1.1.1.1.1.1, ⟨hk.1.2, ⟨hk.2, ⟨hk.1.1.1.1.1.1.1.2, ⟨hk.1.1.1.1.1.1.2, ⟨hk.1.1.1.1.1.2, ⟨hk.1.1.1.1.2, ⟨hk.1.1.1.2, hk.1.1.2⟩⟩⟩⟩⟩⟩⟩⟩)), (by (with_reducible repeat (first | apply Kd.R_alloc | apply Kd.R_drewN | apply Kd.R_drew)); exact Kd.R_mono HO659.out (fun _ hk => ⟨hk.1.2, ⟨hk.2, ⟨hk.1.1.1.1.1.1.1.1, ⟨hk.1.1.1.1.1.1.1.2, ⟨hk.1.1.1.1.1.1.2, ⟨hk.1.1.1.1.1.2, ⟨hk.1.1.1.1.2, ⟨hk.1.1.1.2, hk.1.1.2⟩⟩⟩⟩⟩⟩⟩⟩)), (by (with_reducible repeat (first | apply Kd.R_alloc | apply Kd.R_drewN | apply Kd.R_drew)); exact Kd.R_mono HO663.out (fun _ hk => ⟨hk.1.2, ⟨hk.2, ⟨hk.1.1.1.1.1.1.1.1, ⟨hk.1.1.1.1.1.1.1.2, ⟨hk.1.1.1.1.1.1.2, ⟨hk.1.1.1.1.1.2, ⟨hk.1.1.1.1.2, ⟨hk.1.1.1.2, hk.1.1.2⟩⟩⟩⟩⟩⟩⟩⟩)), (by (with_reducible repeat (first | apply Kd.R_alloc | apply Kd.R_drewN | apply Kd.R_drew)); exact Kd.R_mono HO_601000.out (fun _ hk => ⟨hk.1.1.1.2, ⟨hk.1.1.2, ⟨hk.1.2, ⟨hk.2, ⟨hk.1.1.1.1.1, ⟨hk.1.1.1.1.2.1, ⟨hk.1.1.1.1.2.2.1, ⟨hk.1.1.1.1.2.2.2.1, hk.1.1.1.1.2.2.2.2⟩⟩⟩⟩⟩⟩⟩⟩)), (by (with_reducible repeat (first | apply Kd.R_alloc | apply Kd.R_drewN | apply Kd.R_drew)); exact Kd.R_mono HO_601002.out (fun _ hk => ⟨hk.1.1.1.2, ⟨hk.1.1.2, ⟨hk.1.2, ⟨hk.2, ⟨hk.1.1.1.1.1, ⟨hk.1.1.1.1.2.1, ⟨hk.1.1.1.1.2.2.1, ⟨hk.1.1.1.1.2.2.2.1, hk.1.1.1.1.2.2.2.2⟩⟩⟩⟩⟩⟩⟩⟩)), (by (with_reducible repeat (first | apply Kd.R_alloc | apply Kd.R_drewN | apply Kd.R_drew)); exact Kd.R_mono HO_613000.out (fun _ hk => ⟨hk.1.1.1.2, ⟨hk.1.1.2, ⟨hk.1.2, ⟨hk.2, ⟨hk.1.1.1.1.1, ⟨hk.1.1.1.1.2.1, ⟨hk.1.1.1.1.2.2.1, ⟨hk.1.1.1.1.2.2.2.1, hk.1.1.1.1.2.2.2.2⟩⟩⟩⟩⟩⟩⟩⟩)), (by (with_reducible repeat (first | apply Kd.R_alloc | apply Kd.R_drewN | apply Kd.R_drew)); exact Kd.R_mono HO_613002.out (fun _ hk => ⟨hk.1.1.1.2, ⟨hk.1.1.2, ⟨hk.1.2, ⟨hk.2, ⟨hk.1.1.1.1.1, ⟨hk.1.1.1.1.2.1, ⟨hk.1.1.1.1.2.2.1, ⟨hk.1.1.1.1.2.2.2.1, hk.1.1.1.1.2.2.2.2⟩⟩⟩⟩⟩⟩⟩⟩)), (by (with_reducible repeat (first | apply Kd.R_alloc | apply Kd.R_drewN | apply Kd.R_drew)); exact Kd.R_mono HO_622000.out (fun _ hk => ⟨hk.1.1.1.2, ⟨hk.1.1.2, ⟨hk.1.2, ⟨hk.2, ⟨hk.1.1.1.1.1, ⟨hk.1.1.1.1.2.1, ⟨hk.1.1.1.1.2.2.1, ⟨hk.1.1.1.1.2.2.2.1, hk.1.1.1.1.2.2.2.2⟩⟩⟩⟩⟩⟩⟩⟩)), (by (with_reducible repeat (first | apply Kd.R_alloc | apply Kd.R_drewN | apply Kd.R_drew)); exact Kd.R_mono HO_622002.out (fun _ hk => ⟨hk.1.1.1.2, ⟨hk.1.1.2, ⟨hk.1.2, ⟨hk.2, ⟨hk.1.1.1.1.1, ⟨hk.1.1.1.1.2.1, ⟨hk.1.1.1.1.2.2.1, ⟨hk.1.1.1.1.2.2.2.1, hk.1.1.1.1.2.2.2.2⟩⟩⟩⟩⟩⟩⟩⟩)), (bK BK578), (bK BK600), (bK BK612), (bK BK621), (bK BK665), GW665.out, GE665.out, NB578_665.out, NB665_578.out, NB600_665.out, NB665_600.out, NB612_665.out, NB665_612.out, NB621_665.out, NB665_621.out, bG⟩)
       ·
        skip
        refine box_step ?hg (N := 13) ?hd (cs := #[.slice none 0 0, .int .i64 0, .slice none 0 0, .int .i64 0]) (t := 70) ?hr ?_; (case hd => rfl); (case hg => rfl); (case hr => first | (go_simp; done) | (go_simp; rfl))
        intro gb665 hg w110 hbox hb
        replace HO_601000 := Aside0.mk (Kd.R_below (rK HO_601000) hb)
        replace HO_601002 := Aside0.mk (Kd.R_below (rK HO_601002) hb)
        replace HO_613000 := Aside0.mk (Kd.R_below (rK HO_613000) hb)
        replace HO_613002 := Aside0.mk (Kd.R_below (rK HO_613002) hb)
        replace HO_622000 := Aside0.mk (Kd.R_below (rK HO_622000) hb)
        replace HO_622002 := Aside0.mk (Kd.R_below (rK HO_622002) hb)
        replace HO648 := Aside0.mk (Kd.R_below (rK HO648) hb)
        have BK665 := Aside0.mk (hbox)
        have GW665 := Aside0.mk ((by rw [hg]; exact (below_size bG) : w.heap.size ≤ gb665))
        have GE665 := Aside0.mk ((by rw [hg]; exact (below_size bG) : w.heap.size ≤ gb665))
        replace HB := Aside0.mk (below_step bG hb)
        have NB578_665 := Aside0.mk ((by rw [hg]; exact Nat.ne_of_lt (blk_lt (g := gb578) (o := .cells #[.slice A1_0 l1_0.length c1_0, .int .i64 a1_1, .slice A1_2 l1_2.length c1_2, .int .i64 a1_3] 67 (0, 0)) (bK BK578)) : gb578 ≠ gb665))
        have NB665_578 := Aside0.mk ((by rw [hg]; exact Nat.ne_of_gt (blk_lt (g := gb578) (o := .cells #[.slice A1_0 l1_0.length c1_0, .int .i64 a1_1, .slice A1_2 l1_2.length c1_2, .int .i64 a1_3] 67 (0, 0)) (bK BK578)) : gb665 ≠ gb578))
        replace BK578 := Aside0.mk (blk_below (g := gb578) (bK BK578) hb)
        have NB600_665 := Aside0.mk ((by rw [hg]; exact Nat.ne_of_lt (blk_lt (g := gb600) (o := .cells #[.slice Ao40 t592.length co40, .int .i64 t595, .slice Ao43 t596.length co43, .int .i64 t599] 70 (0, 0)) (bK BK600)) : gb600 ≠ gb665))
        have NB665_600 := Aside0.mk ((by rw [hg]; exact Nat.ne_of_gt (blk_lt (g := gb600) (o := .cells #[.slice Ao40 t592.length co40, .int .i64 t595, .slice Ao43 t596.length co43, .int .i64 t599] 70 (0, 0)) (bK BK600)) : gb665 ≠ gb600))
        replace BK600 := Aside0.mk (blk_below (g := gb600) (bK BK600) hb)
        have NB612_665 := Aside0.mk ((by rw [hg]; exact Nat.ne_of_lt (blk_lt (g := gb612) (o := .cells #[.slice Ao51 t639.length co51, .int .i64 t607, .slice Ao55 t640.length co55, .int .i64 t611] 70 (0, 0)) (bK BK612)) : gb612 ≠ gb665))
        have NB665_612 := Aside0.mk ((by rw [hg]; exact Nat.ne_of_gt (blk_lt (g := gb612) (o := .cells #[.slice Ao51 t639.length co51, .int .i64 t607, .slice Ao55 t640.length co55, .int .i64 t611] 70 (0, 0)) (bK BK612)) : gb665 ≠ gb612))
        replace BK612 := Aside0.mk (blk_below (g := gb612) (bK BK612) hb)
        have NB621_665 := Aside0.mk ((by rw [hg]; exact Nat.ne_of_lt (blk_lt (g := gb621) (o := .cells #[.slice Ao59 t613.length co59, .int .i64 t616, .slice Ao64 t617.length co64, .int .i64 t620] 70 (0, 0)) (bK BK621)) : gb621 ≠ gb665))
        have NB665_621 := Aside0.mk ((by rw [hg]; exact Nat.ne_of_gt (blk_lt (g := gb621) (o := .cells #[.slice Ao59 t613.length co59, .int .i64 t616, .slice Ao64 t617.length co64, .int .i64 t620] 70 (0, 0)) (bK BK621)) : gb665 ≠ gb621))
        replace BK621 := Aside0.mk (blk_below (g := gb621) (bK BK621) hb)
        clear hb hbox hg
        refine hK.out _ _ ⟨bC BK578 0, bC BK578 1, bC BK578 2, bC BK578 3⟩ (fun hHeld => ?_)
        clear hK K
        refine nB ?_
        refine one_ (i := 3) (N := some 78) (mb 7 47) rfl rfl (by kernel_rfl) (by decide) (fun K hK => ?_)
        refine gA Try.func56 #[.agg #[.slice A1_0 l1_0.length c1_0, .int .i64 a1_1, .slice A1_2 l1_2.length c1_2, .int .i64 a1_3]] ?_
        with_reducible refine (laws_toControl.calls kj26 _ _ l1_0 a1_1 _ _ l1_2 a1_3 t649 t652 t653 t656 _ ?side1 ?side2 ?side3 ?side4 A94.out).mono ?_
        (case side1 => exact cB HR1_0)
        (case side2 => exact HC1_0.out)
        (case side3 => exact cB HR1_2)
        (case side4 => exact HC1_2.out)
        rintro e w111 ⟨v650, v654, rfl, ho0, ho1, hb⟩
        refine ⟨_, rfl, ?_⟩
        replace HO648 := Aside0.mk (Kd.R_below (rK HO648) hb)
        have HO651 := Aside0.mk (Kd.R_lower (Kd.R_new' (Kd.R_new' (Kd.R_new' (Kd.R_new' (Kd.R_new' (Kd.R_new' ho0 (Kd.R_lt (rK HO_601000))) (Kd.R_lt (rK HO_601002))) (Kd.R_lt (rK HO_613000))) (Kd.R_lt (rK HO_613002))) (Kd.R_lt (rK HO_622000))) (Kd.R_lt (rK HO_622002))) (below_size bG))
        have HO655 := Aside0.mk (Kd.R_lower (Kd.R_new' (Kd.R_new' (Kd.R_new' (Kd.R_new' (Kd.R_new' (Kd.R_new' ho1 (Kd.R_lt (rK HO_601000))) (Kd.R_lt (rK HO_601002))) (Kd.R_lt (rK HO_613000))) (Kd.R_lt (rK HO_613002))) (Kd.R_lt (rK HO_622000))) (Kd.R_lt (rK HO_622002))) (below_size bG))
        replace HO_601000 := Aside0.mk (Kd.R_mono (Kd.R_told (Kd.R_told (Kd.R_old (rK HO_601000) hb) (Kd.R_base ho0)) (Kd.R_base ho1)) (fun _ h_ => h_.1))
        replace HO_601002 := Aside0.mk (Kd.R_mono (Kd.R_told (Kd.R_told (Kd.R_old (rK HO_601002) hb) (Kd.R_base ho0)) (Kd.R_base ho1)) (fun _ h_ => h_.1))
        replace HO_613000 := Aside0.mk (Kd.R_mono (Kd.R_told (Kd.R_told (Kd.R_old (rK HO_613000) hb) (Kd.R_base ho0)) (Kd.R_base ho1)) (fun _ h_ => h_.1))
        replace HO_613002 := Aside0.mk (Kd.R_mono (Kd.R_told (Kd.R_told (Kd.R_old (rK HO_613002) hb) (Kd.R_base ho0)) (Kd.R_base ho1)) (fun _ h_ => h_.1))
        replace HO_622000 := Aside0.mk (Kd.R_mono (Kd.R_told (Kd.R_told (Kd.R_old (rK HO_622000) hb) (Kd.R_base ho0)) (Kd.R_base ho1)) (fun _ h_ => h_.1))
        replace HO_622002 := Aside0.mk (Kd.R_mono (Kd.R_told (Kd.R_told (Kd.R_old (rK HO_622002) hb) (Kd.R_base ho0)) (Kd.R_base ho1)) (fun _ h_ => h_.1))
        replace BK578 := Aside0.mk (blk_below (g := gb578) (bK BK578) hb)
        replace BK600 := Aside0.mk (blk_below (g := gb600) (bK BK600) hb)
        replace BK612 := Aside0.mk (blk_below (g := gb612) (bK BK612) hb)
        replace BK621 := Aside0.mk (blk_below (g := gb621) (bK BK621) hb)
        replace BK665 := Aside0.mk (blk_below (g := gb665) (bK BK665) hb)
        replace HB := Aside0.mk (below_step bG hb)
        (try clear hb)
        (try clear hb2)
        (try clear hk)
        (try clear hi)
        (try clear ho0)
        (try clear ho1)
        obtain ⟨Ao112, co112, eo112⟩ := Kd.R_slice HO648.out
        (first | subst eo112 | (injection eo112 with f1_ f2_ f3_; have f4_ := f1_.symm; have f5_ := f3_.symm; clear f1_ f2_ f3_; subst f4_; subst f5_))
        obtain ⟨Ao113, co113, eo113⟩ := Kd.R_slice HO651.out
        (first | subst eo113 | (injection eo113 with f1_ f2_ f3_; have f4_ := f1_.symm; have f5_ := f3_.symm; clear f1_ f2_ f3_; subst f4_; subst f5_))
        obtain ⟨Ao114, co114, eo114⟩ := Kd.R_slice HO655.out
        (first | subst eo114 | (injection eo114 with f1_ f2_ f3_; have f4_ := f1_.symm; have f5_ := f3_.symm; clear f1_ f2_ f3_; subst f4_; subst f5_))
        refine hK.out _ _ ⟨bC BK578 0, bC BK578 1, bC BK578 2, bC BK578 3⟩ (fun hHeld => ?_)
        clear hK K
        refine nB ?_
        refine one_ (i := 4) (N := some 79) (mb 7 63) rfl rfl (by kernel_rfl) (by decide) (fun K hK => ?_)
        refine gA Try.func65 #[.slice Ao112 t646.length co112, .agg #[.slice Ao113 t649.length co113, .int .i64 t652, .slice Ao114 t653.length co114, .int .i64 t656]] ?_
        with_reducible refine (impl_TickControl.calls kj26 _ _ t646 _ _ t649 t652 _ _ t653 t656 t657 t660 t661 t664 _ ?side1 ?side2 ?side3 ?side4 ?side5 ?side6 A95.out).mono ?_
        (case side1 => exact cO ⟨(Kd.R_reads' HO648.out).2.2⟩)
        (case side2 => exact (Kd.R_reads' HO648.out).2.1)
        (case side3 => exact cO ⟨(Kd.R_reads' HO651.out).2.2⟩)
        (case side4 => exact (Kd.R_reads' HO651.out).2.1)
        (case side5 => exact cO ⟨(Kd.R_reads' HO655.out).2.2⟩)
        (case side6 => exact (Kd.R_reads' HO655.out).2.1)
        rintro e w115 ⟨v658, v662, rfl, ho0, ho1, hb⟩
        refine ⟨_, rfl, ?_⟩
        replace HO648 := Aside0.mk (Kd.R_below (rK HO648) hb)
        have HO659 := Aside0.mk (Kd.R_lower (Kd.R_new' (Kd.R_new' (Kd.R_new' (Kd.R_new' (Kd.R_new' (Kd.R_new' (Kd.R_new' (Kd.R_new' ho0 (Kd.R_lt (rK HO_601000))) (Kd.R_lt (rK HO_601002))) (Kd.R_lt (rK HO_613000))) (Kd.R_lt (rK HO_613002))) (Kd.R_lt (rK HO_622000))) (Kd.R_lt (rK HO_622002))) (Kd.R_lt (rK HO651))) (Kd.R_lt (rK HO655))) (below_size bG))
        have HO663 := Aside0.mk (Kd.R_lower (Kd.R_new' (Kd.R_new' (Kd.R_new' (Kd.R_new' (Kd.R_new' (Kd.R_new' (Kd.R_new' (Kd.R_new' ho1 (Kd.R_lt (rK HO_601000))) (Kd.R_lt (rK HO_601002))) (Kd.R_lt (rK HO_613000))) (Kd.R_lt (rK HO_613002))) (Kd.R_lt (rK HO_622000))) (Kd.R_lt (rK HO_622002))) (Kd.R_lt (rK HO651))) (Kd.R_lt (rK HO655))) (below_size bG))
        replace HO_601000 := Aside0.mk (Kd.R_mono (Kd.R_told (Kd.R_told (Kd.R_old (rK HO_601000) hb) (Kd.R_base ho0)) (Kd.R_base ho1)) (fun _ h_ => h_.1))
        replace HO_601002 := Aside0.mk (Kd.R_mono (Kd.R_told (Kd.R_told (Kd.R_old (rK HO_601002) hb) (Kd.R_base ho0)) (Kd.R_base ho1)) (fun _ h_ => h_.1))
        replace HO_613000 := Aside0.mk (Kd.R_mono (Kd.R_told (Kd.R_told (Kd.R_old (rK HO_613000) hb) (Kd.R_base ho0)) (Kd.R_base ho1)) (fun _ h_ => h_.1))
        replace HO_613002 := Aside0.mk (Kd.R_mono (Kd.R_told (Kd.R_told (Kd.R_old (rK HO_613002) hb) (Kd.R_base ho0)) (Kd.R_base ho1)) (fun _ h_ => h_.1))
        replace HO_622000 := Aside0.mk (Kd.R_mono (Kd.R_told (Kd.R_told (Kd.R_old (rK HO_622000) hb) (Kd.R_base ho0)) (Kd.R_base ho1)) (fun _ h_ => h_.1))
        replace HO_622002 := Aside0.mk (Kd.R_mono (Kd.R_told (Kd.R_told (Kd.R_old (rK HO_622002) hb) (Kd.R_base ho0)) (Kd.R_base ho1)) (fun _ h_ => h_.1))
        replace HO651 := Aside0.mk (Kd.R_mono (Kd.R_told (Kd.R_told (Kd.R_old (rK HO651) hb) (Kd.R_base ho0)) (Kd.R_base ho1)) (fun _ h_ => h_.1))
        replace HO655 := Aside0.mk (Kd.R_mono (Kd.R_told (Kd.R_told (Kd.R_old (rK HO655) hb) (Kd.R_base ho0)) (Kd.R_base ho1)) (fun _ h_ => h_.1))
        replace BK578 := Aside0.mk (blk_below (g := gb578) (bK BK578) hb)
        replace BK600 := Aside0.mk (blk_below (g := gb600) (bK BK600) hb)
        replace BK612 := Aside0.mk (blk_below (g := gb612) (bK BK612) hb)
        replace BK621 := Aside0.mk (blk_below (g := gb621) (bK BK621) hb)
        replace BK665 := Aside0.mk (blk_below (g := gb665) (bK BK665) hb)
        replace HB := Aside0.mk (below_step bG hb)
        (try clear hb)
        (try clear hb2)
        (try clear hk)
        (try clear hi)
        (try clear ho0)
        (try clear ho1)
        refine hK.out _ _ ⟨bC BK578 0, bC BK578 1, bC BK578 2, bC BK578 3⟩ (fun hHeld => ?_)
        clear hK K
        refine nB ?_
        exact mB (hCont (.slice Ao112 t646.length co112, .slice Ao113 t649.length co113, .slice Ao114 t653.length co114, v658, v662, gb665) _ ⟨hHeld, (rK HO648), (by (with_reducible repeat (first | apply Kd.R_alloc | apply Kd.R_drewN | apply Kd.R_drew)); exact Kd.R_mono HO651.out (fun _ hk => ⟨hk.1.1.1.1.1.1.1.1, ⟨hk.1.2, ⟨hk.2, ⟨hk.1.1.1.1.1.1.1.2, ⟨hk.1.1.1.1.1.1.2, ⟨hk.1.1.1.1.1.2, ⟨hk.1.1.1.1.2, ⟨hk.1.1.1.2, hk.1.1.2⟩⟩⟩⟩⟩⟩⟩⟩)), (by (with_reducible repeat (first | apply Kd.R_alloc | apply Kd.R_drewN | apply Kd.R_drew)); exact Kd.R_mono HO655.out (fun _ hk => ⟨hk.1.1.1.1.1.1.1.1, ⟨hk.1.2, ⟨hk.2, ⟨hk.1.1.1.1.1.1.1.2, ⟨hk.1.1.1.1.1.1.2, ⟨hk.1.1.1.1.1.2, ⟨hk.1.1.1.1.2, ⟨hk.1.1.1.2, hk.1.1.2⟩⟩⟩⟩⟩⟩⟩⟩)), (by (with_reducible repeat (first | apply Kd.R_alloc | apply Kd.R_drewN | apply Kd.R_drew)); exact Kd.R_mono HO659.out (fun _ hk => ⟨hk.1.2, ⟨hk.2, ⟨hk.1.1.1.1.1.1.1.1, ⟨hk.1.1.1.1.1.1.1.2, ⟨hk.1.1.1.1.1.1.2, ⟨hk.1.1.1.1.1.2, ⟨hk.1.1.1.1.2, ⟨hk.1.1.1.2, hk.1.1.2⟩⟩⟩⟩⟩⟩⟩⟩)), (by (with_reducible repeat (first | apply Kd.R_alloc | apply Kd.R_drewN | apply Kd.R_drew)); exact Kd.R_mono HO663.out (fun _ hk => ⟨hk.1.2, ⟨hk.2, ⟨hk.1.1.1.1.1.1.1.1, ⟨hk.1.1.1.1.1.1.1.2, ⟨hk.1.1.1.1.1.1.2, ⟨hk.1.1.1.1.1.2, ⟨hk.1.1.1.1.2, ⟨hk.1.1.1.2, hk.1.1.2⟩⟩⟩⟩⟩⟩⟩⟩)), (by (with_reducible repeat (first | apply Kd.R_alloc | apply Kd.R_drewN | apply Kd.R_drew)); exact Kd.R_mono HO_601000.out (fun _ hk => ⟨hk.1.1.1.2, ⟨hk.1.1.2, ⟨hk.1.2, ⟨hk.2, ⟨hk.1.1.1.1.1, ⟨hk.1.1.1.1.2.1, ⟨hk.1.1.1.1.2.2.1, ⟨hk.1.1.1.1.2.2.2.1, hk.1.1.1.1.2.2.2.2⟩⟩⟩⟩⟩⟩⟩⟩)), (by (with_reducible repeat (first | apply Kd.R_alloc | apply Kd.R_drewN | apply Kd.R_drew)); exact Kd.R_mono HO_601002.out (fun _ hk => ⟨hk.1.1.1.2, ⟨hk.1.1.2, ⟨hk.1.2, ⟨hk.2, ⟨hk.1.1.1.1.1, ⟨hk.1.1.1.1.2.1, ⟨hk.1.1.1.1.2.2.1, ⟨hk.1.1.1.1.2.2.2.1, hk.1.1.1.1.2.2.2.2⟩⟩⟩⟩⟩⟩⟩⟩)), (by (with_reducible repeat (first | apply Kd.R_alloc | apply Kd.R_drewN | apply Kd.R_drew)); exact Kd.R_mono HO_613000.out (fun _ hk => ⟨hk.1.1.1.2, ⟨hk.1.1.2, ⟨hk.1.2, ⟨hk.2, ⟨hk.1.1.1.1.1, ⟨hk.1.1.1.1.2.1, ⟨hk.1.1.1.1.2.2.1, ⟨hk.1.1.1.1.2.2.2.1, hk.1.1.1.1.2.2.2.2⟩⟩⟩⟩⟩⟩⟩⟩)), (by (with_reducible repeat (first | apply Kd.R_alloc | apply Kd.R_drewN | apply Kd.R_drew)); exact Kd.R_mono HO_613002.out (fun _ hk => ⟨hk.1.1.1.2, ⟨hk.1.1.2, ⟨hk.1.2, ⟨hk.2, ⟨hk.1.1.1.1.1, ⟨hk.1.1.1.1.2.1, ⟨hk.1.1.1.1.2.2.1, ⟨hk.1.1.1.1.2.2.2.1, hk.1.1.1.1.2.2.2.2⟩⟩⟩⟩⟩⟩⟩⟩)), (by (with_reducible repeat (first | apply Kd.R_alloc | apply Kd.R_drewN | apply Kd.R_drew)); exact Kd.R_mono HO_622000.out (fun _ hk => ⟨hk.1.1.1.2, ⟨hk.1.1.2, ⟨hk.1.2, ⟨hk.2, ⟨hk.1.1.1.1.1, ⟨hk.1.1.1.1.2.1, ⟨hk.1.1.1.1.2.2.1, ⟨hk.1.1.1.1.2.2.2.1, hk.1.1.1.1.2.2.2.2⟩⟩⟩⟩⟩⟩⟩⟩)), (by (with_reducible repeat (first | apply Kd.R_alloc | apply Kd.R_drewN | apply Kd.R_drew)); exact Kd.R_mono HO_622002.out (fun _ hk => ⟨hk.1.1.1.2, ⟨hk.1.1.2, ⟨hk.1.2, ⟨hk.2, ⟨hk.1.1.1.1.1, ⟨hk.1.1.1.1.2.1, ⟨hk.1.1.1.1.2.2.1, ⟨hk.1.1.1.1.2.2.2.1, hk.1.1.1.1.2.2.2.2⟩⟩⟩⟩⟩⟩⟩⟩)), (bK BK578), (bK BK600), (bK BK612), (bK BK621), (bK BK665), GW665.out, GE665.out, NB578_665.out, NB665_578.out, NB600_665.out, NB665_600.out, NB612_665.out, NB665_612.out, NB621_665.out, NB665_621.out, bG⟩)
      ·
       skip
       refine box_step ?hg (N := 13) ?hd (cs := #[.slice none 0 0, .int .i64 0, .slice none 0 0, .int .i64 0]) (t := 70) ?hr ?_; (case hd => rfl); (case hg => rfl); (case hr => first | (go_simp; done) | (go_simp; rfl))
       intro gb665 hg w109 hbox hb
       replace HO_601000 := Aside0.mk (Kd.R_below (rK HO_601000) hb)
       replace HO_601002 := Aside0.mk (Kd.R_below (rK HO_601002) hb)
       replace HO_613000 := Aside0.mk (Kd.R_below (rK HO_613000) hb)
       replace HO_613002 := Aside0.mk (Kd.R_below (rK HO_613002) hb)
       replace HO_622000 := Aside0.mk (Kd.R_below (rK HO_622000) hb)
       replace HO_622002 := Aside0.mk (Kd.R_below (rK HO_622002) hb)
       have BK665 := Aside0.mk (hbox)
       have GW665 := Aside0.mk ((by rw [hg]; exact (below_size bG) : w.heap.size ≤ gb665))
       have GE665 := Aside0.mk ((by rw [hg]; exact (below_size bG) : w.heap.size ≤ gb665))
       replace HB := Aside0.mk (below_step bG hb)
       have NB578_665 := Aside0.mk ((by rw [hg]; exact Nat.ne_of_lt (blk_lt (g := gb578) (o := .cells #[.slice A1_0 l1_0.length c1_0, .int .i64 a1_1, .slice A1_2 l1_2.length c1_2, .int .i64 a1_3] 67 (0, 0)) (bK BK578)) : gb578 ≠ gb665))
       have NB665_578 := Aside0.mk ((by rw [hg]; exact Nat.ne_of_gt (blk_lt (g := gb578) (o := .cells #[.slice A1_0 l1_0.length c1_0, .int .i64 a1_1, .slice A1_2 l1_2.length c1_2, .int .i64 a1_3] 67 (0, 0)) (bK BK578)) : gb665 ≠ gb578))
       replace BK578 := Aside0.mk (blk_below (g := gb578) (bK BK578) hb)
       have NB600_665 := Aside0.mk ((by rw [hg]; exact Nat.ne_of_lt (blk_lt (g := gb600) (o := .cells #[.slice Ao40 t592.length co40, .int .i64 t595, .slice Ao43 t596.length co43, .int .i64 t599] 70 (0, 0)) (bK BK600)) : gb600 ≠ gb665))
       have NB665_600 := Aside0.mk ((by rw [hg]; exact Nat.ne_of_gt (blk_lt (g := gb600) (o := .cells #[.slice Ao40 t592.length co40, .int .i64 t595, .slice Ao43 t596.length co43, .int .i64 t599] 70 (0, 0)) (bK BK600)) : gb665 ≠ gb600))
       replace BK600 := Aside0.mk (blk_below (g := gb600) (bK BK600) hb)
       have NB612_665 := Aside0.mk ((by rw [hg]; exact Nat.ne_of_lt (blk_lt (g := gb612) (o := .cells #[.slice Ao51 t639.length co51, .int .i64 t607, .slice Ao55 t640.length co55, .int .i64 t611] 70 (0, 0)) (bK BK612)) : gb612 ≠ gb665))
       have NB665_612 := Aside0.mk ((by rw [hg]; exact Nat.ne_of_gt (blk_lt (g := gb612) (o := .cells #[.slice Ao51 t639.length co51, .int .i64 t607, .slice Ao55 t640.length co55, .int .i64 t611] 70 (0, 0)) (bK BK612)) : gb665 ≠ gb612))
       replace BK612 := Aside0.mk (blk_below (g := gb612) (bK BK612) hb)
       have NB621_665 := Aside0.mk ((by rw [hg]; exact Nat.ne_of_lt (blk_lt (g := gb621) (o := .cells #[.slice Ao59 t613.length co59, .int .i64 t616, .slice Ao64 t617.length co64, .int .i64 t620] 70 (0, 0)) (bK BK621)) : gb621 ≠ gb665))
       have NB665_621 := Aside0.mk ((by rw [hg]; exact Nat.ne_of_gt (blk_lt (g := gb621) (o := .cells #[.slice Ao59 t613.length co59, .int .i64 t616, .slice Ao64 t617.length co64, .int .i64 t620] 70 (0, 0)) (bK BK621)) : gb665 ≠ gb621))
       replace BK621 := Aside0.mk (blk_below (g := gb621) (bK BK621) hb)
       clear hb hbox hg
       refine hK.out _ _ ⟨bC BK578 0, bC BK578 1, bC BK578 2, bC BK578 3⟩ (fun hHeld => ?_)
       clear hK K
       refine nB ?_
       refine one_ (i := 1) (N := some 76) (mb 7 39) rfl rfl (by kernel_rfl) (by decide) (fun K hK => ?_)
       refine gA Try.func34 #[.slice A0 l0.length c0] ?_
       with_reducible refine (laws_toPathS.calls kj26 _ _ l0 t646 _ ?side1 ?side2 A93.out).mono ?_
       (case side1 => exact cB HR0)
       (case side2 => exact HC0.out)
       rintro e w110 ⟨v647, rfl, ho0, hb⟩
       refine ⟨_, rfl, ?_⟩
       replace HO_601000 := Aside0.mk (Kd.R_below (rK HO_601000) hb)
       replace HO_601002 := Aside0.mk (Kd.R_below (rK HO_601002) hb)
       replace HO_613000 := Aside0.mk (Kd.R_below (rK HO_613000) hb)
       replace HO_613002 := Aside0.mk (Kd.R_below (rK HO_613002) hb)
       replace HO_622000 := Aside0.mk (Kd.R_below (rK HO_622000) hb)
       replace HO_622002 := Aside0.mk (Kd.R_below (rK HO_622002) hb)
       have HO648 := Aside0.mk (Kd.R_lower ho0 (below_size bG))
       replace BK578 := Aside0.mk (blk_below (g := gb578) (bK BK578) hb)
       replace BK600 := Aside0.mk (blk_below (g := gb600) (bK BK600) hb)
       replace BK612 := Aside0.mk (blk_below (g := gb612) (bK BK612) hb)
       replace BK621 := Aside0.mk (blk_below (g := gb621) (bK BK621) hb)
       replace BK665 := Aside0.mk (blk_below (g := gb665) (bK BK665) hb)
       replace HB := Aside0.mk (below_step bG hb)
       (try clear hb)
       (try clear hb2)
       (try clear hk)
       (try clear hi)
       (try clear ho0)
       refine hK.out _ _ ⟨bC BK578 0, bC BK578 1, bC BK578 2, bC BK578 3⟩ (fun hHeld => ?_)
       clear hK K
       refine nB ?_
       refine one_ (i := 3) (N := some 78) (mb 7 47) rfl rfl (by kernel_rfl) (by decide) (fun K hK => ?_)
       refine gA Try.func56 #[.agg #[.slice A1_0 l1_0.length c1_0, .int .i64 a1_1, .slice A1_2 l1_2.length c1_2, .int .i64 a1_3]] ?_
       with_reducible refine (laws_toControl.calls kj26 _ _ l1_0 a1_1 _ _ l1_2 a1_3 t649 t652 t653 t656 _ ?side1 ?side2 ?side3 ?side4 A94.out).mono ?_
       (case side1 => exact cB HR1_0)
       (case side2 => exact HC1_0.out)
       (case side3 => exact cB HR1_2)
       (case side4 => exact HC1_2.out)
       rintro e w111 ⟨v650, v654, rfl, ho0, ho1, hb⟩
       refine ⟨_, rfl, ?_⟩
       replace HO648 := Aside0.mk (Kd.R_below (rK HO648) hb)
       have HO651 := Aside0.mk (Kd.R_lower (Kd.R_new' (Kd.R_new' (Kd.R_new' (Kd.R_new' (Kd.R_new' (Kd.R_new' ho0 (Kd.R_lt (rK HO_601000))) (Kd.R_lt (rK HO_601002))) (Kd.R_lt (rK HO_613000))) (Kd.R_lt (rK HO_613002))) (Kd.R_lt (rK HO_622000))) (Kd.R_lt (rK HO_622002))) (below_size bG))
       have HO655 := Aside0.mk (Kd.R_lower (Kd.R_new' (Kd.R_new' (Kd.R_new' (Kd.R_new' (Kd.R_new' (Kd.R_new' ho1 (Kd.R_lt (rK HO_601000))) (Kd.R_lt (rK HO_601002))) (Kd.R_lt (rK HO_613000))) (Kd.R_lt (rK HO_613002))) (Kd.R_lt (rK HO_622000))) (Kd.R_lt (rK HO_622002))) (below_size bG))
       replace HO_601000 := Aside0.mk (Kd.R_mono (Kd.R_told (Kd.R_told (Kd.R_old (rK HO_601000) hb) (Kd.R_base ho0)) (Kd.R_base ho1)) (fun _ h_ => h_.1))
       replace HO_601002 := Aside0.mk (Kd.R_mono (Kd.R_told (Kd.R_told (Kd.R_old (rK HO_601002) hb) (Kd.R_base ho0)) (Kd.R_base ho1)) (fun _ h_ => h_.1))
       replace HO_613000 := Aside0.mk (Kd.R_mono (Kd.R_told (Kd.R_told (Kd.R_old (rK HO_613000) hb) (Kd.R_base ho0)) (Kd.R_base ho1)) (fun _ h_ => h_.1))
       replace HO_613002 := Aside0.mk (Kd.R_mono (Kd.R_told (Kd.R_told (Kd.R_old (rK HO_613002) hb) (Kd.R_base ho0)) (Kd.R_base ho1)) (fun _ h_ => h_.1))
       replace HO_622000 := Aside0.mk (Kd.R_mono (Kd.R_told (Kd.R_told (Kd.R_old (rK HO_622000) hb) (Kd.R_base ho0)) (Kd.R_base ho1)) (fun _ h_ => h_.1))
       replace HO_622002 := Aside0.mk (Kd.R_mono (Kd.R_told (Kd.R_told (Kd.R_old (rK HO_622002) hb) (Kd.R_base ho0)) (Kd.R_base ho1)) (fun _ h_ => h_.1))
       replace BK578 := Aside0.mk (blk_below (g := gb578) (bK BK578) hb)
       replace BK600 := Aside0.mk (blk_below (g := gb600) (bK BK600) hb)
       replace BK612 := Aside0.mk (blk_below (g := gb612) (bK BK612) hb)
       replace BK621 := Aside0.mk (blk_below (g := gb621) (bK BK621) hb)
       replace BK665 := Aside0.mk (blk_below (g := gb665) (bK BK665) hb)
       replace HB := Aside0.mk (below_step bG hb)
       (try clear hb)
       (try clear hb2)
       (try clear hk)
       (try clear hi)
       (try clear ho0)
       (try clear ho1)
       obtain ⟨Ao112, co112, eo112⟩ := Kd.R_slice HO648.out
       (first | subst eo112 | (injection eo112 with f1_ f2_ f3_; have f4_ := f1_.symm; have f5_ := f3_.symm; clear f1_ f2_ f3_; subst f4_; subst f5_))
       obtain ⟨Ao113, co113, eo113⟩ := Kd.R_slice HO651.out
       (first | subst eo113 | (injection eo113 with f1_ f2_ f3_; have f4_ := f1_.symm; have f5_ := f3_.symm; clear f1_ f2_ f3_; subst f4_; subst f5_))
       obtain ⟨Ao114, co114, eo114⟩ := Kd.R_slice HO655.out
       (first | subst eo114 | (injection eo114 with f1_ f2_ f3_; have f4_ := f1_.symm; have f5_ := f3_.symm; clear f1_ f2_ f3_; subst f4_; subst f5_))
       refine hK.out _ _ ⟨bC BK578 0, bC BK578 1, bC BK578 2, bC BK578 3⟩ (fun hHeld => ?_)
       clear hK K
       refine nB ?_
       refine one_ (i := 4) (N := some 79) (mb 7 63) rfl rfl (by kernel_rfl) (by decide) (fun K hK => ?_)
       refine gA Try.func65 #[.slice Ao112 t646.length co112, .agg #[.slice Ao113 t649.length co113, .int .i64 t652, .slice Ao114 t653.length co114, .int .i64 t656]] ?_
       with_reducible refine (impl_TickControl.calls kj26 _ _ t646 _ _ t649 t652 _ _ t653 t656 t657 t660 t661 t664 _ ?side1 ?side2 ?side3 ?side4 ?side5 ?side6 A95.out).mono ?_
       (case side1 => exact cO ⟨(Kd.R_reads' HO648.out).2.2⟩)
       (case side2 => exact (Kd.R_reads' HO648.out).2.1)
       (case side3 => exact cO ⟨(Kd.R_reads' HO651.out).2.2⟩)
       (case side4 => exact (Kd.R_reads' HO651.out).2.1)
       (case side5 => exact cO ⟨(Kd.R_reads' HO655.out).2.2⟩)
       (case side6 => exact (Kd.R_reads' HO655.out).2.1)
       rintro e w115 ⟨v658, v662, rfl, ho0, ho1, hb⟩
       refine ⟨_, rfl, ?_⟩
       replace HO648 := Aside0.mk (Kd.R_below (rK HO648) hb)
       have HO659 := Aside0.mk (Kd.R_lower (Kd.R_new' (Kd.R_new' (Kd.R_new' (Kd.R_new' (Kd.R_new' (Kd.R_new' (Kd.R_new' (Kd.R_new' ho0 (Kd.R_lt (rK HO_601000))) (Kd.R_lt (rK HO_601002))) (Kd.R_lt (rK HO_613000))) (Kd.R_lt (rK HO_613002))) (Kd.R_lt (rK HO_622000))) (Kd.R_lt (rK HO_622002))) (Kd.R_lt (rK HO651))) (Kd.R_lt (rK HO655))) (below_size bG))
       have HO663 := Aside0.mk (Kd.R_lower (Kd.R_new' (Kd.R_new' (Kd.R_new' (Kd.R_new' (Kd.R_new' (Kd.R_new' (Kd.R_new' (Kd.R_new' ho1 (Kd.R_lt (rK HO_601000))) (Kd.R_lt (rK HO_601002))) (Kd.R_lt (rK HO_613000))) (Kd.R_lt (rK HO_613002))) (Kd.R_lt (rK HO_622000))) (Kd.R_lt (rK HO_622002))) (Kd.R_lt (rK HO651))) (Kd.R_lt (rK HO655))) (below_size bG))
       replace HO_601000 := Aside0.mk (Kd.R_mono (Kd.R_told (Kd.R_told (Kd.R_old (rK HO_601000) hb) (Kd.R_base ho0)) (Kd.R_base ho1)) (fun _ h_ => h_.1))
       replace HO_601002 := Aside0.mk (Kd.R_mono (Kd.R_told (Kd.R_told (Kd.R_old (rK HO_601002) hb) (Kd.R_base ho0)) (Kd.R_base ho1)) (fun _ h_ => h_.1))
       replace HO_613000 := Aside0.mk (Kd.R_mono (Kd.R_told (Kd.R_told (Kd.R_old (rK HO_613000) hb) (Kd.R_base ho0)) (Kd.R_base ho1)) (fun _ h_ => h_.1))
       replace HO_613002 := Aside0.mk (Kd.R_mono (Kd.R_told (Kd.R_told (Kd.R_old (rK HO_613002) hb) (Kd.R_base ho0)) (Kd.R_base ho1)) (fun _ h_ => h_.1))
       replace HO_622000 := Aside0.mk (Kd.R_mono (Kd.R_told (Kd.R_told (Kd.R_old (rK HO_622000) hb) (Kd.R_base ho0)) (Kd.R_base ho1)) (fun _ h_ => h_.1))
       replace HO_622002 := Aside0.mk (Kd.R_mono (Kd.R_told (Kd.R_told (Kd.R_old (rK HO_622002) hb) (Kd.R_base ho0)) (Kd.R_base ho1)) (fun _ h_ => h_.1))
       replace HO651 := Aside0.mk (Kd.R_mono (Kd.R_told (Kd.R_told (Kd.R_old (rK HO651) hb) (Kd.R_base ho0)) (Kd.R_base ho1)) (fun _ h_ => h_.1))
       replace HO655 := Aside0.mk (Kd.R_mono (Kd.R_told (Kd.R_told (Kd.R_old (rK HO655) hb) (Kd.R_base ho0)) (Kd.R_base ho1)) (fun _ h_ => h_.1))
       replace BK578 := Aside0.mk (blk_below (g := gb578) (bK BK578) hb)
       replace BK600 := Aside0.mk (blk_below (g := gb600) (bK BK600) hb)
       replace BK612 := Aside0.mk (blk_below (g := gb612) (bK BK612) hb)
       replace BK621 := Aside0.mk (blk_below (g := gb621) (bK BK621) hb)
       replace BK665 := Aside0.mk (blk_below (g := gb665) (bK BK665) hb)
       replace HB := Aside0.mk (below_step bG hb)
       (try clear hb)
       (try clear hb2)
       (try clear hk)
       (try clear hi)
       (try clear ho0)
       (try clear ho1)
       refine hK.out _ _ ⟨bC BK578 0, bC BK578 1, bC BK578 2, bC BK578 3⟩ (fun hHeld => ?_)
       clear hK K
       refine nB ?_
       exact mB (hCont (.slice Ao112 t646.length co112, .slice Ao113 t649.length co113, .slice Ao114 t653.length co114, v658, v662, gb665) _ ⟨hHeld, (rK HO648), (by (with_reducible repeat (first | apply Kd.R_alloc | apply Kd.R_drewN | apply Kd.R_drew)); exact Kd.R_mono HO651.out (fun _ hk => ⟨hk.1.1.1.1.1.1.1.1, ⟨hk.1.2, ⟨hk.2, ⟨hk.1.1.1.1.1.1.1.2, ⟨hk.1.1.1.1.1.1.2, ⟨hk.1.1.1.1.1.2, ⟨hk.1.1.1.1.2, ⟨hk.1.1.1.2, hk.1.1.2⟩⟩⟩⟩⟩⟩⟩⟩)), (by (with_reducible repeat (first | apply Kd.R_alloc | apply Kd.R_drewN | apply Kd.R_drew)); exact Kd.R_mono HO655.out (fun _ hk => ⟨hk.1.1.1.1.1.1.1.1, ⟨hk.1.2, ⟨hk.2, ⟨hk.1.1.1.1.1.1.1.2, ⟨hk.1.1.1.1.1.1.2, ⟨hk.1.1.1.1.1.2, ⟨hk.1.1.1.1.2, ⟨hk.1.1.1.2, hk.1.1.2⟩⟩⟩⟩⟩⟩⟩⟩)), (by (with_reducible repeat (first | apply Kd.R_alloc | apply Kd.R_drewN | apply Kd.R_drew)); exact Kd.R_mono HO659.out (fun _ hk => ⟨hk.1.2, ⟨hk.2, ⟨hk.1.1.1.1.1.1.1.1, ⟨hk.1.1.1.1.1.1.1.2, ⟨hk.1.1.1.1.1.1.2, ⟨hk.1.1.1.1.1.2, ⟨hk.1.1.1.1.2, ⟨hk.1.1.1.2, hk.1.1.2⟩⟩⟩⟩⟩⟩⟩⟩)), (by (with_reducible repeat (first | apply Kd.R_alloc | apply Kd.R_drewN | apply Kd.R_drew)); exact Kd.R_mono HO663.out (fun _ hk => ⟨hk.1.2, ⟨hk.2, ⟨hk.1.1.1.1.1.1.1.1, ⟨hk.1.1.1.1.1.1.1.2, ⟨hk.1.1.1.1.1.1.2, ⟨hk.1.1.1.1.1.2, ⟨hk.1.1.1.1.2, ⟨hk.1.1.1.2, hk.1.1.2⟩⟩⟩⟩⟩⟩⟩⟩)), (by (with_reducible repeat (first | apply Kd.R_alloc | apply Kd.R_drewN | apply Kd.R_drew)); exact Kd.R_mono HO_601000.out (fun _ hk => ⟨hk.1.1.1.2, ⟨hk.1.1.2, ⟨hk.1.2, ⟨hk.2, ⟨hk.1.1.1.1.1, ⟨hk.1.1.1.1.2.1, ⟨hk.1.1.1.1.2.2.1, ⟨hk.1.1.1.1.2.2.2.1, hk.1.1.1.1.2.2.2.2⟩⟩⟩⟩⟩⟩⟩⟩)), (by (with_reducible repeat (first | apply Kd.R_alloc | apply Kd.R_drewN | apply Kd.R_drew)); exact Kd.R_mono HO_601002.out (fun _ hk => ⟨hk.1.1.1.2, ⟨hk.1.1.2, ⟨hk.1.2, ⟨hk.2, ⟨hk.1.1.1.1.1, ⟨hk.1.1.1.1.2.1, ⟨hk.1.1.1.1.2.2.1, ⟨hk.1.1.1.1.2.2.2.1, hk.1.1.1.1.2.2.2.2⟩⟩⟩⟩⟩⟩⟩⟩)), (by (with_reducible repeat (first | apply Kd.R_alloc | apply Kd.R_drewN | apply Kd.R_drew)); exact Kd.R_mono HO_613000.out (fun _ hk => ⟨hk.1.1.1.2, ⟨hk.1.1.2, ⟨hk.1.2, ⟨hk.2, ⟨hk.1.1.1.1.1, ⟨hk.1.1.1.1.2.1, ⟨hk.1.1.1.1.2.2.1, ⟨hk.1.1.1.1.2.2.2.1, hk.1.1.1.1.2.2.2.2⟩⟩⟩⟩⟩⟩⟩⟩)), (by (with_reducible repeat (first | apply Kd.R_alloc | apply Kd.R_drewN | apply Kd.R_drew)); exact Kd.R_mono HO_613002.out (fun _ hk => ⟨hk.1.1.1.2, ⟨hk.1.1.2, ⟨hk.1.2, ⟨hk.2, ⟨hk.1.1.1.1.1, ⟨hk.1.1.1.1.2.1, ⟨hk.1.1.1.1.2.2.1, ⟨hk.1.1.1.1.2.2.2.1, hk.1.1.1.1.2.2.2.2⟩⟩⟩⟩⟩⟩⟩⟩)), (by (with_reducible repeat (first | apply Kd.R_alloc | apply Kd.R_drewN | apply Kd.R_drew)); exact Kd.R_mono HO_622000.out (fun _ hk => ⟨hk.1.1.1.2, ⟨hk.1.1.2, ⟨hk.1.2, ⟨hk.2, ⟨hk.1.1.1.1.1, ⟨hk.1.1.1.1.2.1, ⟨hk.1.1.1.1.2.2.1, ⟨hk.1.1.1.1.2.2.2.1, hk.1.1.1.1.2.2.2.2⟩⟩⟩⟩⟩⟩⟩⟩)), (by (with_reducible repeat (first | apply Kd.R_alloc | apply Kd.R_drewN | apply Kd.R_drew)); exact Kd.R_mono HO_622002.out (fun _ hk => ⟨hk.1.1.1.2, ⟨hk.1.1.2, ⟨hk.1.2, ⟨hk.2, ⟨hk.1.1.1.1.1, ⟨hk.1.1.1.1.2.1, ⟨hk.1.1.1.1.2.2.1, ⟨hk.1.1.1.1.2.2.2.1, hk.1.1.1.1.2.2.2.2⟩⟩⟩⟩⟩⟩⟩⟩)), (bK BK578), (bK BK600), (bK BK612), (bK BK621), (bK BK665), GW665.out, GE665.out, NB578_665.out, NB665_578.out, NB600_665.out, NB665_600.out, NB612_665.out, NB665_612.out, NB621_665.out, NB665_621.out, bG⟩)
     rintro ⟨v647, v650, v654, v658, v662, gb665⟩ w116 ⟨hS_, h0_, h1_, h2_, h3_, h4_, h5_, h6_, h7_, h8_, h9_, h10_, h11_, h12_, h13_, h14_, h15_, h16_, h17_, h18_, h19_, h20_, h21_, h22_, h23_, h24_, h25_, h26_⟩
     have n0_ : Aside0 (Kd.R k90 90 w116 w.heap.size (fun _ => True) v647 t646) := ⟨h0_⟩
     have n1_ : Aside0 (Kd.R (Kd.int .i64) 3 w116 w.heap.size (fun k_ => some k_ ≠ (v654 : Value).ownBlock ∧ some k_ ≠ (v658 : Value).ownBlock ∧ some k_ ≠ (v662 : Value).ownBlock ∧ some k_ ≠ (.slice Ao40 t592.length co40 : Value).ownBlock ∧ some k_ ≠ (.slice Ao43 t596.length co43 : Value).ownBlock ∧ some k_ ≠ (.slice Ao51 t639.length co51 : Value).ownBlock ∧ some k_ ≠ (.slice Ao55 t640.length co55 : Value).ownBlock ∧ some k_ ≠ (.slice Ao59 t613.length co59 : Value).ownBlock ∧ some k_ ≠ (.slice Ao64 t617.length co64 : Value).ownBlock) v650 t649) := ⟨h1_⟩
     have n2_ : Aside0 (Kd.R (Kd.int .i64) 3 w116 w.heap.size (fun k_ => some k_ ≠ (v650 : Value).ownBlock ∧ some k_ ≠ (v658 : Value).ownBlock ∧ some k_ ≠ (v662 : Value).ownBlock ∧ some k_ ≠ (.slice Ao40 t592.length co40 : Value).ownBlock ∧ some k_ ≠ (.slice Ao43 t596.length co43 : Value).ownBlock ∧ some k_ ≠ (.slice Ao51 t639.length co51 : Value).ownBlock ∧ some k_ ≠ (.slice Ao55 t640.length co55 : Value).ownBlock ∧ some k_ ≠ (.slice Ao59 t613.length co59 : Value).ownBlock ∧ some k_ ≠ (.slice Ao64 t617.length co64 : Value).ownBlock) v654 t653) := ⟨h2_⟩
     have n3_ : Aside0 (Kd.R (Kd.int .i64) 3 w116 w.heap.size (fun k_ => some k_ ≠ (v650 : Value).ownBlock ∧ some k_ ≠ (v654 : Value).ownBlock ∧ some k_ ≠ (v662 : Value).ownBlock ∧ some k_ ≠ (.slice Ao40 t592.length co40 : Value).ownBlock ∧ some k_ ≠ (.slice Ao43 t596.length co43 : Value).ownBlock ∧ some k_ ≠ (.slice Ao51 t639.length co51 : Value).ownBlock ∧ some k_ ≠ (.slice Ao55 t640.length co55 : Value).ownBlock ∧ some k_ ≠ (.slice Ao59 t613.length co59 : Value).ownBlock ∧ some k_ ≠ (.slice Ao64 t617.length co64 : Value).ownBlock) v658 t657) := ⟨h3_⟩
     have n4_ : Aside0 (Kd.R (Kd.int .i64) 3 w116 w.heap.size (fun k_ => some k_ ≠ (v650 : Value).ownBlock ∧ some k_ ≠ (v654 : Value).ownBlock ∧ some k_ ≠ (v658 : Value).ownBlock ∧ some k_ ≠ (.slice Ao40 t592.length co40 : Value).ownBlock ∧ some k_ ≠ (.slice Ao43 t596.length co43 : Value).ownBlock ∧ some k_ ≠ (.slice Ao51 t639.length co51 : Value).ownBlock ∧ some k_ ≠ (.slice Ao55 t640.length co55 : Value).ownBlock ∧ some k_ ≠ (.slice Ao59 t613.length co59 : Value).ownBlock ∧ some k_ ≠ (.slice Ao64 t617.length co64 : Value).ownBlock) v662 t661) := ⟨h4_⟩
     have n5_ : Aside0 (Kd.R (Kd.int .i64) 3 w116 w.heap.size (fun k_ => some k_ ≠ (v650 : Value).ownBlock ∧ some k_ ≠ (v654 : Value).ownBlock ∧ some k_ ≠ (v658 : Value).ownBlock ∧ some k_ ≠ (v662 : Value).ownBlock ∧ some k_ ≠ (.slice Ao43 t596.length co43 : Value).ownBlock ∧ some k_ ≠ (.slice Ao51 t639.length co51 : Value).ownBlock ∧ some k_ ≠ (.slice Ao55 t640.length co55 : Value).ownBlock ∧ some k_ ≠ (.slice Ao59 t613.length co59 : Value).ownBlock ∧ some k_ ≠ (.slice Ao64 t617.length co64 : Value).ownBlock) (.slice Ao40 t592.length co40) t592) := ⟨h5_⟩
     have n6_ : Aside0 (Kd.R (Kd.int .i64) 3 w116 w.heap.size (fun k_ => some k_ ≠ (v650 : Value).ownBlock ∧ some k_ ≠ (v654 : Value).ownBlock ∧ some k_ ≠ (v658 : Value).ownBlock ∧ some k_ ≠ (v662 : Value).ownBlock ∧ some k_ ≠ (.slice Ao40 t592.length co40 : Value).ownBlock ∧ some k_ ≠ (.slice Ao51 t639.length co51 : Value).ownBlock ∧ some k_ ≠ (.slice Ao55 t640.length co55 : Value).ownBlock ∧ some k_ ≠ (.slice Ao59 t613.length co59 : Value).ownBlock ∧ some k_ ≠ (.slice Ao64 t617.length co64 : Value).ownBlock) (.slice Ao43 t596.length co43) t596) := ⟨h6_⟩
     have n7_ : Aside0 (Kd.R (Kd.int .i64) 3 w116 w.heap.size (fun k_ => some k_ ≠ (v650 : Value).ownBlock ∧ some k_ ≠ (v654 : Value).ownBlock ∧ some k_ ≠ (v658 : Value).ownBlock ∧ some k_ ≠ (v662 : Value).ownBlock ∧ some k_ ≠ (.slice Ao40 t592.length co40 : Value).ownBlock ∧ some k_ ≠ (.slice Ao43 t596.length co43 : Value).ownBlock ∧ some k_ ≠ (.slice Ao55 t640.length co55 : Value).ownBlock ∧ some k_ ≠ (.slice Ao59 t613.length co59 : Value).ownBlock ∧ some k_ ≠ (.slice Ao64 t617.length co64 : Value).ownBlock) (.slice Ao51 t639.length co51) t639) := ⟨h7_⟩
     have n8_ : Aside0 (Kd.R (Kd.int .i64) 3 w116 w.heap.size (fun k_ => some k_ ≠ (v650 : Value).ownBlock ∧ some k_ ≠ (v654 : Value).ownBlock ∧ some k_ ≠ (v658 : Value).ownBlock ∧ some k_ ≠ (v662 : Value).ownBlock ∧ some k_ ≠ (.slice Ao40 t592.length co40 : Value).ownBlock ∧ some k_ ≠ (.slice Ao43 t596.length co43 : Value).ownBlock ∧ some k_ ≠ (.slice Ao51 t639.length co51 : Value).ownBlock ∧ some k_ ≠ (.slice Ao59 t613.length co59 : Value).ownBlock ∧ some k_ ≠ (.slice Ao64 t617.length co64 : Value).ownBlock) (.slice Ao55 t640.length co55) t640) := ⟨h8_⟩
     have n9_ : Aside0 (Kd.R (Kd.int .i64) 3 w116 w.heap.size (fun k_ => some k_ ≠ (v650 : Value).ownBlock ∧ some k_ ≠ (v654 : Value).ownBlock ∧ some k_ ≠ (v658 : Value).ownBlock ∧ some k_ ≠ (v662 : Value).ownBlock ∧ some k_ ≠ (.slice Ao40 t592.length co40 : Value).ownBlock ∧ some k_ ≠ (.slice Ao43 t596.length co43 : Value).ownBlock ∧ some k_ ≠ (.slice Ao51 t639.length co51 : Value).ownBlock ∧ some k_ ≠ (.slice Ao55 t640.length co55 : Value).ownBlock ∧ some k_ ≠ (.slice Ao64 t617.length co64 : Value).ownBlock) (.slice Ao59 t613.length co59) t643) := ⟨h9_⟩
     have n10_ : Aside0 (Kd.R (Kd.int .i64) 3 w116 w.heap.size (fun k_ => some k_ ≠ (v650 : Value).ownBlock ∧ some k_ ≠ (v654 : Value).ownBlock ∧ some k_ ≠ (v658 : Value).ownBlock ∧ some k_ ≠ (v662 : Value).ownBlock ∧ some k_ ≠ (.slice Ao40 t592.length co40 : Value).ownBlock ∧ some k_ ≠ (.slice Ao43 t596.length co43 : Value).ownBlock ∧ some k_ ≠ (.slice Ao51 t639.length co51 : Value).ownBlock ∧ some k_ ≠ (.slice Ao55 t640.length co55 : Value).ownBlock ∧ some k_ ≠ (.slice Ao59 t613.length co59 : Value).ownBlock) (.slice Ao64 t617.length co64) t644) := ⟨h10_⟩
     have n11_ : Aside0 (w116.heap[gb578]? = some (.cells #[.slice A1_0 l1_0.length c1_0, .int .i64 a1_1, .slice A1_2 l1_2.length c1_2, .int .i64 a1_3] 67 (0, 0))) := ⟨h11_⟩
     have n12_ : Aside0 (w116.heap[gb600]? = some (.cells #[.slice Ao40 t592.length co40, .int .i64 t595, .slice Ao43 t596.length co43, .int .i64 t599] 70 (0, 0))) := ⟨h12_⟩
     have n13_ : Aside0 (w116.heap[gb612]? = some (.cells #[.slice Ao51 t639.length co51, .int .i64 t607, .slice Ao55 t640.length co55, .int .i64 t611] 70 (0, 0))) := ⟨h13_⟩
     have n14_ : Aside0 (w116.heap[gb621]? = some (.cells #[.slice Ao59 t613.length co59, .int .i64 t616, .slice Ao64 t617.length co64, .int .i64 t620] 70 (0, 0))) := ⟨h14_⟩
     have n15_ : Aside0 (w116.heap[gb665]? = some (.cells #[.slice none 0 0, .int .i64 0, .slice none 0 0, .int .i64 0] 70 (0, 0))) := ⟨h15_⟩
     have n16_ : Aside0 (w.heap.size ≤ gb665) := ⟨h16_⟩
     have n17_ : Aside0 (w.heap.size ≤ gb665) := ⟨h17_⟩
     have n18_ : Aside0 (gb578 ≠ gb665) := ⟨h18_⟩
     have n19_ : Aside0 (gb665 ≠ gb578) := ⟨h19_⟩
     have n20_ : Aside0 (gb600 ≠ gb665) := ⟨h20_⟩
     have n21_ : Aside0 (gb665 ≠ gb600) := ⟨h21_⟩
     have n22_ : Aside0 (gb612 ≠ gb665) := ⟨h22_⟩
     have n23_ : Aside0 (gb665 ≠ gb612) := ⟨h23_⟩
     have n24_ : Aside0 (gb621 ≠ gb665) := ⟨h24_⟩
     have n25_ : Aside0 (gb665 ≠ gb621) := ⟨h25_⟩
     have n26_ : Aside0 (Below w.heap.size w w116) := ⟨h26_⟩
     clear HO_601000
     clear HO_601002
     clear HO_613000
     clear HO_613002
     clear HO_622000
     clear HO_622002
     clear BK578
     clear BK600
     clear BK612
     clear BK621
     clear HB
     clear h0_ h1_ h2_ h3_ h4_ h5_ h6_ h7_ h8_ h9_ h10_ h11_ h12_ h13_ h14_ h15_ h16_ h17_ h18_ h19_ h20_ h21_ h22_ h23_ h24_ h25_ h26_
     have HO648 := n0_
     have HO651 := n1_
     have HO655 := n2_
     have HO659 := n3_
     have HO663 := n4_
     have HO_601000 := n5_
     have HO_601002 := n6_
     have HO_613000 := n7_
     have HO_613002 := n8_
     have HO_622000 := n9_
     have HO_622002 := n10_
     have BK578 := n11_
     have BK600 := n12_
     have BK612 := n13_
     have BK621 := n14_
     have BK665 := n15_
     have GW665 := n16_
     have GE665 := n17_
     have NB578_665 := n18_
     have NB665_578 := n19_
     have NB600_665 := n20_
     have NB665_600 := n21_
     have NB612_665 := n22_
     have NB665_612 := n23_
     have NB621_665 := n24_
     have NB665_621 := n25_
     have HB := n26_
     clear n0_ n1_ n2_ n3_ n4_ n5_ n6_ n7_ n8_ n9_ n10_ n11_ n12_ n13_ n14_ n15_ n16_ n17_ n18_ n19_ n20_ n21_ n22_ n23_ n24_ n25_ n26_
     have hHeld : w116.cell? ⟨gb578, 0, none⟩ = some (.slice A1_0 l1_0.length c1_0) ∧ w116.cell? ⟨gb578, 1, none⟩ = some (.int .i64 a1_1) ∧ w116.cell? ⟨gb578, 2, none⟩ = some (.slice A1_2 l1_2.length c1_2) ∧ w116.cell? ⟨gb578, 3, none⟩ = some (.int .i64 a1_3) := hS_
     obtain ⟨Ao117, co117, eo117⟩ := Kd.R_slice HO659.out
     (first | subst eo117 | (injection eo117 with f1_ f2_ f3_; have f4_ := f1_.symm; have f5_ := f3_.symm; clear f1_ f2_ f3_; subst f4_; subst f5_))
     obtain ⟨Ao120, co120, eo120⟩ := Kd.R_slice HO663.out
     (first | subst eo120 | (injection eo120 with f1_ f2_ f3_; have f4_ := f1_.symm; have f5_ := f3_.symm; clear f1_ f2_ f3_; subst f4_; subst f5_))
     refine norm_ (a' := ?_) ?_ ?_
     rotate_left
     ·
      simp only [putAll, Act.put, List.setIfInBounds_toArray, List.set_cons_zero, List.set_cons_succ]
      rfl
     refine one_ (i := 6) (N := none) (mb 7 127) rfl rfl (by kernel_rfl) (by decide) (fun K hK => ?_)
     have hs118 : w116.cell? ⟨gb665, 0, none⟩ = some (.slice none 0 0) := bC BK665 0
     have hfs118 := blk_frozen BK665.out 0
     have hns118_0 := NB578_665.out
     have hns118_1 := NB600_665.out
     have hns118_2 := NB612_665.out
     have hns118_3 := NB621_665.out
     have hms118_0 := NB665_578.out
     have hms118_1 := NB665_600.out
     have hms118_2 := NB665_612.out
     have hms118_3 := NB665_621.out
     have hs119 : w116.cell? ⟨gb665, 1, none⟩ = some (.int .i64 0) := bC BK665 1
     have hfs119 := blk_frozen BK665.out 1
     have hns119_0 := NB578_665.out
     have hns119_1 := NB600_665.out
     have hns119_2 := NB612_665.out
     have hns119_3 := NB621_665.out
     have hms119_0 := NB665_578.out
     have hms119_1 := NB665_600.out
     have hms119_2 := NB665_612.out
     have hms119_3 := NB665_621.out
     have hs121 : w116.cell? ⟨gb665, 2, none⟩ = some (.slice none 0 0) := bC BK665 2
     have hfs121 := blk_frozen BK665.out 2
     have hns121_0 := NB578_665.out
     have hns121_1 := NB600_665.out
     have hns121_2 := NB612_665.out
     have hns121_3 := NB621_665.out
     have hms121_0 := NB665_578.out
     have hms121_1 := NB665_600.out
     have hms121_2 := NB665_612.out
     have hms121_3 := NB665_621.out
     have hs122 : w116.cell? ⟨gb665, 3, none⟩ = some (.int .i64 0) := bC BK665 3
     have hfs122 := blk_frozen BK665.out 3
     have hns122_0 := NB578_665.out
     have hns122_1 := NB600_665.out
     have hns122_2 := NB612_665.out
     have hns122_3 := NB621_665.out
     have hms122_0 := NB665_578.out
     have hms122_1 := NB665_600.out
     have hms122_2 := NB665_612.out
     have hms122_3 := NB665_621.out
     refine skip_ (w1 := ?_) (by rfl) rfl ?_ ?_
     rotate_left
     ·
      go_simp
      rfl
     refine hK.out _ _ ⟨((cell_far (p := ⟨gb665, _, none⟩) NB578_665.out _).trans (((cell_far (p := ⟨gb665, _, none⟩) NB578_665.out _).trans (((cell_far (p := ⟨gb665, _, none⟩) NB578_665.out _).trans (((cell_far (p := ⟨gb665, _, none⟩) NB578_665.out _).trans (hHeld.1)))))))), ((cell_far (p := ⟨gb665, _, none⟩) NB578_665.out _).trans (((cell_far (p := ⟨gb665, _, none⟩) NB578_665.out _).trans (((cell_far (p := ⟨gb665, _, none⟩) NB578_665.out _).trans (((cell_far (p := ⟨gb665, _, none⟩) NB578_665.out _).trans (hHeld.2.1)))))))), ((cell_far (p := ⟨gb665, _, none⟩) NB578_665.out _).trans (((cell_far (p := ⟨gb665, _, none⟩) NB578_665.out _).trans (((cell_far (p := ⟨gb665, _, none⟩) NB578_665.out _).trans (((cell_far (p := ⟨gb665, _, none⟩) NB578_665.out _).trans (hHeld.2.2.1)))))))), ((cell_far (p := ⟨gb665, _, none⟩) NB578_665.out _).trans (((cell_far (p := ⟨gb665, _, none⟩) NB578_665.out _).trans (((cell_far (p := ⟨gb665, _, none⟩) NB578_665.out _).trans (((cell_far (p := ⟨gb665, _, none⟩) NB578_665.out _).trans (hHeld.2.2.2))))))))⟩ (fun hHeld => ?_)
     clear hK K
     refine done_ (by kernel_rfl) ?_
     have hnb123 := NB665_578.out
     have hnc123 := NB578_665.out
     have hnb124 := NB665_600.out
     have hnc124 := NB600_665.out
     have hnb125 := NB665_612.out
     have hnc125 := NB612_665.out
     have hnb126 := NB665_621.out
     have hnc126 := NB621_665.out
     obtain ⟨hcz127_0, hcz127_1, hcz127_2, hcz127_3, hfz127_0, hfz127_1, hfz127_2, hfz127_3⟩ := blkc4 BK665
     have hnb128 := NB600_578.out
     have hnc128 := NB578_600.out
     have hnb129 := NB600_612.out
     have hnc129 := NB612_600.out
     obtain ⟨hcz130_0, hcz130_1, hcz130_2, hcz130_3, hfz130_0, hfz130_1, hfz130_2, hfz130_3⟩ := blkc4 BK600
     try go_wp2_with (first | ((with_reducible refine gate_callee (f := 58) rfl ?_); refine gL (some 82) Try.func58 #[.agg #[.slice Ao117 t657.length co117, .int .i64 t660, .slice Ao120 t661.length co120, .int .i64 t664], .agg #[.slice Ao40 t592.length co40, .int .i64 t595, .slice Ao43 t596.length co43, .int .i64 t599]] ?_; (with_reducible refine (laws_eqControl.calls kj26 _ _ t657 t660 _ _ t661 t664 _ _ t592 t595 _ _ t596 t599 true _ ?side1 ?side2 ?side3 ?side4 ?side5 ?side6 ?side7 ?side8 A96.out).mono ?_); (case side1 => refine (Kd.R_reads' (e := 3) (base := w.heap.size) (ok := fun k_ => (some k_ ≠ (v650 : Value).ownBlock ∧ (some k_ ≠ (v654 : Value).ownBlock ∧ (some k_ ≠ (.slice Ao120 t661.length co120 : Value).ownBlock ∧ (some k_ ≠ (.slice Ao40 t592.length co40 : Value).ownBlock ∧ (some k_ ≠ (.slice Ao43 t596.length co43 : Value).ownBlock ∧ (some k_ ≠ (.slice Ao51 t639.length co51 : Value).ownBlock ∧ (some k_ ≠ (.slice Ao55 t640.length co55 : Value).ownBlock ∧ (some k_ ≠ (.slice Ao59 t613.length co59 : Value).ownBlock ∧ some k_ ≠ (.slice Ao64 t617.length co64 : Value).ownBlock))))))))) (n := t657.length) (c := co117) ?_).2.2; exact (by (with_reducible repeat (first | apply Kd.R_alloc | apply Kd.R_drewN | apply Kd.R_drew)); exact (Kd.R_mono (Kd.R_far (p := ⟨gb665, 3, none⟩) (Kd.R_far (p := ⟨gb665, 2, none⟩) (Kd.R_far (p := ⟨gb665, 1, none⟩) (Kd.R_far (p := ⟨gb665, 0, none⟩) (Kd.R_types HO659.out BK665.out (by decide)) (fun _ hk => hk.2) (.slice Ao117 t657.length co117)) (fun _ hk => hk.2) (.int .i64 t660)) (fun _ hk => hk.2) (.slice Ao120 t661.length co120)) (fun _ hk => hk.2) (.int .i64 t664)) (fun _ h_ => h_.1)))); (case side2 => exact (Kd.R_reads' HO659.out).2.1); (case side3 => refine (Kd.R_reads' (e := 3) (base := w.heap.size) (ok := fun k_ => (some k_ ≠ (v650 : Value).ownBlock ∧ (some k_ ≠ (v654 : Value).ownBlock ∧ (some k_ ≠ (.slice Ao117 t657.length co117 : Value).ownBlock ∧ (some k_ ≠ (.slice Ao40 t592.length co40 : Value).ownBlock ∧ (some k_ ≠ (.slice Ao43 t596.length co43 : Value).ownBlock ∧ (some k_ ≠ (.slice Ao51 t639.length co51 : Value).ownBlock ∧ (some k_ ≠ (.slice Ao55 t640.length co55 : Value).ownBlock ∧ (some k_ ≠ (.slice Ao59 t613.length co59 : Value).ownBlock ∧ some k_ ≠ (.slice Ao64 t617.length co64 : Value).ownBlock))))))))) (n := t661.length) (c := co120) ?_).2.2; exact (by (with_reducible repeat (first | apply Kd.R_alloc | apply Kd.R_drewN | apply Kd.R_drew)); exact (Kd.R_mono (Kd.R_far (p := ⟨gb665, 3, none⟩) (Kd.R_far (p := ⟨gb665, 2, none⟩) (Kd.R_far (p := ⟨gb665, 1, none⟩) (Kd.R_far (p := ⟨gb665, 0, none⟩) (Kd.R_types HO663.out BK665.out (by decide)) (fun _ hk => hk.2) (.slice Ao117 t657.length co117)) (fun _ hk => hk.2) (.int .i64 t660)) (fun _ hk => hk.2) (.slice Ao120 t661.length co120)) (fun _ hk => hk.2) (.int .i64 t664)) (fun _ h_ => h_.1)))); (case side4 => exact (Kd.R_reads' HO663.out).2.1); (case side5 => refine (Kd.R_reads' (e := 3) (base := w.heap.size) (ok := fun k_ => (some k_ ≠ (v650 : Value).ownBlock ∧ (some k_ ≠ (v654 : Value).ownBlock ∧ (some k_ ≠ (.slice Ao117 t657.length co117 : Value).ownBlock ∧ (some k_ ≠ (.slice Ao120 t661.length co120 : Value).ownBlock ∧ (some k_ ≠ (.slice Ao43 t596.length co43 : Value).ownBlock ∧ (some k_ ≠ (.slice Ao51 t639.length co51 : Value).ownBlock ∧ (some k_ ≠ (.slice Ao55 t640.length co55 : Value).ownBlock ∧ (some k_ ≠ (.slice Ao59 t613.length co59 : Value).ownBlock ∧ some k_ ≠ (.slice Ao64 t617.length co64 : Value).ownBlock))))))))) (n := t592.length) (c := co40) ?_).2.2; exact (by (with_reducible repeat (first | apply Kd.R_alloc | apply Kd.R_drewN | apply Kd.R_drew)); exact (Kd.R_mono (Kd.R_far (p := ⟨gb665, 3, none⟩) (Kd.R_far (p := ⟨gb665, 2, none⟩) (Kd.R_far (p := ⟨gb665, 1, none⟩) (Kd.R_far (p := ⟨gb665, 0, none⟩) (Kd.R_types HO_601000.out BK665.out (by decide)) (fun _ hk => hk.2) (.slice Ao117 t657.length co117)) (fun _ hk => hk.2) (.int .i64 t660)) (fun _ hk => hk.2) (.slice Ao120 t661.length co120)) (fun _ hk => hk.2) (.int .i64 t664)) (fun _ h_ => h_.1)))); (case side6 => exact (Kd.R_reads' HO_601000.out).2.1); (case side7 => refine (Kd.R_reads' (e := 3) (base := w.heap.size) (ok := fun k_ => (some k_ ≠ (v650 : Value).ownBlock ∧ (some k_ ≠ (v654 : Value).ownBlock ∧ (some k_ ≠ (.slice Ao117 t657.length co117 : Value).ownBlock ∧ (some k_ ≠ (.slice Ao120 t661.length co120 : Value).ownBlock ∧ (some k_ ≠ (.slice Ao40 t592.length co40 : Value).ownBlock ∧ (some k_ ≠ (.slice Ao51 t639.length co51 : Value).ownBlock ∧ (some k_ ≠ (.slice Ao55 t640.length co55 : Value).ownBlock ∧ (some k_ ≠ (.slice Ao59 t613.length co59 : Value).ownBlock ∧ some k_ ≠ (.slice Ao64 t617.length co64 : Value).ownBlock))))))))) (n := t596.length) (c := co43) ?_).2.2; exact (by (with_reducible repeat (first | apply Kd.R_alloc | apply Kd.R_drewN | apply Kd.R_drew)); exact (Kd.R_mono (Kd.R_far (p := ⟨gb665, 3, none⟩) (Kd.R_far (p := ⟨gb665, 2, none⟩) (Kd.R_far (p := ⟨gb665, 1, none⟩) (Kd.R_far (p := ⟨gb665, 0, none⟩) (Kd.R_types HO_601002.out BK665.out (by decide)) (fun _ hk => hk.2) (.slice Ao117 t657.length co117)) (fun _ hk => hk.2) (.int .i64 t660)) (fun _ hk => hk.2) (.slice Ao120 t661.length co120)) (fun _ hk => hk.2) (.int .i64 t664)) (fun _ h_ => h_.1)))); (case side8 => exact (Kd.R_reads' HO_601002.out).2.1); rintro e w131 ⟨rfl, hb⟩; refine ⟨_, rfl, ?_⟩; have n0_ := Aside0.mk (Kd.R_below (by (with_reducible repeat (first | apply Kd.R_alloc | apply Kd.R_drewN | apply Kd.R_drew)); exact (Kd.R_mono (Kd.R_far (p := ⟨gb665, 3, none⟩) (Kd.R_far (p := ⟨gb665, 2, none⟩) (Kd.R_far (p := ⟨gb665, 1, none⟩) (Kd.R_far (p := ⟨gb665, 0, none⟩) (Kd.R_types HO_601000.out BK665.out (by decide)) (fun _ hk => hk.2) (.slice Ao117 t657.length co117)) (fun _ hk => hk.2) (.int .i64 t660)) (fun _ hk => hk.2) (.slice Ao120 t661.length co120)) (fun _ hk => hk.2) (.int .i64 t664)) (fun _ h_ => h_.1))) hb); have n1_ := Aside0.mk (Kd.R_below (by (with_reducible repeat (first | apply Kd.R_alloc | apply Kd.R_drewN | apply Kd.R_drew)); exact (Kd.R_mono (Kd.R_far (p := ⟨gb665, 3, none⟩) (Kd.R_far (p := ⟨gb665, 2, none⟩) (Kd.R_far (p := ⟨gb665, 1, none⟩) (Kd.R_far (p := ⟨gb665, 0, none⟩) (Kd.R_types HO_601002.out BK665.out (by decide)) (fun _ hk => hk.2) (.slice Ao117 t657.length co117)) (fun _ hk => hk.2) (.int .i64 t660)) (fun _ hk => hk.2) (.slice Ao120 t661.length co120)) (fun _ hk => hk.2) (.int .i64 t664)) (fun _ h_ => h_.1))) hb); have n2_ := Aside0.mk (Kd.R_below (by (with_reducible repeat (first | apply Kd.R_alloc | apply Kd.R_drewN | apply Kd.R_drew)); exact (Kd.R_mono (Kd.R_far (p := ⟨gb665, 3, none⟩) (Kd.R_far (p := ⟨gb665, 2, none⟩) (Kd.R_far (p := ⟨gb665, 1, none⟩) (Kd.R_far (p := ⟨gb665, 0, none⟩) (Kd.R_types HO_613000.out BK665.out (by decide)) (fun _ hk => hk.2) (.slice Ao117 t657.length co117)) (fun _ hk => hk.2) (.int .i64 t660)) (fun _ hk => hk.2) (.slice Ao120 t661.length co120)) (fun _ hk => hk.2) (.int .i64 t664)) (fun _ h_ => h_.1))) hb); have n3_ := Aside0.mk (Kd.R_below (by (with_reducible repeat (first | apply Kd.R_alloc | apply Kd.R_drewN | apply Kd.R_drew)); exact (Kd.R_mono (Kd.R_far (p := ⟨gb665, 3, none⟩) (Kd.R_far (p := ⟨gb665, 2, none⟩) (Kd.R_far (p := ⟨gb665, 1, none⟩) (Kd.R_far (p := ⟨gb665, 0, none⟩) (Kd.R_types HO_613002.out BK665.out (by decide)) (fun _ hk => hk.2) (.slice Ao117 t657.length co117)) (fun _ hk => hk.2) (.int .i64 t660)) (fun _ hk => hk.2) (.slice Ao120 t661.length co120)) (fun _ hk => hk.2) (.int .i64 t664)) (fun _ h_ => h_.1))) hb); have n4_ := Aside0.mk (Kd.R_below (by (with_reducible repeat (first | apply Kd.R_alloc | apply Kd.R_drewN | apply Kd.R_drew)); exact (Kd.R_mono (Kd.R_far (p := ⟨gb665, 3, none⟩) (Kd.R_far (p := ⟨gb665, 2, none⟩) (Kd.R_far (p := ⟨gb665, 1, none⟩) (Kd.R_far (p := ⟨gb665, 0, none⟩) (Kd.R_types HO_622000.out BK665.out (by decide)) (fun _ hk => hk.2) (.slice Ao117 t657.length co117)) (fun _ hk => hk.2) (.int .i64 t660)) (fun _ hk => hk.2) (.slice Ao120 t661.length co120)) (fun _ hk => hk.2) (.int .i64 t664)) (fun _ h_ => h_.1))) hb); have n5_ := Aside0.mk (Kd.R_below (by (with_reducible repeat (first | apply Kd.R_alloc | apply Kd.R_drewN | apply Kd.R_drew)); exact (Kd.R_mono (Kd.R_far (p := ⟨gb665, 3, none⟩) (Kd.R_far (p := ⟨gb665, 2, none⟩) (Kd.R_far (p := ⟨gb665, 1, none⟩) (Kd.R_far (p := ⟨gb665, 0, none⟩) (Kd.R_types HO_622002.out BK665.out (by decide)) (fun _ hk => hk.2) (.slice Ao117 t657.length co117)) (fun _ hk => hk.2) (.int .i64 t660)) (fun _ hk => hk.2) (.slice Ao120 t661.length co120)) (fun _ hk => hk.2) (.int .i64 t664)) (fun _ h_ => h_.1))) hb); have n6_ := Aside0.mk (Kd.R_below (by (with_reducible repeat (first | apply Kd.R_alloc | apply Kd.R_drewN | apply Kd.R_drew)); exact (Kd.R_mono (Kd.R_far (p := ⟨gb665, 3, none⟩) (Kd.R_far (p := ⟨gb665, 2, none⟩) (Kd.R_far (p := ⟨gb665, 1, none⟩) (Kd.R_far (p := ⟨gb665, 0, none⟩) (Kd.R_types HO648.out BK665.out (by decide)) (fun _ hk => hk.2) (.slice Ao117 t657.length co117)) (fun _ hk => hk.2) (.int .i64 t660)) (fun _ hk => hk.2) (.slice Ao120 t661.length co120)) (fun _ hk => hk.2) (.int .i64 t664)) (fun _ h_ => h_.1))) hb); have n7_ := Aside0.mk (Kd.R_below (by (with_reducible repeat (first | apply Kd.R_alloc | apply Kd.R_drewN | apply Kd.R_drew)); exact (Kd.R_mono (Kd.R_far (p := ⟨gb665, 3, none⟩) (Kd.R_far (p := ⟨gb665, 2, none⟩) (Kd.R_far (p := ⟨gb665, 1, none⟩) (Kd.R_far (p := ⟨gb665, 0, none⟩) (Kd.R_types HO651.out BK665.out (by decide)) (fun _ hk => hk.2) (.slice Ao117 t657.length co117)) (fun _ hk => hk.2) (.int .i64 t660)) (fun _ hk => hk.2) (.slice Ao120 t661.length co120)) (fun _ hk => hk.2) (.int .i64 t664)) (fun _ h_ => h_.1))) hb); have n8_ := Aside0.mk (Kd.R_below (by (with_reducible repeat (first | apply Kd.R_alloc | apply Kd.R_drewN | apply Kd.R_drew)); exact (Kd.R_mono (Kd.R_far (p := ⟨gb665, 3, none⟩) (Kd.R_far (p := ⟨gb665, 2, none⟩) (Kd.R_far (p := ⟨gb665, 1, none⟩) (Kd.R_far (p := ⟨gb665, 0, none⟩) (Kd.R_types HO655.out BK665.out (by decide)) (fun _ hk => hk.2) (.slice Ao117 t657.length co117)) (fun _ hk => hk.2) (.int .i64 t660)) (fun _ hk => hk.2) (.slice Ao120 t661.length co120)) (fun _ hk => hk.2) (.int .i64 t664)) (fun _ h_ => h_.1))) hb); have n9_ := Aside0.mk (Kd.R_below (by (with_reducible repeat (first | apply Kd.R_alloc | apply Kd.R_drewN | apply Kd.R_drew)); exact (Kd.R_mono (Kd.R_far (p := ⟨gb665, 3, none⟩) (Kd.R_far (p := ⟨gb665, 2, none⟩) (Kd.R_far (p := ⟨gb665, 1, none⟩) (Kd.R_far (p := ⟨gb665, 0, none⟩) (Kd.R_types HO659.out BK665.out (by decide)) (fun _ hk => hk.2) (.slice Ao117 t657.length co117)) (fun _ hk => hk.2) (.int .i64 t660)) (fun _ hk => hk.2) (.slice Ao120 t661.length co120)) (fun _ hk => hk.2) (.int .i64 t664)) (fun _ h_ => h_.1))) hb); have n10_ := Aside0.mk (Kd.R_below (by (with_reducible repeat (first | apply Kd.R_alloc | apply Kd.R_drewN | apply Kd.R_drew)); exact (Kd.R_mono (Kd.R_far (p := ⟨gb665, 3, none⟩) (Kd.R_far (p := ⟨gb665, 2, none⟩) (Kd.R_far (p := ⟨gb665, 1, none⟩) (Kd.R_far (p := ⟨gb665, 0, none⟩) (Kd.R_types HO663.out BK665.out (by decide)) (fun _ hk => hk.2) (.slice Ao117 t657.length co117)) (fun _ hk => hk.2) (.int .i64 t660)) (fun _ hk => hk.2) (.slice Ao120 t661.length co120)) (fun _ hk => hk.2) (.int .i64 t664)) (fun _ h_ => h_.1))) hb); have n11_ := Aside0.mk (blk_below (g := gb578) (o := .cells #[.slice A1_0 l1_0.length c1_0, .int .i64 a1_1, .slice A1_2 l1_2.length c1_2, .int .i64 a1_3] 67 (0, 0)) (by (with_reducible repeat (first | refine blk_drewN ?_ _ | refine blk_drew ?_ | refine blk_alloc ?_ _)); refine blk_far ?_ NB578_665.out _; (with_reducible repeat (first | refine blk_drewN ?_ _ | refine blk_drew ?_ | refine blk_alloc ?_ _)); refine blk_far ?_ NB578_665.out _; (with_reducible repeat (first | refine blk_drewN ?_ _ | refine blk_drew ?_ | refine blk_alloc ?_ _)); refine blk_far ?_ NB578_665.out _; (with_reducible repeat (first | refine blk_drewN ?_ _ | refine blk_drew ?_ | refine blk_alloc ?_ _)); refine blk_far ?_ NB578_665.out _; (with_reducible repeat (first | refine blk_drewN ?_ _ | refine blk_drew ?_ | refine blk_alloc ?_ _)); exact BK578.out) hb); have n12_ := Aside0.mk (blk_below (g := gb600) (o := .cells #[.slice Ao40 t592.length co40, .int .i64 t595, .slice Ao43 t596.length co43, .int .i64 t599] 70 (0, 0)) (by (with_reducible repeat (first | refine blk_drewN ?_ _ | refine blk_drew ?_ | refine blk_alloc ?_ _)); refine blk_far ?_ NB600_665.out _; (with_reducible repeat (first | refine blk_drewN ?_ _ | refine blk_drew ?_ | refine blk_alloc ?_ _)); refine blk_far ?_ NB600_665.out _; (with_reducible repeat (first | refine blk_drewN ?_ _ | refine blk_drew ?_ | refine blk_alloc ?_ _)); refine blk_far ?_ NB600_665.out _; (with_reducible repeat (first | refine blk_drewN ?_ _ | refine blk_drew ?_ | refine blk_alloc ?_ _)); refine blk_far ?_ NB600_665.out _; (with_reducible repeat (first | refine blk_drewN ?_ _ | refine blk_drew ?_ | refine blk_alloc ?_ _)); exact BK600.out) hb); have n13_ := Aside0.mk (blk_below (g := gb612) (o := .cells #[.slice Ao51 t639.length co51, .int .i64 t607, .slice Ao55 t640.length co55, .int .i64 t611] 70 (0, 0)) (by (with_reducible repeat (first | refine blk_drewN ?_ _ | refine blk_drew ?_ | refine blk_alloc ?_ _)); refine blk_far ?_ NB612_665.out _; (with_reducible repeat (first | refine blk_drewN ?_ _ | refine blk_drew ?_ | refine blk_alloc ?_ _)); refine blk_far ?_ NB612_665.out _; (with_reducible repeat (first | refine blk_drewN ?_ _ | refine blk_drew ?_ | refine blk_alloc ?_ _)); refine blk_far ?_ NB612_665.out _; (with_reducible repeat (first | refine blk_drewN ?_ _ | refine blk_drew ?_ | refine blk_alloc ?_ _)); refine blk_far ?_ NB612_665.out _; (with_reducible repeat (first | refine blk_drewN ?_ _ | refine blk_drew ?_ | refine blk_alloc ?_ _)); exact BK612.out) hb); have n14_ := Aside0.mk (blk_below (g := gb621) (o := .cells #[.slice Ao59 t613.length co59, .int .i64 t616, .slice Ao64 t617.length co64, .int .i64 t620] 70 (0, 0)) (by (with_reducible repeat (first | refine blk_drewN ?_ _ | refine blk_drew ?_ | refine blk_alloc ?_ _)); refine blk_far ?_ NB621_665.out _; (with_reducible repeat (first | refine blk_drewN ?_ _ | refine blk_drew ?_ | refine blk_alloc ?_ _)); refine blk_far ?_ NB621_665.out _; (with_reducible repeat (first | refine blk_drewN ?_ _ | refine blk_drew ?_ | refine blk_alloc ?_ _)); refine blk_far ?_ NB621_665.out _; (with_reducible repeat (first | refine blk_drewN ?_ _ | refine blk_drew ?_ | refine blk_alloc ?_ _)); refine blk_far ?_ NB621_665.out _; (with_reducible repeat (first | refine blk_drewN ?_ _ | refine blk_drew ?_ | refine blk_alloc ?_ _)); exact BK621.out) hb); have n15_ := Aside0.mk (blk_below (g := gb665) (o := .cells #[.slice Ao117 t657.length co117, .int .i64 t660, .slice Ao120 t661.length co120, .int .i64 t664] 70 (0, 0)) (by (with_reducible repeat (first | refine blk_drewN ?_ _ | refine blk_drew ?_ | refine blk_alloc ?_ _)); refine blk_put (cs := #[.slice Ao117 t657.length co117, .int .i64 t660, .slice Ao120 t661.length co120, .int .i64 0]) ?_ 3 _ rfl; (with_reducible repeat (first | refine blk_drewN ?_ _ | refine blk_drew ?_ | refine blk_alloc ?_ _)); refine blk_put (cs := #[.slice Ao117 t657.length co117, .int .i64 t660, .slice none 0 0, .int .i64 0]) ?_ 2 _ rfl; (with_reducible repeat (first | refine blk_drewN ?_ _ | refine blk_drew ?_ | refine blk_alloc ?_ _)); refine blk_put (cs := #[.slice Ao117 t657.length co117, .int .i64 0, .slice none 0 0, .int .i64 0]) ?_ 1 _ rfl; (with_reducible repeat (first | refine blk_drewN ?_ _ | refine blk_drew ?_ | refine blk_alloc ?_ _)); refine blk_put (cs := #[.slice none 0 0, .int .i64 0, .slice none 0 0, .int .i64 0]) ?_ 0 _ rfl; (with_reducible repeat (first | refine blk_drewN ?_ _ | refine blk_drew ?_ | refine blk_alloc ?_ _)); exact BK665.out) hb); have n16_ := Aside0.mk (below_step bG hb); clear HO_601000; clear HO_601002; clear HO_613000; clear HO_613002; clear HO_622000; clear HO_622002; clear HO648; clear HO651; clear HO655; clear HO659; clear HO663; clear BK578; clear BK600; clear BK612; clear BK621; clear BK665; clear HB; have HO_601000 := n0_; have HO_601002 := n1_; have HO_613000 := n2_; have HO_613002 := n3_; have HO_622000 := n4_; have HO_622002 := n5_; have HO648 := n6_; have HO651 := n7_; have HO655 := n8_; have HO659 := n9_; have HO663 := n10_; have BK578 := n11_; have BK600 := n12_; have BK612 := n13_; have BK621 := n14_; have BK665 := n15_; have HB := n16_; clear n0_ n1_ n2_ n3_ n4_ n5_ n6_ n7_ n8_ n9_ n10_ n11_ n12_ n13_ n14_ n15_ n16_; (try clear hb); (try clear hb2); (try clear hk); (try clear hi); have hcz132_0 : w131.cell? ⟨gb621, 0, none⟩ = some (.slice Ao59 t613.length co59) := bC BK621 0; have hcz132_1 : w131.cell? ⟨gb621, 1, none⟩ = some (.int .i64 t616) := bC BK621 1; have hcz132_2 : w131.cell? ⟨gb621, 2, none⟩ = some (.slice Ao64 t617.length co64) := bC BK621 2; have hcz132_3 : w131.cell? ⟨gb621, 3, none⟩ = some (.int .i64 t620) := bC BK621 3; have hfz132_0 := blk_frozen BK621.out 0; have hfz132_1 := blk_frozen BK621.out 1; have hfz132_2 := blk_frozen BK621.out 2; have hfz132_3 := blk_frozen BK621.out 3) | ((with_reducible refine gate_callee (f := 66) rfl ?_); refine goesL_ (some 86) rfl rfl Try.func66 (by kernel_rfl) rfl #[.agg #[.slice Ao59 t643.length co59, .int .i64 t616, .slice Ao64 t644.length co64, .int .i64 t620], .int .i64 1] rfl (by (try simp only [List.map_toArray, List.map_cons, List.map_nil]); first | done | (rw [show t643.length = t613.length from (Kd.R_reads' HO_622000.out).1.symm, show t644.length = t617.length from (Kd.R_reads' HO_622002.out).1.symm] <;> rfl) | rfl | (simp only [List.length_drop, List.length_take]; rfl)) ?_; (with_reducible refine (laws_heldControl.calls kj26 _ _ t643 t616 _ _ t644 t620 1 t667 _ ?side1 ?side2 ?side3 ?side4 A98.out).mono ?_); (case side1 => exact cO ⟨(Kd.R_reads' HO_622000.out).2.2⟩); (case side2 => rw [show t643.length = t613.length from (Kd.R_reads' HO_622000.out).1.symm]; exact (Kd.R_reads' HO_622000.out).2.1); (case side3 => exact cO ⟨(Kd.R_reads' HO_622002.out).2.2⟩); (case side4 => rw [show t644.length = t617.length from (Kd.R_reads' HO_622002.out).1.symm]; exact (Kd.R_reads' HO_622002.out).2.1); rintro e w133 ⟨rfl, hb⟩; refine ⟨_, rfl, ?_⟩; replace HO_601000 := Aside0.mk (Kd.R_below (rK HO_601000) hb); replace HO_601002 := Aside0.mk (Kd.R_below (rK HO_601002) hb); replace HO_613000 := Aside0.mk (Kd.R_below (rK HO_613000) hb); replace HO_613002 := Aside0.mk (Kd.R_below (rK HO_613002) hb); replace HO_622000 := Aside0.mk (Kd.R_below (rK HO_622000) hb); replace HO_622002 := Aside0.mk (Kd.R_below (rK HO_622002) hb); replace HO648 := Aside0.mk (Kd.R_below (rK HO648) hb); replace HO651 := Aside0.mk (Kd.R_below (rK HO651) hb); replace HO655 := Aside0.mk (Kd.R_below (rK HO655) hb); replace HO659 := Aside0.mk (Kd.R_below (rK HO659) hb); replace HO663 := Aside0.mk (Kd.R_below (rK HO663) hb); replace BK578 := Aside0.mk (blk_below (g := gb578) (bK BK578) hb); replace BK600 := Aside0.mk (blk_below (g := gb600) (bK BK600) hb); replace BK612 := Aside0.mk (blk_below (g := gb612) (bK BK612) hb); replace BK621 := Aside0.mk (blk_below (g := gb621) (bK BK621) hb); replace BK665 := Aside0.mk (blk_below (g := gb665) (bK BK665) hb); replace HB := Aside0.mk (below_step bG hb); (try clear hb); (try clear hb2); (try clear hk); (try clear hi)))
     go_ret
     exact ⟨rA, bG⟩

end Go.Proofs.Ytimmadeghcghoaa.P
