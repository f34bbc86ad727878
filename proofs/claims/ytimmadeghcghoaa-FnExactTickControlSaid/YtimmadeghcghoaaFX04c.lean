/- Printed by myprint.py (wip/tools) over the kit's print: what Go's functions compute, and that they do. Lean checks it. -/
import Derived.Test.YtimmadeghcghoaaF0
import Derived.Test.YtimmadeghcghoaaFX04
import Derived.Test.YtimmadeghcghoaaFX04b
namespace Go.Proofs.Ytimmadeghcghoaa.P
open Go.RowKit Go.Proofs.YtimmadeghcghoaaW.PrintWords Go.Proofs.YtimmadeghcghoaaW.PrintLast Go.Proofs.YtimmadeghcghoaaW.PrintMore Go.Proofs.Ytimmadeghcghoaa.Sq
attribute [local go_sem] max2_int min2_int max_two min_two max_three min_three max_four min_four
set_option linter.unusedVariables false
set_option linter.unusedSimpArgs false

/-! ### spec_TickControl: function 64 -/
def spec_TickControl.f (k : Nat) (l0 : List (S90)) (l1_0 : List Int) (a1_1 : Int) (l1_2 : List Int) (a1_3 : Int) : Option (List Int × Int × List Int × Int) := (spec_l14Copy.f l1_0 a1_1 l1_2 a1_3).bind fun bt471 => ((spec_IsControl.f k l0 l1_0 a1_1 l1_2 a1_3).bind fun t480 => (if t480 = true then (if (l1_2.length : Int) = 0 then ((spec_Min.f 1000000 (wrap64 (a1_1 + 1))).bind fun t481 => (some (bt471.1, t481, bt471.2.2.1, bt471.2.2.2))) else (if (wrap64 (a1_3 - 1)) = 0 then (some (bt471.2.2.1, 0, ([] : List Int), 0)) else (some (bt471.1, bt471.2.1, bt471.2.2.1, wrap64 (a1_3 - 1))))) else (some (bt471.1, bt471.2.1, bt471.2.2.1, bt471.2.2.2))))
theorem spec_TickControl.mono : ∀ a0 a1 a2 a3 a4 k, LeO (spec_TickControl.f k a0 a1 a2 a3 a4) (spec_TickControl.f (k + 1) a0 a1 a2 a3 a4) := by
 intro a0 a1 a2 a3 a4 k
 unfold spec_TickControl.f
 repeat' first | (with_reducible first | exact LeO.refl _ | exact LeO.none _ | refine LeO.ite ?_ ?_ | refine LeO.bind ?_ (fun _ => ?_) | exact spec_IsControl.mono _ _ _ _ _ _) | exact LeO.none _ | refine LeO.ite ?_ ?_ | refine LeO.bind ?_ (fun _ => ?_) | exact spec_IsControl.mono _ _ _ _ _ _
set_option maxHeartbeats 8000000 in
set_option maxRecDepth 100000 in
theorem spec_TickControl.calls (k : Nat) (A0 : Option Addr) (c0 : Nat) (l0 : List (S90)) (A1_0 : Option Addr) (c1_0 : Nat) (l1_0 : List Int) (a1_1 : Int) (A1_2 : Option Addr) (c1_2 : Nat) (l1_2 : List Int) (a1_3 : Int) (r1 : List Int) (r2 : Int) (r3 : List Int) (r4 : Int) (w : World) (hr0 : Kd.C k90 w A0 l0.length l0) (hc0 : l0.length ≤ c0) (hr1_0 : Kd.C (Kd.int .i64) w A1_0 l1_0.length l1_0) (hc1_0 : l1_0.length ≤ c1_0) (hr1_2 : Kd.C (Kd.int .i64) w A1_2 l1_2.length l1_2) (hc1_2 : l1_2.length ≤ c1_2) (h : spec_TickControl.f k l0 l1_0 a1_1 l1_2 a1_3 = some (r1, r2, r3, r4)) :
  Calls Try.prog 64 #[.slice A0 l0.length c0, .agg #[.slice A1_0 l1_0.length c1_0, .int .i64 a1_1, .slice A1_2 l1_2.length c1_2, .int .i64 a1_3]] w fun e w' => ∃ v0_ v2_ : Value, e = .returned (.agg #[v0_, .int .i64 r2, v2_, .int .i64 r4]) ∧ Kd.R (Kd.int .i64) 3 w' w.heap.size (fun k_ => some k_ ≠ (v2_ : Value).ownBlock) v0_ r1 ∧ Kd.R (Kd.int .i64) 3 w' w.heap.size (fun k_ => some k_ ≠ (v0_ : Value).ownBlock) v2_ r3 ∧ Below w.heap.size w w' := by
 have hu70 := Try.underlying70
 have HR0 := Aside0.mk hr0
 have HC0 := Aside0.mk hc0
 clear hr0 hc0
 have HR1_0 := Aside0.mk hr1_0
 have HC1_0 := Aside0.mk hc1_0
 clear hr1_0 hc1_0
 have HR1_2 := Aside0.mk hr1_2
 have HC1_2 := Aside0.mk hc1_2
 clear hr1_2 hc1_2
 have HB := Aside0.mk (Below.refl w.heap.size w)
 have H : ((spec_l14Copy.f l1_0 a1_1 l1_2 a1_3).bind fun bt471 => ((spec_IsControl.f k l0 l1_0 a1_1 l1_2 a1_3).bind fun t480 => (if t480 = true then (if (l1_2.length : Int) = 0 then ((spec_Min.f 1000000 (wrap64 (a1_1 + 1))).bind fun t481 => (some (bt471.1, t481, bt471.2.2.1, bt471.2.2.2))) else (if (wrap64 (a1_3 - 1)) = 0 then (some (bt471.2.2.1, 0, ([] : List Int), 0)) else (some (bt471.1, bt471.2.1, bt471.2.2.1, wrap64 (a1_3 - 1))))) else (some (bt471.1, bt471.2.1, bt471.2.2.1, bt471.2.2.2))))) = some (r1, r2, r3, r4) := h
 clear h
 obtain ⟨⟨t471, t474, t475, t478⟩, A3, H⟩ := bindE H
 try dsimp only at H
 obtain ⟨t480, A4, H⟩ := bindE H
 try dsimp only at H
 by_cases c5 : t480 = true
 ·
  subst c5
  have H1 : (if (l1_2.length : Int) = 0 then ((spec_Min.f 1000000 (wrap64 (a1_1 + 1))).bind fun t481 => (some (t471, t481, t475, t478))) else (if (wrap64 (a1_3 - 1)) = 0 then (some (t475, 0, ([] : List Int), 0)) else (some (t471, t474, t475, wrap64 (a1_3 - 1))))) = some (r1, r2, r3, r4) := by rw [if_pos rfl] at H; exact H
  clear H
  have H := H1
  clear H1
  by_cases c6 : (l1_2.length : Int) = 0
  ·
   rw [if_pos c6] at H
   have c6b0 : ((l1_2.length : Int) == 0) = true := beq_iff_eq.mpr c6
   have c6b1 : ((l1_2.length : Int) != 0) = false := bne_eq_false_iff_eq.mpr c6
   clear c6
   obtain ⟨t481, A7, H⟩ := bindE H
   try dsimp only at H
   simp only [Option.some.injEq, Prod.mk.injEq] at H
   obtain ⟨rfl, rfl, rfl, rfl⟩ := H
   go_enter Try.func64, Try.ntmps64
   go_wp2_with (first | ((with_reducible refine gate_dst (N := 3) rfl ?_); refine bE (N := 3) (cs := #[.slice A1_0 l1_0.length c1_0, .int .i64 a1_1, .slice A1_2 l1_2.length c1_2, .int .i64 a1_3]) (t := 70) ?_; intro gb469 hg w8 hbox hb; have n0_ := Aside0.mk (below_step bA hb); have n1_ := Aside0.mk (hbox); have n2_ := Aside0.mk ((by rw [hg]; exact (below_size bA) : w.heap.size ≤ gb469)); have n3_ := Aside0.mk ((by rw [hg]; exact (below_size bA) : w.heap.size ≤ gb469)); clear HB; have HB := n0_; have BK469 := n1_; have GW469 := n2_; have GE469 := n3_; clear n0_ n1_ n2_ n3_; clear hb hbox hg) | ((with_reducible refine gate_dst (N := 4) rfl ?_); refine bE (N := 4) (cs := #[.slice none 0 0, .int .i64 0, .slice none 0 0, .int .i64 0]) (t := 70) ?_; intro gb470 hg w9 hbox hb; have n0_ := Aside0.mk (blk_below (g := gb469) (bK BK469) hb); have n1_ := Aside0.mk (below_step bG hb); have n2_ := Aside0.mk (hbox); have n3_ := Aside0.mk ((by rw [hg]; exact (below_size bG) : w.heap.size ≤ gb470)); have n4_ := Aside0.mk ((by rw [hg]; exact (below_size bG) : w.heap.size ≤ gb470)); have n5_ := Aside0.mk ((by rw [hg]; exact Nat.ne_of_lt (blk_lt (g := gb469) (o := .cells #[.slice A1_0 l1_0.length c1_0, .int .i64 a1_1, .slice A1_2 l1_2.length c1_2, .int .i64 a1_3] 70 (0, 0)) (bK BK469)) : gb469 ≠ gb470)); have n6_ := Aside0.mk ((by rw [hg]; exact Nat.ne_of_gt (blk_lt (g := gb469) (o := .cells #[.slice A1_0 l1_0.length c1_0, .int .i64 a1_1, .slice A1_2 l1_2.length c1_2, .int .i64 a1_3] 70 (0, 0)) (bK BK469)) : gb470 ≠ gb469)); clear BK469; clear HB; have BK469 := n0_; have HB := n1_; have BK470 := n2_; have GW470 := n3_; have GE470 := n4_; have NB469_470 := n5_; have NB470_469 := n6_; clear n0_ n1_ n2_ n3_ n4_ n5_ n6_; clear hb hbox hg; have hnb10 := NB469_470.out; have hnc10 := NB470_469.out; have hcz11_0 : w9.cell? ⟨gb469, 0, none⟩ = some (.slice A1_0 l1_0.length c1_0) := bC BK469 0; have hcz11_1 : w9.cell? ⟨gb469, 1, none⟩ = some (.int .i64 a1_1) := bC BK469 1; have hcz11_2 : w9.cell? ⟨gb469, 2, none⟩ = some (.slice A1_2 l1_2.length c1_2) := bC BK469 2; have hcz11_3 : w9.cell? ⟨gb469, 3, none⟩ = some (.int .i64 a1_3) := bC BK469 3; have hfz11_0 := blk_frozen BK469.out 0; have hfz11_1 := blk_frozen BK469.out 1; have hfz11_2 := blk_frozen BK469.out 2; have hfz11_3 := blk_frozen BK469.out 3) | ((with_reducible refine gate_callee (f := 106) rfl ?_); refine gL (some 7) Try.func106 #[.agg #[.slice A1_0 l1_0.length c1_0, .int .i64 a1_1, .slice A1_2 l1_2.length c1_2, .int .i64 a1_3]] ?_; (with_reducible refine (spec_l14Copy.calls _ _ l1_0 a1_1 _ _ l1_2 a1_3 t471 t474 t475 t478 _ ?side1 ?side2 ?side3 ?side4 A3.out).mono ?_); (case side1 => exact cB HR1_0); (case side2 => exact HC1_0.out); (case side3 => exact cB HR1_2); (case side4 => exact HC1_2.out); rintro e w12 ⟨v472, v476, rfl, ho0, ho1, hb⟩; refine ⟨_, rfl, ?_⟩; have HO473 := Aside0.mk (Kd.R_lower ho0 (below_size bG)); have HO477 := Aside0.mk (Kd.R_lower ho1 (below_size bG)); replace BK469 := Aside0.mk (blk_below (g := gb469) (bK BK469) hb); replace BK470 := Aside0.mk (blk_below (g := gb470) (bK BK470) hb); replace HB := Aside0.mk (below_step bG hb); (try clear hb); (try clear hb2); (try clear hk); (try clear hi); (try clear ho0); (try clear ho1)) | ((with_reducible refine gate_dst (N := 5) rfl ?_); refine bE (N := 5) (cs := #[.slice none 0 0, .int .i64 0, .slice none 0 0, .int .i64 0]) (t := 70) ?_; intro gb479 hg w13 hbox hb; have n0_ := Aside0.mk (Kd.R_below (rK HO473) hb); have n1_ := Aside0.mk (Kd.R_below (rK HO477) hb); have n2_ := Aside0.mk (blk_below (g := gb469) (bK BK469) hb); have n3_ := Aside0.mk (blk_below (g := gb470) (bK BK470) hb); have n4_ := Aside0.mk (below_step bG hb); have n5_ := Aside0.mk (hbox); have n6_ := Aside0.mk ((by rw [hg]; exact (below_size bG) : w.heap.size ≤ gb479)); have n7_ := Aside0.mk ((by rw [hg]; exact (below_size bG) : w.heap.size ≤ gb479)); have n8_ := Aside0.mk ((by rw [hg]; exact Nat.ne_of_lt (blk_lt (g := gb469) (o := .cells #[.slice A1_0 l1_0.length c1_0, .int .i64 a1_1, .slice A1_2 l1_2.length c1_2, .int .i64 a1_3] 70 (0, 0)) (bK BK469)) : gb469 ≠ gb479)); have n9_ := Aside0.mk ((by rw [hg]; exact Nat.ne_of_gt (blk_lt (g := gb469) (o := .cells #[.slice A1_0 l1_0.length c1_0, .int .i64 a1_1, .slice A1_2 l1_2.length c1_2, .int .i64 a1_3] 70 (0, 0)) (bK BK469)) : gb479 ≠ gb469)); have n10_ := Aside0.mk ((by rw [hg]; exact Nat.ne_of_lt (blk_lt (g := gb470) (o := .cells #[.slice none 0 0, .int .i64 0, .slice none 0 0, .int .i64 0] 70 (0, 0)) (bK BK470)) : gb470 ≠ gb479)); have n11_ := Aside0.mk ((by rw [hg]; exact Nat.ne_of_gt (blk_lt (g := gb470) (o := .cells #[.slice none 0 0, .int .i64 0, .slice none 0 0, .int .i64 0] 70 (0, 0)) (bK BK470)) : gb479 ≠ gb470)); clear HO473; clear HO477; clear BK469; clear BK470; clear HB; have HO473 := n0_; have HO477 := n1_; have BK469 := n2_; have BK470 := n3_; have HB := n4_; have BK479 := n5_; have GW479 := n6_; have GE479 := n7_; have NB469_479 := n8_; have NB479_469 := n9_; have NB470_479 := n10_; have NB479_470 := n11_; clear n0_ n1_ n2_ n3_ n4_ n5_ n6_ n7_ n8_ n9_ n10_ n11_; clear hb hbox hg; obtain ⟨Ao14, co14, eo14⟩ := Kd.R_slice HO473.out; subst eo14; have hnb15 := NB479_469.out; have hnc15 := NB469_479.out; have hnb16 := NB479_470.out; have hnc16 := NB470_479.out; obtain ⟨hcz17_0, hcz17_1, hcz17_2, hcz17_3, hfz17_0, hfz17_1, hfz17_2, hfz17_3⟩ := blkc4 BK479; obtain ⟨Ao18, co18, eo18⟩ := Kd.R_slice HO477.out; subst eo18; have hcz19_0 : w13.cell? ⟨gb469, 0, none⟩ = some (.slice A1_0 l1_0.length c1_0) := bC BK469 0; have hcz19_1 : w13.cell? ⟨gb469, 1, none⟩ = some (.int .i64 a1_1) := bC BK469 1; have hcz19_2 : w13.cell? ⟨gb469, 2, none⟩ = some (.slice A1_2 l1_2.length c1_2) := bC BK469 2; have hcz19_3 : w13.cell? ⟨gb469, 3, none⟩ = some (.int .i64 a1_3) := bC BK469 3; have hfz19_0 := blk_frozen BK469.out 0; have hfz19_1 := blk_frozen BK469.out 1; have hfz19_2 := blk_frozen BK469.out 2; have hfz19_3 := blk_frozen BK469.out 3) | ((with_reducible refine gate_callee (f := 55) rfl ?_); refine gL (some 11) Try.func55 #[.slice A0 l0.length c0, .agg #[.slice A1_0 l1_0.length c1_0, .int .i64 a1_1, .slice A1_2 l1_2.length c1_2, .int .i64 a1_3]] ?_; (with_reducible refine (spec_IsControl.calls k _ _ l0 _ _ l1_0 a1_1 _ _ l1_2 a1_3 true _ ?side1 ?side2 ?side3 ?side4 ?side5 ?side6 A4.out).mono ?_); (case side1 => exact Kd.C_below HR0.out bG); (case side2 => exact HC0.out); (case side3 => exact Kd.C_below HR1_0.out bG); (case side4 => exact HC1_0.out); (case side5 => exact Kd.C_below HR1_2.out bG); (case side6 => exact HC1_2.out); rintro e w20 ⟨rfl, hb⟩; refine ⟨_, rfl, ?_⟩; have n0_ := Aside0.mk (Kd.R_below (by (with_reducible repeat (first | apply Kd.R_alloc | apply Kd.R_drewN | apply Kd.R_drew)); exact (Kd.R_mono (Kd.R_far (p := ⟨gb479, 3, none⟩) (Kd.R_far (p := ⟨gb479, 2, none⟩) (Kd.R_far (p := ⟨gb479, 1, none⟩) (Kd.R_far (p := ⟨gb479, 0, none⟩) (Kd.R_types HO473.out BK479.out (by decide)) (fun _ hk => hk.2) (.slice Ao14 t471.length co14)) (fun _ hk => hk.2) (.int .i64 t474)) (fun _ hk => hk.2) (.slice Ao18 t475.length co18)) (fun _ hk => hk.2) (.int .i64 t478)) (fun _ h_ => h_.1))) hb); have n1_ := Aside0.mk (Kd.R_below (by (with_reducible repeat (first | apply Kd.R_alloc | apply Kd.R_drewN | apply Kd.R_drew)); exact (Kd.R_mono (Kd.R_far (p := ⟨gb479, 3, none⟩) (Kd.R_far (p := ⟨gb479, 2, none⟩) (Kd.R_far (p := ⟨gb479, 1, none⟩) (Kd.R_far (p := ⟨gb479, 0, none⟩) (Kd.R_types HO477.out BK479.out (by decide)) (fun _ hk => hk.2) (.slice Ao14 t471.length co14)) (fun _ hk => hk.2) (.int .i64 t474)) (fun _ hk => hk.2) (.slice Ao18 t475.length co18)) (fun _ hk => hk.2) (.int .i64 t478)) (fun _ h_ => h_.1))) hb); have n2_ := Aside0.mk (blk_below (g := gb469) (o := .cells #[.slice A1_0 l1_0.length c1_0, .int .i64 a1_1, .slice A1_2 l1_2.length c1_2, .int .i64 a1_3] 70 (0, 0)) (by (with_reducible repeat (first | refine blk_drewN ?_ _ | refine blk_drew ?_ | refine blk_alloc ?_ _)); refine blk_far ?_ NB469_479.out _; (with_reducible repeat (first | refine blk_drewN ?_ _ | refine blk_drew ?_ | refine blk_alloc ?_ _)); refine blk_far ?_ NB469_479.out _; (with_reducible repeat (first | refine blk_drewN ?_ _ | refine blk_drew ?_ | refine blk_alloc ?_ _)); refine blk_far ?_ NB469_479.out _; (with_reducible repeat (first | refine blk_drewN ?_ _ | refine blk_drew ?_ | refine blk_alloc ?_ _)); refine blk_far ?_ NB469_479.out _; (with_reducible repeat (first | refine blk_drewN ?_ _ | refine blk_drew ?_ | refine blk_alloc ?_ _)); exact BK469.out) hb); have n3_ := Aside0.mk (blk_below (g := gb470) (o := .cells #[.slice none 0 0, .int .i64 0, .slice none 0 0, .int .i64 0] 70 (0, 0)) (by (with_reducible repeat (first | refine blk_drewN ?_ _ | refine blk_drew ?_ | refine blk_alloc ?_ _)); refine blk_far ?_ NB470_479.out _; (with_reducible repeat (first | refine blk_drewN ?_ _ | refine blk_drew ?_ | refine blk_alloc ?_ _)); refine blk_far ?_ NB470_479.out _; (with_reducible repeat (first | refine blk_drewN ?_ _ | refine blk_drew ?_ | refine blk_alloc ?_ _)); refine blk_far ?_ NB470_479.out _; (with_reducible repeat (first | refine blk_drewN ?_ _ | refine blk_drew ?_ | refine blk_alloc ?_ _)); refine blk_far ?_ NB470_479.out _; (with_reducible repeat (first | refine blk_drewN ?_ _ | refine blk_drew ?_ | refine blk_alloc ?_ _)); exact BK470.out) hb); have n4_ := Aside0.mk (blk_below (g := gb479) (o := .cells #[.slice Ao14 t471.length co14, .int .i64 t474, .slice Ao18 t475.length co18, .int .i64 t478] 70 (0, 0)) (by (with_reducible repeat (first | refine blk_drewN ?_ _ | refine blk_drew ?_ | refine blk_alloc ?_ _)); refine blk_put (cs := #[.slice Ao14 t471.length co14, .int .i64 t474, .slice Ao18 t475.length co18, .int .i64 0]) ?_ 3 _ rfl; (with_reducible repeat (first | refine blk_drewN ?_ _ | refine blk_drew ?_ | refine blk_alloc ?_ _)); refine blk_put (cs := #[.slice Ao14 t471.length co14, .int .i64 t474, .slice none 0 0, .int .i64 0]) ?_ 2 _ rfl; (with_reducible repeat (first | refine blk_drewN ?_ _ | refine blk_drew ?_ | refine blk_alloc ?_ _)); refine blk_put (cs := #[.slice Ao14 t471.length co14, .int .i64 0, .slice none 0 0, .int .i64 0]) ?_ 1 _ rfl; (with_reducible repeat (first | refine blk_drewN ?_ _ | refine blk_drew ?_ | refine blk_alloc ?_ _)); refine blk_put (cs := #[.slice none 0 0, .int .i64 0, .slice none 0 0, .int .i64 0]) ?_ 0 _ rfl; (with_reducible repeat (first | refine blk_drewN ?_ _ | refine blk_drew ?_ | refine blk_alloc ?_ _)); exact BK479.out) hb); have n5_ := Aside0.mk (below_step bG hb); clear HO473; clear HO477; clear BK469; clear BK470; clear BK479; clear HB; have HO473 := n0_; have HO477 := n1_; have BK469 := n2_; have BK470 := n3_; have BK479 := n4_; have HB := n5_; clear n0_ n1_ n2_ n3_ n4_ n5_; (try clear hb); (try clear hb2); (try clear hk); (try clear hi); have hcz21_0 : w20.cell? ⟨gb469, 0, none⟩ = some (.slice A1_0 l1_0.length c1_0) := bC BK469 0; have hcz21_1 : w20.cell? ⟨gb469, 1, none⟩ = some (.int .i64 a1_1) := bC BK469 1; have hcz21_2 : w20.cell? ⟨gb469, 2, none⟩ = some (.slice A1_2 l1_2.length c1_2) := bC BK469 2; have hcz21_3 : w20.cell? ⟨gb469, 3, none⟩ = some (.int .i64 a1_3) := bC BK469 3; have hfz21_0 := blk_frozen BK469.out 0; have hfz21_1 := blk_frozen BK469.out 1; have hfz21_2 := blk_frozen BK469.out 2; have hfz21_3 := blk_frozen BK469.out 3) | ((with_reducible refine gate_callee (f := 107) rfl ?_); refine gL (some 22) Try.func107 #[.int .i64 1000000, .int .i64 (wrap64 (a1_1 + 1))] ?_; (with_reducible refine (spec_Min.calls 1000000 (wrap64 (a1_1 + 1)) t481 _ A7.out).mono ?_); rintro e w' ⟨rfl, ⟨nd, rfl⟩⟩; refine ⟨_, rfl, ?_⟩; (try (rw [drewN_self w20]; generalize hq_ : World.drewN w20 _ = w20; have n0_ : Aside0 (Kd.R (Kd.int .i64) 3 w20 w.heap.size (fun k_ => some k_ ≠ (.slice Ao18 t475.length co18 : Value).ownBlock) (.slice Ao14 t471.length co14) t471) := ⟨by rw [← hq_]; exact (rK HO473)⟩; have n1_ : Aside0 (Kd.R (Kd.int .i64) 3 w20 w.heap.size (fun k_ => some k_ ≠ (.slice Ao14 t471.length co14 : Value).ownBlock) (.slice Ao18 t475.length co18) t475) := ⟨by rw [← hq_]; exact (rK HO477)⟩; have n2_ : Aside0 (w20.heap[gb469]? = some (.cells #[.slice A1_0 l1_0.length c1_0, .int .i64 a1_1, .slice A1_2 l1_2.length c1_2, .int .i64 a1_3] 70 (0, 0))) := ⟨by rw [← hq_]; exact (bK BK469)⟩; have n3_ : Aside0 (w20.heap[gb470]? = some (.cells #[.slice none 0 0, .int .i64 0, .slice none 0 0, .int .i64 0] 70 (0, 0))) := ⟨by rw [← hq_]; exact (bK BK470)⟩; have n4_ : Aside0 (w20.heap[gb479]? = some (.cells #[.slice Ao14 t471.length co14, .int .i64 t474, .slice Ao18 t475.length co18, .int .i64 t478] 70 (0, 0))) := ⟨by rw [← hq_]; exact (bK BK479)⟩; have n5_ : Aside0 (Below w.heap.size w w20) := ⟨by rw [← hq_]; exact bG⟩; clear HO473 HO477 BK469 BK470 BK479 HB hq_; have HO473 := n0_; have HO477 := n1_; have BK469 := n2_; have BK470 := n3_; have BK479 := n4_; have HB := n5_; clear n0_ n1_ n2_ n3_ n4_ n5_)); obtain ⟨hcz22_0, hcz22_1, hcz22_2, hcz22_3, hfz22_0, hfz22_1, hfz22_2, hfz22_3⟩ := blkc4 BK479; obtain ⟨hcz23_0, hcz23_1, hcz23_2, hcz23_3, hfz23_0, hfz23_1, hfz23_2, hfz23_3⟩ := blkc4 BK470))
   refine bodyPost_ret (results_cell_row rfl _ _ gb470 70 #[.slice Ao14 t471.length co14, .int .i64 t481, .slice Ao18 t475.length co18, .int .i64 t478] (0, 0) _ rfl (by (with_reducible repeat (first | refine blk_drewN ?_ _ | refine blk_drew ?_ | refine blk_alloc ?_ _)); refine blk_put (cs := #[.slice Ao14 t471.length co14, .int .i64 t481, .slice Ao18 t475.length co18, .int .i64 0]) ?_ 3 _ rfl; (with_reducible repeat (first | refine blk_drewN ?_ _ | refine blk_drew ?_ | refine blk_alloc ?_ _)); refine blk_put (cs := #[.slice Ao14 t471.length co14, .int .i64 t481, .slice none 0 0, .int .i64 0]) ?_ 2 _ rfl; (with_reducible repeat (first | refine blk_drewN ?_ _ | refine blk_drew ?_ | refine blk_alloc ?_ _)); refine blk_put (cs := #[.slice Ao14 t471.length co14, .int .i64 0, .slice none 0 0, .int .i64 0]) ?_ 1 _ rfl; (with_reducible repeat (first | refine blk_drewN ?_ _ | refine blk_drew ?_ | refine blk_alloc ?_ _)); refine blk_put (cs := #[.slice none 0 0, .int .i64 0, .slice none 0 0, .int .i64 0]) ?_ 0 _ rfl; (with_reducible repeat (first | refine blk_drewN ?_ _ | refine blk_drew ?_ | refine blk_alloc ?_ _)); refine blk_far ?_ NB470_479.out _; (with_reducible repeat (first | refine blk_drewN ?_ _ | refine blk_drew ?_ | refine blk_alloc ?_ _)); exact BK470.out) Try.underlying70 rfl (by kernel_rfl)) rfl ?_
   exact ⟨_, _, by first | rfl | (simp [errW_none, errW_some] <;> rfl) | (simp [*, errW_none, errW_some] <;> rfl), by (with_reducible repeat (first | apply Kd.R_alloc | apply Kd.R_drewN | apply Kd.R_drew)); exact Kd.R_mono (Kd.R_far (p := ⟨gb470, 3, none⟩) (Kd.R_far (p := ⟨gb470, 2, none⟩) (Kd.R_far (p := ⟨gb470, 1, none⟩) (Kd.R_far (p := ⟨gb470, 0, none⟩) (Kd.R_far (p := ⟨gb479, 1, none⟩) (Kd.R_types (Kd.R_types HO473.out BK479.out (by decide)) BK470.out (by decide)) (fun _ hk => hk.1.2) (.int .i64 t481)) (fun _ hk => hk.2) (.slice Ao14 t471.length co14)) (fun _ hk => hk.2) (.int .i64 t481)) (fun _ hk => hk.2) (.slice Ao18 t475.length co18)) (fun _ hk => hk.2) (.int .i64 t478)) (fun _ hk => hk.1.1), by (with_reducible repeat (first | apply Kd.R_alloc | apply Kd.R_drewN | apply Kd.R_drew)); exact Kd.R_mono (Kd.R_far (p := ⟨gb470, 3, none⟩) (Kd.R_far (p := ⟨gb470, 2, none⟩) (Kd.R_far (p := ⟨gb470, 1, none⟩) (Kd.R_far (p := ⟨gb470, 0, none⟩) (Kd.R_far (p := ⟨gb479, 1, none⟩) (Kd.R_types (Kd.R_types HO477.out BK479.out (by decide)) BK470.out (by decide)) (fun _ hk => hk.1.2) (.int .i64 t481)) (fun _ hk => hk.2) (.slice Ao14 t471.length co14)) (fun _ hk => hk.2) (.int .i64 t481)) (fun _ hk => hk.2) (.slice Ao18 t475.length co18)) (fun _ hk => hk.2) (.int .i64 t478)) (fun _ hk => hk.1.1), bG⟩
  ·
   rw [if_neg c6] at H
   have c6b0 : ((l1_2.length : Int) == 0) = false := beq_eq_false_iff_ne.mpr c6
   have c6b1 : ((l1_2.length : Int) != 0) = true := bne_iff_ne.mpr c6
   have c6b2 : ¬ (l1_2 = []) := fun h_ => c6 (by rw [h_]; rfl)
   by_cases c24 : (wrap64 (a1_3 - 1)) = 0
   ·
    rw [if_pos c24] at H
    have c24b0 : ((wrap64 (a1_3 - 1)) == 0) = true := beq_iff_eq.mpr c24
    have c24b1 : ((wrap64 (a1_3 - 1)) != 0) = false := bne_eq_false_iff_eq.mpr c24
    clear c24
    simp only [Option.some.injEq, Prod.mk.injEq] at H
    obtain ⟨rfl, rfl, rfl, rfl⟩ := H
    go_enter Try.func64, Try.ntmps64
    go_wp2_with (first | ((with_reducible refine gate_dst (N := 3) rfl ?_); refine bE (N := 3) (cs := #[.slice A1_0 l1_0.length c1_0, .int .i64 a1_1, .slice A1_2 l1_2.length c1_2, .int .i64 a1_3]) (t := 70) ?_; intro gb469 hg w25 hbox hb; have n0_ := Aside0.mk (below_step bA hb); have n1_ := Aside0.mk (hbox); have n2_ := Aside0.mk ((by rw [hg]; exact (below_size bA) : w.heap.size ≤ gb469)); have n3_ := Aside0.mk ((by rw [hg]; exact (below_size bA) : w.heap.size ≤ gb469)); clear HB; have HB := n0_; have BK469 := n1_; have GW469 := n2_; have GE469 := n3_; clear n0_ n1_ n2_ n3_; clear hb hbox hg) | ((with_reducible refine gate_dst (N := 4) rfl ?_); refine bE (N := 4) (cs := #[.slice none 0 0, .int .i64 0, .slice none 0 0, .int .i64 0]) (t := 70) ?_; intro gb470 hg w26 hbox hb; have n0_ := Aside0.mk (blk_below (g := gb469) (bK BK469) hb); have n1_ := Aside0.mk (below_step bG hb); have n2_ := Aside0.mk (hbox); have n3_ := Aside0.mk ((by rw [hg]; exact (below_size bG) : w.heap.size ≤ gb470)); have n4_ := Aside0.mk ((by rw [hg]; exact (below_size bG) : w.heap.size ≤ gb470)); have n5_ := Aside0.mk ((by rw [hg]; exact Nat.ne_of_lt (blk_lt (g := gb469) (o := .cells #[.slice A1_0 l1_0.length c1_0, .int .i64 a1_1, .slice A1_2 l1_2.length c1_2, .int .i64 a1_3] 70 (0, 0)) (bK BK469)) : gb469 ≠ gb470)); have n6_ := Aside0.mk ((by rw [hg]; exact Nat.ne_of_gt (blk_lt (g := gb469) (o := .cells #[.slice A1_0 l1_0.length c1_0, .int .i64 a1_1, .slice A1_2 l1_2.length c1_2, .int .i64 a1_3] 70 (0, 0)) (bK BK469)) : gb470 ≠ gb469)); clear BK469; clear HB; have BK469 := n0_; have HB := n1_; have BK470 := n2_; have GW470 := n3_; have GE470 := n4_; have NB469_470 := n5_; have NB470_469 := n6_; clear n0_ n1_ n2_ n3_ n4_ n5_ n6_; clear hb hbox hg; have hnb27 := NB469_470.out; have hnc27 := NB470_469.out; have hcz28_0 : w26.cell? ⟨gb469, 0, none⟩ = some (.slice A1_0 l1_0.length c1_0) := bC BK469 0; have hcz28_1 : w26.cell? ⟨gb469, 1, none⟩ = some (.int .i64 a1_1) := bC BK469 1; have hcz28_2 : w26.cell? ⟨gb469, 2, none⟩ = some (.slice A1_2 l1_2.length c1_2) := bC BK469 2; have hcz28_3 : w26.cell? ⟨gb469, 3, none⟩ = some (.int .i64 a1_3) := bC BK469 3; have hfz28_0 := blk_frozen BK469.out 0; have hfz28_1 := blk_frozen BK469.out 1; have hfz28_2 := blk_frozen BK469.out 2; have hfz28_3 := blk_frozen BK469.out 3) | ((with_reducible refine gate_callee (f := 106) rfl ?_); refine gL (some 7) Try.func106 #[.agg #[.slice A1_0 l1_0.length c1_0, .int .i64 a1_1, .slice A1_2 l1_2.length c1_2, .int .i64 a1_3]] ?_; (with_reducible refine (spec_l14Copy.calls _ _ l1_0 a1_1 _ _ l1_2 a1_3 t471 t474 t475 t478 _ ?side1 ?side2 ?side3 ?side4 A3.out).mono ?_); (case side1 => exact cB HR1_0); (case side2 => exact HC1_0.out); (case side3 => exact cB HR1_2); (case side4 => exact HC1_2.out); rintro e w29 ⟨v472, v476, rfl, ho0, ho1, hb⟩; refine ⟨_, rfl, ?_⟩; have HO473 := Aside0.mk (Kd.R_lower ho0 (below_size bG)); have HO477 := Aside0.mk (Kd.R_lower ho1 (below_size bG)); replace BK469 := Aside0.mk (blk_below (g := gb469) (bK BK469) hb); replace BK470 := Aside0.mk (blk_below (g := gb470) (bK BK470) hb); replace HB := Aside0.mk (below_step bG hb); (try clear hb); (try clear hb2); (try clear hk); (try clear hi); (try clear ho0); (try clear ho1)) | ((with_reducible refine gate_dst (N := 5) rfl ?_); refine bE (N := 5) (cs := #[.slice none 0 0, .int .i64 0, .slice none 0 0, .int .i64 0]) (t := 70) ?_; intro gb479 hg w30 hbox hb; have n0_ := Aside0.mk (Kd.R_below (rK HO473) hb); have n1_ := Aside0.mk (Kd.R_below (rK HO477) hb); have n2_ := Aside0.mk (blk_below (g := gb469) (bK BK469) hb); have n3_ := Aside0.mk (blk_below (g := gb470) (bK BK470) hb); have n4_ := Aside0.mk (below_step bG hb); have n5_ := Aside0.mk (hbox); have n6_ := Aside0.mk ((by rw [hg]; exact (below_size bG) : w.heap.size ≤ gb479)); have n7_ := Aside0.mk ((by rw [hg]; exact (below_size bG) : w.heap.size ≤ gb479)); have n8_ := Aside0.mk ((by rw [hg]; exact Nat.ne_of_lt (blk_lt (g := gb469) (o := .cells #[.slice A1_0 l1_0.length c1_0, .int .i64 a1_1, .slice A1_2 l1_2.length c1_2, .int .i64 a1_3] 70 (0, 0)) (bK BK469)) : gb469 ≠ gb479)); have n9_ := Aside0.mk ((by rw [hg]; exact Nat.ne_of_gt (blk_lt (g := gb469) (o := .cells #[.slice A1_0 l1_0.length c1_0, .int .i64 a1_1, .slice A1_2 l1_2.length c1_2, .int .i64 a1_3] 70 (0, 0)) (bK BK469)) : gb479 ≠ gb469)); have n10_ := Aside0.mk ((by rw [hg]; exact Nat.ne_of_lt (blk_lt (g := gb470) (o := .cells #[.slice none 0 0, .int .i64 0, .slice none 0 0, .int .i64 0] 70 (0, 0)) (bK BK470)) : gb470 ≠ gb479)); have n11_ := Aside0.mk ((by rw [hg]; exact Nat.ne_of_gt (blk_lt (g := gb470) (o := .cells #[.slice none 0 0, .int .i64 0, .slice none 0 0, .int .i64 0] 70 (0, 0)) (bK BK470)) : gb479 ≠ gb470)); clear HO473; clear HO477; clear BK469; clear BK470; clear HB; have HO473 := n0_; have HO477 := n1_; have BK469 := n2_; have BK470 := n3_; have HB := n4_; have BK479 := n5_; have GW479 := n6_; have GE479 := n7_; have NB469_479 := n8_; have NB479_469 := n9_; have NB470_479 := n10_; have NB479_470 := n11_; clear n0_ n1_ n2_ n3_ n4_ n5_ n6_ n7_ n8_ n9_ n10_ n11_; clear hb hbox hg; obtain ⟨Ao31, co31, eo31⟩ := Kd.R_slice HO473.out; subst eo31; have hnb32 := NB479_469.out; have hnc32 := NB469_479.out; have hnb33 := NB479_470.out; have hnc33 := NB470_479.out; obtain ⟨hcz34_0, hcz34_1, hcz34_2, hcz34_3, hfz34_0, hfz34_1, hfz34_2, hfz34_3⟩ := blkc4 BK479; obtain ⟨Ao35, co35, eo35⟩ := Kd.R_slice HO477.out; subst eo35; have hcz36_0 : w30.cell? ⟨gb469, 0, none⟩ = some (.slice A1_0 l1_0.length c1_0) := bC BK469 0; have hcz36_1 : w30.cell? ⟨gb469, 1, none⟩ = some (.int .i64 a1_1) := bC BK469 1; have hcz36_2 : w30.cell? ⟨gb469, 2, none⟩ = some (.slice A1_2 l1_2.length c1_2) := bC BK469 2; have hcz36_3 : w30.cell? ⟨gb469, 3, none⟩ = some (.int .i64 a1_3) := bC BK469 3; have hfz36_0 := blk_frozen BK469.out 0; have hfz36_1 := blk_frozen BK469.out 1; have hfz36_2 := blk_frozen BK469.out 2; have hfz36_3 := blk_frozen BK469.out 3) | ((with_reducible refine gate_callee (f := 55) rfl ?_); refine gL (some 11) Try.func55 #[.slice A0 l0.length c0, .agg #[.slice A1_0 l1_0.length c1_0, .int .i64 a1_1, .slice A1_2 l1_2.length c1_2, .int .i64 a1_3]] ?_; (with_reducible refine (spec_IsControl.calls k _ _ l0 _ _ l1_0 a1_1 _ _ l1_2 a1_3 true _ ?side1 ?side2 ?side3 ?side4 ?side5 ?side6 A4.out).mono ?_); (case side1 => exact Kd.C_below HR0.out bG); (case side2 => exact HC0.out); (case side3 => exact Kd.C_below HR1_0.out bG); (case side4 => exact HC1_0.out); (case side5 => exact Kd.C_below HR1_2.out bG); (case side6 => exact HC1_2.out); rintro e w37 ⟨rfl, hb⟩; refine ⟨_, rfl, ?_⟩; have n0_ := Aside0.mk (Kd.R_below (by (with_reducible repeat (first | apply Kd.R_alloc | apply Kd.R_drewN | apply Kd.R_drew)); exact (Kd.R_mono (Kd.R_far (p := ⟨gb479, 3, none⟩) (Kd.R_far (p := ⟨gb479, 2, none⟩) (Kd.R_far (p := ⟨gb479, 1, none⟩) (Kd.R_far (p := ⟨gb479, 0, none⟩) (Kd.R_types HO473.out BK479.out (by decide)) (fun _ hk => hk.2) (.slice Ao31 t471.length co31)) (fun _ hk => hk.2) (.int .i64 t474)) (fun _ hk => hk.2) (.slice Ao35 t475.length co35)) (fun _ hk => hk.2) (.int .i64 t478)) (fun _ h_ => h_.1))) hb); have n1_ := Aside0.mk (Kd.R_below (by (with_reducible repeat (first | apply Kd.R_alloc | apply Kd.R_drewN | apply Kd.R_drew)); exact (Kd.R_mono (Kd.R_far (p := ⟨gb479, 3, none⟩) (Kd.R_far (p := ⟨gb479, 2, none⟩) (Kd.R_far (p := ⟨gb479, 1, none⟩) (Kd.R_far (p := ⟨gb479, 0, none⟩) (Kd.R_types HO477.out BK479.out (by decide)) (fun _ hk => hk.2) (.slice Ao31 t471.length co31)) (fun _ hk => hk.2) (.int .i64 t474)) (fun _ hk => hk.2) (.slice Ao35 t475.length co35)) (fun _ hk => hk.2) (.int .i64 t478)) (fun _ h_ => h_.1))) hb); have n2_ := Aside0.mk (blk_below (g := gb469) (o := .cells #[.slice A1_0 l1_0.length c1_0, .int .i64 a1_1, .slice A1_2 l1_2.length c1_2, .int .i64 a1_3] 70 (0, 0)) (by (with_reducible repeat (first | refine blk_drewN ?_ _ | refine blk_drew ?_ | refine blk_alloc ?_ _)); refine blk_far ?_ NB469_479.out _; (with_reducible repeat (first | refine blk_drewN ?_ _ | refine blk_drew ?_ | refine blk_alloc ?_ _)); refine blk_far ?_ NB469_479.out _; (with_reducible repeat (first | refine blk_drewN ?_ _ | refine blk_drew ?_ | refine blk_alloc ?_ _)); refine blk_far ?_ NB469_479.out _; (with_reducible repeat (first | refine blk_drewN ?_ _ | refine blk_drew ?_ | refine blk_alloc ?_ _)); refine blk_far ?_ NB469_479.out _; (with_reducible repeat (first | refine blk_drewN ?_ _ | refine blk_drew ?_ | refine blk_alloc ?_ _)); exact BK469.out) hb); have n3_ := Aside0.mk (blk_below (g := gb470) (o := .cells #[.slice none 0 0, .int .i64 0, .slice none 0 0, .int .i64 0] 70 (0, 0)) (by (with_reducible repeat (first | refine blk_drewN ?_ _ | refine blk_drew ?_ | refine blk_alloc ?_ _)); refine blk_far ?_ NB470_479.out _; (with_reducible repeat (first | refine blk_drewN ?_ _ | refine blk_drew ?_ | refine blk_alloc ?_ _)); refine blk_far ?_ NB470_479.out _; (with_reducible repeat (first | refine blk_drewN ?_ _ | refine blk_drew ?_ | refine blk_alloc ?_ _)); refine blk_far ?_ NB470_479.out _; (with_reducible repeat (first | refine blk_drewN ?_ _ | refine blk_drew ?_ | refine blk_alloc ?_ _)); refine blk_far ?_ NB470_479.out _; (with_reducible repeat (first | refine blk_drewN ?_ _ | refine blk_drew ?_ | refine blk_alloc ?_ _)); exact BK470.out) hb); have n4_ := Aside0.mk (blk_below (g := gb479) (o := .cells #[.slice Ao31 t471.length co31, .int .i64 t474, .slice Ao35 t475.length co35, .int .i64 t478] 70 (0, 0)) (by (with_reducible repeat (first | refine blk_drewN ?_ _ | refine blk_drew ?_ | refine blk_alloc ?_ _)); refine blk_put (cs := #[.slice Ao31 t471.length co31, .int .i64 t474, .slice Ao35 t475.length co35, .int .i64 0]) ?_ 3 _ rfl; (with_reducible repeat (first | refine blk_drewN ?_ _ | refine blk_drew ?_ | refine blk_alloc ?_ _)); refine blk_put (cs := #[.slice Ao31 t471.length co31, .int .i64 t474, .slice none 0 0, .int .i64 0]) ?_ 2 _ rfl; (with_reducible repeat (first | refine blk_drewN ?_ _ | refine blk_drew ?_ | refine blk_alloc ?_ _)); refine blk_put (cs := #[.slice Ao31 t471.length co31, .int .i64 0, .slice none 0 0, .int .i64 0]) ?_ 1 _ rfl; (with_reducible repeat (first | refine blk_drewN ?_ _ | refine blk_drew ?_ | refine blk_alloc ?_ _)); refine blk_put (cs := #[.slice none 0 0, .int .i64 0, .slice none 0 0, .int .i64 0]) ?_ 0 _ rfl; (with_reducible repeat (first | refine blk_drewN ?_ _ | refine blk_drew ?_ | refine blk_alloc ?_ _)); exact BK479.out) hb); have n5_ := Aside0.mk (below_step bG hb); clear HO473; clear HO477; clear BK469; clear BK470; clear BK479; clear HB; have HO473 := n0_; have HO477 := n1_; have BK469 := n2_; have BK470 := n3_; have BK479 := n4_; have HB := n5_; clear n0_ n1_ n2_ n3_ n4_ n5_; (try clear hb); (try clear hb2); (try clear hk); (try clear hi); obtain ⟨hcz38_0, hcz38_1, hcz38_2, hcz38_3, hfz38_0, hfz38_1, hfz38_2, hfz38_3⟩ := blkc4 BK469; obtain ⟨hcz39_0, hcz39_1, hcz39_2, hcz39_3, hfz39_0, hfz39_1, hfz39_2, hfz39_3⟩ := blkc4 BK479; obtain ⟨hcz40_0, hcz40_1, hcz40_2, hcz40_3, hfz40_0, hfz40_1, hfz40_2, hfz40_3⟩ := blkc4 BK470))
    refine bodyPost_ret (results_cell_row rfl _ _ gb470 70 #[.slice Ao35 t475.length co35, .int .i64 0, .slice none 0 0, .int .i64 0] (0, 0) _ rfl (by (with_reducible repeat (first | refine blk_drewN ?_ _ | refine blk_drew ?_ | refine blk_alloc ?_ _)); refine blk_put (cs := #[.slice Ao35 t475.length co35, .int .i64 0, .slice none 0 0, .int .i64 0]) ?_ 3 _ rfl; (with_reducible repeat (first | refine blk_drewN ?_ _ | refine blk_drew ?_ | refine blk_alloc ?_ _)); refine blk_put (cs := #[.slice Ao35 t475.length co35, .int .i64 0, .slice none 0 0, .int .i64 0]) ?_ 2 _ rfl; (with_reducible repeat (first | refine blk_drewN ?_ _ | refine blk_drew ?_ | refine blk_alloc ?_ _)); refine blk_put (cs := #[.slice Ao35 t475.length co35, .int .i64 0, .slice none 0 0, .int .i64 0]) ?_ 1 _ rfl; (with_reducible repeat (first | refine blk_drewN ?_ _ | refine blk_drew ?_ | refine blk_alloc ?_ _)); refine blk_put (cs := #[.slice none 0 0, .int .i64 0, .slice none 0 0, .int .i64 0]) ?_ 0 _ rfl; (with_reducible repeat (first | refine blk_drewN ?_ _ | refine blk_drew ?_ | refine blk_alloc ?_ _)); refine blk_far ?_ NB470_479.out _; (with_reducible repeat (first | refine blk_drewN ?_ _ | refine blk_drew ?_ | refine blk_alloc ?_ _)); exact BK470.out) Try.underlying70 rfl (by kernel_rfl)) rfl ?_
    exact ⟨_, _, by first | rfl | (simp [errW_none, errW_some] <;> rfl) | (simp [*, errW_none, errW_some] <;> rfl), by (with_reducible repeat (first | apply Kd.R_alloc | apply Kd.R_drewN | apply Kd.R_drew)); exact Kd.R_mono (Kd.R_far (p := ⟨gb470, 3, none⟩) (Kd.R_far (p := ⟨gb470, 2, none⟩) (Kd.R_far (p := ⟨gb470, 1, none⟩) (Kd.R_far (p := ⟨gb470, 0, none⟩) (Kd.R_far (p := ⟨gb479, 3, none⟩) (Kd.R_types (Kd.R_types HO477.out BK479.out (by decide)) BK470.out (by decide)) (fun _ hk => hk.1.2) (.int .i64 (wrap64 (a1_3 - 1)))) (fun _ hk => hk.2) (.slice Ao35 t475.length co35)) (fun _ hk => hk.2) (.int .i64 0)) (fun _ hk => hk.2) (.slice none 0 0)) (fun _ hk => hk.2) (.int .i64 0)) (fun _ hk => (by simp [Value.ownBlock])), by first | exact Kd.R_nil _ _ _ _ _ | exact Kd.N_nil _ _ _ _ _ | exact Kd.V_nil _ _ _ _ _ | exact Kd.Q_nil _ _ _ _ _ | exact Kd.S_nil _ _ _ _ _, bG⟩
   ·
    rw [if_neg c24] at H
    have c24b0 : ((wrap64 (a1_3 - 1)) == 0) = false := beq_eq_false_iff_ne.mpr c24
    have c24b1 : ((wrap64 (a1_3 - 1)) != 0) = true := bne_iff_ne.mpr c24
    simp only [Option.some.injEq, Prod.mk.injEq] at H
    obtain ⟨rfl, rfl, rfl, rfl⟩ := H
    go_enter Try.func64, Try.ntmps64
    go_wp2_with (first | ((with_reducible refine gate_dst (N := 3) rfl ?_); refine bE (N := 3) (cs := #[.slice A1_0 l1_0.length c1_0, .int .i64 a1_1, .slice A1_2 l1_2.length c1_2, .int .i64 a1_3]) (t := 70) ?_; intro gb469 hg w41 hbox hb; have n0_ := Aside0.mk (below_step bA hb); have n1_ := Aside0.mk (hbox); have n2_ := Aside0.mk ((by rw [hg]; exact (below_size bA) : w.heap.size ≤ gb469)); have n3_ := Aside0.mk ((by rw [hg]; exact (below_size bA) : w.heap.size ≤ gb469)); clear HB; have HB := n0_; have BK469 := n1_; have GW469 := n2_; have GE469 := n3_; clear n0_ n1_ n2_ n3_; clear hb hbox hg) | ((with_reducible refine gate_dst (N := 4) rfl ?_); refine bE (N := 4) (cs := #[.slice none 0 0, .int .i64 0, .slice none 0 0, .int .i64 0]) (t := 70) ?_; intro gb470 hg w42 hbox hb; have n0_ := Aside0.mk (blk_below (g := gb469) (bK BK469) hb); have n1_ := Aside0.mk (below_step bG hb); have n2_ := Aside0.mk (hbox); have n3_ := Aside0.mk ((by rw [hg]; exact (below_size bG) : w.heap.size ≤ gb470)); have n4_ := Aside0.mk ((by rw [hg]; exact (below_size bG) : w.heap.size ≤ gb470)); have n5_ := Aside0.mk ((by rw [hg]; exact Nat.ne_of_lt (blk_lt (g := gb469) (o := .cells #[.slice A1_0 l1_0.length c1_0, .int .i64 a1_1, .slice A1_2 l1_2.length c1_2, .int .i64 a1_3] 70 (0, 0)) (bK BK469)) : gb469 ≠ gb470)); have n6_ := Aside0.mk ((by rw [hg]; exact Nat.ne_of_gt (blk_lt (g := gb469) (o := .cells #[.slice A1_0 l1_0.length c1_0, .int .i64 a1_1, .slice A1_2 l1_2.length c1_2, .int .i64 a1_3] 70 (0, 0)) (bK BK469)) : gb470 ≠ gb469)); clear BK469; clear HB; have BK469 := n0_; have HB := n1_; have BK470 := n2_; have GW470 := n3_; have GE470 := n4_; have NB469_470 := n5_; have NB470_469 := n6_; clear n0_ n1_ n2_ n3_ n4_ n5_ n6_; clear hb hbox hg; have hnb43 := NB469_470.out; have hnc43 := NB470_469.out; have hcz44_0 : w42.cell? ⟨gb469, 0, none⟩ = some (.slice A1_0 l1_0.length c1_0) := bC BK469 0; have hcz44_1 : w42.cell? ⟨gb469, 1, none⟩ = some (.int .i64 a1_1) := bC BK469 1; have hcz44_2 : w42.cell? ⟨gb469, 2, none⟩ = some (.slice A1_2 l1_2.length c1_2) := bC BK469 2; have hcz44_3 : w42.cell? ⟨gb469, 3, none⟩ = some (.int .i64 a1_3) := bC BK469 3; have hfz44_0 := blk_frozen BK469.out 0; have hfz44_1 := blk_frozen BK469.out 1; have hfz44_2 := blk_frozen BK469.out 2; have hfz44_3 := blk_frozen BK469.out 3) | ((with_reducible refine gate_callee (f := 106) rfl ?_); refine gL (some 7) Try.func106 #[.agg #[.slice A1_0 l1_0.length c1_0, .int .i64 a1_1, .slice A1_2 l1_2.length c1_2, .int .i64 a1_3]] ?_; (with_reducible refine (spec_l14Copy.calls _ _ l1_0 a1_1 _ _ l1_2 a1_3 t471 t474 t475 t478 _ ?side1 ?side2 ?side3 ?side4 A3.out).mono ?_); (case side1 => exact cB HR1_0); (case side2 => exact HC1_0.out); (case side3 => exact cB HR1_2); (case side4 => exact HC1_2.out); rintro e w45 ⟨v472, v476, rfl, ho0, ho1, hb⟩; refine ⟨_, rfl, ?_⟩; have HO473 := Aside0.mk (Kd.R_lower ho0 (below_size bG)); have HO477 := Aside0.mk (Kd.R_lower ho1 (below_size bG)); replace BK469 := Aside0.mk (blk_below (g := gb469) (bK BK469) hb); replace BK470 := Aside0.mk (blk_below (g := gb470) (bK BK470) hb); replace HB := Aside0.mk (below_step bG hb); (try clear hb); (try clear hb2); (try clear hk); (try clear hi); (try clear ho0); (try clear ho1)) | ((with_reducible refine gate_dst (N := 5) rfl ?_); refine bE (N := 5) (cs := #[.slice none 0 0, .int .i64 0, .slice none 0 0, .int .i64 0]) (t := 70) ?_; intro gb479 hg w46 hbox hb; have n0_ := Aside0.mk (Kd.R_below (rK HO473) hb); have n1_ := Aside0.mk (Kd.R_below (rK HO477) hb); have n2_ := Aside0.mk (blk_below (g := gb469) (bK BK469) hb); have n3_ := Aside0.mk (blk_below (g := gb470) (bK BK470) hb); have n4_ := Aside0.mk (below_step bG hb); have n5_ := Aside0.mk (hbox); have n6_ := Aside0.mk ((by rw [hg]; exact (below_size bG) : w.heap.size ≤ gb479)); have n7_ := Aside0.mk ((by rw [hg]; exact (below_size bG) : w.heap.size ≤ gb479)); have n8_ := Aside0.mk ((by rw [hg]; exact Nat.ne_of_lt (blk_lt (g := gb469) (o := .cells #[.slice A1_0 l1_0.length c1_0, .int .i64 a1_1, .slice A1_2 l1_2.length c1_2, .int .i64 a1_3] 70 (0, 0)) (bK BK469)) : gb469 ≠ gb479)); have n9_ := Aside0.mk ((by rw [hg]; exact Nat.ne_of_gt (blk_lt (g := gb469) (o := .cells #[.slice A1_0 l1_0.length c1_0, .int .i64 a1_1, .slice A1_2 l1_2.length c1_2, .int .i64 a1_3] 70 (0, 0)) (bK BK469)) : gb479 ≠ gb469)); have n10_ := Aside0.mk ((by rw [hg]; exact Nat.ne_of_lt (blk_lt (g := gb470) (o := .cells #[.slice none 0 0, .int .i64 0, .slice none 0 0, .int .i64 0] 70 (0, 0)) (bK BK470)) : gb470 ≠ gb479)); have n11_ := Aside0.mk ((by rw [hg]; exact Nat.ne_of_gt (blk_lt (g := gb470) (o := .cells #[.slice none 0 0, .int .i64 0, .slice none 0 0, .int .i64 0] 70 (0, 0)) (bK BK470)) : gb479 ≠ gb470)); clear HO473; clear HO477; clear BK469; clear BK470; clear HB; have HO473 := n0_; have HO477 := n1_; have BK469 := n2_; have BK470 := n3_; have HB := n4_; have BK479 := n5_; have GW479 := n6_; have GE479 := n7_; have NB469_479 := n8_; have NB479_469 := n9_; have NB470_479 := n10_; have NB479_470 := n11_; clear n0_ n1_ n2_ n3_ n4_ n5_ n6_ n7_ n8_ n9_ n10_ n11_; clear hb hbox hg; obtain ⟨Ao47, co47, eo47⟩ := Kd.R_slice HO473.out; subst eo47; have hnb48 := NB479_469.out; have hnc48 := NB469_479.out; have hnb49 := NB479_470.out; have hnc49 := NB470_479.out; obtain ⟨hcz50_0, hcz50_1, hcz50_2, hcz50_3, hfz50_0, hfz50_1, hfz50_2, hfz50_3⟩ := blkc4 BK479; obtain ⟨Ao51, co51, eo51⟩ := Kd.R_slice HO477.out; subst eo51; have hcz52_0 : w46.cell? ⟨gb469, 0, none⟩ = some (.slice A1_0 l1_0.length c1_0) := bC BK469 0; have hcz52_1 : w46.cell? ⟨gb469, 1, none⟩ = some (.int .i64 a1_1) := bC BK469 1; have hcz52_2 : w46.cell? ⟨gb469, 2, none⟩ = some (.slice A1_2 l1_2.length c1_2) := bC BK469 2; have hcz52_3 : w46.cell? ⟨gb469, 3, none⟩ = some (.int .i64 a1_3) := bC BK469 3; have hfz52_0 := blk_frozen BK469.out 0; have hfz52_1 := blk_frozen BK469.out 1; have hfz52_2 := blk_frozen BK469.out 2; have hfz52_3 := blk_frozen BK469.out 3) | ((with_reducible refine gate_callee (f := 55) rfl ?_); refine gL (some 11) Try.func55 #[.slice A0 l0.length c0, .agg #[.slice A1_0 l1_0.length c1_0, .int .i64 a1_1, .slice A1_2 l1_2.length c1_2, .int .i64 a1_3]] ?_; (with_reducible refine (spec_IsControl.calls k _ _ l0 _ _ l1_0 a1_1 _ _ l1_2 a1_3 true _ ?side1 ?side2 ?side3 ?side4 ?side5 ?side6 A4.out).mono ?_); (case side1 => exact Kd.C_below HR0.out bG); (case side2 => exact HC0.out); (case side3 => exact Kd.C_below HR1_0.out bG); (case side4 => exact HC1_0.out); (case side5 => exact Kd.C_below HR1_2.out bG); (case side6 => exact HC1_2.out); rintro e w53 ⟨rfl, hb⟩; refine ⟨_, rfl, ?_⟩; have n0_ := Aside0.mk (Kd.R_below (by (with_reducible repeat (first | apply Kd.R_alloc | apply Kd.R_drewN | apply Kd.R_drew)); exact (Kd.R_mono (Kd.R_far (p := ⟨gb479, 3, none⟩) (Kd.R_far (p := ⟨gb479, 2, none⟩) (Kd.R_far (p := ⟨gb479, 1, none⟩) (Kd.R_far (p := ⟨gb479, 0, none⟩) (Kd.R_types HO473.out BK479.out (by decide)) (fun _ hk => hk.2) (.slice Ao47 t471.length co47)) (fun _ hk => hk.2) (.int .i64 t474)) (fun _ hk => hk.2) (.slice Ao51 t475.length co51)) (fun _ hk => hk.2) (.int .i64 t478)) (fun _ h_ => h_.1))) hb); have n1_ := Aside0.mk (Kd.R_below (by (with_reducible repeat (first | apply Kd.R_alloc | apply Kd.R_drewN | apply Kd.R_drew)); exact (Kd.R_mono (Kd.R_far (p := ⟨gb479, 3, none⟩) (Kd.R_far (p := ⟨gb479, 2, none⟩) (Kd.R_far (p := ⟨gb479, 1, none⟩) (Kd.R_far (p := ⟨gb479, 0, none⟩) (Kd.R_types HO477.out BK479.out (by decide)) (fun _ hk => hk.2) (.slice Ao47 t471.length co47)) (fun _ hk => hk.2) (.int .i64 t474)) (fun _ hk => hk.2) (.slice Ao51 t475.length co51)) (fun _ hk => hk.2) (.int .i64 t478)) (fun _ h_ => h_.1))) hb); have n2_ := Aside0.mk (blk_below (g := gb469) (o := .cells #[.slice A1_0 l1_0.length c1_0, .int .i64 a1_1, .slice A1_2 l1_2.length c1_2, .int .i64 a1_3] 70 (0, 0)) (by (with_reducible repeat (first | refine blk_drewN ?_ _ | refine blk_drew ?_ | refine blk_alloc ?_ _)); refine blk_far ?_ NB469_479.out _; (with_reducible repeat (first | refine blk_drewN ?_ _ | refine blk_drew ?_ | refine blk_alloc ?_ _)); refine blk_far ?_ NB469_479.out _; (with_reducible repeat (first | refine blk_drewN ?_ _ | refine blk_drew ?_ | refine blk_alloc ?_ _)); refine blk_far ?_ NB469_479.out _; (with_reducible repeat (first | refine blk_drewN ?_ _ | refine blk_drew ?_ | refine blk_alloc ?_ _)); refine blk_far ?_ NB469_479.out _; (with_reducible repeat (first | refine blk_drewN ?_ _ | refine blk_drew ?_ | refine blk_alloc ?_ _)); exact BK469.out) hb); have n3_ := Aside0.mk (blk_below (g := gb470) (o := .cells #[.slice none 0 0, .int .i64 0, .slice none 0 0, .int .i64 0] 70 (0, 0)) (by (with_reducible repeat (first | refine blk_drewN ?_ _ | refine blk_drew ?_ | refine blk_alloc ?_ _)); refine blk_far ?_ NB470_479.out _; (with_reducible repeat (first | refine blk_drewN ?_ _ | refine blk_drew ?_ | refine blk_alloc ?_ _)); refine blk_far ?_ NB470_479.out _; (with_reducible repeat (first | refine blk_drewN ?_ _ | refine blk_drew ?_ | refine blk_alloc ?_ _)); refine blk_far ?_ NB470_479.out _; (with_reducible repeat (first | refine blk_drewN ?_ _ | refine blk_drew ?_ | refine blk_alloc ?_ _)); refine blk_far ?_ NB470_479.out _; (with_reducible repeat (first | refine blk_drewN ?_ _ | refine blk_drew ?_ | refine blk_alloc ?_ _)); exact BK470.out) hb); have n4_ := Aside0.mk (blk_below (g := gb479) (o := .cells #[.slice Ao47 t471.length co47, .int .i64 t474, .slice Ao51 t475.length co51, .int .i64 t478] 70 (0, 0)) (by (with_reducible repeat (first | refine blk_drewN ?_ _ | refine blk_drew ?_ | refine blk_alloc ?_ _)); refine blk_put (cs := #[.slice Ao47 t471.length co47, .int .i64 t474, .slice Ao51 t475.length co51, .int .i64 0]) ?_ 3 _ rfl; (with_reducible repeat (first | refine blk_drewN ?_ _ | refine blk_drew ?_ | refine blk_alloc ?_ _)); refine blk_put (cs := #[.slice Ao47 t471.length co47, .int .i64 t474, .slice none 0 0, .int .i64 0]) ?_ 2 _ rfl; (with_reducible repeat (first | refine blk_drewN ?_ _ | refine blk_drew ?_ | refine blk_alloc ?_ _)); refine blk_put (cs := #[.slice Ao47 t471.length co47, .int .i64 0, .slice none 0 0, .int .i64 0]) ?_ 1 _ rfl; (with_reducible repeat (first | refine blk_drewN ?_ _ | refine blk_drew ?_ | refine blk_alloc ?_ _)); refine blk_put (cs := #[.slice none 0 0, .int .i64 0, .slice none 0 0, .int .i64 0]) ?_ 0 _ rfl; (with_reducible repeat (first | refine blk_drewN ?_ _ | refine blk_drew ?_ | refine blk_alloc ?_ _)); exact BK479.out) hb); have n5_ := Aside0.mk (below_step bG hb); clear HO473; clear HO477; clear BK469; clear BK470; clear BK479; clear HB; have HO473 := n0_; have HO477 := n1_; have BK469 := n2_; have BK470 := n3_; have BK479 := n4_; have HB := n5_; clear n0_ n1_ n2_ n3_ n4_ n5_; (try clear hb); (try clear hb2); (try clear hk); (try clear hi); obtain ⟨hcz54_0, hcz54_1, hcz54_2, hcz54_3, hfz54_0, hfz54_1, hfz54_2, hfz54_3⟩ := blkc4 BK469; obtain ⟨hcz55_0, hcz55_1, hcz55_2, hcz55_3, hfz55_0, hfz55_1, hfz55_2, hfz55_3⟩ := blkc4 BK479; obtain ⟨hcz56_0, hcz56_1, hcz56_2, hcz56_3, hfz56_0, hfz56_1, hfz56_2, hfz56_3⟩ := blkc4 BK470))
    refine bodyPost_ret (results_cell_row rfl _ _ gb470 70 #[.slice Ao47 t471.length co47, .int .i64 t474, .slice Ao51 t475.length co51, .int .i64 (wrap64 (a1_3 - 1))] (0, 0) _ rfl (by (with_reducible repeat (first | refine blk_drewN ?_ _ | refine blk_drew ?_ | refine blk_alloc ?_ _)); refine blk_put (cs := #[.slice Ao47 t471.length co47, .int .i64 t474, .slice Ao51 t475.length co51, .int .i64 0]) ?_ 3 _ rfl; (with_reducible repeat (first | refine blk_drewN ?_ _ | refine blk_drew ?_ | refine blk_alloc ?_ _)); refine blk_put (cs := #[.slice Ao47 t471.length co47, .int .i64 t474, .slice none 0 0, .int .i64 0]) ?_ 2 _ rfl; (with_reducible repeat (first | refine blk_drewN ?_ _ | refine blk_drew ?_ | refine blk_alloc ?_ _)); refine blk_put (cs := #[.slice Ao47 t471.length co47, .int .i64 0, .slice none 0 0, .int .i64 0]) ?_ 1 _ rfl; (with_reducible repeat (first | refine blk_drewN ?_ _ | refine blk_drew ?_ | refine blk_alloc ?_ _)); refine blk_put (cs := #[.slice none 0 0, .int .i64 0, .slice none 0 0, .int .i64 0]) ?_ 0 _ rfl; (with_reducible repeat (first | refine blk_drewN ?_ _ | refine blk_drew ?_ | refine blk_alloc ?_ _)); refine blk_far ?_ NB470_479.out _; (with_reducible repeat (first | refine blk_drewN ?_ _ | refine blk_drew ?_ | refine blk_alloc ?_ _)); exact BK470.out) Try.underlying70 rfl (by kernel_rfl)) rfl ?_
    exact ⟨_, _, by first | rfl | (simp [errW_none, errW_some] <;> rfl) | (simp [*, errW_none, errW_some] <;> rfl), by (with_reducible repeat (first | apply Kd.R_alloc | apply Kd.R_drewN | apply Kd.R_drew)); exact Kd.R_mono (Kd.R_far (p := ⟨gb470, 3, none⟩) (Kd.R_far (p := ⟨gb470, 2, none⟩) (Kd.R_far (p := ⟨gb470, 1, none⟩) (Kd.R_far (p := ⟨gb470, 0, none⟩) (Kd.R_far (p := ⟨gb479, 3, none⟩) (Kd.R_types (Kd.R_types HO473.out BK479.out (by decide)) BK470.out (by decide)) (fun _ hk => hk.1.2) (.int .i64 (wrap64 (a1_3 - 1)))) (fun _ hk => hk.2) (.slice Ao47 t471.length co47)) (fun _ hk => hk.2) (.int .i64 t474)) (fun _ hk => hk.2) (.slice Ao51 t475.length co51)) (fun _ hk => hk.2) (.int .i64 (wrap64 (a1_3 - 1)))) (fun _ hk => hk.1.1), by (with_reducible repeat (first | apply Kd.R_alloc | apply Kd.R_drewN | apply Kd.R_drew)); exact Kd.R_mono (Kd.R_far (p := ⟨gb470, 3, none⟩) (Kd.R_far (p := ⟨gb470, 2, none⟩) (Kd.R_far (p := ⟨gb470, 1, none⟩) (Kd.R_far (p := ⟨gb470, 0, none⟩) (Kd.R_far (p := ⟨gb479, 3, none⟩) (Kd.R_types (Kd.R_types HO477.out BK479.out (by decide)) BK470.out (by decide)) (fun _ hk => hk.1.2) (.int .i64 (wrap64 (a1_3 - 1)))) (fun _ hk => hk.2) (.slice Ao47 t471.length co47)) (fun _ hk => hk.2) (.int .i64 t474)) (fun _ hk => hk.2) (.slice Ao51 t475.length co51)) (fun _ hk => hk.2) (.int .i64 (wrap64 (a1_3 - 1)))) (fun _ hk => hk.1.1), bG⟩
 ·
  replace c5 := Bool.eq_false_iff.mpr c5
  subst c5
  have H1 : (some (t471, t474, t475, t478)) = some (r1, r2, r3, r4) := by rw [if_neg (show ¬ (false = true) by decide)] at H; exact H
  clear H
  have H := H1
  clear H1
  simp only [Option.some.injEq, Prod.mk.injEq] at H
  obtain ⟨rfl, rfl, rfl, rfl⟩ := H
  go_enter Try.func64, Try.ntmps64
  go_wp2_with (first | ((with_reducible refine gate_dst (N := 3) rfl ?_); refine bE (N := 3) (cs := #[.slice A1_0 l1_0.length c1_0, .int .i64 a1_1, .slice A1_2 l1_2.length c1_2, .int .i64 a1_3]) (t := 70) ?_; intro gb469 hg w57 hbox hb; have n0_ := Aside0.mk (below_step bA hb); have n1_ := Aside0.mk (hbox); have n2_ := Aside0.mk ((by rw [hg]; exact (below_size bA) : w.heap.size ≤ gb469)); have n3_ := Aside0.mk ((by rw [hg]; exact (below_size bA) : w.heap.size ≤ gb469)); clear HB; have HB := n0_; have BK469 := n1_; have GW469 := n2_; have GE469 := n3_; clear n0_ n1_ n2_ n3_; clear hb hbox hg) | ((with_reducible refine gate_dst (N := 4) rfl ?_); refine bE (N := 4) (cs := #[.slice none 0 0, .int .i64 0, .slice none 0 0, .int .i64 0]) (t := 70) ?_; intro gb470 hg w58 hbox hb; have n0_ := Aside0.mk (blk_below (g := gb469) (bK BK469) hb); have n1_ := Aside0.mk (below_step bG hb); have n2_ := Aside0.mk (hbox); have n3_ := Aside0.mk ((by rw [hg]; exact (below_size bG) : w.heap.size ≤ gb470)); have n4_ := Aside0.mk ((by rw [hg]; exact (below_size bG) : w.heap.size ≤ gb470)); have n5_ := Aside0.mk ((by rw [hg]; exact Nat.ne_of_lt (blk_lt (g := gb469) (o := .cells #[.slice A1_0 l1_0.length c1_0, .int .i64 a1_1, .slice A1_2 l1_2.length c1_2, .int .i64 a1_3] 70 (0, 0)) (bK BK469)) : gb469 ≠ gb470)); have n6_ := Aside0.mk ((by rw [hg]; exact Nat.ne_of_gt (blk_lt (g := gb469) (o := .cells #[.slice A1_0 l1_0.length c1_0, .int .i64 a1_1, .slice A1_2 l1_2.length c1_2, .int .i64 a1_3] 70 (0, 0)) (bK BK469)) : gb470 ≠ gb469)); clear BK469; clear HB; have BK469 := n0_; have HB := n1_; have BK470 := n2_; have GW470 := n3_; have GE470 := n4_; have NB469_470 := n5_; have NB470_469 := n6_; clear n0_ n1_ n2_ n3_ n4_ n5_ n6_; clear hb hbox hg; have hnb59 := NB469_470.out; have hnc59 := NB470_469.out; have hcz60_0 : w58.cell? ⟨gb469, 0, none⟩ = some (.slice A1_0 l1_0.length c1_0) := bC BK469 0; have hcz60_1 : w58.cell? ⟨gb469, 1, none⟩ = some (.int .i64 a1_1) := bC BK469 1; have hcz60_2 : w58.cell? ⟨gb469, 2, none⟩ = some (.slice A1_2 l1_2.length c1_2) := bC BK469 2; have hcz60_3 : w58.cell? ⟨gb469, 3, none⟩ = some (.int .i64 a1_3) := bC BK469 3; have hfz60_0 := blk_frozen BK469.out 0; have hfz60_1 := blk_frozen BK469.out 1; have hfz60_2 := blk_frozen BK469.out 2; have hfz60_3 := blk_frozen BK469.out 3) | ((with_reducible refine gate_callee (f := 106) rfl ?_); refine gL (some 7) Try.func106 #[.agg #[.slice A1_0 l1_0.length c1_0, .int .i64 a1_1, .slice A1_2 l1_2.length c1_2, .int .i64 a1_3]] ?_; (with_reducible refine (spec_l14Copy.calls _ _ l1_0 a1_1 _ _ l1_2 a1_3 t471 t474 t475 t478 _ ?side1 ?side2 ?side3 ?side4 A3.out).mono ?_); (case side1 => exact cB HR1_0); (case side2 => exact HC1_0.out); (case side3 => exact cB HR1_2); (case side4 => exact HC1_2.out); rintro e w61 ⟨v472, v476, rfl, ho0, ho1, hb⟩; refine ⟨_, rfl, ?_⟩; have HO473 := Aside0.mk (Kd.R_lower ho0 (below_size bG)); have HO477 := Aside0.mk (Kd.R_lower ho1 (below_size bG)); replace BK469 := Aside0.mk (blk_below (g := gb469) (bK BK469) hb); replace BK470 := Aside0.mk (blk_below (g := gb470) (bK BK470) hb); replace HB := Aside0.mk (below_step bG hb); (try clear hb); (try clear hb2); (try clear hk); (try clear hi); (try clear ho0); (try clear ho1)) | ((with_reducible refine gate_dst (N := 5) rfl ?_); refine bE (N := 5) (cs := #[.slice none 0 0, .int .i64 0, .slice none 0 0, .int .i64 0]) (t := 70) ?_; intro gb479 hg w62 hbox hb; have n0_ := Aside0.mk (Kd.R_below (rK HO473) hb); have n1_ := Aside0.mk (Kd.R_below (rK HO477) hb); have n2_ := Aside0.mk (blk_below (g := gb469) (bK BK469) hb); have n3_ := Aside0.mk (blk_below (g := gb470) (bK BK470) hb); have n4_ := Aside0.mk (below_step bG hb); have n5_ := Aside0.mk (hbox); have n6_ := Aside0.mk ((by rw [hg]; exact (below_size bG) : w.heap.size ≤ gb479)); have n7_ := Aside0.mk ((by rw [hg]; exact (below_size bG) : w.heap.size ≤ gb479)); have n8_ := Aside0.mk ((by rw [hg]; exact Nat.ne_of_lt (blk_lt (g := gb469) (o := .cells #[.slice A1_0 l1_0.length c1_0, .int .i64 a1_1, .slice A1_2 l1_2.length c1_2, .int .i64 a1_3] 70 (0, 0)) (bK BK469)) : gb469 ≠ gb479)); have n9_ := Aside0.mk ((by rw [hg]; exact Nat.ne_of_gt (blk_lt (g := gb469) (o := .cells #[.slice A1_0 l1_0.length c1_0, .int .i64 a1_1, .slice A1_2 l1_2.length c1_2, .int .i64 a1_3] 70 (0, 0)) (bK BK469)) : gb479 ≠ gb469)); have n10_ := Aside0.mk ((by rw [hg]; exact Nat.ne_of_lt (blk_lt (g := gb470) (o := .cells #[.slice none 0 0, .int .i64 0, .slice none 0 0, .int .i64 0] 70 (0, 0)) (bK BK470)) : gb470 ≠ gb479)); have n11_ := Aside0.mk ((by rw [hg]; exact Nat.ne_of_gt (blk_lt (g := gb470) (o := .cells #[.slice none 0 0, .int .i64 0, .slice none 0 0, .int .i64 0] 70 (0, 0)) (bK BK470)) : gb479 ≠ gb470)); clear HO473; clear HO477; clear BK469; clear BK470; clear HB; have HO473 := n0_; have HO477 := n1_; have BK469 := n2_; have BK470 := n3_; have HB := n4_; have BK479 := n5_; have GW479 := n6_; have GE479 := n7_; have NB469_479 := n8_; have NB479_469 := n9_; have NB470_479 := n10_; have NB479_470 := n11_; clear n0_ n1_ n2_ n3_ n4_ n5_ n6_ n7_ n8_ n9_ n10_ n11_; clear hb hbox hg; obtain ⟨Ao63, co63, eo63⟩ := Kd.R_slice HO473.out; subst eo63; have hnb64 := NB479_469.out; have hnc64 := NB469_479.out; have hnb65 := NB479_470.out; have hnc65 := NB470_479.out; obtain ⟨hcz66_0, hcz66_1, hcz66_2, hcz66_3, hfz66_0, hfz66_1, hfz66_2, hfz66_3⟩ := blkc4 BK479; obtain ⟨Ao67, co67, eo67⟩ := Kd.R_slice HO477.out; subst eo67; have hcz68_0 : w62.cell? ⟨gb469, 0, none⟩ = some (.slice A1_0 l1_0.length c1_0) := bC BK469 0; have hcz68_1 : w62.cell? ⟨gb469, 1, none⟩ = some (.int .i64 a1_1) := bC BK469 1; have hcz68_2 : w62.cell? ⟨gb469, 2, none⟩ = some (.slice A1_2 l1_2.length c1_2) := bC BK469 2; have hcz68_3 : w62.cell? ⟨gb469, 3, none⟩ = some (.int .i64 a1_3) := bC BK469 3; have hfz68_0 := blk_frozen BK469.out 0; have hfz68_1 := blk_frozen BK469.out 1; have hfz68_2 := blk_frozen BK469.out 2; have hfz68_3 := blk_frozen BK469.out 3) | ((with_reducible refine gate_callee (f := 55) rfl ?_); refine gL (some 11) Try.func55 #[.slice A0 l0.length c0, .agg #[.slice A1_0 l1_0.length c1_0, .int .i64 a1_1, .slice A1_2 l1_2.length c1_2, .int .i64 a1_3]] ?_; (with_reducible refine (spec_IsControl.calls k _ _ l0 _ _ l1_0 a1_1 _ _ l1_2 a1_3 false _ ?side1 ?side2 ?side3 ?side4 ?side5 ?side6 A4.out).mono ?_); (case side1 => exact Kd.C_below HR0.out bG); (case side2 => exact HC0.out); (case side3 => exact Kd.C_below HR1_0.out bG); (case side4 => exact HC1_0.out); (case side5 => exact Kd.C_below HR1_2.out bG); (case side6 => exact HC1_2.out); rintro e w69 ⟨rfl, hb⟩; refine ⟨_, rfl, ?_⟩; have n0_ := Aside0.mk (Kd.R_below (by (with_reducible repeat (first | apply Kd.R_alloc | apply Kd.R_drewN | apply Kd.R_drew)); exact (Kd.R_mono (Kd.R_far (p := ⟨gb479, 3, none⟩) (Kd.R_far (p := ⟨gb479, 2, none⟩) (Kd.R_far (p := ⟨gb479, 1, none⟩) (Kd.R_far (p := ⟨gb479, 0, none⟩) (Kd.R_types HO473.out BK479.out (by decide)) (fun _ hk => hk.2) (.slice Ao63 t471.length co63)) (fun _ hk => hk.2) (.int .i64 t474)) (fun _ hk => hk.2) (.slice Ao67 t475.length co67)) (fun _ hk => hk.2) (.int .i64 t478)) (fun _ h_ => h_.1))) hb); have n1_ := Aside0.mk (Kd.R_below (by (with_reducible repeat (first | apply Kd.R_alloc | apply Kd.R_drewN | apply Kd.R_drew)); exact (Kd.R_mono (Kd.R_far (p := ⟨gb479, 3, none⟩) (Kd.R_far (p := ⟨gb479, 2, none⟩) (Kd.R_far (p := ⟨gb479, 1, none⟩) (Kd.R_far (p := ⟨gb479, 0, none⟩) (Kd.R_types HO477.out BK479.out (by decide)) (fun _ hk => hk.2) (.slice Ao63 t471.length co63)) (fun _ hk => hk.2) (.int .i64 t474)) (fun _ hk => hk.2) (.slice Ao67 t475.length co67)) (fun _ hk => hk.2) (.int .i64 t478)) (fun _ h_ => h_.1))) hb); have n2_ := Aside0.mk (blk_below (g := gb469) (o := .cells #[.slice A1_0 l1_0.length c1_0, .int .i64 a1_1, .slice A1_2 l1_2.length c1_2, .int .i64 a1_3] 70 (0, 0)) (by (with_reducible repeat (first | refine blk_drewN ?_ _ | refine blk_drew ?_ | refine blk_alloc ?_ _)); refine blk_far ?_ NB469_479.out _; (with_reducible repeat (first | refine blk_drewN ?_ _ | refine blk_drew ?_ | refine blk_alloc ?_ _)); refine blk_far ?_ NB469_479.out _; (with_reducible repeat (first | refine blk_drewN ?_ _ | refine blk_drew ?_ | refine blk_alloc ?_ _)); refine blk_far ?_ NB469_479.out _; (with_reducible repeat (first | refine blk_drewN ?_ _ | refine blk_drew ?_ | refine blk_alloc ?_ _)); refine blk_far ?_ NB469_479.out _; (with_reducible repeat (first | refine blk_drewN ?_ _ | refine blk_drew ?_ | refine blk_alloc ?_ _)); exact BK469.out) hb); have n3_ := Aside0.mk (blk_below (g := gb470) (o := .cells #[.slice none 0 0, .int .i64 0, .slice none 0 0, .int .i64 0] 70 (0, 0)) (by (with_reducible repeat (first | refine blk_drewN ?_ _ | refine blk_drew ?_ | refine blk_alloc ?_ _)); refine blk_far ?_ NB470_479.out _; (with_reducible repeat (first | refine blk_drewN ?_ _ | refine blk_drew ?_ | refine blk_alloc ?_ _)); refine blk_far ?_ NB470_479.out _; (with_reducible repeat (first | refine blk_drewN ?_ _ | refine blk_drew ?_ | refine blk_alloc ?_ _)); refine blk_far ?_ NB470_479.out _; (with_reducible repeat (first | refine blk_drewN ?_ _ | refine blk_drew ?_ | refine blk_alloc ?_ _)); refine blk_far ?_ NB470_479.out _; (with_reducible repeat (first | refine blk_drewN ?_ _ | refine blk_drew ?_ | refine blk_alloc ?_ _)); exact BK470.out) hb); have n4_ := Aside0.mk (blk_below (g := gb479) (o := .cells #[.slice Ao63 t471.length co63, .int .i64 t474, .slice Ao67 t475.length co67, .int .i64 t478] 70 (0, 0)) (by (with_reducible repeat (first | refine blk_drewN ?_ _ | refine blk_drew ?_ | refine blk_alloc ?_ _)); refine blk_put (cs := #[.slice Ao63 t471.length co63, .int .i64 t474, .slice Ao67 t475.length co67, .int .i64 0]) ?_ 3 _ rfl; (with_reducible repeat (first | refine blk_drewN ?_ _ | refine blk_drew ?_ | refine blk_alloc ?_ _)); refine blk_put (cs := #[.slice Ao63 t471.length co63, .int .i64 t474, .slice none 0 0, .int .i64 0]) ?_ 2 _ rfl; (with_reducible repeat (first | refine blk_drewN ?_ _ | refine blk_drew ?_ | refine blk_alloc ?_ _)); refine blk_put (cs := #[.slice Ao63 t471.length co63, .int .i64 0, .slice none 0 0, .int .i64 0]) ?_ 1 _ rfl; (with_reducible repeat (first | refine blk_drewN ?_ _ | refine blk_drew ?_ | refine blk_alloc ?_ _)); refine blk_put (cs := #[.slice none 0 0, .int .i64 0, .slice none 0 0, .int .i64 0]) ?_ 0 _ rfl; (with_reducible repeat (first | refine blk_drewN ?_ _ | refine blk_drew ?_ | refine blk_alloc ?_ _)); exact BK479.out) hb); have n5_ := Aside0.mk (below_step bG hb); clear HO473; clear HO477; clear BK469; clear BK470; clear BK479; clear HB; have HO473 := n0_; have HO477 := n1_; have BK469 := n2_; have BK470 := n3_; have BK479 := n4_; have HB := n5_; clear n0_ n1_ n2_ n3_ n4_ n5_; (try clear hb); (try clear hb2); (try clear hk); (try clear hi); obtain ⟨hcz70_0, hcz70_1, hcz70_2, hcz70_3, hfz70_0, hfz70_1, hfz70_2, hfz70_3⟩ := blkc4 BK479; obtain ⟨hcz71_0, hcz71_1, hcz71_2, hcz71_3, hfz71_0, hfz71_1, hfz71_2, hfz71_3⟩ := blkc4 BK470))
  refine bodyPost_ret (results_cell_row rfl _ _ gb470 70 #[.slice Ao63 t471.length co63, .int .i64 t474, .slice Ao67 t475.length co67, .int .i64 t478] (0, 0) _ rfl (by (with_reducible repeat (first | refine blk_drewN ?_ _ | refine blk_drew ?_ | refine blk_alloc ?_ _)); refine blk_put (cs := #[.slice Ao63 t471.length co63, .int .i64 t474, .slice Ao67 t475.length co67, .int .i64 0]) ?_ 3 _ rfl; (with_reducible repeat (first | refine blk_drewN ?_ _ | refine blk_drew ?_ | refine blk_alloc ?_ _)); refine blk_put (cs := #[.slice Ao63 t471.length co63, .int .i64 t474, .slice none 0 0, .int .i64 0]) ?_ 2 _ rfl; (with_reducible repeat (first | refine blk_drewN ?_ _ | refine blk_drew ?_ | refine blk_alloc ?_ _)); refine blk_put (cs := #[.slice Ao63 t471.length co63, .int .i64 0, .slice none 0 0, .int .i64 0]) ?_ 1 _ rfl; (with_reducible repeat (first | refine blk_drewN ?_ _ | refine blk_drew ?_ | refine blk_alloc ?_ _)); refine blk_put (cs := #[.slice none 0 0, .int .i64 0, .slice none 0 0, .int .i64 0]) ?_ 0 _ rfl; (with_reducible repeat (first | refine blk_drewN ?_ _ | refine blk_drew ?_ | refine blk_alloc ?_ _)); exact BK470.out) Try.underlying70 rfl (by kernel_rfl)) rfl ?_
  exact ⟨_, _, by first | rfl | (simp [errW_none, errW_some] <;> rfl) | (simp [*, errW_none, errW_some] <;> rfl), by (with_reducible repeat (first | apply Kd.R_alloc | apply Kd.R_drewN | apply Kd.R_drew)); exact Kd.R_mono (Kd.R_far (p := ⟨gb470, 3, none⟩) (Kd.R_far (p := ⟨gb470, 2, none⟩) (Kd.R_far (p := ⟨gb470, 1, none⟩) (Kd.R_far (p := ⟨gb470, 0, none⟩) (Kd.R_types HO473.out BK470.out (by decide)) (fun _ hk => hk.2) (.slice Ao63 t471.length co63)) (fun _ hk => hk.2) (.int .i64 t474)) (fun _ hk => hk.2) (.slice Ao67 t475.length co67)) (fun _ hk => hk.2) (.int .i64 t478)) (fun _ hk => hk.1), by (with_reducible repeat (first | apply Kd.R_alloc | apply Kd.R_drewN | apply Kd.R_drew)); exact Kd.R_mono (Kd.R_far (p := ⟨gb470, 3, none⟩) (Kd.R_far (p := ⟨gb470, 2, none⟩) (Kd.R_far (p := ⟨gb470, 1, none⟩) (Kd.R_far (p := ⟨gb470, 0, none⟩) (Kd.R_types HO477.out BK470.out (by decide)) (fun _ hk => hk.2) (.slice Ao63 t471.length co63)) (fun _ hk => hk.2) (.int .i64 t474)) (fun _ hk => hk.2) (.slice Ao67 t475.length co67)) (fun _ hk => hk.2) (.int .i64 t478)) (fun _ hk => hk.1), bG⟩

/-! ### impl_Interleave: function 122 -/
def impl_Interleave.l0 : Nat → Int → Int → Int → Int → List Int → Int → Int → Option (Bool)
 | 0, _, _, _, _, _, _, _ => none
 | k + 1, x0, x1, x2, x3, x16, x17, x18 => if x18 < x17 then (if 0 ≤ x18 then (if x18 < (x16.length : Int) then ((impl_InRange.f (rd x16 x18) 0 7).bind fun t486 => (if t486 = true then (impl_Interleave.l0 k x0 x1 x2 x3 x16 x17 (wrap64 (x18 + 1))) else (some false))) else (none)) else (none)) else (if x0 = x1 then (some false) else (if x0 = x2 then (some false) else (if x0 = x3 then (some false) else (if x1 = x2 then (some false) else (if x1 = x3 then (some false) else (if x2 = x3 then (some false) else (some ((decide ((Int.tmod (wrap64 ((wrap64 (x2 - x0)) + 8)) 8) < (Int.tmod (wrap64 ((wrap64 (x1 - x0)) + 8)) 8))) != (decide ((Int.tmod (wrap64 ((wrap64 (x3 - x0)) + 8)) 8) < (Int.tmod (wrap64 ((wrap64 (x1 - x0)) + 8)) 8)))))))))))
def impl_Interleave.f (k : Nat) (a0 : Int) (a1 : Int) (a2 : Int) (a3 : Int) : Option (Bool) := (some (([a0, a1, a2, a3] : List Int) : List Int)).bind fun y482 => (impl_Interleave.l0 k a0 a1 a2 a3 y482 (y482.length : Int) 0)
theorem impl_Interleave.mono_l : ∀ k, (∀ y0 y1 y2 y3 y4 y5 y6, LeO (impl_Interleave.l0 k y0 y1 y2 y3 y4 y5 y6) (impl_Interleave.l0 (k + 1) y0 y1 y2 y3 y4 y5 y6))
 | 0 => fun _ _ _ _ _ _ _ r h => by simp [impl_Interleave.l0] at h
 | k + 1 => by
  have ih0 := impl_Interleave.mono_l k
  ·
   intro y0 y1 y2 y3 y4 y5 y6
   unfold impl_Interleave.l0
   repeat' first | (with_reducible first | exact LeO.refl _ | exact LeO.none _ | refine LeO.ite ?_ ?_ | refine LeO.bind ?_ (fun _ => ?_) | exact ih0 _ _ _ _ _ _ _) | exact LeO.none _ | refine LeO.ite ?_ ?_ | refine LeO.bind ?_ (fun _ => ?_) | exact ih0 _ _ _ _ _ _ _
theorem impl_Interleave.mono : ∀ a0 a1 a2 a3 k, LeO (impl_Interleave.f k a0 a1 a2 a3) (impl_Interleave.f (k + 1) a0 a1 a2 a3) := by
 intro a0 a1 a2 a3 k
 have ih0 := impl_Interleave.mono_l k
 unfold impl_Interleave.f
 repeat' first | (with_reducible first | exact LeO.refl _ | exact LeO.none _ | refine LeO.ite ?_ ?_ | refine LeO.bind ?_ (fun _ => ?_) | exact ih0 _ _ _ _ _ _ _) | exact LeO.none _ | refine LeO.ite ?_ ?_ | refine LeO.bind ?_ (fun _ => ?_) | exact ih0 _ _ _ _ _ _ _
set_option maxHeartbeats 8000000 in
set_option maxRecDepth 100000 in
theorem impl_Interleave.calls (k : Nat) (a0 : Int) (a1 : Int) (a2 : Int) (a3 : Int) (r : Bool) (w : World) (h : impl_Interleave.f k a0 a1 a2 a3 = some r) :
  Calls Try.prog 122 #[.int .i64 a0, .int .i64 a1, .int .i64 a2, .int .i64 a3] w fun e w' => e = .returned (.bool r) ∧ Below w.heap.size w w' := by
 have HB := Aside0.mk (Below.refl w.heap.size w)
 have H : ((some (([a0, a1, a2, a3] : List Int) : List Int)).bind fun y482 => (impl_Interleave.l0 k a0 a1 a2 a3 y482 (y482.length : Int) 0)) = some r := h
 clear h
 obtain ⟨y482, hy482⟩ : ∃ y_ : List Int, y_ = (([a0, a1, a2, a3] : List Int)) := ⟨_, rfl⟩
 replace H : (impl_Interleave.l0 k a0 a1 a2 a3 y482 (y482.length : Int) 0) = some r := by first | (rw [hy482]; with_reducible exact H) | (have H2_ := (Option.bind_some _ _).symm.trans H; rw [hy482]; with_reducible exact H2_) | (have H2_ := (Option.bind_some _ _).symm.trans H; with_reducible exact H2_) | with_reducible exact H | (rw [hy482]; exact H) | exact H
 have Ny482 := Aside0.mk hy482
 clear hy482
 have H' := Aside0.mk H
 clear H
 go_enter Try.func122, Try.ntmps122
 go_wp2_with (first | ((with_reducible refine gate_dst (N := 16) rfl ?_); refine Kd.R_lit (Kd.int .i64) _ 3 ?hg (N := 16) ?hd (xs := ([a0, a1, a2, a3] : List Int)) (inner := [.int .i64 a0, .int .i64 a1, .int .i64 a2, .int .i64 a3]) (ok := fun _ => True) (okp := fun _ => True) ?hr ?hp (fun _ hk => hk) trivial (Below.refl _ _) (Nat.le_refl _) (by simp) ?_; (case hd => rfl); (case hg => rfl); (case hr => first | (go_simp; done) | (go_simp; rfl)); (case hp => exact (Reps.one (show Kd.M (Kd.int .i64) _ _ _ a0 [.int .i64 a0] from rfl) (Reps.one (show Kd.M (Kd.int .i64) _ _ _ a1 [.int .i64 a1] from rfl) (Reps.one (show Kd.M (Kd.int .i64) _ _ _ a2 [.int .i64 a2] from rfl) (Reps.one (show Kd.M (Kd.int .i64) _ _ _ a3 [.int .i64 a3] from rfl) (Reps.none _ _)))))); intro v483 w5 ho6 hb hg_ hnew_; clear hg_ hnew_; (first | rw [← Ny482.out] at ho6 | (simp only [Int.reduceToNat] at ho6; rw [← Ny482.out] at ho6)); have HO484 := Aside0.mk (Kd.R_lower ho6 (below_size bA)); replace HB := Aside0.mk (below_step bA hb); clear hb ho6; obtain ⟨Ao7, co7, eo7⟩ := Kd.R_slice HO484.out; subst eo7))
 go_loopg [18] k (fun kq v18 w' => ∃ (x18_1 : Int), v18 = .int .i64 x18_1 ∧ Aside0 (impl_Interleave.l0 kq a0 a1 a2 a3 y482 (y482.length : Int) x18_1 = some r) ∧ Aside0 (kq ≤ k) ∧ Aside0 (Kd.R (Kd.int .i64) 3 w' w.heap.size (fun _ => True) (.slice Ao7 y482.length co7) y482) ∧ Aside0 (Below w.heap.size w w'))
 case atStart => exact ⟨(0), rS, H', ⟨Nat.le_refl _⟩, ⟨rK HO484⟩, ⟨bA⟩⟩
 case round =>
  clear H'
  try clear c1
  try clear p2
  obtain ⟨x18_1, rfl, HA, HK1, HO_16, HB⟩ := hrel
  cases gk with
  | zero => exact absurd HA.out (by simp [impl_Interleave.l0])
  | succ k1 =>
   have H := HA.out
   clear HA
   simp only [impl_Interleave.l0] at H
   by_cases c8 : x18_1 < (y482.length : Int)
   ·
    rw [if_pos c8] at H
    have c8b0 : decide (x18_1 < (y482.length : Int)) = true := decide_eq_true c8
    clear c8
    have c9 : 0 ≤ x18_1 := ifN H
    replace H := ifT H
    have c9b0 : decide (0 ≤ x18_1) = true := decide_eq_true c9
    clear c9
    have c10 : x18_1 < (y482.length : Int) := ifN H
    replace H := ifT H
    have c10b0 : decide (x18_1 < (y482.length : Int)) = true := decide_eq_true c10
    clear c10
    obtain ⟨t486, A11, H⟩ := bindE H
    try dsimp only at H
    by_cases c12 : t486 = true
    ·
     subst c12
     have H1 : (impl_Interleave.l0 k1 a0 a1 a2 a3 y482 (y482.length : Int) (wrap64 (x18_1 + 1))) = some r := by rw [if_pos rfl] at H; exact H
     clear H
     have H := H1
     clear H1
     have H' := Aside0.mk H
     clear H
     have p485 : 0 ≤ (x18_1 : Int) := dA
     have q485 : x18_1 < (y482.length : Int) := dA
     obtain ⟨ad485, e485, hx485_0⟩ := Kd.at_int (Kd.R_reads' HO_16.out).2.2 x18_1 p485 q485
     cases e485
     replace p485 := eq_true p485
     replace q485 := eq_true q485
     go_wp2_with (first | ((with_reducible refine gate_callee (f := 69) rfl ?_); refine gL (some 23) Try.func69 #[.int .i64 (rd y482 x18_1), .int .i64 0, .int .i64 7] ?_; (with_reducible refine (impl_InRange.calls (rd y482 x18_1) 0 7 true _ A11.out).mono ?_); rintro e w' ⟨rfl, ⟨nd, rfl⟩⟩; refine ⟨_, rfl, ?_⟩))
     go_roundg k1
     case measure => have := HK1.out; omega
     case rel => exact ⟨(wrap64 (x18_1 + 1)), rS, H', ⟨by have := HK1.out; omega⟩, ⟨rK HO_16⟩, ⟨bA⟩⟩
    ·
     replace c12 := Bool.eq_false_iff.mpr c12
     subst c12
     have H1 : (some false) = some r := by rw [if_neg (show ¬ (false = true) by decide)] at H; exact H
     clear H
     have H := H1
     clear H1
     obtain rfl := Option.some.inj H
     have p485 : 0 ≤ (x18_1 : Int) := dA
     have q485 : x18_1 < (y482.length : Int) := dA
     obtain ⟨ad485, e485, hx485_0⟩ := Kd.at_int (Kd.R_reads' HO_16.out).2.2 x18_1 p485 q485
     cases e485
     replace p485 := eq_true p485
     replace q485 := eq_true q485
     go_wp2_with (first | ((with_reducible refine gate_callee (f := 69) rfl ?_); refine gL (some 23) Try.func69 #[.int .i64 (rd y482 x18_1), .int .i64 0, .int .i64 7] ?_; (with_reducible refine (impl_InRange.calls (rd y482 x18_1) 0 7 false _ A11.out).mono ?_); rintro e w' ⟨rfl, ⟨nd, rfl⟩⟩; refine ⟨_, rfl, ?_⟩))
     go_ret
     exact ⟨rA, bA⟩
   ·
    rw [if_neg c8] at H
    have c8b0 : decide (x18_1 < (y482.length : Int)) = false := decide_eq_false c8
    clear c8
    by_cases c13 : a0 = a1
    ·
     rw [if_pos c13] at H
     have c13b0 : (a0 == a1) = true := beq_iff_eq.mpr c13
     have c13b1 : (a0 != a1) = false := bne_eq_false_iff_eq.mpr c13
     clear c13
     obtain rfl := Option.some.inj H
     go_wp2
     go_ret
     exact ⟨rA, bA⟩
    ·
     rw [if_neg c13] at H
     have c13b0 : (a0 == a1) = false := beq_eq_false_iff_ne.mpr c13
     have c13b1 : (a0 != a1) = true := bne_iff_ne.mpr c13
     by_cases c14 : a0 = a2
     ·
      rw [if_pos c14] at H
      have c14b0 : (a0 == a2) = true := beq_iff_eq.mpr c14
      have c14b1 : (a0 != a2) = false := bne_eq_false_iff_eq.mpr c14
      clear c14
      obtain rfl := Option.some.inj H
      go_wp2
      go_ret
      exact ⟨rA, bA⟩
     ·
      rw [if_neg c14] at H
      have c14b0 : (a0 == a2) = false := beq_eq_false_iff_ne.mpr c14
      have c14b1 : (a0 != a2) = true := bne_iff_ne.mpr c14
      by_cases c15 : a0 = a3
      ·
       rw [if_pos c15] at H
       have c15b0 : (a0 == a3) = true := beq_iff_eq.mpr c15
       have c15b1 : (a0 != a3) = false := bne_eq_false_iff_eq.mpr c15
       clear c15
       obtain rfl := Option.some.inj H
       go_wp2
       go_ret
       exact ⟨rA, bA⟩
      ·
       rw [if_neg c15] at H
       have c15b0 : (a0 == a3) = false := beq_eq_false_iff_ne.mpr c15
       have c15b1 : (a0 != a3) = true := bne_iff_ne.mpr c15
       by_cases c16 : a1 = a2
       ·
        rw [if_pos c16] at H
        have c16b0 : (a1 == a2) = true := beq_iff_eq.mpr c16
        have c16b1 : (a1 != a2) = false := bne_eq_false_iff_eq.mpr c16
        clear c16
        obtain rfl := Option.some.inj H
        go_wp2
        go_ret
        exact ⟨rA, bA⟩
       ·
        rw [if_neg c16] at H
        have c16b0 : (a1 == a2) = false := beq_eq_false_iff_ne.mpr c16
        have c16b1 : (a1 != a2) = true := bne_iff_ne.mpr c16
        by_cases c17 : a1 = a3
        ·
         rw [if_pos c17] at H
         have c17b0 : (a1 == a3) = true := beq_iff_eq.mpr c17
         have c17b1 : (a1 != a3) = false := bne_eq_false_iff_eq.mpr c17
         clear c17
         obtain rfl := Option.some.inj H
         go_wp2
         go_ret
         exact ⟨rA, bA⟩
        ·
         rw [if_neg c17] at H
         have c17b0 : (a1 == a3) = false := beq_eq_false_iff_ne.mpr c17
         have c17b1 : (a1 != a3) = true := bne_iff_ne.mpr c17
         by_cases c18 : a2 = a3
         ·
          rw [if_pos c18] at H
          have c18b0 : (a2 == a3) = true := beq_iff_eq.mpr c18
          have c18b1 : (a2 != a3) = false := bne_eq_false_iff_eq.mpr c18
          clear c18
          obtain rfl := Option.some.inj H
          go_wp2
          go_ret
          exact ⟨rA, bA⟩
         ·
          rw [if_neg c18] at H
          have c18b0 : (a2 == a3) = false := beq_eq_false_iff_ne.mpr c18
          have c18b1 : (a2 != a3) = true := bne_iff_ne.mpr c18
          obtain rfl := Option.some.inj H
          go_wp2
          go_ret
          exact ⟨rA, bA⟩

/-! ### impl_InPlace: function 123 -/
def impl_InPlace.f (a0 : Int) : Option (Int) := (impl_InRange.f a0 0 3).bind fun t487 => (if t487 = true then (some (wrap64 (2 * a0))) else (some (-1)))
set_option maxHeartbeats 8000000 in
set_option maxRecDepth 100000 in
theorem impl_InPlace.calls (a0 : Int) (r : Int) (w : World) (h : impl_InPlace.f a0 = some r) :
  Calls Try.prog 123 #[.int .i64 a0] w fun e w' => e = .returned (.int .i64 r) ∧ Drawn0 w w' := by
 have H : ((impl_InRange.f a0 0 3).bind fun t487 => (if t487 = true then (some (wrap64 (2 * a0))) else (some (-1)))) = some r := h
 clear h
 obtain ⟨t487, A2, H⟩ := bindE H
 try dsimp only at H
 by_cases c3 : t487 = true
 ·
  subst c3
  have H1 : (some (wrap64 (2 * a0))) = some r := by rw [if_pos rfl] at H; exact H
  clear H
  have H := H1
  clear H1
  obtain rfl := Option.some.inj H
  go_enter Try.func123, Try.ntmps123
  go_wp2_with (first | ((with_reducible refine gate_callee (f := 69) rfl ?_); refine gL (some 4) Try.func69 #[.int .i64 a0, .int .i64 0, .int .i64 3] ?_; (with_reducible refine (impl_InRange.calls a0 0 3 true _ A2.out).mono ?_); rintro e w' ⟨rfl, ⟨nd, rfl⟩⟩; refine ⟨_, rfl, ?_⟩))
  go_ret
  exact ⟨by first | rfl | (simp; done) | (simp [*]; done), by repeat (first | exact Drawn0.refl _ | apply Drawn0.step)⟩
 ·
  replace c3 := Bool.eq_false_iff.mpr c3
  subst c3
  have H1 : (some (-1)) = some r := by rw [if_neg (show ¬ (false = true) by decide)] at H; exact H
  clear H
  have H := H1
  clear H1
  obtain rfl := Option.some.inj H
  go_enter Try.func123, Try.ntmps123
  go_wp2_with (first | ((with_reducible refine gate_callee (f := 69) rfl ?_); refine gL (some 4) Try.func69 #[.int .i64 a0, .int .i64 0, .int .i64 3] ?_; (with_reducible refine (impl_InRange.calls a0 0 3 false _ A2.out).mono ?_); rintro e w' ⟨rfl, ⟨nd, rfl⟩⟩; refine ⟨_, rfl, ?_⟩))
  go_ret
  exact ⟨by first | rfl | (simp; done) | (simp [*]; done), by repeat (first | exact Drawn0.refl _ | apply Drawn0.step)⟩

/-! ### impl_OutPlace: function 124 -/
def impl_OutPlace.f (a0 : Int) : Option (Int) := (impl_InRange.f a0 0 3).bind fun t488 => (if t488 = true then (some (wrap64 ((wrap64 (2 * a0)) + 1))) else (some (-1)))
set_option maxHeartbeats 8000000 in
set_option maxRecDepth 100000 in
theorem impl_OutPlace.calls (a0 : Int) (r : Int) (w : World) (h : impl_OutPlace.f a0 = some r) :
  Calls Try.prog 124 #[.int .i64 a0] w fun e w' => e = .returned (.int .i64 r) ∧ Drawn0 w w' := by
 have H : ((impl_InRange.f a0 0 3).bind fun t488 => (if t488 = true then (some (wrap64 ((wrap64 (2 * a0)) + 1))) else (some (-1)))) = some r := h
 clear h
 obtain ⟨t488, A2, H⟩ := bindE H
 try dsimp only at H
 by_cases c3 : t488 = true
 ·
  subst c3
  have H1 : (some (wrap64 ((wrap64 (2 * a0)) + 1))) = some r := by rw [if_pos rfl] at H; exact H
  clear H
  have H := H1
  clear H1
  obtain rfl := Option.some.inj H
  go_enter Try.func124, Try.ntmps124
  go_wp2_with (first | ((with_reducible refine gate_callee (f := 69) rfl ?_); refine gL (some 4) Try.func69 #[.int .i64 a0, .int .i64 0, .int .i64 3] ?_; (with_reducible refine (impl_InRange.calls a0 0 3 true _ A2.out).mono ?_); rintro e w' ⟨rfl, ⟨nd, rfl⟩⟩; refine ⟨_, rfl, ?_⟩))
  go_ret
  exact ⟨by first | rfl | (simp; done) | (simp [*]; done), by repeat (first | exact Drawn0.refl _ | apply Drawn0.step)⟩
 ·
  replace c3 := Bool.eq_false_iff.mpr c3
  subst c3
  have H1 : (some (-1)) = some r := by rw [if_neg (show ¬ (false = true) by decide)] at H; exact H
  clear H
  have H := H1
  clear H1
  obtain rfl := Option.some.inj H
  go_enter Try.func124, Try.ntmps124
  go_wp2_with (first | ((with_reducible refine gate_callee (f := 69) rfl ?_); refine gL (some 4) Try.func69 #[.int .i64 a0, .int .i64 0, .int .i64 3] ?_; (with_reducible refine (impl_InRange.calls a0 0 3 false _ A2.out).mono ?_); rintro e w' ⟨rfl, ⟨nd, rfl⟩⟩; refine ⟨_, rfl, ?_⟩))
  go_ret
  exact ⟨by first | rfl | (simp; done) | (simp [*]; done), by repeat (first | exact Drawn0.refl _ | apply Drawn0.step)⟩

/-! ### impl_Conflict: function 92 -/
def impl_Conflict.j0 : Nat → Bool → Int → Int → Int → Int → Int → Int → Int → Int → Option (Bool)
 | 0, _, _, _, _, _, _, _, _, _ => none
 | k + 1, x22, x490000, x490001, x490002, x490003, x491000, x491001, x491002, x491003 => if x22 = true then (some false) else (if x490001 = 2 then (if x491002 = x490002 then (some true) else (some (x491003 == x490002))) else (if x491001 = 2 then (if x490002 = x491002 then (some true) else (some (x490003 == x491002))) else (if x490002 = x491002 then ((impl_InPlace.f x490002).bind fun t493 => ((impl_OutPlace.f x490003).bind fun t494 => ((impl_InPlace.f x491002).bind fun t495 => ((impl_OutPlace.f x491003).bind fun t496 => ((impl_Interleave.f k t493 t494 t495 t496).bind fun t497 => (some t497)))))) else (if x490003 = x491003 then (some true) else ((impl_InPlace.f x490002).bind fun t498 => ((impl_OutPlace.f x490003).bind fun t499 => ((impl_InPlace.f x491002).bind fun t500 => ((impl_OutPlace.f x491003).bind fun t501 => ((impl_Interleave.f k t498 t499 t500 t501).bind fun t502 => (some t502))))))))))
def impl_Conflict.f (k : Nat) (a0_0 : Int) (a0_1 : Int) (a0_2 : Int) (a0_3 : Int) (a1_0 : Int) (a1_1 : Int) (a1_2 : Int) (a1_3 : Int) : Option (Bool) := (impl_IsPath.f a0_0 a0_1 a0_2 a0_3).bind fun t491 => (if t491 = true then ((impl_IsPath.f a1_0 a1_1 a1_2 a1_3).bind fun t492 => (if t492 = true then (if a0_1 = 2 then (impl_Conflict.j0 k (a1_1 == 2) a0_0 a0_1 a0_2 a0_3 a1_0 a1_1 a1_2 a1_3) else (impl_Conflict.j0 k false a0_0 a0_1 a0_2 a0_3 a1_0 a1_1 a1_2 a1_3)) else (impl_Conflict.j0 k true a0_0 a0_1 a0_2 a0_3 a1_0 a1_1 a1_2 a1_3))) else (impl_Conflict.j0 k true a0_0 a0_1 a0_2 a0_3 a1_0 a1_1 a1_2 a1_3))
theorem impl_Conflict.mono_l : ∀ k, (∀ y0 y1 y2 y3 y4 y5 y6 y7 y8, LeO (impl_Conflict.j0 k y0 y1 y2 y3 y4 y5 y6 y7 y8) (impl_Conflict.j0 (k + 1) y0 y1 y2 y3 y4 y5 y6 y7 y8))
 | 0 => fun _ _ _ _ _ _ _ _ _ r h => by simp [impl_Conflict.j0] at h
 | k + 1 => by
  have ih0 := impl_Conflict.mono_l k
  ·
   intro y0 y1 y2 y3 y4 y5 y6 y7 y8
   unfold impl_Conflict.j0
   repeat' first | (with_reducible first | exact LeO.refl _ | exact LeO.none _ | refine LeO.ite ?_ ?_ | refine LeO.bind ?_ (fun _ => ?_) | exact ih0 _ _ _ _ _ _ _ _ _ | exact impl_Interleave.mono _ _ _ _ _) | exact LeO.none _ | refine LeO.ite ?_ ?_ | refine LeO.bind ?_ (fun _ => ?_) | exact ih0 _ _ _ _ _ _ _ _ _ | exact impl_Interleave.mono _ _ _ _ _
theorem impl_Conflict.mono : ∀ a0 a1 a2 a3 a4 a5 a6 a7 k, LeO (impl_Conflict.f k a0 a1 a2 a3 a4 a5 a6 a7) (impl_Conflict.f (k + 1) a0 a1 a2 a3 a4 a5 a6 a7) := by
 intro a0 a1 a2 a3 a4 a5 a6 a7 k
 have ih0 := impl_Conflict.mono_l k
 unfold impl_Conflict.f
 repeat' first | (with_reducible first | exact LeO.refl _ | exact LeO.none _ | refine LeO.ite ?_ ?_ | refine LeO.bind ?_ (fun _ => ?_) | exact ih0 _ _ _ _ _ _ _ _ _ | exact impl_Interleave.mono _ _ _ _ _) | exact LeO.none _ | refine LeO.ite ?_ ?_ | refine LeO.bind ?_ (fun _ => ?_) | exact ih0 _ _ _ _ _ _ _ _ _ | exact impl_Interleave.mono _ _ _ _ _
def impl_Conflict.T7 : Bool × List (List Nat × List Nat) := (true, [([], []), ([0], [0]), ([], []), ([2], [2]), ([1, 3], [1, 3]), ([4], [4]), ([5], [5]), ([6, 5], [5, 6]), ([5], [5]), ([8, 5], [5, 8]), ([7, 9, 5], [5, 7, 9]), ([5, 10], [5, 10]), ([11, 5], [11]), ([12], [12]), ([13, 12], [12, 13]), ([14, 12, 12], [12, 14]), ([12], [12]), ([16, 12], [12, 16]), ([17, 15, 12], [12, 17]), ([12], [12]), ([19, 12], [12, 19]), ([20, 18, 12], [12, 20]), ([12], [12]), ([22, 12], [12, 22]), ([23, 21, 12], [12, 23]), ([15, 18, 21, 24, 24, 12], [12, 15, 18, 21, 24]), ([12, 25], [12, 25]), ([26, 25, 0, 1, 2, 3, 4, 5, 6, 7, 8, 9, 10, 11, 12, 13, 14, 15, 16, 17, 18, 19, 20, 21, 22, 23, 24, 25, 26], [26])])
def impl_Conflict.B7 : List Nat := [0, 1, 0, 4, 15, 31, 63, 127, 63, 319, 1023, 2047, 4095, 8191, 16383, 32767, 8191, 73727, 262143, 8191, 532479, 2097151, 8191, 4202495, 16777215, 33554431, 67108863, 134217727]
theorem impl_Conflict.tab7 : rtab .any (opsOf Try.f92 7) = impl_Conflict.T7 := by kernel_rfl
theorem impl_Conflict.bits7 : waitsOk impl_Conflict.T7.2 impl_Conflict.B7 = true := by kernel_rfl
set_option maxHeartbeats 8000000 in
set_option maxRecDepth 100000 in
theorem impl_Conflict.calls (k : Nat) (a0_0 : Int) (a0_1 : Int) (a0_2 : Int) (a0_3 : Int) (a1_0 : Int) (a1_1 : Int) (a1_2 : Int) (a1_3 : Int) (r : Bool) (w : World) (h : impl_Conflict.f k a0_0 a0_1 a0_2 a0_3 a1_0 a1_1 a1_2 a1_3 = some r) :
  Calls Try.prog 92 #[.agg #[.int .i64 a0_0, .int .i64 a0_1, .int .i64 a0_2, .int .i64 a0_3], .agg #[.int .i64 a1_0, .int .i64 a1_1, .int .i64 a1_2, .int .i64 a1_3]] w fun e w' => e = .returned (.bool r) ∧ Below w.heap.size w w' := by
 have hu90 := Try.underlying90
 have HB := Aside0.mk (Below.refl w.heap.size w)
 have H : ((impl_IsPath.f a0_0 a0_1 a0_2 a0_3).bind fun t491 => (if t491 = true then ((impl_IsPath.f a1_0 a1_1 a1_2 a1_3).bind fun t492 => (if t492 = true then (if a0_1 = 2 then (impl_Conflict.j0 k (a1_1 == 2) a0_0 a0_1 a0_2 a0_3 a1_0 a1_1 a1_2 a1_3) else (impl_Conflict.j0 k false a0_0 a0_1 a0_2 a0_3 a1_0 a1_1 a1_2 a1_3)) else (impl_Conflict.j0 k true a0_0 a0_1 a0_2 a0_3 a1_0 a1_1 a1_2 a1_3))) else (impl_Conflict.j0 k true a0_0 a0_1 a0_2 a0_3 a1_0 a1_1 a1_2 a1_3))) = some r := h
 clear h
 have HC3 := Aside0.mk H
 clear H
 go_enter Try.func92, Try.ntmps92
 go_upto_region 1 with (first | ((with_reducible refine gate_dst (N := 2) rfl ?_); refine bE (N := 2) (cs := #[.int .i64 a0_0, .int .i64 a0_1, .int .i64 a0_2, .int .i64 a0_3]) (t := 90) ?_; intro gb489 hg w4 hbox hb; have n0_ := Aside0.mk (below_step bA hb); have n1_ := Aside0.mk (hbox); have n2_ := Aside0.mk ((by rw [hg]; exact (below_size bA) : w.heap.size ≤ gb489)); have n3_ := Aside0.mk ((by rw [hg]; exact (below_size bA) : w.heap.size ≤ gb489)); clear HB; have HB := n0_; have BK489 := n1_; have GW489 := n2_; have GE489 := n3_; clear n0_ n1_ n2_ n3_; clear hb hbox hg) | ((with_reducible refine gate_dst (N := 3) rfl ?_); refine bE (N := 3) (cs := #[.int .i64 a1_0, .int .i64 a1_1, .int .i64 a1_2, .int .i64 a1_3]) (t := 90) ?_; intro gb490 hg w5 hbox hb; have n0_ := Aside0.mk (blk_below (g := gb489) (bK BK489) hb); have n1_ := Aside0.mk (below_step bG hb); have n2_ := Aside0.mk (hbox); have n3_ := Aside0.mk ((by rw [hg]; exact (below_size bG) : w.heap.size ≤ gb490)); have n4_ := Aside0.mk ((by rw [hg]; exact (below_size bG) : w.heap.size ≤ gb490)); have n5_ := Aside0.mk ((by rw [hg]; exact Nat.ne_of_lt (blk_lt (g := gb489) (o := .cells #[.int .i64 a0_0, .int .i64 a0_1, .int .i64 a0_2, .int .i64 a0_3] 90 (0, 0)) (bK BK489)) : gb489 ≠ gb490)); have n6_ := Aside0.mk ((by rw [hg]; exact Nat.ne_of_gt (blk_lt (g := gb489) (o := .cells #[.int .i64 a0_0, .int .i64 a0_1, .int .i64 a0_2, .int .i64 a0_3] 90 (0, 0)) (bK BK489)) : gb490 ≠ gb489)); clear BK489; clear HB; have BK489 := n0_; have HB := n1_; have BK490 := n2_; have GW490 := n3_; have GE490 := n4_; have NB489_490 := n5_; have NB490_489 := n6_; clear n0_ n1_ n2_ n3_ n4_ n5_ n6_; clear hb hbox hg))
 (try simp only [Act.put, List.setIfInBounds_toArray, List.set_cons_zero, List.set_cons_succ])
 go_cut [22] (fun v22 wc => ∃ (kq : Nat) (x22_2 : Bool), v22 = .bool x22_2 ∧ Aside0 (impl_Conflict.j0 kq x22_2 a0_0 a0_1 a0_2 a0_3 a1_0 a1_1 a1_2 a1_3 = some r) ∧ Aside0 (kq ≤ k) ∧ Aside0 (wc.heap[gb489]? = some (.cells #[.int .i64 a0_0, .int .i64 a0_1, .int .i64 a0_2, .int .i64 a0_3] 90 (0, 0))) ∧ Aside0 (wc.heap[gb490]? = some (.cells #[.int .i64 a1_0, .int .i64 a1_1, .int .i64 a1_2, .int .i64 a1_3] 90 (0, 0))) ∧ Aside0 (Below w.heap.size w wc))
 case first =>
  have H := HC3.out
  clear HC3
  obtain ⟨t491, A6, H⟩ := bindE H
  try dsimp only at H
  by_cases c7 : t491 = true
  ·
   subst c7
   have H1 : ((impl_IsPath.f a1_0 a1_1 a1_2 a1_3).bind fun t492 => (if t492 = true then (if a0_1 = 2 then (impl_Conflict.j0 k (a1_1 == 2) a0_0 a0_1 a0_2 a0_3 a1_0 a1_1 a1_2 a1_3) else (impl_Conflict.j0 k false a0_0 a0_1 a0_2 a0_3 a1_0 a1_1 a1_2 a1_3)) else (impl_Conflict.j0 k true a0_0 a0_1 a0_2 a0_3 a1_0 a1_1 a1_2 a1_3))) = some r := by rw [if_pos rfl] at H; exact H
   clear H
   have H := H1
   clear H1
   obtain ⟨t492, A8, H⟩ := bindE H
   try dsimp only at H
   by_cases c9 : t492 = true
   ·
    subst c9
    have H1 : (if a0_1 = 2 then (impl_Conflict.j0 k (a1_1 == 2) a0_0 a0_1 a0_2 a0_3 a1_0 a1_1 a1_2 a1_3) else (impl_Conflict.j0 k false a0_0 a0_1 a0_2 a0_3 a1_0 a1_1 a1_2 a1_3)) = some r := by rw [if_pos rfl] at H; exact H
    clear H
    have H := H1
    clear H1
    by_cases c10 : a0_1 = 2
    ·
     rw [if_pos c10] at H
     have c10b0 : (a0_1 == 2) = true := beq_iff_eq.mpr c10
     have c10b1 : (a0_1 != 2) = false := bne_eq_false_iff_eq.mpr c10
     clear c10
     (first | rw [c10b0] | (simp only [i64_w, i32_w]; rw [c10b0]) | skip)
     have H' := Aside0.mk H
     clear H
     have hnb11 := NB489_490.out
     have hnc11 := NB490_489.out
     obtain ⟨hcz12_0, hcz12_1, hcz12_2, hcz12_3, hfz12_0, hfz12_1, hfz12_2, hfz12_3⟩ := blkc4 BK489
     go_wp2_with (first | ((with_reducible refine gate_callee (f := 112) rfl ?_); refine gL (some 6) Try.func112 #[.agg #[.int .i64 a0_0, .int .i64 a0_1, .int .i64 a0_2, .int .i64 a0_3]] ?_; (with_reducible refine (impl_IsPath.calls a0_0 a0_1 a0_2 a0_3 true _ A6.out).mono ?_); rintro e w13 ⟨rfl, hb⟩; refine ⟨_, rfl, ?_⟩; replace BK489 := Aside0.mk (blk_below (g := gb489) (bK BK489) hb); replace BK490 := Aside0.mk (blk_below (g := gb490) (bK BK490) hb); replace HB := Aside0.mk (below_step bG hb); (try clear hb); (try clear hb2); (try clear hk); (try clear hi); have hcz14_0 : w13.cell? ⟨gb490, 0, none⟩ = some (.int .i64 a1_0) := bC BK490 0; have hcz14_1 : w13.cell? ⟨gb490, 1, none⟩ = some (.int .i64 a1_1) := bC BK490 1; have hcz14_2 : w13.cell? ⟨gb490, 2, none⟩ = some (.int .i64 a1_2) := bC BK490 2; have hcz14_3 : w13.cell? ⟨gb490, 3, none⟩ = some (.int .i64 a1_3) := bC BK490 3; have hfz14_0 := blk_frozen BK490.out 0; have hfz14_1 := blk_frozen BK490.out 1; have hfz14_2 := blk_frozen BK490.out 2; have hfz14_3 := blk_frozen BK490.out 3) | (go_at_call 112; (with_reducible refine (impl_IsPath.calls a1_0 a1_1 a1_2 a1_3 true _ A8.out).mono ?_); rintro e w15 ⟨rfl, hb⟩; replace BK489 := Aside0.mk (blk_below (g := gb489) (bK BK489) hb); replace BK490 := Aside0.mk (blk_below (g := gb490) (bK BK490) hb); replace HB := Aside0.mk (below_step bG hb); (try clear hb); (try clear hb2); (try clear hk); (try clear hi); obtain ⟨hcz16_0, hcz16_1, hcz16_2, hcz16_3, hfz16_0, hfz16_1, hfz16_2, hfz16_3⟩ := blkc4 BK489; obtain ⟨hcz17_0, hcz17_1, hcz17_2, hcz17_3, hfz17_0, hfz17_1, hfz17_2, hfz17_3⟩ := blkc4 BK490))
     go_meet
     case rel => exact ⟨_, ((a1_1 == 2)), rS, H', ⟨by first | omega | exact Nat.le_refl _⟩, ⟨bK BK489⟩, ⟨bK BK490⟩, ⟨bG⟩⟩
    ·
     rw [if_neg c10] at H
     have c10b0 : (a0_1 == 2) = false := beq_eq_false_iff_ne.mpr c10
     have c10b1 : (a0_1 != 2) = true := bne_iff_ne.mpr c10
     (first | rw [c10b0] | (simp only [i64_w, i32_w]; rw [c10b0]) | skip)
     have H' := Aside0.mk H
     clear H
     have hnb18 := NB489_490.out
     have hnc18 := NB490_489.out
     obtain ⟨hcz19_0, hcz19_1, hcz19_2, hcz19_3, hfz19_0, hfz19_1, hfz19_2, hfz19_3⟩ := blkc4 BK489
     go_wp2_with (first | ((with_reducible refine gate_callee (f := 112) rfl ?_); refine gL (some 6) Try.func112 #[.agg #[.int .i64 a0_0, .int .i64 a0_1, .int .i64 a0_2, .int .i64 a0_3]] ?_; (with_reducible refine (impl_IsPath.calls a0_0 a0_1 a0_2 a0_3 true _ A6.out).mono ?_); rintro e w20 ⟨rfl, hb⟩; refine ⟨_, rfl, ?_⟩; replace BK489 := Aside0.mk (blk_below (g := gb489) (bK BK489) hb); replace BK490 := Aside0.mk (blk_below (g := gb490) (bK BK490) hb); replace HB := Aside0.mk (below_step bG hb); (try clear hb); (try clear hb2); (try clear hk); (try clear hi); have hcz21_0 : w20.cell? ⟨gb490, 0, none⟩ = some (.int .i64 a1_0) := bC BK490 0; have hcz21_1 : w20.cell? ⟨gb490, 1, none⟩ = some (.int .i64 a1_1) := bC BK490 1; have hcz21_2 : w20.cell? ⟨gb490, 2, none⟩ = some (.int .i64 a1_2) := bC BK490 2; have hcz21_3 : w20.cell? ⟨gb490, 3, none⟩ = some (.int .i64 a1_3) := bC BK490 3; have hfz21_0 := blk_frozen BK490.out 0; have hfz21_1 := blk_frozen BK490.out 1; have hfz21_2 := blk_frozen BK490.out 2; have hfz21_3 := blk_frozen BK490.out 3) | (go_at_call 112; (with_reducible refine (impl_IsPath.calls a1_0 a1_1 a1_2 a1_3 true _ A8.out).mono ?_); rintro e w22 ⟨rfl, hb⟩; replace BK489 := Aside0.mk (blk_below (g := gb489) (bK BK489) hb); replace BK490 := Aside0.mk (blk_below (g := gb490) (bK BK490) hb); replace HB := Aside0.mk (below_step bG hb); (try clear hb); (try clear hb2); (try clear hk); (try clear hi); obtain ⟨hcz23_0, hcz23_1, hcz23_2, hcz23_3, hfz23_0, hfz23_1, hfz23_2, hfz23_3⟩ := blkc4 BK489))
     go_meet
     case rel => exact ⟨_, (false), rS, H', ⟨by first | omega | exact Nat.le_refl _⟩, ⟨bK BK489⟩, ⟨bK BK490⟩, ⟨bG⟩⟩
   ·
    replace c9 := Bool.eq_false_iff.mpr c9
    subst c9
    have H1 : (impl_Conflict.j0 k true a0_0 a0_1 a0_2 a0_3 a1_0 a1_1 a1_2 a1_3) = some r := by rw [if_neg (show ¬ (false = true) by decide)] at H; exact H
    clear H
    have H := H1
    clear H1
    have H' := Aside0.mk H
    clear H
    have hnb24 := NB489_490.out
    have hnc24 := NB490_489.out
    obtain ⟨hcz25_0, hcz25_1, hcz25_2, hcz25_3, hfz25_0, hfz25_1, hfz25_2, hfz25_3⟩ := blkc4 BK489
    go_wp2_with (first | ((with_reducible refine gate_callee (f := 112) rfl ?_); refine gL (some 6) Try.func112 #[.agg #[.int .i64 a0_0, .int .i64 a0_1, .int .i64 a0_2, .int .i64 a0_3]] ?_; (with_reducible refine (impl_IsPath.calls a0_0 a0_1 a0_2 a0_3 true _ A6.out).mono ?_); rintro e w26 ⟨rfl, hb⟩; refine ⟨_, rfl, ?_⟩; replace BK489 := Aside0.mk (blk_below (g := gb489) (bK BK489) hb); replace BK490 := Aside0.mk (blk_below (g := gb490) (bK BK490) hb); replace HB := Aside0.mk (below_step bG hb); (try clear hb); (try clear hb2); (try clear hk); (try clear hi); have hcz27_0 : w26.cell? ⟨gb490, 0, none⟩ = some (.int .i64 a1_0) := bC BK490 0; have hcz27_1 : w26.cell? ⟨gb490, 1, none⟩ = some (.int .i64 a1_1) := bC BK490 1; have hcz27_2 : w26.cell? ⟨gb490, 2, none⟩ = some (.int .i64 a1_2) := bC BK490 2; have hcz27_3 : w26.cell? ⟨gb490, 3, none⟩ = some (.int .i64 a1_3) := bC BK490 3; have hfz27_0 := blk_frozen BK490.out 0; have hfz27_1 := blk_frozen BK490.out 1; have hfz27_2 := blk_frozen BK490.out 2; have hfz27_3 := blk_frozen BK490.out 3) | (go_at_call 112; (with_reducible refine (impl_IsPath.calls a1_0 a1_1 a1_2 a1_3 false _ A8.out).mono ?_); rintro e w28 ⟨rfl, hb⟩; replace BK489 := Aside0.mk (blk_below (g := gb489) (bK BK489) hb); replace BK490 := Aside0.mk (blk_below (g := gb490) (bK BK490) hb); replace HB := Aside0.mk (below_step bG hb); (try clear hb); (try clear hb2); (try clear hk); (try clear hi)))
    go_meet
    case rel => exact ⟨_, (true), rS, H', ⟨by first | omega | exact Nat.le_refl _⟩, ⟨bK BK489⟩, ⟨bK BK490⟩, ⟨bG⟩⟩
  ·
   replace c7 := Bool.eq_false_iff.mpr c7
   subst c7
   have H1 : (impl_Conflict.j0 k true a0_0 a0_1 a0_2 a0_3 a1_0 a1_1 a1_2 a1_3) = some r := by rw [if_neg (show ¬ (false = true) by decide)] at H; exact H
   clear H
   have H := H1
   clear H1
   have H' := Aside0.mk H
   clear H
   have hnb29 := NB489_490.out
   have hnc29 := NB490_489.out
   obtain ⟨hcz30_0, hcz30_1, hcz30_2, hcz30_3, hfz30_0, hfz30_1, hfz30_2, hfz30_3⟩ := blkc4 BK489
   go_wp2_with (first | ((with_reducible refine gate_callee (f := 112) rfl ?_); refine gL (some 6) Try.func112 #[.agg #[.int .i64 a0_0, .int .i64 a0_1, .int .i64 a0_2, .int .i64 a0_3]] ?_; (with_reducible refine (impl_IsPath.calls a0_0 a0_1 a0_2 a0_3 false _ A6.out).mono ?_); rintro e w31 ⟨rfl, hb⟩; refine ⟨_, rfl, ?_⟩; replace BK489 := Aside0.mk (blk_below (g := gb489) (bK BK489) hb); replace BK490 := Aside0.mk (blk_below (g := gb490) (bK BK490) hb); replace HB := Aside0.mk (below_step bG hb); (try clear hb); (try clear hb2); (try clear hk); (try clear hi)))
   go_meet
   case rel => exact ⟨_, (true), rS, H', ⟨by first | omega | exact Nat.le_refl _⟩, ⟨bK BK489⟩, ⟨bK BK490⟩, ⟨bG⟩⟩
 case rest =>
  clear HC3
  try clear c1
  try clear c2
  try clear p2
  try clear c7
  try clear c9
  try clear c10
  try clear c10b0
  try clear c10b1
  try clear c11
  try clear c18
  try clear c24
  try clear c29
  try clear hcz12_0
  try clear hcz12_1
  try clear hcz12_2
  try clear hcz12_3
  try clear hcz14_0
  try clear hcz14_1
  try clear hcz14_2
  try clear hcz14_3
  try clear hcz16_0
  try clear hcz16_1
  try clear hcz16_2
  try clear hcz16_3
  try clear hcz17_0
  try clear hcz17_1
  try clear hcz17_2
  try clear hcz17_3
  try clear hcz19_0
  try clear hcz19_1
  try clear hcz19_2
  try clear hcz19_3
  try clear hcz21_0
  try clear hcz21_1
  try clear hcz21_2
  try clear hcz21_3
  try clear hcz23_0
  try clear hcz23_1
  try clear hcz23_2
  try clear hcz23_3
  try clear hcz25_0
  try clear hcz25_1
  try clear hcz25_2
  try clear hcz25_3
  try clear hcz27_0
  try clear hcz27_1
  try clear hcz27_2
  try clear hcz27_3
  try clear hcz30_0
  try clear hcz30_1
  try clear hcz30_2
  try clear hcz30_3
  try clear hfz12_0
  try clear hfz12_1
  try clear hfz12_2
  try clear hfz12_3
  try clear hfz14_0
  try clear hfz14_1
  try clear hfz14_2
  try clear hfz14_3
  try clear hfz16_0
  try clear hfz16_1
  try clear hfz16_2
  try clear hfz16_3
  try clear hfz17_0
  try clear hfz17_1
  try clear hfz17_2
  try clear hfz17_3
  try clear hfz19_0
  try clear hfz19_1
  try clear hfz19_2
  try clear hfz19_3
  try clear hfz21_0
  try clear hfz21_1
  try clear hfz21_2
  try clear hfz21_3
  try clear hfz23_0
  try clear hfz23_1
  try clear hfz23_2
  try clear hfz23_3
  try clear hfz25_0
  try clear hfz25_1
  try clear hfz25_2
  try clear hfz25_3
  try clear hfz27_0
  try clear hfz27_1
  try clear hfz27_2
  try clear hfz27_3
  try clear hfz30_0
  try clear hfz30_1
  try clear hfz30_2
  try clear hfz30_3
  obtain ⟨kq, x22_2, rfl, HA, HJ2, BK489, BK490, HB⟩ := hcut
  cases kq with
  | zero => exact absurd HA.out (by simp [impl_Conflict.j0])
  | succ kj2 =>
   have H := HA.out
   clear HA
   simp only [impl_Conflict.j0] at H
   by_cases c32 : x22_2 = true
   ·
    subst c32
    have H1 : (some false) = some r := by rw [if_pos rfl] at H; exact H
    clear H
    have H := H1
    clear H1
    obtain rfl := Option.some.inj H
    go_wp2
    go_ret
    exact ⟨rA, bG⟩
   ·
    replace c32 := Bool.eq_false_iff.mpr c32
    subst c32
    have H1 : (if a0_1 = 2 then (if a1_2 = a0_2 then (some true) else (some (a1_3 == a0_2))) else (if a1_1 = 2 then (if a0_2 = a1_2 then (some true) else (some (a0_3 == a1_2))) else (if a0_2 = a1_2 then ((impl_InPlace.f a0_2).bind fun t493 => ((impl_OutPlace.f a0_3).bind fun t494 => ((impl_InPlace.f a1_2).bind fun t495 => ((impl_OutPlace.f a1_3).bind fun t496 => ((impl_Interleave.f kj2 t493 t494 t495 t496).bind fun t497 => (some t497)))))) else (if a0_3 = a1_3 then (some true) else ((impl_InPlace.f a0_2).bind fun t498 => ((impl_OutPlace.f a0_3).bind fun t499 => ((impl_InPlace.f a1_2).bind fun t500 => ((impl_OutPlace.f a1_3).bind fun t501 => ((impl_Interleave.f kj2 t498 t499 t500 t501).bind fun t502 => (some t502)))))))))) = some r := by rw [if_neg (show ¬ (false = true) by decide)] at H; exact H
    clear H
    have H := H1
    clear H1
    by_cases c33 : a0_1 = 2
    ·
     rw [if_pos c33] at H
     have c33b0 : (a0_1 == 2) = true := beq_iff_eq.mpr c33
     have c33b1 : (a0_1 != 2) = false := bne_eq_false_iff_eq.mpr c33
     clear c33
     by_cases c34 : a1_2 = a0_2
     ·
      rw [if_pos c34] at H
      have c34b0 : (a1_2 == a0_2) = true := beq_iff_eq.mpr c34
      have c34b1 : (a1_2 != a0_2) = false := bne_eq_false_iff_eq.mpr c34
      clear c34
      obtain rfl := Option.some.inj H
      have hnb35 := NB489_490.out
      have hnc35 := NB490_489.out
      obtain ⟨hcz36_0, hcz36_1, hcz36_2, hcz36_3, hfz36_0, hfz36_1, hfz36_2, hfz36_3⟩ := blkc4 BK489
      obtain ⟨hcz37_0, hcz37_1, hcz37_2, hcz37_3, hfz37_0, hfz37_1, hfz37_2, hfz37_3⟩ := blkc4 BK490
      go_wp2
      go_ret
      exact ⟨rA, bG⟩
     ·
      rw [if_neg c34] at H
      have c34b0 : (a1_2 == a0_2) = false := beq_eq_false_iff_ne.mpr c34
      have c34b1 : (a1_2 != a0_2) = true := bne_iff_ne.mpr c34
      obtain rfl := Option.some.inj H
      have hnb38 := NB489_490.out
      have hnc38 := NB490_489.out
      obtain ⟨hcz39_0, hcz39_1, hcz39_2, hcz39_3, hfz39_0, hfz39_1, hfz39_2, hfz39_3⟩ := blkc4 BK489
      obtain ⟨hcz40_0, hcz40_1, hcz40_2, hcz40_3, hfz40_0, hfz40_1, hfz40_2, hfz40_3⟩ := blkc4 BK490
      go_wp2
      go_ret
      exact ⟨rA, bG⟩
    ·
     rw [if_neg c33] at H
     have c33b0 : (a0_1 == 2) = false := beq_eq_false_iff_ne.mpr c33
     have c33b1 : (a0_1 != 2) = true := bne_iff_ne.mpr c33
     by_cases c41 : a1_1 = 2
     ·
      rw [if_pos c41] at H
      have c41b0 : (a1_1 == 2) = true := beq_iff_eq.mpr c41
      have c41b1 : (a1_1 != 2) = false := bne_eq_false_iff_eq.mpr c41
      clear c41
      by_cases c42 : a0_2 = a1_2
      ·
       rw [if_pos c42] at H
       have c42b0 : (a0_2 == a1_2) = true := beq_iff_eq.mpr c42
       have c42b1 : (a0_2 != a1_2) = false := bne_eq_false_iff_eq.mpr c42
       clear c42
       obtain rfl := Option.some.inj H
       have hnb43 := NB489_490.out
       have hnc43 := NB490_489.out
       obtain ⟨hcz44_0, hcz44_1, hcz44_2, hcz44_3, hfz44_0, hfz44_1, hfz44_2, hfz44_3⟩ := blkc4 BK489
       obtain ⟨hcz45_0, hcz45_1, hcz45_2, hcz45_3, hfz45_0, hfz45_1, hfz45_2, hfz45_3⟩ := blkc4 BK490
       go_wp2
       go_ret
       exact ⟨rA, bG⟩
      ·
       rw [if_neg c42] at H
       have c42b0 : (a0_2 == a1_2) = false := beq_eq_false_iff_ne.mpr c42
       have c42b1 : (a0_2 != a1_2) = true := bne_iff_ne.mpr c42
       obtain rfl := Option.some.inj H
       have hnb46 := NB489_490.out
       have hnc46 := NB490_489.out
       obtain ⟨hcz47_0, hcz47_1, hcz47_2, hcz47_3, hfz47_0, hfz47_1, hfz47_2, hfz47_3⟩ := blkc4 BK489
       obtain ⟨hcz48_0, hcz48_1, hcz48_2, hcz48_3, hfz48_0, hfz48_1, hfz48_2, hfz48_3⟩ := blkc4 BK490
       go_wp2
       go_ret
       exact ⟨rA, bG⟩
     ·
      rw [if_neg c41] at H
      have c41b0 : (a1_1 == 2) = false := beq_eq_false_iff_ne.mpr c41
      have c41b1 : (a1_1 != 2) = true := bne_iff_ne.mpr c41
      by_cases c49 : a0_2 = a1_2
      ·
       rw [if_pos c49] at H
       have c49b0 : (a0_2 == a1_2) = true := beq_iff_eq.mpr c49
       have c49b1 : (a0_2 != a1_2) = false := bne_eq_false_iff_eq.mpr c49
       clear c49
       obtain ⟨t493, A50, H⟩ := bindE H
       try dsimp only at H
       obtain ⟨t494, A51, H⟩ := bindE H
       try dsimp only at H
       obtain ⟨t495, A52, H⟩ := bindE H
       try dsimp only at H
       obtain ⟨t496, A53, H⟩ := bindE H
       try dsimp only at H
       obtain ⟨t497, A54, H⟩ := bindE H
       try dsimp only at H
       obtain rfl := Option.some.inj H
       have hnb55 := NB489_490.out
       have hnc55 := NB490_489.out
       obtain ⟨hcz56_0, hcz56_1, hcz56_2, hcz56_3, hfz56_0, hfz56_1, hfz56_2, hfz56_3⟩ := blkc4 BK489
       obtain ⟨hcz57_0, hcz57_1, hcz57_2, hcz57_3, hfz57_0, hfz57_1, hfz57_2, hfz57_3⟩ := blkc4 BK490
       try go_wp2
       replace BK489 := Aside0.mk (blk_drew BK489.out)
       replace BK490 := Aside0.mk (blk_drew BK490.out)
       have HBo := HB
       replace HB := Aside0.mk (below_drew1 HB.out)
       refine start_ (n := 28) (S := fun w' => w'.cell? ⟨gb489, 0, none⟩ = some (.int .i64 a0_0) ∧ w'.cell? ⟨gb489, 1, none⟩ = some (.int .i64 a0_1) ∧ w'.cell? ⟨gb489, 2, none⟩ = some (.int .i64 a0_2) ∧ w'.cell? ⟨gb489, 3, none⟩ = some (.int .i64 a0_3) ∧ w'.cell? ⟨gb490, 0, none⟩ = some (.int .i64 a1_0) ∧ w'.cell? ⟨gb490, 1, none⟩ = some (.int .i64 a1_1) ∧ w'.cell? ⟨gb490, 2, none⟩ = some (.int .i64 a1_2) ∧ w'.cell? ⟨gb490, 3, none⟩ = some (.int .i64 a1_3)) (ds := []) (mb 28 0) (by kernel_rfl) rfl rfl ⟨bC BK489 0, bC BK489 1, bC BK489 2, bC BK489 3, bC BK490 0, bC BK490 1, bC BK490 2, bC BK490 3⟩ (fun hHeld => ?_); refine with_tabW impl_Conflict.tab7 impl_Conflict.bits7 (fun HT_ HW_ => ?_)
       generalize wc.drew = w58 at BK489 BK490 HB hHeld ⊢
       refine pA (i := 0) (N := some 53) (mb 28 1) HT_ ?_
       refine pA (i := 2) (N := some 55) (mb 28 5) HT_ ?_
       refine tA8 (i := 1) (N := some 54) (mb 28 7) HT_ HW_ hHeld ?_
       refine tA8 (i := 3) (N := some 56) (mb 28 15) HT_ HW_ hHeld ?_
       refine pA (i := 4) (N := some 57) (mb 28 31) HT_ ?_
       refine pA (i := 5) (N := some 58) (mb 28 63) HT_ ?_
       refine pU (i := 6) (N := some 59) (mb 28 127) HT_ ?_
       refine pU (i := 7) (N := some 60) (mb 28 255) HT_ ?_
       refine pU (i := 8) (N := some 61) (mb 28 511) HT_ ?_
       refine pU (i := 9) (N := some 62) (mb 28 1023) HT_ ?_
       refine pU (i := 10) (N := some 63) (mb 28 2047) HT_ ?_
       refine pA (i := 11) (N := some 64) (mb 28 4095) HT_ ?_
       refine pA (i := 12) (N := some 65) (mb 28 8191) HT_ ?_
       refine pA (i := 13) (N := some 66) (mb 28 16383) HT_ ?_
       refine pA (i := 16) (N := some 69) (mb 28 81919) HT_ ?_
       refine pA (i := 19) (N := some 72) (mb 28 606207) HT_ ?_
       refine pA (i := 22) (N := some 75) (mb 28 4800511) HT_ ?_
       refine tA8 (i := 14) (N := some 67) (mb 28 4816895) HT_ HW_ hHeld ?_
       refine tA8 (i := 17) (N := some 70) (mb 28 4947967) HT_ HW_ hHeld ?_
       refine tA8 (i := 20) (N := some 73) (mb 28 5996543) HT_ HW_ hHeld ?_
       refine tA8 (i := 23) (N := some 76) (mb 28 14385151) HT_ HW_ hHeld ?_
       refine oA (i := 15) (N := some 68) (mb 28 14417919) HT_ (fun K hK => ?_)
       refine gA Try.func123 #[.int .i64 a0_2] ?_
       with_reducible refine (impl_InPlace.calls a0_2 t493 _ A50.out).mono ?_
       rintro e w' ⟨rfl, ⟨nd, rfl⟩⟩
       refine ⟨_, rfl, ?_⟩
       refine hK.out _ _ ⟨bC BK489 0, bC BK489 1, bC BK489 2, bC BK489 3, bC BK490 0, bC BK490 1, bC BK490 2, bC BK490 3⟩ (fun hHeld => ?_)
       clear hK K
       refine nB ?_
       refine oA (i := 18) (N := some 71) (mb 28 14680063) HT_ (fun K hK => ?_)
       refine gA Try.func124 #[.int .i64 a0_3] ?_
       with_reducible refine (impl_OutPlace.calls a0_3 t494 _ A51.out).mono ?_
       rintro e w' ⟨rfl, ⟨nd, rfl⟩⟩
       refine ⟨_, rfl, ?_⟩
       refine hK.out _ _ ⟨bC BK489 0, bC BK489 1, bC BK489 2, bC BK489 3, bC BK490 0, bC BK490 1, bC BK490 2, bC BK490 3⟩ (fun hHeld => ?_)
       clear hK K
       refine nB ?_
       refine oA (i := 21) (N := some 74) (mb 28 16777215) HT_ (fun K hK => ?_)
       refine gA Try.func123 #[.int .i64 a1_2] ?_
       with_reducible refine (impl_InPlace.calls a1_2 t495 _ A52.out).mono ?_
       rintro e w' ⟨rfl, ⟨nd, rfl⟩⟩
       refine ⟨_, rfl, ?_⟩
       refine hK.out _ _ ⟨bC BK489 0, bC BK489 1, bC BK489 2, bC BK489 3, bC BK490 0, bC BK490 1, bC BK490 2, bC BK490 3⟩ (fun hHeld => ?_)
       clear hK K
       refine nB ?_
       refine oA (i := 24) (N := some 77) (mb 28 33554431) HT_ (fun K hK => ?_)
       refine gA Try.func124 #[.int .i64 a1_3] ?_
       with_reducible refine (impl_OutPlace.calls a1_3 t496 _ A53.out).mono ?_
       rintro e w' ⟨rfl, ⟨nd, rfl⟩⟩
       refine ⟨_, rfl, ?_⟩
       refine hK.out _ _ ⟨bC BK489 0, bC BK489 1, bC BK489 2, bC BK489 3, bC BK490 0, bC BK490 1, bC BK490 2, bC BK490 3⟩ (fun hHeld => ?_)
       clear hK K
       refine nB ?_
       refine oA (i := 25) (N := some 78) (mb 28 67108863) HT_ (fun K hK => ?_)
       refine gA Try.func122 #[.int .i64 t493, .int .i64 t494, .int .i64 t495, .int .i64 t496] ?_
       with_reducible refine (impl_Interleave.calls kj2 t493 t494 t495 t496 t497 _ A54.out).mono ?_
       rintro e w59 ⟨rfl, hb⟩
       refine ⟨_, rfl, ?_⟩
       replace BK489 := Aside0.mk (blk_below (g := gb489) (bK BK489) hb)
       replace BK490 := Aside0.mk (blk_below (g := gb490) (bK BK490) hb)
       replace HB := Aside0.mk (below_step bG hb)
       (try clear hb)
       (try clear hb2)
       (try clear hk)
       (try clear hi)
       refine hK.out _ _ ⟨bC BK489 0, bC BK489 1, bC BK489 2, bC BK489 3, bC BK490 0, bC BK490 1, bC BK490 2, bC BK490 3⟩ (fun hHeld => ?_)
       clear hK K
       refine nB ?_
       refine pA (i := 26) (N := some 79) (mb 28 134217727) HT_ ?_
       refine pA (i := 27) (N := some 4) (mb 28 268435455) HT_ ?_
       refine eA HT_ ?_
       try go_wp2
       go_ret
       exact ⟨rA, bG⟩
      ·
       rw [if_neg c49] at H
       have c49b0 : (a0_2 == a1_2) = false := beq_eq_false_iff_ne.mpr c49
       have c49b1 : (a0_2 != a1_2) = true := bne_iff_ne.mpr c49
       by_cases c60 : a0_3 = a1_3
       ·
        rw [if_pos c60] at H
        have c60b0 : (a0_3 == a1_3) = true := beq_iff_eq.mpr c60
        have c60b1 : (a0_3 != a1_3) = false := bne_eq_false_iff_eq.mpr c60
        clear c60
        obtain rfl := Option.some.inj H
        have hnb61 := NB489_490.out
        have hnc61 := NB490_489.out
        obtain ⟨hcz62_0, hcz62_1, hcz62_2, hcz62_3, hfz62_0, hfz62_1, hfz62_2, hfz62_3⟩ := blkc4 BK489
        obtain ⟨hcz63_0, hcz63_1, hcz63_2, hcz63_3, hfz63_0, hfz63_1, hfz63_2, hfz63_3⟩ := blkc4 BK490
        try go_wp2
        replace BK489 := Aside0.mk (blk_drew BK489.out)
        replace BK490 := Aside0.mk (blk_drew BK490.out)
        have HBo := HB
        replace HB := Aside0.mk (below_drew1 HB.out)
        refine start_ (n := 28) (S := fun w' => w'.cell? ⟨gb489, 0, none⟩ = some (.int .i64 a0_0) ∧ w'.cell? ⟨gb489, 1, none⟩ = some (.int .i64 a0_1) ∧ w'.cell? ⟨gb489, 2, none⟩ = some (.int .i64 a0_2) ∧ w'.cell? ⟨gb489, 3, none⟩ = some (.int .i64 a0_3) ∧ w'.cell? ⟨gb490, 0, none⟩ = some (.int .i64 a1_0) ∧ w'.cell? ⟨gb490, 1, none⟩ = some (.int .i64 a1_1) ∧ w'.cell? ⟨gb490, 2, none⟩ = some (.int .i64 a1_2) ∧ w'.cell? ⟨gb490, 3, none⟩ = some (.int .i64 a1_3)) (ds := []) (mb 28 0) (by kernel_rfl) rfl rfl ⟨bC BK489 0, bC BK489 1, bC BK489 2, bC BK489 3, bC BK490 0, bC BK490 1, bC BK490 2, bC BK490 3⟩ (fun hHeld => ?_); refine with_tabW impl_Conflict.tab7 impl_Conflict.bits7 (fun HT_ HW_ => ?_)
        generalize wc.drew = w64 at BK489 BK490 HB hHeld ⊢
        refine pA (i := 0) (N := some 53) (mb 28 1) HT_ ?_
        refine pA (i := 2) (N := some 55) (mb 28 5) HT_ ?_
        refine tA8 (i := 1) (N := some 54) (mb 28 7) HT_ HW_ hHeld ?_
        refine tA8 (i := 3) (N := some 56) (mb 28 15) HT_ HW_ hHeld ?_
        refine pA (i := 4) (N := some 57) (mb 28 31) HT_ ?_
        refine pA (i := 5) (N := some 58) (mb 28 63) HT_ ?_
        refine pA (i := 6) (N := some 59) (mb 28 127) HT_ ?_
        refine pA (i := 8) (N := some 61) (mb 28 383) HT_ ?_
        refine tA8 (i := 7) (N := some 60) (mb 28 511) HT_ HW_ hHeld ?_
        refine tA8 (i := 9) (N := some 62) (mb 28 1023) HT_ HW_ hHeld ?_
        refine pA (i := 10) (N := some 63) (mb 28 2047) HT_ ?_
        refine pA (i := 11) (N := some 64) (mb 28 4095) HT_ ?_
        refine pA (i := 12) (N := some 65) (mb 28 8191) HT_ ?_
        refine pU (i := 13) (N := some 66) (mb 28 16383) HT_ ?_
        refine pU (i := 14) (N := some 67) (mb 28 32767) HT_ ?_
        refine pU (i := 15) (N := some 68) (mb 28 65535) HT_ ?_
        refine pU (i := 16) (N := some 69) (mb 28 131071) HT_ ?_
        refine pU (i := 17) (N := some 70) (mb 28 262143) HT_ ?_
        refine pU (i := 18) (N := some 71) (mb 28 524287) HT_ ?_
        refine pU (i := 19) (N := some 72) (mb 28 1048575) HT_ ?_
        refine pU (i := 20) (N := some 73) (mb 28 2097151) HT_ ?_
        refine pU (i := 21) (N := some 74) (mb 28 4194303) HT_ ?_
        refine pU (i := 22) (N := some 75) (mb 28 8388607) HT_ ?_
        refine pU (i := 23) (N := some 76) (mb 28 16777215) HT_ ?_
        refine pU (i := 24) (N := some 77) (mb 28 33554431) HT_ ?_
        refine pU (i := 25) (N := some 78) (mb 28 67108863) HT_ ?_
        refine pA (i := 26) (N := some 79) (mb 28 134217727) HT_ ?_
        refine pA (i := 27) (N := some 4) (mb 28 268435455) HT_ ?_
        refine eA HT_ ?_
        try go_wp2
        go_ret
        exact ⟨rA, bG⟩
       ·
        rw [if_neg c60] at H
        have c60b0 : (a0_3 == a1_3) = false := beq_eq_false_iff_ne.mpr c60
        have c60b1 : (a0_3 != a1_3) = true := bne_iff_ne.mpr c60
        obtain ⟨t498, A65, H⟩ := bindE H
        try dsimp only at H
        obtain ⟨t499, A66, H⟩ := bindE H
        try dsimp only at H
        obtain ⟨t500, A67, H⟩ := bindE H
        try dsimp only at H
        obtain ⟨t501, A68, H⟩ := bindE H
        try dsimp only at H
        obtain ⟨t502, A69, H⟩ := bindE H
        try dsimp only at H
        obtain rfl := Option.some.inj H
        have hnb70 := NB489_490.out
        have hnc70 := NB490_489.out
        obtain ⟨hcz71_0, hcz71_1, hcz71_2, hcz71_3, hfz71_0, hfz71_1, hfz71_2, hfz71_3⟩ := blkc4 BK489
        obtain ⟨hcz72_0, hcz72_1, hcz72_2, hcz72_3, hfz72_0, hfz72_1, hfz72_2, hfz72_3⟩ := blkc4 BK490
        try go_wp2
        replace BK489 := Aside0.mk (blk_drew BK489.out)
        replace BK490 := Aside0.mk (blk_drew BK490.out)
        have HBo := HB
        replace HB := Aside0.mk (below_drew1 HB.out)
        refine start_ (n := 28) (S := fun w' => w'.cell? ⟨gb489, 0, none⟩ = some (.int .i64 a0_0) ∧ w'.cell? ⟨gb489, 1, none⟩ = some (.int .i64 a0_1) ∧ w'.cell? ⟨gb489, 2, none⟩ = some (.int .i64 a0_2) ∧ w'.cell? ⟨gb489, 3, none⟩ = some (.int .i64 a0_3) ∧ w'.cell? ⟨gb490, 0, none⟩ = some (.int .i64 a1_0) ∧ w'.cell? ⟨gb490, 1, none⟩ = some (.int .i64 a1_1) ∧ w'.cell? ⟨gb490, 2, none⟩ = some (.int .i64 a1_2) ∧ w'.cell? ⟨gb490, 3, none⟩ = some (.int .i64 a1_3)) (ds := []) (mb 28 0) (by kernel_rfl) rfl rfl ⟨bC BK489 0, bC BK489 1, bC BK489 2, bC BK489 3, bC BK490 0, bC BK490 1, bC BK490 2, bC BK490 3⟩ (fun hHeld => ?_); refine with_tabW impl_Conflict.tab7 impl_Conflict.bits7 (fun HT_ HW_ => ?_)
        generalize wc.drew = w73 at BK489 BK490 HB hHeld ⊢
        refine pA (i := 0) (N := some 53) (mb 28 1) HT_ ?_
        refine pA (i := 2) (N := some 55) (mb 28 5) HT_ ?_
        refine tA8 (i := 1) (N := some 54) (mb 28 7) HT_ HW_ hHeld ?_
        refine tA8 (i := 3) (N := some 56) (mb 28 15) HT_ HW_ hHeld ?_
        refine pA (i := 4) (N := some 57) (mb 28 31) HT_ ?_
        refine pA (i := 5) (N := some 58) (mb 28 63) HT_ ?_
        refine pA (i := 6) (N := some 59) (mb 28 127) HT_ ?_
        refine pA (i := 8) (N := some 61) (mb 28 383) HT_ ?_
        refine tA8 (i := 7) (N := some 60) (mb 28 511) HT_ HW_ hHeld ?_
        refine tA8 (i := 9) (N := some 62) (mb 28 1023) HT_ HW_ hHeld ?_
        refine pA (i := 10) (N := some 63) (mb 28 2047) HT_ ?_
        refine pA (i := 11) (N := some 64) (mb 28 4095) HT_ ?_
        refine pA (i := 12) (N := some 65) (mb 28 8191) HT_ ?_
        refine pA (i := 13) (N := some 66) (mb 28 16383) HT_ ?_
        refine pA (i := 16) (N := some 69) (mb 28 81919) HT_ ?_
        refine pA (i := 19) (N := some 72) (mb 28 606207) HT_ ?_
        refine pA (i := 22) (N := some 75) (mb 28 4800511) HT_ ?_
        refine tA8 (i := 14) (N := some 67) (mb 28 4816895) HT_ HW_ hHeld ?_
        refine tA8 (i := 17) (N := some 70) (mb 28 4947967) HT_ HW_ hHeld ?_
        refine tA8 (i := 20) (N := some 73) (mb 28 5996543) HT_ HW_ hHeld ?_
        refine tA8 (i := 23) (N := some 76) (mb 28 14385151) HT_ HW_ hHeld ?_
        refine oA (i := 15) (N := some 68) (mb 28 14417919) HT_ (fun K hK => ?_)
        refine gA Try.func123 #[.int .i64 a0_2] ?_
        with_reducible refine (impl_InPlace.calls a0_2 t498 _ A65.out).mono ?_
        rintro e w' ⟨rfl, ⟨nd, rfl⟩⟩
        refine ⟨_, rfl, ?_⟩
        refine hK.out _ _ ⟨bC BK489 0, bC BK489 1, bC BK489 2, bC BK489 3, bC BK490 0, bC BK490 1, bC BK490 2, bC BK490 3⟩ (fun hHeld => ?_)
        clear hK K
        refine nB ?_
        refine oA (i := 18) (N := some 71) (mb 28 14680063) HT_ (fun K hK => ?_)
        refine gA Try.func124 #[.int .i64 a0_3] ?_
        with_reducible refine (impl_OutPlace.calls a0_3 t499 _ A66.out).mono ?_
        rintro e w' ⟨rfl, ⟨nd, rfl⟩⟩
        refine ⟨_, rfl, ?_⟩
        refine hK.out _ _ ⟨bC BK489 0, bC BK489 1, bC BK489 2, bC BK489 3, bC BK490 0, bC BK490 1, bC BK490 2, bC BK490 3⟩ (fun hHeld => ?_)
        clear hK K
        refine nB ?_
        refine oA (i := 21) (N := some 74) (mb 28 16777215) HT_ (fun K hK => ?_)
        refine gA Try.func123 #[.int .i64 a1_2] ?_
        with_reducible refine (impl_InPlace.calls a1_2 t500 _ A67.out).mono ?_
        rintro e w' ⟨rfl, ⟨nd, rfl⟩⟩
        refine ⟨_, rfl, ?_⟩
        refine hK.out _ _ ⟨bC BK489 0, bC BK489 1, bC BK489 2, bC BK489 3, bC BK490 0, bC BK490 1, bC BK490 2, bC BK490 3⟩ (fun hHeld => ?_)
        clear hK K
        refine nB ?_
        refine oA (i := 24) (N := some 77) (mb 28 33554431) HT_ (fun K hK => ?_)
        refine gA Try.func124 #[.int .i64 a1_3] ?_
        with_reducible refine (impl_OutPlace.calls a1_3 t501 _ A68.out).mono ?_
        rintro e w' ⟨rfl, ⟨nd, rfl⟩⟩
        refine ⟨_, rfl, ?_⟩
        refine hK.out _ _ ⟨bC BK489 0, bC BK489 1, bC BK489 2, bC BK489 3, bC BK490 0, bC BK490 1, bC BK490 2, bC BK490 3⟩ (fun hHeld => ?_)
        clear hK K
        refine nB ?_
        refine oA (i := 25) (N := some 78) (mb 28 67108863) HT_ (fun K hK => ?_)
        refine gA Try.func122 #[.int .i64 t498, .int .i64 t499, .int .i64 t500, .int .i64 t501] ?_
        with_reducible refine (impl_Interleave.calls kj2 t498 t499 t500 t501 t502 _ A69.out).mono ?_
        rintro e w74 ⟨rfl, hb⟩
        refine ⟨_, rfl, ?_⟩
        replace BK489 := Aside0.mk (blk_below (g := gb489) (bK BK489) hb)
        replace BK490 := Aside0.mk (blk_below (g := gb490) (bK BK490) hb)
        replace HB := Aside0.mk (below_step bG hb)
        (try clear hb)
        (try clear hb2)
        (try clear hk)
        (try clear hi)
        refine hK.out _ _ ⟨bC BK489 0, bC BK489 1, bC BK489 2, bC BK489 3, bC BK490 0, bC BK490 1, bC BK490 2, bC BK490 3⟩ (fun hHeld => ?_)
        clear hK K
        refine nB ?_
        refine pA (i := 26) (N := some 79) (mb 28 134217727) HT_ ?_
        refine pA (i := 27) (N := some 4) (mb 28 268435455) HT_ ?_
        refine eA HT_ ?_
        try go_wp2
        go_ret
        exact ⟨rA, bG⟩

/-! ### impl_IsTogether: function 100 -/
mutual
def impl_IsTogether.l0 : Nat → List (S90) → List Int → List Int → Int → Int → Option (Bool)
 | 0, _, _, _, _, _ => none
 | k + 1, x0, x1, x13, x14, x15 => if x15 < x14 then (if 0 ≤ x15 then (if x15 < (x13.length : Int) then ((impl_FindPath.f x0 (rd x13 x15)).bind fun t505 => (if t505 < 0 then (impl_IsTogether.j1 k x0 x1 x15 t505 x13 x14 x15 true) else (if x15 > 0 then (if 0 ≤ (wrap64 (x15 - 1)) then (if (wrap64 (x15 - 1)) < (x1.length : Int) then (impl_IsTogether.j1 k x0 x1 x15 t505 x13 x14 x15 (decide ((rd x13 x15) ≤ (rd x1 (wrap64 (x15 - 1)))))) else (none)) else (none)) else (impl_IsTogether.j1 k x0 x1 x15 t505 x13 x14 x15 false)))) else (none)) else (none)) else (some true)
def impl_IsTogether.j1 : Nat → List (S90) → List Int → Int → Int → List Int → Int → Int → Bool → Option (Bool)
 | 0, _, _, _, _, _, _, _, _ => none
 | k + 1, x0, x1, x5, x7, x13, x14, x15, x37 => if x37 = true then (some false) else (if 0 ≤ x5 then (if x5 ≤ (x1.length : Int) then (impl_IsTogether.l1 k x0 x1 x7 x13 x14 x15 (x1.take (x5 : Int).toNat) ((x1.take (x5 : Int).toNat).length : Int) 0) else (none)) else (none))
def impl_IsTogether.l1 : Nat → List (S90) → List Int → Int → List Int → Int → Int → List Int → Int → Int → Option (Bool)
 | 0, _, _, _, _, _, _, _, _, _ => none
 | k + 1, x0, x1, x7, x13, x14, x15, x40, x41, x42 => if x42 < x41 then (if 0 ≤ x42 then (if x42 < (x40.length : Int) then (if 0 ≤ x7 then (if x7 < (x0.length : Int) then ((impl_FindPath.f x0 (rd x40 x42)).bind fun t510 => (if 0 ≤ t510 then (if t510 < (x0.length : Int) then ((impl_Conflict.f k ((rd_T90 x0 x7).f0) ((rd_T90 x0 x7).f1) ((rd_T90 x0 x7).f2) ((rd_T90 x0 x7).f3) ((rd_T90 x0 t510).f0) ((rd_T90 x0 t510).f1) ((rd_T90 x0 t510).f2) ((rd_T90 x0 t510).f3)).bind fun t512 => (if t512 = true then (some false) else (impl_IsTogether.l1 k x0 x1 x7 x13 x14 x15 x40 x41 (wrap64 (x42 + 1))))) else (none)) else (none))) else (none)) else (none)) else (none)) else (none)) else (impl_IsTogether.l0 k x0 x1 x13 x14 (wrap64 (x15 + 1)))
end
def impl_IsTogether.f (k : Nat) (l0 : List (S90)) (l1 : List Int) : Option (Bool) := (impl_ArePaths.f k l0).bind fun t503 => (if t503 = true then (impl_IsTogether.l0 k l0 l1 l1 (l1.length : Int) 0) else (some false))
theorem impl_IsTogether.mono_l : ∀ k, (∀ y0 y1 y2 y3 y4, LeO (impl_IsTogether.l0 k y0 y1 y2 y3 y4) (impl_IsTogether.l0 (k + 1) y0 y1 y2 y3 y4)) ∧ (∀ y0 y1 y2 y3 y4 y5 y6 y7, LeO (impl_IsTogether.j1 k y0 y1 y2 y3 y4 y5 y6 y7) (impl_IsTogether.j1 (k + 1) y0 y1 y2 y3 y4 y5 y6 y7)) ∧ (∀ y0 y1 y2 y3 y4 y5 y6 y7 y8, LeO (impl_IsTogether.l1 k y0 y1 y2 y3 y4 y5 y6 y7 y8) (impl_IsTogether.l1 (k + 1) y0 y1 y2 y3 y4 y5 y6 y7 y8))
 | 0 => ⟨fun _ _ _ _ _ r h => by simp [impl_IsTogether.l0] at h, fun _ _ _ _ _ _ _ _ r h => by simp [impl_IsTogether.j1] at h, fun _ _ _ _ _ _ _ _ _ r h => by simp [impl_IsTogether.l1] at h⟩
 | k + 1 => by
  obtain ⟨ih0, ih1, ih2⟩ := impl_IsTogether.mono_l k
  refine ⟨?_, ?_, ?_⟩
  ·
   intro y0 y1 y2 y3 y4
   unfold impl_IsTogether.l0
   repeat' first | (with_reducible first | exact LeO.refl _ | exact LeO.none _ | refine LeO.ite ?_ ?_ | refine LeO.bind ?_ (fun _ => ?_) | exact ih0 _ _ _ _ _ | exact ih1 _ _ _ _ _ _ _ _ | exact ih2 _ _ _ _ _ _ _ _ _ | exact impl_ArePaths.mono _ _ | exact impl_Conflict.mono _ _ _ _ _ _ _ _ _) | exact LeO.none _ | refine LeO.ite ?_ ?_ | refine LeO.bind ?_ (fun _ => ?_) | exact ih0 _ _ _ _ _ | exact ih1 _ _ _ _ _ _ _ _ | exact ih2 _ _ _ _ _ _ _ _ _ | exact impl_ArePaths.mono _ _ | exact impl_Conflict.mono _ _ _ _ _ _ _ _ _
  ·
   intro y0 y1 y2 y3 y4 y5 y6 y7
   unfold impl_IsTogether.j1
   repeat' first | (with_reducible first | exact LeO.refl _ | exact LeO.none _ | refine LeO.ite ?_ ?_ | refine LeO.bind ?_ (fun _ => ?_) | exact ih0 _ _ _ _ _ | exact ih1 _ _ _ _ _ _ _ _ | exact ih2 _ _ _ _ _ _ _ _ _ | exact impl_ArePaths.mono _ _ | exact impl_Conflict.mono _ _ _ _ _ _ _ _ _) | exact LeO.none _ | refine LeO.ite ?_ ?_ | refine LeO.bind ?_ (fun _ => ?_) | exact ih0 _ _ _ _ _ | exact ih1 _ _ _ _ _ _ _ _ | exact ih2 _ _ _ _ _ _ _ _ _ | exact impl_ArePaths.mono _ _ | exact impl_Conflict.mono _ _ _ _ _ _ _ _ _
  ·
   intro y0 y1 y2 y3 y4 y5 y6 y7 y8
   unfold impl_IsTogether.l1
   repeat' first | (with_reducible first | exact LeO.refl _ | exact LeO.none _ | refine LeO.ite ?_ ?_ | refine LeO.bind ?_ (fun _ => ?_) | exact ih0 _ _ _ _ _ | exact ih1 _ _ _ _ _ _ _ _ | exact ih2 _ _ _ _ _ _ _ _ _ | exact impl_ArePaths.mono _ _ | exact impl_Conflict.mono _ _ _ _ _ _ _ _ _) | exact LeO.none _ | refine LeO.ite ?_ ?_ | refine LeO.bind ?_ (fun _ => ?_) | exact ih0 _ _ _ _ _ | exact ih1 _ _ _ _ _ _ _ _ | exact ih2 _ _ _ _ _ _ _ _ _ | exact impl_ArePaths.mono _ _ | exact impl_Conflict.mono _ _ _ _ _ _ _ _ _
theorem impl_IsTogether.mono : ∀ a0 a1 k, LeO (impl_IsTogether.f k a0 a1) (impl_IsTogether.f (k + 1) a0 a1) := by
 intro a0 a1 k
 obtain ⟨ih0, ih1, ih2⟩ := impl_IsTogether.mono_l k
 unfold impl_IsTogether.f
 repeat' first | (with_reducible first | exact LeO.refl _ | exact LeO.none _ | refine LeO.ite ?_ ?_ | refine LeO.bind ?_ (fun _ => ?_) | exact ih0 _ _ _ _ _ | exact ih1 _ _ _ _ _ _ _ _ | exact ih2 _ _ _ _ _ _ _ _ _ | exact impl_ArePaths.mono _ _ | exact impl_Conflict.mono _ _ _ _ _ _ _ _ _) | exact LeO.none _ | refine LeO.ite ?_ ?_ | refine LeO.bind ?_ (fun _ => ?_) | exact ih0 _ _ _ _ _ | exact ih1 _ _ _ _ _ _ _ _ | exact ih2 _ _ _ _ _ _ _ _ _ | exact impl_ArePaths.mono _ _ | exact impl_Conflict.mono _ _ _ _ _ _ _ _ _
def impl_IsTogether.T12 : Bool × List (List Nat × List Nat) := (true, [([], []), ([], []), ([0, 1], [0, 1]), ([2], [2]), ([], []), ([], []), ([], []), ([5, 6], [5, 6]), ([4, 7], [4, 7]), ([8], [8]), ([3, 9, 7], [3, 9])])
def impl_IsTogether.B12 : List Nat := [0, 0, 3, 7, 0, 0, 0, 96, 240, 496, 1023]
theorem impl_IsTogether.tab12 : rtab .any (opsOf Try.f100 12) = impl_IsTogether.T12 := by kernel_rfl
theorem impl_IsTogether.bits12 : waitsOk impl_IsTogether.T12.2 impl_IsTogether.B12 = true := by kernel_rfl
set_option maxHeartbeats 8000000 in
set_option maxRecDepth 100000 in
theorem impl_IsTogether.calls (k : Nat) (A0 : Option Addr) (c0 : Nat) (l0 : List (S90)) (A1 : Option Addr) (c1 : Nat) (l1 : List Int) (r : Bool) (w : World) (hr0 : Kd.C k90 w A0 l0.length l0) (hc0 : l0.length ≤ c0) (hr1 : Kd.C (Kd.int .i64) w A1 l1.length l1) (hc1 : l1.length ≤ c1) (h : impl_IsTogether.f k l0 l1 = some r) :
  Calls Try.prog 100 #[.slice A0 l0.length c0, .slice A1 l1.length c1] w fun e w' => e = .returned (.bool r) ∧ Below w.heap.size w w' := by
 have hu90 := Try.underlying90
 have HR0 := Aside0.mk hr0
 have HC0 := Aside0.mk hc0
 clear hr0 hc0
 have HR1 := Aside0.mk hr1
 have HC1 := Aside0.mk hc1
 clear hr1 hc1
 have HB := Aside0.mk (Below.refl w.heap.size w)
 have H : ((impl_ArePaths.f k l0).bind fun t503 => (if t503 = true then (impl_IsTogether.l0 k l0 l1 l1 (l1.length : Int) 0) else (some false))) = some r := h
 clear h
 obtain ⟨t503, A3, H⟩ := bindE H
 try dsimp only at H
 by_cases c4 : t503 = true
 ·
  subst c4
  have H1 : (impl_IsTogether.l0 k l0 l1 l1 (l1.length : Int) 0) = some r := by rw [if_pos rfl] at H; exact H
  clear H
  have H := H1
  clear H1
  have H' := Aside0.mk H
  clear H
  go_enter Try.func100, Try.ntmps100
  go_wp2_with (first | ((with_reducible refine gate_callee (f := 83) rfl ?_); refine gL (some 11) Try.func83 #[.slice A0 l0.length c0] ?_; (with_reducible refine (impl_ArePaths.calls k _ _ l0 true _ ?side1 ?side2 A3.out).mono ?_); (case side1 => exact cO HR0); (case side2 => exact HC0.out); rintro e w5 ⟨rfl, hb⟩; refine ⟨_, rfl, ?_⟩; replace HB := Aside0.mk (below_step bA hb); (try clear hb); (try clear hb2); (try clear hk); (try clear hi)))
  go_loopg [15] k (fun kq v15 w' => ∃ (x15_1 : Int), v15 = .int .i64 x15_1 ∧ Aside0 (impl_IsTogether.l0 kq l0 l1 l1 (l1.length : Int) x15_1 = some r) ∧ Aside0 (kq ≤ k) ∧ Aside0 (Below w.heap.size w w'))
  case atStart => exact ⟨(0), rS, H', ⟨Nat.le_refl _⟩, ⟨bA⟩⟩
  case round =>
   clear H'
   try clear c1
   try clear p2
   try clear c4
   obtain ⟨x15_1, rfl, HA, HK1, HB⟩ := hrel
   cases gk with
   | zero => exact absurd HA.out (by simp [impl_IsTogether.l0])
   | succ k1 =>
    have H := HA.out
    clear HA
    simp only [impl_IsTogether.l0] at H
    by_cases c6 : x15_1 < (l1.length : Int)
    ·
     rw [if_pos c6] at H
     have c6b0 : decide (x15_1 < (l1.length : Int)) = true := decide_eq_true c6
     clear c6
     have c7 : 0 ≤ x15_1 := ifN H
     replace H := ifT H
     have c7b0 : decide (0 ≤ x15_1) = true := decide_eq_true c7
     clear c7
     have c8 : x15_1 < (l1.length : Int) := ifN H
     replace H := ifT H
     have c8b0 : decide (x15_1 < (l1.length : Int)) = true := decide_eq_true c8
     clear c8
     obtain ⟨t505, A9, H⟩ := bindE H
     try dsimp only at H
     have HC10 := Aside0.mk H
     clear H
     have p504 : 0 ≤ (x15_1 : Int) := dA
     have q504 : x15_1 < (l1.length : Int) := dA
     obtain ⟨ad504, e504, hx504_0⟩ := Kd.at_int HR1.out x15_1 p504 q504
     cases e504
     replace hx504_0 := hC HB hx504_0
     replace p504 := eq_true p504
     replace q504 := eq_true q504
     go_upto_region 7 with (first | ((with_reducible refine gate_callee (f := 84) rfl ?_); refine gL (some 22) Try.func84 #[.slice A0 l0.length c0, .int .i64 (rd l1 x15_1)] ?_; (with_reducible refine (impl_FindPath.calls _ _ l0 (rd l1 x15_1) t505 _ ?side1 ?side2 A9.out).mono ?_); (case side1 => exact cB HR0); (case side2 => exact HC0.out); rintro e w11 ⟨rfl, hb⟩; refine ⟨_, rfl, ?_⟩; replace HB := Aside0.mk (below_step bA hb); (try clear hb); (try clear hb2); (try clear hk); (try clear hi)))
     (try simp only [Act.put, List.setIfInBounds_toArray, List.set_cons_zero, List.set_cons_succ])
     go_cut [37] (fun v37 wc => ∃ (kq : Nat) (x37_9 : Bool), v37 = .bool x37_9 ∧ Aside0 (impl_IsTogether.j1 kq l0 l1 x15_1 t505 l1 (l1.length : Int) x15_1 x37_9 = some r) ∧ Aside0 (kq ≤ k1) ∧ Aside0 (Below w.heap.size w wc))
     case first =>
      have H := HC10.out
      clear HC10
      by_cases c12 : t505 < 0
      ·
       rw [if_pos c12] at H
       have c12b0 : decide (t505 < 0) = true := decide_eq_true c12
       clear c12
       (first | rw [c12b0] | (simp only [i64_w, i32_w]; rw [c12b0]) | skip)
       have H' := Aside0.mk H
       clear H
       go_wp2
       go_meet
       case rel => exact ⟨_, (true), rS, H', ⟨by have := HK1.out; first | omega | exact Nat.le_refl _⟩, ⟨bA⟩⟩
      ·
       rw [if_neg c12] at H
       have c12b0 : decide (t505 < 0) = false := decide_eq_false c12
       clear c12
       (first | rw [c12b0] | (simp only [i64_w, i32_w]; rw [c12b0]) | skip)
       by_cases c13 : x15_1 > 0
       ·
        rw [if_pos c13] at H
        have c13b0 : decide (0 < x15_1) = true := decide_eq_true c13
        clear c13
        obtain ⟨ji14, hji14⟩ : ∃ j_ : Int, (wrap64 (x15_1 - 1)) = j_ := ⟨_, rfl⟩
        replace H : (if 0 ≤ (ji14) then (if (ji14) < (l1.length : Int) then (impl_IsTogether.j1 k1 l0 l1 x15_1 t505 l1 (l1.length : Int) x15_1 (decide ((rd l1 x15_1) ≤ (rd l1 (ji14))))) else (none)) else (none)) = some r := by first | (rw [hji14] at H; exact H) | (simp only [hji14] at H ⊢; exact H)
        have hji14w : (IntKind.i64.wrap (x15_1 - 1)) = ji14 := (i64_w _).trans hji14
        have c15 : 0 ≤ (ji14) := ifN H
        replace H := ifT H
        have c15b0 : decide (0 ≤ (ji14)) = true := decide_eq_true c15
        clear c15
        have c16 : (ji14) < (l1.length : Int) := ifN H
        replace H := ifT H
        have c16b0 : decide ((ji14) < (l1.length : Int)) = true := decide_eq_true c16
        clear c16
        have H' := Aside0.mk H
        clear H
        have p506 : 0 ≤ ((ji14) : Int) := dA
        have q506 : (ji14) < (l1.length : Int) := dA
        obtain ⟨ad506, e506, hx506_0⟩ := Kd.at_int HR1.out (ji14) p506 q506
        obtain rfl : ad504 = ad506 := (by injection e506)
        replace hx506_0 := hC HB hx506_0
        replace p506 := eq_true p506
        replace q506 := eq_true q506
        go_wp2
        go_meet
        case rel => exact ⟨_, (decide ((rd l1 x15_1) ≤ (rd l1 (ji14)))), (by first | rfl | (simp; done) | (simp only [← hji14] <;> (first | rfl | simp)) | (simp [*]; done)), H', ⟨by have := HK1.out; first | omega | exact Nat.le_refl _⟩, ⟨bA⟩⟩
       ·
        rw [if_neg c13] at H
        have c13b0 : decide (0 < x15_1) = false := decide_eq_false c13
        clear c13
        have H' := Aside0.mk H
        clear H
        go_wp2
        go_meet
        case rel => exact ⟨_, (false), rS, H', ⟨by have := HK1.out; first | omega | exact Nat.le_refl _⟩, ⟨bA⟩⟩
     case rest =>
      clear HC10
      try clear c1
      try clear p2
      try clear c4
      try clear p5
      try clear q5
      try clear hx5
      try clear c6
      try clear c6b0
      try clear p6
      try clear c7
      try clear c7b0
      try clear c8
      try clear c8b0
      try clear c10
      try clear c12
      try clear c12b0
      try clear c13
      try clear c13b0
      try clear c15
      try clear c15b0
      try clear c16
      try clear c16b0
      try clear hx504_0
      try clear hx506_0
      try clear p2
      try clear p504
      try clear p506
      try clear q504
      try clear q506
      obtain ⟨kq, x37_9, rfl, HA, HJ9, HB⟩ := hcut
      cases kq with
      | zero => exact absurd HA.out (by simp [impl_IsTogether.j1])
      | succ kj9 =>
       have H := HA.out
       clear HA
       simp only [impl_IsTogether.j1] at H
       by_cases c17 : x37_9 = true
       ·
        subst c17
        have H1 : (some false) = some r := by rw [if_pos rfl] at H; exact H
        clear H
        have H := H1
        clear H1
        obtain rfl := Option.some.inj H
        go_wp2
        go_ret
        exact ⟨rA, bA⟩
       ·
        replace c17 := Bool.eq_false_iff.mpr c17
        subst c17
        have H1 : (if 0 ≤ x15_1 then (if x15_1 ≤ (l1.length : Int) then (impl_IsTogether.l1 kj9 l0 l1 t505 l1 (l1.length : Int) x15_1 (l1.take (x15_1 : Int).toNat) ((l1.take (x15_1 : Int).toNat).length : Int) 0) else (none)) else (none)) = some r := by rw [if_neg (show ¬ (false = true) by decide)] at H; exact H
        clear H
        have H := H1
        clear H1
        have c18 : 0 ≤ x15_1 := ifN H
        replace H := ifT H
        have c18b0 := eq_true c18
        have c18b1 : decide (0 ≤ x15_1) = true := decide_eq_true c18
        clear c18
        have c19 : x15_1 ≤ (l1.length : Int) := ifN H
        replace H := ifT H
        have c19b0 := eq_true c19
        have c19b1 : decide (x15_1 ≤ (l1.length : Int)) = true := decide_eq_true c19
        clear c19
        have H' := Aside0.mk H
        clear H
        obtain ⟨i020, hi020, _, hsz20, _⟩ := info_parts info3
        obtain ⟨hcut20, hA20, hC20⟩ := print_take_of (P := Try.prog) (Value.int .i64) 0 22 3 .i64 Try.underlying22 hi020 hsz20 (some ad504) c1 l1 x15_1 (dA) (dA) HC1.out
        have HR507 := Aside0.mk (Kd.C_of_reads (h1 := fun _ => rfl) (hA20 _ (Kd.reads_of_C HR1.out)))
        have HC507 := Aside0.mk hC20
        clear hA20 hC20 hi020 hsz20
        have HL507 := Aside0.mk (show (x15_1 : Int) ≤ (l1.length : Int) from (dA))
        go_wp2
        go_loopg [42] kj9 (fun kq v42 w' => ∃ (x42_3 : Int), v42 = .int .i64 x42_3 ∧ Aside0 (impl_IsTogether.l1 kq l0 l1 t505 l1 (l1.length : Int) x15_1 (l1.take (x15_1 : Int).toNat) ((l1.take (x15_1 : Int).toNat).length : Int) x42_3 = some r) ∧ Aside0 (kq ≤ kj9) ∧ Aside0 (Below w.heap.size w w'))
        case atStart => exact ⟨(0), rS, H', ⟨Nat.le_refl _⟩, ⟨bA⟩⟩
        case round =>
         clear H'
         try clear c1
         try clear p2
         try clear c4
         try clear p5
         try clear q5
         try clear hx5
         try clear c6
         try clear c6b0
         try clear p6
         try clear c7
         try clear c7b0
         try clear c8
         try clear c8b0
         try clear c10
         try clear c12
         try clear c12b0
         try clear c13
         try clear c13b0
         try clear c15
         try clear c15b0
         try clear c16
         try clear c16b0
         try clear c17
         try clear c18
         try clear c18b0
         try clear c18b1
         try clear c19
         try clear c19b0
         try clear c19b1
         try clear hx504_0
         try clear hx506_0
         try clear p2
         try clear p5
         try clear p504
         try clear p506
         try clear p6
         try clear q5
         try clear q504
         try clear q506
         obtain ⟨x42_3, rfl, HA, HK3, HB⟩ := hrel
         cases gk with
         | zero => exact absurd HA.out (by simp [impl_IsTogether.l1])
         | succ k3 =>
          have H := HA.out
          clear HA
          simp only [impl_IsTogether.l1] at H
          by_cases c21 : x42_3 < ((l1.take (x15_1 : Int).toNat).length : Int)
          ·
           rw [if_pos c21] at H
           have c21b0 : decide (x42_3 < ((l1.take (x15_1 : Int).toNat).length : Int)) = true := decide_eq_true c21
           (try (have c21b1 : decide (x42_3 < max x15_1 0) = true := decide_eq_true (by rw [List.length_take] at c21; omega)))
           clear c21
           have c22 : 0 ≤ x42_3 := ifN H
           replace H := ifT H
           have c22b0 : decide (0 ≤ x42_3) = true := decide_eq_true c22
           clear c22
           have c23 : x42_3 < ((l1.take (x15_1 : Int).toNat).length : Int) := ifN H
           replace H := ifT H
           have c23b0 : decide (x42_3 < ((l1.take (x15_1 : Int).toNat).length : Int)) = true := decide_eq_true c23
           (try (have c23b1 : decide (x42_3 < max x15_1 0) = true := decide_eq_true (by rw [List.length_take] at c23; omega)))
           clear c23
           have c24 : 0 ≤ t505 := ifN H
           replace H := ifT H
           have c24b0 : decide (0 ≤ t505) = true := decide_eq_true c24
           clear c24
           have c25 : t505 < (l0.length : Int) := ifN H
           replace H := ifT H
           have c25b0 : decide (t505 < (l0.length : Int)) = true := decide_eq_true c25
           clear c25
           obtain ⟨t510, A26, H⟩ := bindE H
           try dsimp only at H
           have c27 : 0 ≤ t510 := ifN H
           replace H := ifT H
           have c27b0 : decide (0 ≤ t510) = true := decide_eq_true c27
           clear c27
           have c28 : t510 < (l0.length : Int) := ifN H
           replace H := ifT H
           have c28b0 : decide (t510 < (l0.length : Int)) = true := decide_eq_true c28
           clear c28
           obtain ⟨t512, A29, H⟩ := bindE H
           try dsimp only at H
           by_cases c30 : t512 = true
           ·
            subst c30
            have H1 : (some false) = some r := by rw [if_pos rfl] at H; exact H
            clear H
            have H := H1
            clear H1
            obtain rfl := Option.some.inj H
            have p508 : 0 ≤ (x42_3 : Int) := dA
            have q508 : x42_3 < ((l1.take (x15_1 : Int).toNat).length : Int) := dA
            (try have q508m : (x42_3 < max x15_1 0) = True := eq_true (of_decide_eq_true (by assumption)))
            obtain ⟨ad508, e508, hx508_0⟩ := Kd.at_int HR507.out x42_3 p508 q508
            obtain rfl : ad504 = ad508 := (by injection e508)
            replace hx508_0 := hC HB hx508_0
            replace p508 := eq_true p508
            replace q508 := eq_true q508
            try go_wp2
            have HBo := HB
            replace HB := Aside0.mk (below_drew1 HB.out)
            have p509 : 0 ≤ (t505 : Int) := dA
            have q509 : t505 < (l0.length : Int) := dA
            obtain ⟨ad509, e509, hx509_0, hx509_1, hx509_2, hx509_3⟩ := at_T90 HR0.out t505 p509 q509
            have hw509_3 := hx509_3
            have hw509_2 := hx509_2
            have hw509_1 := hx509_1
            have hw509_0 := hx509_0
            cases e509
            replace hx509_0 := hC HB hx509_0
            replace hx509_1 := hC HB hx509_1
            replace hx509_2 := hC HB hx509_2
            replace hx509_3 := hC HB hx509_3
            replace p509 := eq_true p509
            replace q509 := eq_true q509
            have p511 : 0 ≤ (t510 : Int) := dA
            have q511 : t510 < (l0.length : Int) := dA
            obtain ⟨ad511, e511, hx511_0, hx511_1, hx511_2, hx511_3⟩ := at_T90 HR0.out t510 p511 q511
            have hw511_3 := hx511_3
            have hw511_2 := hx511_2
            have hw511_1 := hx511_1
            have hw511_0 := hx511_0
            obtain rfl : ad509 = ad511 := (by injection e511)
            replace hx511_0 := hC HB hx511_0
            replace hx511_1 := hC HB hx511_1
            replace hx511_2 := hC HB hx511_2
            replace hx511_3 := hC HB hx511_3
            replace p511 := eq_true p511
            replace q511 := eq_true q511
            refine start_ (n := 11) (S := fun w' => w'.cell? (ad509.add ((t505).toNat * 4)) = some (.int .i64 ((rd_T90 l0 t505).f0)) ∧ w'.cell? ⟨(ad509.add ((t505).toNat * 4)).block, (ad509.add ((t505).toNat * 4)).off + 1, none⟩ = some (.int .i64 ((rd_T90 l0 t505).f1)) ∧ w'.cell? ⟨(ad509.add ((t505).toNat * 4)).block, (ad509.add ((t505).toNat * 4)).off + 2, none⟩ = some (.int .i64 ((rd_T90 l0 t505).f2)) ∧ w'.cell? ⟨(ad509.add ((t505).toNat * 4)).block, (ad509.add ((t505).toNat * 4)).off + 3, none⟩ = some (.int .i64 ((rd_T90 l0 t505).f3)) ∧ w'.cell? (ad509.add ((t510).toNat * 4)) = some (.int .i64 ((rd_T90 l0 t510).f0)) ∧ w'.cell? ⟨(ad509.add ((t510).toNat * 4)).block, (ad509.add ((t510).toNat * 4)).off + 1, none⟩ = some (.int .i64 ((rd_T90 l0 t510).f1)) ∧ w'.cell? ⟨(ad509.add ((t510).toNat * 4)).block, (ad509.add ((t510).toNat * 4)).off + 2, none⟩ = some (.int .i64 ((rd_T90 l0 t510).f2)) ∧ w'.cell? ⟨(ad509.add ((t510).toNat * 4)).block, (ad509.add ((t510).toNat * 4)).off + 3, none⟩ = some (.int .i64 ((rd_T90 l0 t510).f3))) (ds := []) (mb 11 0) (by kernel_rfl) rfl rfl ⟨(hC HB hw509_0), (hC HB hw509_1), (hC HB hw509_2), (hC HB hw509_3), (hC HB hw511_0), (hC HB hw511_1), (hC HB hw511_2), (hC HB hw511_3)⟩ (fun hHeld => ?_); refine with_tabW impl_IsTogether.tab12 impl_IsTogether.bits12 (fun HT_ HW_ => ?_)
            generalize wr.drew = w31 at HB hx509_0 hx509_1 hx509_2 hx509_3 hx511_0 hx511_1 hx511_2 hx511_3 hHeld ⊢
            refine pA (i := 0) (N := some 46) (mb 11 1) HT_ ?_
            refine pA (i := 1) (N := some 47) (mb 11 3) HT_ ?_
            refine pA (i := 2) (N := some 48) (mb 11 7) HT_ ?_
            refine pA (i := 4) (N := some 50) (mb 11 23) HT_ ?_
            refine pA (i := 5) (N := some 51) (mb 11 55) HT_ ?_
            refine pA (i := 6) (N := some 52) (mb 11 119) HT_ ?_
            refine tA8 (i := 3) (N := some 49) (mb 11 127) HT_ HW_ hHeld ?_
            refine oA (i := 7) (N := some 53) (mb 11 255) HT_ (fun K hK => ?_)
            refine gA Try.func84 #[.slice (some ad509) l0.length c0, .int .i64 (rd (l1.take (x15_1 : Int).toNat) x42_3)] ?_
            with_reducible refine (impl_FindPath.calls _ _ l0 (rd (l1.take (x15_1 : Int).toNat) x42_3) t510 _ ?side1 ?side2 A26.out).mono ?_
            (case side1 => exact cB HR0)
            (case side2 => exact HC0.out)
            rintro e w32 ⟨rfl, hb⟩
            refine ⟨_, rfl, ?_⟩
            replace HB := Aside0.mk (below_step bA hb)
            (try clear hb)
            (try clear hb2)
            (try clear hk)
            (try clear hi)
            refine hK.out _ _ ⟨(hC HB hw509_0), (hC HB hw509_1), (hC HB hw509_2), (hC HB hw509_3), (hC HB hw511_0), (hC HB hw511_1), (hC HB hw511_2), (hC HB hw511_3)⟩ (fun hHeld => ?_)
            clear hK K
            refine nB ?_
            refine pA (i := 8) (N := some 54) (mb 11 511) HT_ ?_
            refine tA8 (i := 9) (N := some 55) (mb 11 1023) HT_ HW_ hHeld ?_
            refine oA (i := 10) (N := some 56) (mb 11 2047) HT_ (fun K hK => ?_)
            refine gA Try.func92 #[.agg #[.int .i64 ((rd_T90 l0 t505).f0), .int .i64 ((rd_T90 l0 t505).f1), .int .i64 ((rd_T90 l0 t505).f2), .int .i64 ((rd_T90 l0 t505).f3)], .agg #[.int .i64 ((rd_T90 l0 t510).f0), .int .i64 ((rd_T90 l0 t510).f1), .int .i64 ((rd_T90 l0 t510).f2), .int .i64 ((rd_T90 l0 t510).f3)]] ?_
            with_reducible refine (impl_Conflict.calls k3 ((rd_T90 l0 t505).f0) ((rd_T90 l0 t505).f1) ((rd_T90 l0 t505).f2) ((rd_T90 l0 t505).f3) ((rd_T90 l0 t510).f0) ((rd_T90 l0 t510).f1) ((rd_T90 l0 t510).f2) ((rd_T90 l0 t510).f3) true _ A29.out).mono ?_
            rintro e w33 ⟨rfl, hb⟩
            refine ⟨_, rfl, ?_⟩
            replace HB := Aside0.mk (below_step bA hb)
            (try clear hb)
            (try clear hb2)
            (try clear hk)
            (try clear hi)
            refine hK.out _ _ ⟨(hC HB hw509_0), (hC HB hw509_1), (hC HB hw509_2), (hC HB hw509_3), (hC HB hw511_0), (hC HB hw511_1), (hC HB hw511_2), (hC HB hw511_3)⟩ (fun hHeld => ?_)
            clear hK K
            refine nB ?_
            refine eA HT_ ?_
            try go_wp2
            go_ret
            exact ⟨rA, bA⟩
           ·
            replace c30 := Bool.eq_false_iff.mpr c30
            subst c30
            have H1 : (impl_IsTogether.l1 k3 l0 l1 t505 l1 (l1.length : Int) x15_1 (l1.take (x15_1 : Int).toNat) ((l1.take (x15_1 : Int).toNat).length : Int) (wrap64 (x42_3 + 1))) = some r := by rw [if_neg (show ¬ (false = true) by decide)] at H; exact H
            clear H
            have H := H1
            clear H1
            have H' := Aside0.mk H
            clear H
            have p508 : 0 ≤ (x42_3 : Int) := dA
            have q508 : x42_3 < ((l1.take (x15_1 : Int).toNat).length : Int) := dA
            (try have q508m : (x42_3 < max x15_1 0) = True := eq_true (of_decide_eq_true (by assumption)))
            obtain ⟨ad508, e508, hx508_0⟩ := Kd.at_int HR507.out x42_3 p508 q508
            obtain rfl : ad504 = ad508 := (by injection e508)
            replace hx508_0 := hC HB hx508_0
            replace p508 := eq_true p508
            replace q508 := eq_true q508
            try go_wp2
            have HBo := HB
            replace HB := Aside0.mk (below_drew1 HB.out)
            have p509 : 0 ≤ (t505 : Int) := dA
            have q509 : t505 < (l0.length : Int) := dA
            obtain ⟨ad509, e509, hx509_0, hx509_1, hx509_2, hx509_3⟩ := at_T90 HR0.out t505 p509 q509
            have hw509_3 := hx509_3
            have hw509_2 := hx509_2
            have hw509_1 := hx509_1
            have hw509_0 := hx509_0
            cases e509
            replace hx509_0 := hC HB hx509_0
            replace hx509_1 := hC HB hx509_1
            replace hx509_2 := hC HB hx509_2
            replace hx509_3 := hC HB hx509_3
            replace p509 := eq_true p509
            replace q509 := eq_true q509
            have p511 : 0 ≤ (t510 : Int) := dA
            have q511 : t510 < (l0.length : Int) := dA
            obtain ⟨ad511, e511, hx511_0, hx511_1, hx511_2, hx511_3⟩ := at_T90 HR0.out t510 p511 q511
            have hw511_3 := hx511_3
            have hw511_2 := hx511_2
            have hw511_1 := hx511_1
            have hw511_0 := hx511_0
            obtain rfl : ad509 = ad511 := (by injection e511)
            replace hx511_0 := hC HB hx511_0
            replace hx511_1 := hC HB hx511_1
            replace hx511_2 := hC HB hx511_2
            replace hx511_3 := hC HB hx511_3
            replace p511 := eq_true p511
            replace q511 := eq_true q511
            refine start_ (n := 11) (S := fun w' => w'.cell? (ad509.add ((t505).toNat * 4)) = some (.int .i64 ((rd_T90 l0 t505).f0)) ∧ w'.cell? ⟨(ad509.add ((t505).toNat * 4)).block, (ad509.add ((t505).toNat * 4)).off + 1, none⟩ = some (.int .i64 ((rd_T90 l0 t505).f1)) ∧ w'.cell? ⟨(ad509.add ((t505).toNat * 4)).block, (ad509.add ((t505).toNat * 4)).off + 2, none⟩ = some (.int .i64 ((rd_T90 l0 t505).f2)) ∧ w'.cell? ⟨(ad509.add ((t505).toNat * 4)).block, (ad509.add ((t505).toNat * 4)).off + 3, none⟩ = some (.int .i64 ((rd_T90 l0 t505).f3)) ∧ w'.cell? (ad509.add ((t510).toNat * 4)) = some (.int .i64 ((rd_T90 l0 t510).f0)) ∧ w'.cell? ⟨(ad509.add ((t510).toNat * 4)).block, (ad509.add ((t510).toNat * 4)).off + 1, none⟩ = some (.int .i64 ((rd_T90 l0 t510).f1)) ∧ w'.cell? ⟨(ad509.add ((t510).toNat * 4)).block, (ad509.add ((t510).toNat * 4)).off + 2, none⟩ = some (.int .i64 ((rd_T90 l0 t510).f2)) ∧ w'.cell? ⟨(ad509.add ((t510).toNat * 4)).block, (ad509.add ((t510).toNat * 4)).off + 3, none⟩ = some (.int .i64 ((rd_T90 l0 t510).f3))) (ds := []) (mb 11 0) (by kernel_rfl) rfl rfl ⟨(hC HB hw509_0), (hC HB hw509_1), (hC HB hw509_2), (hC HB hw509_3), (hC HB hw511_0), (hC HB hw511_1), (hC HB hw511_2), (hC HB hw511_3)⟩ (fun hHeld => ?_); refine with_tabW impl_IsTogether.tab12 impl_IsTogether.bits12 (fun HT_ HW_ => ?_)
            generalize wr.drew = w34 at HB hx509_0 hx509_1 hx509_2 hx509_3 hx511_0 hx511_1 hx511_2 hx511_3 hHeld ⊢
            refine pA (i := 0) (N := some 46) (mb 11 1) HT_ ?_
            refine pA (i := 1) (N := some 47) (mb 11 3) HT_ ?_
            refine pA (i := 2) (N := some 48) (mb 11 7) HT_ ?_
            refine pA (i := 4) (N := some 50) (mb 11 23) HT_ ?_
            refine pA (i := 5) (N := some 51) (mb 11 55) HT_ ?_
            refine pA (i := 6) (N := some 52) (mb 11 119) HT_ ?_
            refine tA8 (i := 3) (N := some 49) (mb 11 127) HT_ HW_ hHeld ?_
            refine oA (i := 7) (N := some 53) (mb 11 255) HT_ (fun K hK => ?_)
            refine gA Try.func84 #[.slice (some ad509) l0.length c0, .int .i64 (rd (l1.take (x15_1 : Int).toNat) x42_3)] ?_
            with_reducible refine (impl_FindPath.calls _ _ l0 (rd (l1.take (x15_1 : Int).toNat) x42_3) t510 _ ?side1 ?side2 A26.out).mono ?_
            (case side1 => exact cB HR0)
            (case side2 => exact HC0.out)
            rintro e w35 ⟨rfl, hb⟩
            refine ⟨_, rfl, ?_⟩
            replace HB := Aside0.mk (below_step bA hb)
            (try clear hb)
            (try clear hb2)
            (try clear hk)
            (try clear hi)
            refine hK.out _ _ ⟨(hC HB hw509_0), (hC HB hw509_1), (hC HB hw509_2), (hC HB hw509_3), (hC HB hw511_0), (hC HB hw511_1), (hC HB hw511_2), (hC HB hw511_3)⟩ (fun hHeld => ?_)
            clear hK K
            refine nB ?_
            refine pA (i := 8) (N := some 54) (mb 11 511) HT_ ?_
            refine tA8 (i := 9) (N := some 55) (mb 11 1023) HT_ HW_ hHeld ?_
            refine oA (i := 10) (N := some 56) (mb 11 2047) HT_ (fun K hK => ?_)
            refine gA Try.func92 #[.agg #[.int .i64 ((rd_T90 l0 t505).f0), .int .i64 ((rd_T90 l0 t505).f1), .int .i64 ((rd_T90 l0 t505).f2), .int .i64 ((rd_T90 l0 t505).f3)], .agg #[.int .i64 ((rd_T90 l0 t510).f0), .int .i64 ((rd_T90 l0 t510).f1), .int .i64 ((rd_T90 l0 t510).f2), .int .i64 ((rd_T90 l0 t510).f3)]] ?_
            with_reducible refine (impl_Conflict.calls k3 ((rd_T90 l0 t505).f0) ((rd_T90 l0 t505).f1) ((rd_T90 l0 t505).f2) ((rd_T90 l0 t505).f3) ((rd_T90 l0 t510).f0) ((rd_T90 l0 t510).f1) ((rd_T90 l0 t510).f2) ((rd_T90 l0 t510).f3) false _ A29.out).mono ?_
            rintro e w36 ⟨rfl, hb⟩
            refine ⟨_, rfl, ?_⟩
            replace HB := Aside0.mk (below_step bA hb)
            (try clear hb)
            (try clear hb2)
            (try clear hk)
            (try clear hi)
            refine hK.out _ _ ⟨(hC HB hw509_0), (hC HB hw509_1), (hC HB hw509_2), (hC HB hw509_3), (hC HB hw511_0), (hC HB hw511_1), (hC HB hw511_2), (hC HB hw511_3)⟩ (fun hHeld => ?_)
            clear hK K
            refine nB ?_
            refine eA HT_ ?_
            try go_wp2
            go_roundg k3
            case measure => have := HK1.out; have := HJ9.out; have := HK3.out; omega
            case rel => exact ⟨(wrap64 (x42_3 + 1)), rS, H', ⟨by have := HK1.out; have := HJ9.out; have := HK3.out; omega⟩, ⟨bA⟩⟩
          ·
           rw [if_neg c21] at H
           have c21b0 : decide (x42_3 < ((l1.take (x15_1 : Int).toNat).length : Int)) = false := decide_eq_false c21
           (try (have c21b1 : decide (x42_3 < max x15_1 0) = false := decide_eq_false (by have g_ : x15_1 ≤ (l1.length : Int) := (by first | exact dA | exact Int.le_of_lt dA | exact (show Aside0 (x15_1 ≤ (l1.length : Int)) by assumption).out); rw [List.length_take] at c21; omega)))
           clear c21
           have H' := Aside0.mk H
           clear H
           go_wp2
           go_roundg k3
           case measure => have := HK1.out; have := HJ9.out; have := HK3.out; omega
           case rel => exact ⟨(wrap64 (x15_1 + 1)), rS, H', ⟨by have := HK1.out; have := HJ9.out; have := HK3.out; omega⟩, ⟨bA⟩⟩
    ·
     rw [if_neg c6] at H
     have c6b0 : decide (x15_1 < (l1.length : Int)) = false := decide_eq_false c6
     clear c6
     obtain rfl := Option.some.inj H
     go_wp2
     go_ret
     exact ⟨rA, bA⟩
 ·
  replace c4 := Bool.eq_false_iff.mpr c4
  subst c4
  have H1 : (some false) = some r := by rw [if_neg (show ¬ (false = true) by decide)] at H; exact H
  clear H
  have H := H1
  clear H1
  obtain rfl := Option.some.inj H
  go_enter Try.func100, Try.ntmps100
  go_wp2_with (first | ((with_reducible refine gate_callee (f := 83) rfl ?_); refine gL (some 11) Try.func83 #[.slice A0 l0.length c0] ?_; (with_reducible refine (impl_ArePaths.calls k _ _ l0 false _ ?side1 ?side2 A3.out).mono ?_); (case side1 => exact cO HR0); (case side2 => exact HC0.out); rintro e w37 ⟨rfl, hb⟩; refine ⟨_, rfl, ?_⟩; replace HB := Aside0.mk (below_step bA hb); (try clear hb); (try clear hb2); (try clear hk); (try clear hi)))
  go_ret
  exact ⟨rA, bA⟩

/-! ### slices_Index_int_int: function 132 -/
def slices_Index_int_int.l0 : Nat → List Int → Int → Int → Int → Option (Int)
 | 0, _, _, _, _ => none
 | k + 1, x0, x1, x7, x8 => if x8 < x7 then (if 0 ≤ x8 then (if x8 < (x0.length : Int) then (if x1 = (rd x0 x8) then (some x8) else (slices_Index_int_int.l0 k x0 x1 x7 (wrap64 (x8 + 1)))) else (none)) else (none)) else (some (-1))
def slices_Index_int_int.f (k : Nat) (l0 : List Int) (a1 : Int) : Option (Int) := slices_Index_int_int.l0 k l0 a1 (l0.length : Int) 0
theorem slices_Index_int_int.mono_l : ∀ k, (∀ y0 y1 y2 y3, LeO (slices_Index_int_int.l0 k y0 y1 y2 y3) (slices_Index_int_int.l0 (k + 1) y0 y1 y2 y3))
 | 0 => fun _ _ _ _ r h => by simp [slices_Index_int_int.l0] at h
 | k + 1 => by
  have ih0 := slices_Index_int_int.mono_l k
  ·
   intro y0 y1 y2 y3
   unfold slices_Index_int_int.l0
   repeat' first | (with_reducible first | exact LeO.refl _ | exact LeO.none _ | refine LeO.ite ?_ ?_ | refine LeO.bind ?_ (fun _ => ?_) | exact ih0 _ _ _ _) | exact LeO.none _ | refine LeO.ite ?_ ?_ | refine LeO.bind ?_ (fun _ => ?_) | exact ih0 _ _ _ _
theorem slices_Index_int_int.mono : ∀ a0 a1 k, LeO (slices_Index_int_int.f k a0 a1) (slices_Index_int_int.f (k + 1) a0 a1) := by
 intro a0 a1 k
 have ih0 := slices_Index_int_int.mono_l k
 unfold slices_Index_int_int.f
 repeat' first | (with_reducible first | exact LeO.refl _ | exact LeO.none _ | refine LeO.ite ?_ ?_ | refine LeO.bind ?_ (fun _ => ?_) | exact ih0 _ _ _ _) | exact LeO.none _ | refine LeO.ite ?_ ?_ | refine LeO.bind ?_ (fun _ => ?_) | exact ih0 _ _ _ _
set_option maxHeartbeats 8000000 in
set_option maxRecDepth 100000 in
theorem slices_Index_int_int.calls (k : Nat) (A0 : Option Addr) (c0 : Nat) (l0 : List Int) (a1 : Int) (r : Int) (w : World) (hr0 : Kd.C (Kd.int .i64) w A0 l0.length l0) (hc0 : l0.length ≤ c0) (h : slices_Index_int_int.f k l0 a1 = some r) :
  Calls Try.prog 132 #[.slice A0 l0.length c0, .int .i64 a1] w fun e w' => e = .returned (.int .i64 r) ∧ Drawn0 w w' := by
 have HR0 := Aside0.mk hr0
 have HC0 := Aside0.mk hc0
 clear hr0 hc0
 have H : (slices_Index_int_int.l0 k l0 a1 (l0.length : Int) 0) = some r := h
 clear h
 have H' := Aside0.mk H
 clear H
 go_enter Try.func132, Try.ntmps132
 go_wp2
 go_loopg [8] k (fun kq v8 w' => ∃ (x8_1 : Int), v8 = .int .i64 x8_1 ∧ Aside0 (slices_Index_int_int.l0 kq l0 a1 (l0.length : Int) x8_1 = some r) ∧ Aside0 (kq ≤ k) ∧ Drawn0 w w')
 case atStart => exact ⟨(0), rS, H', ⟨Nat.le_refl _⟩, by repeat (first | exact Drawn0.refl _ | apply Drawn0.step)⟩
 case round =>
  clear H'
  try clear c1
  try clear p2
  obtain ⟨x8_1, rfl, HA, HK1, ⟨m1, rfl⟩⟩ := hrel
  cases gk with
  | zero => exact absurd HA.out (by simp [slices_Index_int_int.l0])
  | succ k1 =>
   have H := HA.out
   clear HA
   simp only [slices_Index_int_int.l0] at H
   by_cases c3 : x8_1 < (l0.length : Int)
   ·
    rw [if_pos c3] at H
    have c3b0 : decide (x8_1 < (l0.length : Int)) = true := decide_eq_true c3
    clear c3
    have c4 : 0 ≤ x8_1 := ifN H
    replace H := ifT H
    have c4b0 : decide (0 ≤ x8_1) = true := decide_eq_true c4
    clear c4
    have c5 : x8_1 < (l0.length : Int) := ifN H
    replace H := ifT H
    have c5b0 : decide (x8_1 < (l0.length : Int)) = true := decide_eq_true c5
    clear c5
    by_cases c6 : a1 = (rd l0 x8_1)
    ·
     rw [if_pos c6] at H
     have c6b0 : (a1 == (rd l0 x8_1)) = true := beq_iff_eq.mpr c6
     have c6b1 : (a1 != (rd l0 x8_1)) = false := bne_eq_false_iff_eq.mpr c6
     clear c6
     obtain rfl := Option.some.inj H
     have p513 : 0 ≤ (x8_1 : Int) := dA
     have q513 : x8_1 < (l0.length : Int) := dA
     obtain ⟨ad513, e513, hx513_0⟩ := Kd.at_int HR0.out x8_1 p513 q513
     cases e513
     replace p513 := eq_true p513
     replace q513 := eq_true q513
     go_wp2
     go_ret
     exact ⟨by first | rfl | (simp; done) | (simp [*]; done), by repeat (first | exact Drawn0.refl _ | apply Drawn0.step)⟩
    ·
     rw [if_neg c6] at H
     have c6b0 : (a1 == (rd l0 x8_1)) = false := beq_eq_false_iff_ne.mpr c6
     have c6b1 : (a1 != (rd l0 x8_1)) = true := bne_iff_ne.mpr c6
     have H' := Aside0.mk H
     clear H
     have p513 : 0 ≤ (x8_1 : Int) := dA
     have q513 : x8_1 < (l0.length : Int) := dA
     obtain ⟨ad513, e513, hx513_0⟩ := Kd.at_int HR0.out x8_1 p513 q513
     cases e513
     replace p513 := eq_true p513
     replace q513 := eq_true q513
     go_wp2
     go_roundg k1
     case measure => have := HK1.out; omega
     case rel => exact ⟨(wrap64 (x8_1 + 1)), rS, H', ⟨by have := HK1.out; omega⟩, by repeat (first | exact Drawn0.refl _ | apply Drawn0.step)⟩
   ·
    rw [if_neg c3] at H
    have c3b0 : decide (x8_1 < (l0.length : Int)) = false := decide_eq_false c3
    clear c3
    obtain rfl := Option.some.inj H
    go_wp2
    go_ret
    exact ⟨by first | rfl | (simp; done) | (simp [*]; done), by repeat (first | exact Drawn0.refl _ | apply Drawn0.step)⟩

/-! ### slices_Contains_int_int: function 105 -/
def slices_Contains_int_int.f (k : Nat) (l0 : List Int) (a1 : Int) : Option (Bool) := (slices_Index_int_int.f k l0 a1).bind fun t514 => (some (decide (t514 ≥ 0)))
theorem slices_Contains_int_int.mono : ∀ a0 a1 k, LeO (slices_Contains_int_int.f k a0 a1) (slices_Contains_int_int.f (k + 1) a0 a1) := by
 intro a0 a1 k
 unfold slices_Contains_int_int.f
 repeat' first | (with_reducible first | exact LeO.refl _ | exact LeO.none _ | refine LeO.ite ?_ ?_ | refine LeO.bind ?_ (fun _ => ?_) | exact slices_Index_int_int.mono _ _ _) | exact LeO.none _ | refine LeO.ite ?_ ?_ | refine LeO.bind ?_ (fun _ => ?_) | exact slices_Index_int_int.mono _ _ _
set_option maxHeartbeats 8000000 in
set_option maxRecDepth 100000 in
theorem slices_Contains_int_int.calls (k : Nat) (A0 : Option Addr) (c0 : Nat) (l0 : List Int) (a1 : Int) (r : Bool) (w : World) (hr0 : Kd.C (Kd.int .i64) w A0 l0.length l0) (hc0 : l0.length ≤ c0) (h : slices_Contains_int_int.f k l0 a1 = some r) :
  Calls Try.prog 105 #[.slice A0 l0.length c0, .int .i64 a1] w fun e w' => e = .returned (.bool r) ∧ Drawn0 w w' := by
 have HR0 := Aside0.mk hr0
 have HC0 := Aside0.mk hc0
 clear hr0 hc0
 have H : ((slices_Index_int_int.f k l0 a1).bind fun t514 => (some (decide (t514 ≥ 0)))) = some r := h
 clear h
 obtain ⟨t514, A3, H⟩ := bindE H
 try dsimp only at H
 obtain rfl := Option.some.inj H
 go_enter Try.func105, Try.ntmps105
 go_wp2_with (first | ((with_reducible refine gate_callee (f := 132) rfl ?_); refine gL (some 7) Try.func132 #[.slice A0 l0.length c0, .int .i64 a1] ?_; (with_reducible refine (slices_Index_int_int.calls k _ _ l0 a1 t514 _ ?side1 ?side2 A3.out).mono ?_); (case side1 => exact cO HR0); (case side2 => exact HC0.out); rintro e w' ⟨rfl, ⟨nd, rfl⟩⟩; refine ⟨_, rfl, ?_⟩))
 go_ret
 exact ⟨by first | rfl | (simp; done) | (simp [*]; done), by repeat (first | exact Drawn0.refl _ | apply Drawn0.step)⟩

/-! ### impl_sieve: function 134 -/
def impl_sieve.l0 : Nat → List Int → Bool → List Int → List Int → Int → Int → Option (List Int)
 | 0, _, _, _, _, _, _ => none
 | k + 1, x1, x2, x7, x11, x12, x13 => if x13 < x12 then (if 0 ≤ x13 then (if x13 < (x11.length : Int) then ((slices_Contains_int_int.f k x1 (rd x11 x13)).bind fun t519 => (if (t519 == x2) = true then (if x7.length < 17592186044416 then (impl_sieve.l0 k x1 x2 (x7 ++ [rd x11 x13]) x11 x12 (wrap64 (x13 + 1))) else (none)) else (impl_sieve.l0 k x1 x2 x7 x11 x12 (wrap64 (x13 + 1))))) else (none)) else (none)) else (some x7)
def impl_sieve.f (k : Nat) (l0 : List Int) (l1 : List Int) (a2 : Bool) : Option (List Int) := impl_sieve.l0 k l1 a2 (([] : List Int)) l0 (l0.length : Int) 0
theorem impl_sieve.mono_l : ∀ k, (∀ y0 y1 y2 y3 y4 y5, LeO (impl_sieve.l0 k y0 y1 y2 y3 y4 y5) (impl_sieve.l0 (k + 1) y0 y1 y2 y3 y4 y5))
 | 0 => fun _ _ _ _ _ _ r h => by simp [impl_sieve.l0] at h
 | k + 1 => by
  have ih0 := impl_sieve.mono_l k
  ·
   intro y0 y1 y2 y3 y4 y5
   unfold impl_sieve.l0
   repeat' first | (with_reducible first | exact LeO.refl _ | exact LeO.none _ | refine LeO.ite ?_ ?_ | refine LeO.bind ?_ (fun _ => ?_) | exact ih0 _ _ _ _ _ _ | exact slices_Contains_int_int.mono _ _ _) | exact LeO.none _ | refine LeO.ite ?_ ?_ | refine LeO.bind ?_ (fun _ => ?_) | exact ih0 _ _ _ _ _ _ | exact slices_Contains_int_int.mono _ _ _
theorem impl_sieve.mono : ∀ a0 a1 a2 k, LeO (impl_sieve.f k a0 a1 a2) (impl_sieve.f (k + 1) a0 a1 a2) := by
 intro a0 a1 a2 k
 have ih0 := impl_sieve.mono_l k
 unfold impl_sieve.f
 repeat' first | (with_reducible first | exact LeO.refl _ | exact LeO.none _ | refine LeO.ite ?_ ?_ | refine LeO.bind ?_ (fun _ => ?_) | exact ih0 _ _ _ _ _ _ | exact slices_Contains_int_int.mono _ _ _) | exact LeO.none _ | refine LeO.ite ?_ ?_ | refine LeO.bind ?_ (fun _ => ?_) | exact ih0 _ _ _ _ _ _ | exact slices_Contains_int_int.mono _ _ _
set_option maxHeartbeats 8000000 in
set_option maxRecDepth 100000 in
theorem impl_sieve.calls (k : Nat) (A0 : Option Addr) (c0 : Nat) (l0 : List Int) (A1 : Option Addr) (c1 : Nat) (l1 : List Int) (a2 : Bool) (r : List Int) (w : World) (hr0 : Kd.C (Kd.int .i64) w A0 l0.length l0) (hc0 : l0.length ≤ c0) (hr1 : Kd.C (Kd.int .i64) w A1 l1.length l1) (hc1 : l1.length ≤ c1) (h : impl_sieve.f k l0 l1 a2 = some r) :
  Calls Try.prog 134 #[.slice A0 l0.length c0, .slice A1 l1.length c1, .bool a2] w fun e w' => ∃ v0_ : Value, e = .returned (v0_) ∧ Kd.R (Kd.int .i64) 3 w' w.heap.size (fun _ => True) v0_ r ∧ Below w.heap.size w w' := by
 have HR0 := Aside0.mk hr0
 have HC0 := Aside0.mk hc0
 clear hr0 hc0
 have HR1 := Aside0.mk hr1
 have HC1 := Aside0.mk hc1
 clear hr1 hc1
 have HB := Aside0.mk (Below.refl w.heap.size w)
 have H : (impl_sieve.l0 k l1 a2 (([] : List Int)) l0 (l0.length : Int) 0) = some r := h
 clear h
 obtain ⟨y515, hy515⟩ : ∃ y_ : List Int, y_ = (([] : List Int)) := ⟨_, rfl⟩
 replace H : (impl_sieve.l0 k l1 a2 y515 l0 (l0.length : Int) 0) = some r := by first | (rw [hy515]; with_reducible exact H) | (have H2_ := (Option.bind_some _ _).symm.trans H; rw [hy515]; with_reducible exact H2_) | (have H2_ := (Option.bind_some _ _).symm.trans H; with_reducible exact H2_) | with_reducible exact H | (rw [hy515]; exact H) | exact H
 have Ny515 := Aside0.mk hy515
 clear hy515
 have H' := Aside0.mk H
 clear H
 go_enter Try.func134, Try.ntmps134
 go_wp2_with (first | ((with_reducible refine gate_dst (N := 10) rfl ?_); refine Kd.R_lit (Kd.int .i64) _ 3 ?hg (N := 10) ?hd (xs := ([] : List Int)) (inner := []) (ok := fun _ => True) (okp := fun _ => True) ?hr ?hp (fun _ hk => hk) trivial (Below.refl _ _) (Nat.le_refl _) (by simp) ?_; (case hd => rfl); (case hg => rfl); (case hr => first | (go_simp; done) | (go_simp; rfl)); (case hp => exact (Reps.none _ _)); intro v516 w4 ho5 hb hg_ hnew_; clear hg_ hnew_; (first | rw [← Ny515.out] at ho5 | (simp only [Int.reduceToNat] at ho5; rw [← Ny515.out] at ho5)); have HO517 := Aside0.mk (Kd.R_lower ho5 (below_size bA)); replace HB := Aside0.mk (below_step bA hb); clear hb ho5))
 go_loopg [7, 13] k (fun kq v7 v13 w' => ∃ (x7_1 : List Int) (x13_1 : Int), v13 = .int .i64 x13_1 ∧ Aside0 (impl_sieve.l0 kq l1 a2 x7_1 l0 (l0.length : Int) x13_1 = some r) ∧ Aside0 (kq ≤ k) ∧ Aside0 (Kd.R (Kd.int .i64) 3 w' w.heap.size (fun _ => True) v7 x7_1) ∧ Aside0 (Below w.heap.size w w'))
 case atStart => exact ⟨(y515), (0), rS, H', ⟨Nat.le_refl _⟩, ⟨rK HO517⟩, ⟨bA⟩⟩
 case round =>
  clear H'
  try clear c1
  try clear p2
  obtain ⟨x7_1, x13_1, rfl, HA, HK1, HO_7, HB⟩ := hrel
  cases gk with
  | zero => exact absurd HA.out (by simp [impl_sieve.l0])
  | succ k1 =>
   have H := HA.out
   clear HA
   simp only [impl_sieve.l0] at H
   by_cases c6 : x13_1 < (l0.length : Int)
   ·
    rw [if_pos c6] at H
    have c6b0 : decide (x13_1 < (l0.length : Int)) = true := decide_eq_true c6
    clear c6
    have c7 : 0 ≤ x13_1 := ifN H
    replace H := ifT H
    have c7b0 : decide (0 ≤ x13_1) = true := decide_eq_true c7
    clear c7
    have c8 : x13_1 < (l0.length : Int) := ifN H
    replace H := ifT H
    have c8b0 : decide (x13_1 < (l0.length : Int)) = true := decide_eq_true c8
    clear c8
    obtain ⟨t519, A9, H⟩ := bindE H
    try dsimp only at H
    by_cases c10 : (t519 == a2) = true
    ·
     rw [if_pos c10] at H
     have c10b0 : (t519 == a2) = true := c10
     (try (have c10b1 : decide (t519 = a2) = true := by simpa using c10))
     (try (have c10b2 : (t519 == a2) = true := by simpa using c10))
     clear c10
     have c11 : x7_1.length < 17592186044416 := ifN H
     replace H := ifT H
     have LMc11 := Aside0.mk c11
     clear c11
     obtain ⟨y520, hy520⟩ : ∃ y_ : List Int, y_ = (x7_1 ++ [rd l0 x13_1]) := ⟨_, rfl⟩
     replace H : (impl_sieve.l0 k1 l1 a2 y520 l0 (l0.length : Int) (wrap64 (x13_1 + 1))) = some r := by first | (rw [hy520]; with_reducible exact H) | (have H2_ := (Option.bind_some _ _).symm.trans H; rw [hy520]; with_reducible exact H2_) | (have H2_ := (Option.bind_some _ _).symm.trans H; with_reducible exact H2_) | with_reducible exact H | (rw [hy520]; exact H) | exact H
     have Ny520 := Aside0.mk hy520
     clear hy520
     have H' := Aside0.mk H
     clear H
     have p518 : 0 ≤ (x13_1 : Int) := dA
     have q518 : x13_1 < (l0.length : Int) := dA
     obtain ⟨ad518, e518, hx518_0⟩ := Kd.at_int HR0.out x13_1 p518 q518
     cases e518
     replace hx518_0 := hC HB hx518_0
     replace p518 := eq_true p518
     replace q518 := eq_true q518
     go_wp2_with (first | ((with_reducible refine gate_callee (f := 105) rfl ?_); refine gL (some 19) Try.func105 #[.slice A1 l1.length c1, .int .i64 (rd l0 x13_1)] ?_; (with_reducible refine (slices_Contains_int_int.calls k1 _ _ l1 (rd l0 x13_1) t519 _ ?side1 ?side2 A9.out).mono ?_); (case side1 => exact cB HR1); (case side2 => exact HC1.out); rintro e w' ⟨rfl, ⟨nd, rfl⟩⟩; refine ⟨_, rfl, ?_⟩) | ((with_reducible refine gate_builtin (b := .append) (xs := #[.tmp 22, .tmp 24]) rfl ?_); at_builtin; refine Kd.R_append (Kd.int .i64) (w0 := w) w.heap.size rfl (.tmp 22) (.tmp 24) 22 3 (.int .i64 0) 8 rfl Try.underlying22 info3 rfl (by decide) (by omega) u7 x7_1 (rd l0 x13_1) [.int .i64 (rd l0 x13_1)] (fun _ => True) (fun _ => False) rfl rfl ?aP (fun _ hk => hk.elim) ?aF ?aO ?aB ?aS ?aL ?_; (case aP => exact rfl); (case aB => exact bA); (case aF => exact (fun _ _ => trivial)); (case aO => exact (rK HO_7)); (case aS => exact (below_size bA)); (case aL => have := LMc11.out; omega); intro v521 w12 ho hb hg hat; rw [← Ny520.out] at ho; have n0_ := Aside0.mk (hb); have n1_ := Aside0.mk (ho); clear HB; clear HO_7; have HB := n0_; have HO522 := n1_; clear n0_ n1_; clear ho hb hg hat))
     go_roundg k1
     case measure => have := HK1.out; omega
     case rel => exact ⟨(y520), (wrap64 (x13_1 + 1)), rS, H', ⟨by have := HK1.out; omega⟩, ⟨rK HO522⟩, ⟨bA⟩⟩
    ·
     rw [if_neg c10] at H
     have c10b0 : (t519 == a2) = false := by simpa using c10
     (try (have c10b1 : decide (t519 = a2) = false := by simpa using c10))
     (try (have c10b2 : (t519 == a2) = false := by simpa using c10))
     (try (have c10b3 : ¬ (t519 = a2) := by simpa using c10))
     clear c10
     have H' := Aside0.mk H
     clear H
     have p518 : 0 ≤ (x13_1 : Int) := dA
     have q518 : x13_1 < (l0.length : Int) := dA
     obtain ⟨ad518, e518, hx518_0⟩ := Kd.at_int HR0.out x13_1 p518 q518
     cases e518
     replace hx518_0 := hC HB hx518_0
     replace p518 := eq_true p518
     replace q518 := eq_true q518
     go_wp2_with (first | ((with_reducible refine gate_callee (f := 105) rfl ?_); refine gL (some 19) Try.func105 #[.slice A1 l1.length c1, .int .i64 (rd l0 x13_1)] ?_; (with_reducible refine (slices_Contains_int_int.calls k1 _ _ l1 (rd l0 x13_1) t519 _ ?side1 ?side2 A9.out).mono ?_); (case side1 => exact cB HR1); (case side2 => exact HC1.out); rintro e w' ⟨rfl, ⟨nd, rfl⟩⟩; refine ⟨_, rfl, ?_⟩))
     go_roundg k1
     case measure => have := HK1.out; omega
     case rel => exact ⟨(x7_1), (wrap64 (x13_1 + 1)), rS, H', ⟨by have := HK1.out; omega⟩, ⟨rK HO_7⟩, ⟨bA⟩⟩
   ·
    rw [if_neg c6] at H
    have c6b0 : decide (x13_1 < (l0.length : Int)) = false := decide_eq_false c6
    clear c6
    obtain rfl := Option.some.inj H
    go_wp2
    go_ret
    exact ⟨_, by first | rfl | (simp [errW_none, errW_some] <;> rfl) | (simp [*, errW_none, errW_some] <;> rfl), by (with_reducible repeat (first | apply Kd.R_alloc | apply Kd.R_drewN | apply Kd.R_drew)); exact HO_7.out, bA⟩

/-! ### impl_Closes: function 130 -/
def impl_Closes.f (k : Nat) (l0 : List Int) (l1 : List Int) : Option (List Int) := (impl_sieve.f k l0 l1 false).bind fun t523 => (some t523)
theorem impl_Closes.mono : ∀ a0 a1 k, LeO (impl_Closes.f k a0 a1) (impl_Closes.f (k + 1) a0 a1) := by
 intro a0 a1 k
 unfold impl_Closes.f
 repeat' first | (with_reducible first | exact LeO.refl _ | exact LeO.none _ | refine LeO.ite ?_ ?_ | refine LeO.bind ?_ (fun _ => ?_) | exact impl_sieve.mono _ _ _ _) | exact LeO.none _ | refine LeO.ite ?_ ?_ | refine LeO.bind ?_ (fun _ => ?_) | exact impl_sieve.mono _ _ _ _
set_option maxHeartbeats 8000000 in
set_option maxRecDepth 100000 in
theorem impl_Closes.calls (k : Nat) (A0 : Option Addr) (c0 : Nat) (l0 : List Int) (A1 : Option Addr) (c1 : Nat) (l1 : List Int) (r : List Int) (w : World) (hr0 : Kd.C (Kd.int .i64) w A0 l0.length l0) (hc0 : l0.length ≤ c0) (hr1 : Kd.C (Kd.int .i64) w A1 l1.length l1) (hc1 : l1.length ≤ c1) (h : impl_Closes.f k l0 l1 = some r) :
  Calls Try.prog 130 #[.slice A0 l0.length c0, .slice A1 l1.length c1] w fun e w' => ∃ v0_ : Value, e = .returned (v0_) ∧ Kd.R (Kd.int .i64) 3 w' w.heap.size (fun _ => True) v0_ r ∧ Below w.heap.size w w' := by
 have HR0 := Aside0.mk hr0
 have HC0 := Aside0.mk hc0
 clear hr0 hc0
 have HR1 := Aside0.mk hr1
 have HC1 := Aside0.mk hc1
 clear hr1 hc1
 have HB := Aside0.mk (Below.refl w.heap.size w)
 have H : ((impl_sieve.f k l0 l1 false).bind fun t523 => (some t523)) = some r := h
 clear h
 obtain ⟨t523, A3, H⟩ := bindE H
 try dsimp only at H
 obtain rfl := Option.some.inj H
 go_enter Try.func130, Try.ntmps130
 go_wp2_with (first | ((with_reducible refine gate_callee (f := 134) rfl ?_); refine gL (some 7) Try.func134 #[.slice A0 l0.length c0, .slice A1 l1.length c1, .bool false] ?_; (with_reducible refine (impl_sieve.calls k _ _ l0 _ _ l1 false t523 _ ?side1 ?side2 ?side3 ?side4 A3.out).mono ?_); (case side1 => exact cO HR0); (case side2 => exact HC0.out); (case side3 => exact cO HR1); (case side4 => exact HC1.out); rintro e w4 ⟨v524, rfl, ho0, hb⟩; refine ⟨_, rfl, ?_⟩; have HO525 := Aside0.mk (Kd.R_lower ho0 (below_size bA)); replace HB := Aside0.mk (below_step bA hb); (try clear hb); (try clear hb2); (try clear hk); (try clear hi); (try clear ho0)))
 go_ret
 exact ⟨_, by first | rfl | (simp [errW_none, errW_some] <;> rfl) | (simp [*, errW_none, errW_some] <;> rfl), by (with_reducible repeat (first | apply Kd.R_alloc | apply Kd.R_drewN | apply Kd.R_drew)); exact HO525.out, bA⟩

/-! ### impl_ClearOf: function 131 -/
def impl_ClearOf.f (a0_0 : Int) (a0_1 : Int) (a0_2 : Int) (a0_3 : Int) : Option (Int) := (impl_IsPath.f a0_0 a0_1 a0_2 a0_3).bind fun t527 => (if t527 = true then (if a0_1 = 1 then (some 2) else (if a0_1 = 3 then (some 3) else (some 5))) else (some 0))
set_option maxHeartbeats 8000000 in
set_option maxRecDepth 100000 in
theorem impl_ClearOf.calls (a0_0 : Int) (a0_1 : Int) (a0_2 : Int) (a0_3 : Int) (r : Int) (w : World) (h : impl_ClearOf.f a0_0 a0_1 a0_2 a0_3 = some r) :
  Calls Try.prog 131 #[.agg #[.int .i64 a0_0, .int .i64 a0_1, .int .i64 a0_2, .int .i64 a0_3]] w fun e w' => e = .returned (.int .i64 r) ∧ Below w.heap.size w w' := by
 have hu90 := Try.underlying90
 have HB := Aside0.mk (Below.refl w.heap.size w)
 have H : ((impl_IsPath.f a0_0 a0_1 a0_2 a0_3).bind fun t527 => (if t527 = true then (if a0_1 = 1 then (some 2) else (if a0_1 = 3 then (some 3) else (some 5))) else (some 0))) = some r := h
 clear h
 obtain ⟨t527, A2, H⟩ := bindE H
 try dsimp only at H
 by_cases c3 : t527 = true
 ·
  subst c3
  have H1 : (if a0_1 = 1 then (some 2) else (if a0_1 = 3 then (some 3) else (some 5))) = some r := by rw [if_pos rfl] at H; exact H
  clear H
  have H := H1
  clear H1
  by_cases c4 : a0_1 = 1
  ·
   rw [if_pos c4] at H
   have c4b0 : (a0_1 == 1) = true := beq_iff_eq.mpr c4
   have c4b1 : (a0_1 != 1) = false := bne_eq_false_iff_eq.mpr c4
   clear c4
   obtain rfl := Option.some.inj H
   go_enter Try.func131, Try.ntmps131
   go_wp2_with (first | ((with_reducible refine gate_dst (N := 1) rfl ?_); refine bE (N := 1) (cs := #[.int .i64 a0_0, .int .i64 a0_1, .int .i64 a0_2, .int .i64 a0_3]) (t := 90) ?_; intro gb526 hg w5 hbox hb; have n0_ := Aside0.mk (below_step bA hb); have n1_ := Aside0.mk (hbox); have n2_ := Aside0.mk ((by rw [hg]; exact (below_size bA) : w.heap.size ≤ gb526)); have n3_ := Aside0.mk ((by rw [hg]; exact (below_size bA) : w.heap.size ≤ gb526)); clear HB; have HB := n0_; have BK526 := n1_; have GW526 := n2_; have GE526 := n3_; clear n0_ n1_ n2_ n3_; clear hb hbox hg; have hcz6_0 : w5.cell? ⟨gb526, 0, none⟩ = some (.int .i64 a0_0) := bC BK526 0; have hcz6_1 : w5.cell? ⟨gb526, 1, none⟩ = some (.int .i64 a0_1) := bC BK526 1; have hcz6_2 : w5.cell? ⟨gb526, 2, none⟩ = some (.int .i64 a0_2) := bC BK526 2; have hcz6_3 : w5.cell? ⟨gb526, 3, none⟩ = some (.int .i64 a0_3) := bC BK526 3; have hfz6_0 := blk_frozen BK526.out 0; have hfz6_1 := blk_frozen BK526.out 1; have hfz6_2 := blk_frozen BK526.out 2; have hfz6_3 := blk_frozen BK526.out 3) | ((with_reducible refine gate_callee (f := 112) rfl ?_); refine gL (some 4) Try.func112 #[.agg #[.int .i64 a0_0, .int .i64 a0_1, .int .i64 a0_2, .int .i64 a0_3]] ?_; (with_reducible refine (impl_IsPath.calls a0_0 a0_1 a0_2 a0_3 true _ A2.out).mono ?_); rintro e w7 ⟨rfl, hb⟩; refine ⟨_, rfl, ?_⟩; replace BK526 := Aside0.mk (blk_below (g := gb526) (bK BK526) hb); replace HB := Aside0.mk (below_step bG hb); (try clear hb); (try clear hb2); (try clear hk); (try clear hi); obtain ⟨hcz8_0, hcz8_1, hcz8_2, hcz8_3, hfz8_0, hfz8_1, hfz8_2, hfz8_3⟩ := blkc4 BK526))
   go_ret
   exact ⟨rA, bG⟩
  ·
   rw [if_neg c4] at H
   have c4b0 : (a0_1 == 1) = false := beq_eq_false_iff_ne.mpr c4
   have c4b1 : (a0_1 != 1) = true := bne_iff_ne.mpr c4
   by_cases c9 : a0_1 = 3
   ·
    rw [if_pos c9] at H
    have c9b0 : (a0_1 == 3) = true := beq_iff_eq.mpr c9
    have c9b1 : (a0_1 != 3) = false := bne_eq_false_iff_eq.mpr c9
    clear c9
    obtain rfl := Option.some.inj H
    go_enter Try.func131, Try.ntmps131
    go_wp2_with (first | ((with_reducible refine gate_dst (N := 1) rfl ?_); refine bE (N := 1) (cs := #[.int .i64 a0_0, .int .i64 a0_1, .int .i64 a0_2, .int .i64 a0_3]) (t := 90) ?_; intro gb526 hg w10 hbox hb; have n0_ := Aside0.mk (below_step bA hb); have n1_ := Aside0.mk (hbox); have n2_ := Aside0.mk ((by rw [hg]; exact (below_size bA) : w.heap.size ≤ gb526)); have n3_ := Aside0.mk ((by rw [hg]; exact (below_size bA) : w.heap.size ≤ gb526)); clear HB; have HB := n0_; have BK526 := n1_; have GW526 := n2_; have GE526 := n3_; clear n0_ n1_ n2_ n3_; clear hb hbox hg; have hcz11_0 : w10.cell? ⟨gb526, 0, none⟩ = some (.int .i64 a0_0) := bC BK526 0; have hcz11_1 : w10.cell? ⟨gb526, 1, none⟩ = some (.int .i64 a0_1) := bC BK526 1; have hcz11_2 : w10.cell? ⟨gb526, 2, none⟩ = some (.int .i64 a0_2) := bC BK526 2; have hcz11_3 : w10.cell? ⟨gb526, 3, none⟩ = some (.int .i64 a0_3) := bC BK526 3; have hfz11_0 := blk_frozen BK526.out 0; have hfz11_1 := blk_frozen BK526.out 1; have hfz11_2 := blk_frozen BK526.out 2; have hfz11_3 := blk_frozen BK526.out 3) | ((with_reducible refine gate_callee (f := 112) rfl ?_); refine gL (some 4) Try.func112 #[.agg #[.int .i64 a0_0, .int .i64 a0_1, .int .i64 a0_2, .int .i64 a0_3]] ?_; (with_reducible refine (impl_IsPath.calls a0_0 a0_1 a0_2 a0_3 true _ A2.out).mono ?_); rintro e w12 ⟨rfl, hb⟩; refine ⟨_, rfl, ?_⟩; replace BK526 := Aside0.mk (blk_below (g := gb526) (bK BK526) hb); replace HB := Aside0.mk (below_step bG hb); (try clear hb); (try clear hb2); (try clear hk); (try clear hi); obtain ⟨hcz13_0, hcz13_1, hcz13_2, hcz13_3, hfz13_0, hfz13_1, hfz13_2, hfz13_3⟩ := blkc4 BK526))
    go_ret
    exact ⟨rA, bG⟩
   ·
    rw [if_neg c9] at H
    have c9b0 : (a0_1 == 3) = false := beq_eq_false_iff_ne.mpr c9
    have c9b1 : (a0_1 != 3) = true := bne_iff_ne.mpr c9
    obtain rfl := Option.some.inj H
    go_enter Try.func131, Try.ntmps131
    go_wp2_with (first | ((with_reducible refine gate_dst (N := 1) rfl ?_); refine bE (N := 1) (cs := #[.int .i64 a0_0, .int .i64 a0_1, .int .i64 a0_2, .int .i64 a0_3]) (t := 90) ?_; intro gb526 hg w14 hbox hb; have n0_ := Aside0.mk (below_step bA hb); have n1_ := Aside0.mk (hbox); have n2_ := Aside0.mk ((by rw [hg]; exact (below_size bA) : w.heap.size ≤ gb526)); have n3_ := Aside0.mk ((by rw [hg]; exact (below_size bA) : w.heap.size ≤ gb526)); clear HB; have HB := n0_; have BK526 := n1_; have GW526 := n2_; have GE526 := n3_; clear n0_ n1_ n2_ n3_; clear hb hbox hg; have hcz15_0 : w14.cell? ⟨gb526, 0, none⟩ = some (.int .i64 a0_0) := bC BK526 0; have hcz15_1 : w14.cell? ⟨gb526, 1, none⟩ = some (.int .i64 a0_1) := bC BK526 1; have hcz15_2 : w14.cell? ⟨gb526, 2, none⟩ = some (.int .i64 a0_2) := bC BK526 2; have hcz15_3 : w14.cell? ⟨gb526, 3, none⟩ = some (.int .i64 a0_3) := bC BK526 3; have hfz15_0 := blk_frozen BK526.out 0; have hfz15_1 := blk_frozen BK526.out 1; have hfz15_2 := blk_frozen BK526.out 2; have hfz15_3 := blk_frozen BK526.out 3) | ((with_reducible refine gate_callee (f := 112) rfl ?_); refine gL (some 4) Try.func112 #[.agg #[.int .i64 a0_0, .int .i64 a0_1, .int .i64 a0_2, .int .i64 a0_3]] ?_; (with_reducible refine (impl_IsPath.calls a0_0 a0_1 a0_2 a0_3 true _ A2.out).mono ?_); rintro e w16 ⟨rfl, hb⟩; refine ⟨_, rfl, ?_⟩; replace BK526 := Aside0.mk (blk_below (g := gb526) (bK BK526) hb); replace HB := Aside0.mk (below_step bG hb); (try clear hb); (try clear hb2); (try clear hk); (try clear hi); obtain ⟨hcz17_0, hcz17_1, hcz17_2, hcz17_3, hfz17_0, hfz17_1, hfz17_2, hfz17_3⟩ := blkc4 BK526))
    go_ret
    exact ⟨rA, bG⟩
 ·
  replace c3 := Bool.eq_false_iff.mpr c3
  subst c3
  have H1 : (some 0) = some r := by rw [if_neg (show ¬ (false = true) by decide)] at H; exact H
  clear H
  have H := H1
  clear H1
  obtain rfl := Option.some.inj H
  go_enter Try.func131, Try.ntmps131
  go_wp2_with (first | ((with_reducible refine gate_dst (N := 1) rfl ?_); refine bE (N := 1) (cs := #[.int .i64 a0_0, .int .i64 a0_1, .int .i64 a0_2, .int .i64 a0_3]) (t := 90) ?_; intro gb526 hg w18 hbox hb; have n0_ := Aside0.mk (below_step bA hb); have n1_ := Aside0.mk (hbox); have n2_ := Aside0.mk ((by rw [hg]; exact (below_size bA) : w.heap.size ≤ gb526)); have n3_ := Aside0.mk ((by rw [hg]; exact (below_size bA) : w.heap.size ≤ gb526)); clear HB; have HB := n0_; have BK526 := n1_; have GW526 := n2_; have GE526 := n3_; clear n0_ n1_ n2_ n3_; clear hb hbox hg; have hcz19_0 : w18.cell? ⟨gb526, 0, none⟩ = some (.int .i64 a0_0) := bC BK526 0; have hcz19_1 : w18.cell? ⟨gb526, 1, none⟩ = some (.int .i64 a0_1) := bC BK526 1; have hcz19_2 : w18.cell? ⟨gb526, 2, none⟩ = some (.int .i64 a0_2) := bC BK526 2; have hcz19_3 : w18.cell? ⟨gb526, 3, none⟩ = some (.int .i64 a0_3) := bC BK526 3; have hfz19_0 := blk_frozen BK526.out 0; have hfz19_1 := blk_frozen BK526.out 1; have hfz19_2 := blk_frozen BK526.out 2; have hfz19_3 := blk_frozen BK526.out 3) | ((with_reducible refine gate_callee (f := 112) rfl ?_); refine gL (some 4) Try.func112 #[.agg #[.int .i64 a0_0, .int .i64 a0_1, .int .i64 a0_2, .int .i64 a0_3]] ?_; (with_reducible refine (impl_IsPath.calls a0_0 a0_1 a0_2 a0_3 false _ A2.out).mono ?_); rintro e w20 ⟨rfl, hb⟩; refine ⟨_, rfl, ?_⟩; replace BK526 := Aside0.mk (blk_below (g := gb526) (bK BK526) hb); replace HB := Aside0.mk (below_step bG hb); (try clear hb); (try clear hb2); (try clear hk); (try clear hi)))
  go_ret
  exact ⟨rA, bG⟩

/-! ### impl_ClearBetween: function 101 -/
mutual
def impl_ClearBetween.j0 : Nat → List (S90) → List Int → List Int → Int → Bool → Option (Int)
 | 0, _, _, _, _, _ => none
 | k + 1, x0, x1, x2, x7, x22 => if x22 = true then (some x7) else ((impl_Closes.f k x1 x2).bind fun t530 => (impl_ClearBetween.l0 k x0 x1 x2 x7 t530 (t530.length : Int) 0))
def impl_ClearBetween.l0 : Nat → List (S90) → List Int → List Int → Int → List Int → Int → Int → Option (Int)
 | 0, _, _, _, _, _, _, _ => none
 | k + 1, x0, x1, x2, x7, x26, x27, x28 => if x28 < x27 then (if 0 ≤ x28 then (if x28 < (x26.length : Int) then ((impl_Closes.f k x2 x1).bind fun t534 => (impl_ClearBetween.l1 k x0 x1 x2 x7 (rd x26 x28) x26 x27 x28 t534 (t534.length : Int) 0)) else (none)) else (none)) else (some x7)
def impl_ClearBetween.l1 : Nat → List (S90) → List Int → List Int → Int → Int → List Int → Int → Int → List Int → Int → Int → Option (Int)
 | 0, _, _, _, _, _, _, _, _, _, _, _ => none
 | k + 1, x0, x1, x2, x7, x9, x26, x27, x28, x34, x35, x36 => if x36 < x35 then (if 0 ≤ x36 then (if x36 < (x34.length : Int) then ((impl_FindPath.f x0 x9).bind fun t538 => (if 0 ≤ t538 then (if t538 < (x0.length : Int) then ((impl_FindPath.f x0 (rd x34 x36)).bind fun t541 => (if 0 ≤ t541 then (if t541 < (x0.length : Int) then ((impl_Conflict.f k ((rd_T90 x0 t538).f0) ((rd_T90 x0 t538).f1) ((rd_T90 x0 t538).f2) ((rd_T90 x0 t538).f3) ((rd_T90 x0 t541).f0) ((rd_T90 x0 t541).f1) ((rd_T90 x0 t541).f2) ((rd_T90 x0 t541).f3)).bind fun t543 => (if t543 = true then ((impl_ClearOf.f ((rd_T90 x0 t538).f0) ((rd_T90 x0 t538).f1) ((rd_T90 x0 t538).f2) ((rd_T90 x0 t538).f3)).bind fun t544 => (impl_ClearBetween.l1 k x0 x1 x2 (mx x7 t544) x9 x26 x27 x28 x34 x35 (wrap64 (x36 + 1)))) else (impl_ClearBetween.l1 k x0 x1 x2 x7 x9 x26 x27 x28 x34 x35 (wrap64 (x36 + 1))))) else (none)) else (none))) else (none)) else (none))) else (none)) else (none)) else (impl_ClearBetween.l0 k x0 x1 x2 x7 x26 x27 (wrap64 (x28 + 1)))
end
def impl_ClearBetween.f (k : Nat) (l0 : List (S90)) (l1 : List Int) (l2 : List Int) : Option (Int) := (impl_IsTogether.f k l0 l1).bind fun t528 => (if t528 = true then ((impl_IsTogether.f k l0 l2).bind fun t529 => (impl_ClearBetween.j0 k l0 l1 l2 0 (!t529))) else (impl_ClearBetween.j0 k l0 l1 l2 0 true))
theorem impl_ClearBetween.mono_l : ∀ k, (∀ y0 y1 y2 y3 y4, LeO (impl_ClearBetween.j0 k y0 y1 y2 y3 y4) (impl_ClearBetween.j0 (k + 1) y0 y1 y2 y3 y4)) ∧ (∀ y0 y1 y2 y3 y4 y5 y6, LeO (impl_ClearBetween.l0 k y0 y1 y2 y3 y4 y5 y6) (impl_ClearBetween.l0 (k + 1) y0 y1 y2 y3 y4 y5 y6)) ∧ (∀ y0 y1 y2 y3 y4 y5 y6 y7 y8 y9 y10, LeO (impl_ClearBetween.l1 k y0 y1 y2 y3 y4 y5 y6 y7 y8 y9 y10) (impl_ClearBetween.l1 (k + 1) y0 y1 y2 y3 y4 y5 y6 y7 y8 y9 y10))
 | 0 => ⟨fun _ _ _ _ _ r h => by simp [impl_ClearBetween.j0] at h, fun _ _ _ _ _ _ _ r h => by simp [impl_ClearBetween.l0] at h, fun _ _ _ _ _ _ _ _ _ _ _ r h => by simp [impl_ClearBetween.l1] at h⟩
 | k + 1 => by
  obtain ⟨ih0, ih1, ih2⟩ := impl_ClearBetween.mono_l k
  refine ⟨?_, ?_, ?_⟩
  ·
   intro y0 y1 y2 y3 y4
   unfold impl_ClearBetween.j0
   repeat' first | (with_reducible first | exact LeO.refl _ | exact LeO.none _ | refine LeO.ite ?_ ?_ | refine LeO.bind ?_ (fun _ => ?_) | exact ih0 _ _ _ _ _ | exact ih1 _ _ _ _ _ _ _ | exact ih2 _ _ _ _ _ _ _ _ _ _ _ | exact impl_Closes.mono _ _ _ | exact impl_Conflict.mono _ _ _ _ _ _ _ _ _ | exact impl_IsTogether.mono _ _ _) | exact LeO.none _ | refine LeO.ite ?_ ?_ | refine LeO.bind ?_ (fun _ => ?_) | exact ih0 _ _ _ _ _ | exact ih1 _ _ _ _ _ _ _ | exact ih2 _ _ _ _ _ _ _ _ _ _ _ | exact impl_Closes.mono _ _ _ | exact impl_Conflict.mono _ _ _ _ _ _ _ _ _ | exact impl_IsTogether.mono _ _ _
  ·
   intro y0 y1 y2 y3 y4 y5 y6
   unfold impl_ClearBetween.l0
   repeat' first | (with_reducible first | exact LeO.refl _ | exact LeO.none _ | refine LeO.ite ?_ ?_ | refine LeO.bind ?_ (fun _ => ?_) | exact ih0 _ _ _ _ _ | exact ih1 _ _ _ _ _ _ _ | exact ih2 _ _ _ _ _ _ _ _ _ _ _ | exact impl_Closes.mono _ _ _ | exact impl_Conflict.mono _ _ _ _ _ _ _ _ _ | exact impl_IsTogether.mono _ _ _) | exact LeO.none _ | refine LeO.ite ?_ ?_ | refine LeO.bind ?_ (fun _ => ?_) | exact ih0 _ _ _ _ _ | exact ih1 _ _ _ _ _ _ _ | exact ih2 _ _ _ _ _ _ _ _ _ _ _ | exact impl_Closes.mono _ _ _ | exact impl_Conflict.mono _ _ _ _ _ _ _ _ _ | exact impl_IsTogether.mono _ _ _
  ·
   intro y0 y1 y2 y3 y4 y5 y6 y7 y8 y9 y10
   unfold impl_ClearBetween.l1
   repeat' first | (with_reducible first | exact LeO.refl _ | exact LeO.none _ | refine LeO.ite ?_ ?_ | refine LeO.bind ?_ (fun _ => ?_) | exact ih0 _ _ _ _ _ | exact ih1 _ _ _ _ _ _ _ | exact ih2 _ _ _ _ _ _ _ _ _ _ _ | exact impl_Closes.mono _ _ _ | exact impl_Conflict.mono _ _ _ _ _ _ _ _ _ | exact impl_IsTogether.mono _ _ _) | exact LeO.none _ | refine LeO.ite ?_ ?_ | refine LeO.bind ?_ (fun _ => ?_) | exact ih0 _ _ _ _ _ | exact ih1 _ _ _ _ _ _ _ | exact ih2 _ _ _ _ _ _ _ _ _ _ _ | exact impl_Closes.mono _ _ _ | exact impl_Conflict.mono _ _ _ _ _ _ _ _ _ | exact impl_IsTogether.mono _ _ _
theorem impl_ClearBetween.mono : ∀ a0 a1 a2 k, LeO (impl_ClearBetween.f k a0 a1 a2) (impl_ClearBetween.f (k + 1) a0 a1 a2) := by
 intro a0 a1 a2 k
 obtain ⟨ih0, ih1, ih2⟩ := impl_ClearBetween.mono_l k
 unfold impl_ClearBetween.f
 repeat' first | (with_reducible first | exact LeO.refl _ | exact LeO.none _ | refine LeO.ite ?_ ?_ | refine LeO.bind ?_ (fun _ => ?_) | exact ih0 _ _ _ _ _ | exact ih1 _ _ _ _ _ _ _ | exact ih2 _ _ _ _ _ _ _ _ _ _ _ | exact impl_Closes.mono _ _ _ | exact impl_Conflict.mono _ _ _ _ _ _ _ _ _ | exact impl_IsTogether.mono _ _ _) | exact LeO.none _ | refine LeO.ite ?_ ?_ | refine LeO.bind ?_ (fun _ => ?_) | exact ih0 _ _ _ _ _ | exact ih1 _ _ _ _ _ _ _ | exact ih2 _ _ _ _ _ _ _ _ _ _ _ | exact impl_Closes.mono _ _ _ | exact impl_Conflict.mono _ _ _ _ _ _ _ _ _ | exact impl_IsTogether.mono _ _ _
def impl_ClearBetween.T11 : Bool × List (List Nat × List Nat) := (true, [([], []), ([], []), ([], []), ([], []), ([2, 3], [2, 3]), ([1, 4], [1, 4]), ([5], [5]), ([0, 6, 4], [0, 6])])
def impl_ClearBetween.B11 : List Nat := [0, 0, 0, 0, 12, 30, 62, 127]
theorem impl_ClearBetween.tab11 : rtab .any (opsOf Try.f101 11) = impl_ClearBetween.T11 := by kernel_rfl
theorem impl_ClearBetween.bits11 : waitsOk impl_ClearBetween.T11.2 impl_ClearBetween.B11 = true := by kernel_rfl
set_option maxHeartbeats 8000000 in
set_option maxRecDepth 100000 in
theorem impl_ClearBetween.calls (k : Nat) (A0 : Option Addr) (c0 : Nat) (l0 : List (S90)) (A1 : Option Addr) (c1 : Nat) (l1 : List Int) (A2 : Option Addr) (c2 : Nat) (l2 : List Int) (r : Int) (w : World) (hr0 : Kd.C k90 w A0 l0.length l0) (hc0 : l0.length ≤ c0) (hr1 : Kd.C (Kd.int .i64) w A1 l1.length l1) (hc1 : l1.length ≤ c1) (hr2 : Kd.C (Kd.int .i64) w A2 l2.length l2) (hc2 : l2.length ≤ c2) (h : impl_ClearBetween.f k l0 l1 l2 = some r) :
  Calls Try.prog 101 #[.slice A0 l0.length c0, .slice A1 l1.length c1, .slice A2 l2.length c2] w fun e w' => e = .returned (.int .i64 r) ∧ Below w.heap.size w w' := by
 have hu90 := Try.underlying90
 have HR0 := Aside0.mk hr0
 have HC0 := Aside0.mk hc0
 clear hr0 hc0
 have HR1 := Aside0.mk hr1
 have HC1 := Aside0.mk hc1
 clear hr1 hc1
 have HR2 := Aside0.mk hr2
 have HC2 := Aside0.mk hc2
 clear hr2 hc2
 have HB := Aside0.mk (Below.refl w.heap.size w)
 have H : ((impl_IsTogether.f k l0 l1).bind fun t528 => (if t528 = true then ((impl_IsTogether.f k l0 l2).bind fun t529 => (impl_ClearBetween.j0 k l0 l1 l2 0 (!t529))) else (impl_ClearBetween.j0 k l0 l1 l2 0 true))) = some r := h
 clear h
 have HC4 := Aside0.mk H
 clear H
 go_enter Try.func101, Try.ntmps101
 go_upto_region 2 with (fail)
 go_cut [22] (fun v22 wc => ∃ (kq : Nat) (x22_3 : Bool), v22 = .bool x22_3 ∧ Aside0 (impl_ClearBetween.j0 kq l0 l1 l2 0 x22_3 = some r) ∧ Aside0 (kq ≤ k) ∧ Aside0 (Below w.heap.size w wc))
 case first =>
  have H := HC4.out
  clear HC4
  obtain ⟨t528, A5, H⟩ := bindE H
  try dsimp only at H
  by_cases c6 : t528 = true
  ·
   subst c6
   have H1 : ((impl_IsTogether.f k l0 l2).bind fun t529 => (impl_ClearBetween.j0 k l0 l1 l2 0 (!t529))) = some r := by rw [if_pos rfl] at H; exact H
   clear H
   have H := H1
   clear H1
   obtain ⟨t529, A7, H⟩ := bindE H
   try dsimp only at H
   have H' := Aside0.mk H
   clear H
   go_wp2_with (first | ((with_reducible refine gate_callee (f := 100) rfl ?_); refine gL (some 15) Try.func100 #[.slice A0 l0.length c0, .slice A1 l1.length c1] ?_; (with_reducible refine (impl_IsTogether.calls k _ _ l0 _ _ l1 true _ ?side1 ?side2 ?side3 ?side4 A5.out).mono ?_); (case side1 => exact cB HR0); (case side2 => exact HC0.out); (case side3 => exact cB HR1); (case side4 => exact HC1.out); rintro e w8 ⟨rfl, hb⟩; refine ⟨_, rfl, ?_⟩; replace HB := Aside0.mk (below_step bA hb); (try clear hb); (try clear hb2); (try clear hk); (try clear hi)) | (go_at_call 100; (with_reducible refine (impl_IsTogether.calls k _ _ l0 _ _ l2 t529 _ ?side1 ?side2 ?side3 ?side4 A7.out).mono ?_); (case side1 => exact cB HR0); (case side2 => exact HC0.out); (case side3 => exact cB HR2); (case side4 => exact HC2.out); rintro e w9 ⟨rfl, hb⟩; replace HB := Aside0.mk (below_step bA hb); (try clear hb); (try clear hb2); (try clear hk); (try clear hi)))
   go_meet
   case rel => exact ⟨_, (!t529), rS, H', ⟨by first | omega | exact Nat.le_refl _⟩, ⟨bA⟩⟩
  ·
   replace c6 := Bool.eq_false_iff.mpr c6
   subst c6
   have H1 : (impl_ClearBetween.j0 k l0 l1 l2 0 true) = some r := by rw [if_neg (show ¬ (false = true) by decide)] at H; exact H
   clear H
   have H := H1
   clear H1
   have H' := Aside0.mk H
   clear H
   go_wp2_with (first | ((with_reducible refine gate_callee (f := 100) rfl ?_); refine gL (some 15) Try.func100 #[.slice A0 l0.length c0, .slice A1 l1.length c1] ?_; (with_reducible refine (impl_IsTogether.calls k _ _ l0 _ _ l1 false _ ?side1 ?side2 ?side3 ?side4 A5.out).mono ?_); (case side1 => exact cB HR0); (case side2 => exact HC0.out); (case side3 => exact cB HR1); (case side4 => exact HC1.out); rintro e w10 ⟨rfl, hb⟩; refine ⟨_, rfl, ?_⟩; replace HB := Aside0.mk (below_step bA hb); (try clear hb); (try clear hb2); (try clear hk); (try clear hi)))
   go_meet
   case rel => exact ⟨_, (true), rS, H', ⟨by first | omega | exact Nat.le_refl _⟩, ⟨bA⟩⟩
 case rest =>
  clear HC4
  try clear c1
  try clear c2
  try clear p2
  try clear c6
  try clear c10
  obtain ⟨kq, x22_3, rfl, HA, HJ3, HB⟩ := hcut
  cases kq with
  | zero => exact absurd HA.out (by simp [impl_ClearBetween.j0])
  | succ kj3 =>
   have H := HA.out
   clear HA
   simp only [impl_ClearBetween.j0] at H
   by_cases c11 : x22_3 = true
   ·
    subst c11
    have H1 : (some 0) = some r := by rw [if_pos rfl] at H; exact H
    clear H
    have H := H1
    clear H1
    obtain rfl := Option.some.inj H
    go_wp2
    go_ret
    exact ⟨rA, bA⟩
   ·
    replace c11 := Bool.eq_false_iff.mpr c11
    subst c11
    have H1 : ((impl_Closes.f kj3 l1 l2).bind fun t530 => (impl_ClearBetween.l0 kj3 l0 l1 l2 0 t530 (t530.length : Int) 0)) = some r := by rw [if_neg (show ¬ (false = true) by decide)] at H; exact H
    clear H
    have H := H1
    clear H1
    obtain ⟨t530, A12, H⟩ := bindE H
    try dsimp only at H
    have H' := Aside0.mk H
    clear H
    go_wp2_with (first | ((with_reducible refine gate_callee (f := 130) rfl ?_); refine gL (some 26) Try.func130 #[.slice A1 l1.length c1, .slice A2 l2.length c2] ?_; (with_reducible refine (impl_Closes.calls kj3 _ _ l1 _ _ l2 t530 _ ?side1 ?side2 ?side3 ?side4 A12.out).mono ?_); (case side1 => exact cB HR1); (case side2 => exact HC1.out); (case side3 => exact cB HR2); (case side4 => exact HC2.out); rintro e w13 ⟨v531, rfl, ho0, hb⟩; refine ⟨_, rfl, ?_⟩; have HO532 := Aside0.mk (Kd.R_lower ho0 (below_size bA)); replace HB := Aside0.mk (below_step bA hb); (try clear hb); (try clear hb2); (try clear hk); (try clear hi); (try clear ho0); obtain ⟨Ao14, co14, eo14⟩ := Kd.R_slice HO532.out; subst eo14))
    go_loopg [7, 28] kj3 (fun kq v7 v28 w' => ∃ (x7_2 : Int) (x28_2 : Int), v7 = .int .i64 x7_2 ∧ v28 = .int .i64 x28_2 ∧ Aside0 (impl_ClearBetween.l0 kq l0 l1 l2 x7_2 t530 (t530.length : Int) x28_2 = some r) ∧ Aside0 (kq ≤ kj3) ∧ Aside0 (Kd.R (Kd.int .i64) 3 w' w.heap.size (fun _ => True) (.slice Ao14 t530.length co14) t530) ∧ Aside0 (Below w.heap.size w w'))
    case atStart => exact ⟨(0), (0), rS, rS, H', ⟨Nat.le_refl _⟩, ⟨rK HO532⟩, ⟨bA⟩⟩
    case round =>
     clear H'
     try clear c1
     try clear c2
     try clear p2
     try clear c6
     try clear c10
     try clear c11
     try clear c13
     try clear p2
     obtain ⟨x7_2, x28_2, rfl, rfl, HA, HK2, HO_26, HB⟩ := hrel
     cases gk with
     | zero => exact absurd HA.out (by simp [impl_ClearBetween.l0])
     | succ k2 =>
      have H := HA.out
      clear HA
      simp only [impl_ClearBetween.l0] at H
      by_cases c15 : x28_2 < (t530.length : Int)
      ·
       rw [if_pos c15] at H
       have c15b0 : decide (x28_2 < (t530.length : Int)) = true := decide_eq_true c15
       clear c15
       have c16 : 0 ≤ x28_2 := ifN H
       replace H := ifT H
       have c16b0 : decide (0 ≤ x28_2) = true := decide_eq_true c16
       clear c16
       have c17 : x28_2 < (t530.length : Int) := ifN H
       replace H := ifT H
       have c17b0 : decide (x28_2 < (t530.length : Int)) = true := decide_eq_true c17
       clear c17
       obtain ⟨t534, A18, H⟩ := bindE H
       try dsimp only at H
       have H' := Aside0.mk H
       clear H
       have p533 : 0 ≤ (x28_2 : Int) := dA
       have q533 : x28_2 < (t530.length : Int) := dA
       obtain ⟨ad533, e533, hx533_0⟩ := Kd.at_int (Kd.R_reads' HO_26.out).2.2 x28_2 p533 q533
       cases e533
       replace p533 := eq_true p533
       replace q533 := eq_true q533
       go_wp2_with (first | ((with_reducible refine gate_callee (f := 130) rfl ?_); refine gL (some 34) Try.func130 #[.slice A2 l2.length c2, .slice A1 l1.length c1] ?_; (with_reducible refine (impl_Closes.calls k2 _ _ l2 _ _ l1 t534 _ ?side1 ?side2 ?side3 ?side4 A18.out).mono ?_); (case side1 => exact cB HR2); (case side2 => exact HC2.out); (case side3 => exact cB HR1); (case side4 => exact HC1.out); rintro e w19 ⟨v535, rfl, ho0, hb⟩; refine ⟨_, rfl, ?_⟩; have HO536 := Aside0.mk (Kd.R_lower (Kd.R_new' ho0 (Kd.R_lt (rK HO_26))) (below_size bA)); replace HO_26 := Aside0.mk (Kd.R_elder' (rK HO_26) (Kd.R_base ho0) hb); replace HB := Aside0.mk (below_step bA hb); (try clear hb); (try clear hb2); (try clear hk); (try clear hi); (try clear ho0); obtain ⟨Ao20, co20, eo20⟩ := Kd.R_slice HO536.out; subst eo20))
       go_loopg [7, 36] k2 (fun kq v7 v36 w' => ∃ (x7_3 : Int) (x36_3 : Int), v7 = .int .i64 x7_3 ∧ v36 = .int .i64 x36_3 ∧ Aside0 (impl_ClearBetween.l1 kq l0 l1 l2 x7_3 (rd t530 x28_2) t530 (t530.length : Int) x28_2 t534 (t534.length : Int) x36_3 = some r) ∧ Aside0 (kq ≤ k2) ∧ Aside0 (Kd.R (Kd.int .i64) 3 w' w.heap.size (fun k_ => some k_ ≠ ((.slice Ao20 t534.length co20) : Value).ownBlock) (.slice (some ad533) t530.length co14) t530) ∧ Aside0 (Kd.R (Kd.int .i64) 3 w' w.heap.size (fun k_ => some k_ ≠ ((.slice (some ad533) t530.length co14) : Value).ownBlock) (.slice Ao20 t534.length co20) t534) ∧ Aside0 (Below w.heap.size w w'))
       case atStart => exact ⟨(x7_2), (0), rS, rS, H', ⟨Nat.le_refl _⟩, ⟨by (with_reducible repeat (first | apply Kd.R_alloc | apply Kd.R_drewN | apply Kd.R_drew)); exact Kd.R_mono HO_26.out (fun _ hk => hk.2)⟩, ⟨by (with_reducible repeat (first | apply Kd.R_alloc | apply Kd.R_drewN | apply Kd.R_drew)); exact Kd.R_mono HO536.out (fun _ hk => hk.2)⟩, ⟨bA⟩⟩
       case round =>
        clear H'
        try clear c1
        try clear c2
        try clear p2
        try clear p5
        try clear q5
        try clear hx5
        try clear c6
        try clear c10
        try clear c11
        try clear c13
        try clear c15
        try clear c15b0
        try clear c16
        try clear c16b0
        try clear c17
        try clear c17b0
        try clear hx533_0
        try clear p2
        try clear p533
        try clear q533
        obtain ⟨x7_3, x36_3, rfl, rfl, HA, HK3, HO_26, HO_34, HB⟩ := hrel
        cases gk with
        | zero => exact absurd HA.out (by simp [impl_ClearBetween.l1])
        | succ k3 =>
         have H := HA.out
         clear HA
         simp only [impl_ClearBetween.l1] at H
         by_cases c21 : x36_3 < (t534.length : Int)
         ·
          rw [if_pos c21] at H
          have c21b0 : decide (x36_3 < (t534.length : Int)) = true := decide_eq_true c21
          clear c21
          have c22 : 0 ≤ x36_3 := ifN H
          replace H := ifT H
          have c22b0 : decide (0 ≤ x36_3) = true := decide_eq_true c22
          clear c22
          have c23 : x36_3 < (t534.length : Int) := ifN H
          replace H := ifT H
          have c23b0 : decide (x36_3 < (t534.length : Int)) = true := decide_eq_true c23
          clear c23
          obtain ⟨t538, A24, H⟩ := bindE H
          try dsimp only at H
          have c25 : 0 ≤ t538 := ifN H
          replace H := ifT H
          have c25b0 : decide (0 ≤ t538) = true := decide_eq_true c25
          clear c25
          have c26 : t538 < (l0.length : Int) := ifN H
          replace H := ifT H
          have c26b0 : decide (t538 < (l0.length : Int)) = true := decide_eq_true c26
          clear c26
          obtain ⟨t541, A27, H⟩ := bindE H
          try dsimp only at H
          have c28 : 0 ≤ t541 := ifN H
          replace H := ifT H
          have c28b0 : decide (0 ≤ t541) = true := decide_eq_true c28
          clear c28
          have c29 : t541 < (l0.length : Int) := ifN H
          replace H := ifT H
          have c29b0 : decide (t541 < (l0.length : Int)) = true := decide_eq_true c29
          clear c29
          obtain ⟨t543, A30, H⟩ := bindE H
          try dsimp only at H
          by_cases c31 : t543 = true
          ·
           subst c31
           have H1 : ((impl_ClearOf.f ((rd_T90 l0 t538).f0) ((rd_T90 l0 t538).f1) ((rd_T90 l0 t538).f2) ((rd_T90 l0 t538).f3)).bind fun t544 => (impl_ClearBetween.l1 k3 l0 l1 l2 (mx x7_3 t544) (rd t530 x28_2) t530 (t530.length : Int) x28_2 t534 (t534.length : Int) (wrap64 (x36_3 + 1)))) = some r := by rw [if_pos rfl] at H; exact H
           clear H
           have H := H1
           clear H1
           obtain ⟨t544, A32, H⟩ := bindE H
           try dsimp only at H
           obtain ⟨ji33, hji33⟩ : ∃ j_ : Int, (mx x7_3 t544) = j_ := ⟨_, rfl⟩
           replace H : (impl_ClearBetween.l1 k3 l0 l1 l2 ji33 (rd t530 x28_2) t530 (t530.length : Int) x28_2 t534 (t534.length : Int) (wrap64 (x36_3 + 1))) = some r := by first | (rw [hji33] at H; exact H) | (simp only [hji33] at H ⊢; exact H)
           (try rw [hji33] at A24)
           (try rw [hji33] at A27)
           (try rw [hji33] at A30)
           (try rw [hji33] at A32)
           have hji33_ : (if x7_3 < t544 then t544 else x7_3) = ji33 := hji33
           have H' := Aside0.mk H
           clear H
           have p537 : 0 ≤ (x36_3 : Int) := dA
           have q537 : x36_3 < (t534.length : Int) := dA
           obtain ⟨ad537, e537, hx537_0⟩ := Kd.at_int (Kd.R_reads' HO_34.out).2.2 x36_3 p537 q537
           cases e537
           replace p537 := eq_true p537
           replace q537 := eq_true q537
           try go_wp2_with (first | ((with_reducible refine gate_callee (f := 84) rfl ?_); refine gL (some 43) Try.func84 #[.slice A0 l0.length c0, .int .i64 (rd t530 x28_2)] ?_; (with_reducible refine (impl_FindPath.calls _ _ l0 (rd t530 x28_2) t538 _ ?side1 ?side2 A24.out).mono ?_); (case side1 => exact cB HR0); (case side2 => exact HC0.out); rintro e w34 ⟨rfl, hb⟩; refine ⟨_, rfl, ?_⟩; replace HO_26 := Aside0.mk (Kd.R_below (rK HO_26) hb); replace HO_34 := Aside0.mk (Kd.R_below (rK HO_34) hb); replace HB := Aside0.mk (below_step bA hb); (try clear hb); (try clear hb2); (try clear hk); (try clear hi); have p539 : 0 ≤ (t538 : Int) := dA; have q539 : t538 < (l0.length : Int) := dA; obtain ⟨ad539, e539, hx539_0, hx539_1, hx539_2, hx539_3⟩ := at_T90 HR0.out t538 p539 q539; cases e539; replace hx539_0 := hC HB hx539_0; replace hx539_1 := hC HB hx539_1; replace hx539_2 := hC HB hx539_2; replace hx539_3 := hC HB hx539_3; replace p539 := eq_true p539; replace q539 := eq_true q539) | ((with_reducible refine gate_dst (N := 12) rfl ?_); refine bE (N := 12) (cs := #[.int .i64 0, .int .i64 0, .int .i64 0, .int .i64 0]) (t := 90) ?_; intro gb540 hg w35 hbox hb; have n0_ := Aside0.mk (Kd.R_below (rK HO_26) hb); have n1_ := Aside0.mk (Kd.R_below (rK HO_34) hb); have n2_ := Aside0.mk (below_step bA hb); have n3_ := Aside0.mk (hbox); have n4_ := Aside0.mk ((by rw [hg]; exact (below_size bA) : w.heap.size ≤ gb540)); have n5_ := Aside0.mk ((by rw [hg]; exact (below_size bA) : w.heap.size ≤ gb540)); clear HO_26; clear HO_34; clear HB; have HO_26 := n0_; have HO_34 := n1_; have HB := n2_; have BK540 := n3_; have GW540 := n4_; have GE540 := n5_; clear n0_ n1_ n2_ n3_ n4_ n5_; clear hb hbox hg; obtain ⟨hcz36_0, hcz36_1, hcz36_2, hcz36_3, hfz36_0, hfz36_1, hfz36_2, hfz36_3⟩ := blkc4 BK540))
           have n0_ : Aside0 (Kd.R (Kd.int .i64) 3 ((((w35.setCell ⟨gb540, 0, none⟩ (.int .i64 ((rd_T90 l0 t538).f0))).setCell ⟨gb540, 1, none⟩ (.int .i64 ((rd_T90 l0 t538).f1))).setCell ⟨gb540, 2, none⟩ (.int .i64 ((rd_T90 l0 t538).f2))).setCell ⟨gb540, 3, none⟩ (.int .i64 ((rd_T90 l0 t538).f3))) w.heap.size (fun k_ => some k_ ≠ (.slice (some ad537) t534.length co20 : Value).ownBlock) (.slice (some ad533) t530.length co14) t530) := ⟨by (with_reducible repeat (first | apply Kd.R_alloc | apply Kd.R_drewN | apply Kd.R_drew)); exact Kd.R_mono (Kd.R_far (p := ⟨gb540, 3, none⟩) (Kd.R_far (p := ⟨gb540, 2, none⟩) (Kd.R_far (p := ⟨gb540, 1, none⟩) (Kd.R_far (p := ⟨gb540, 0, none⟩) (Kd.R_types HO_26.out BK540.out (by decide)) (fun _ hk => hk.2) (.int .i64 ((rd_T90 l0 t538).f0))) (fun _ hk => hk.2) (.int .i64 ((rd_T90 l0 t538).f1))) (fun _ hk => hk.2) (.int .i64 ((rd_T90 l0 t538).f2))) (fun _ hk => hk.2) (.int .i64 ((rd_T90 l0 t538).f3))) (fun _ hk => hk.1)⟩
           have n1_ : Aside0 (Kd.R (Kd.int .i64) 3 ((((w35.setCell ⟨gb540, 0, none⟩ (.int .i64 ((rd_T90 l0 t538).f0))).setCell ⟨gb540, 1, none⟩ (.int .i64 ((rd_T90 l0 t538).f1))).setCell ⟨gb540, 2, none⟩ (.int .i64 ((rd_T90 l0 t538).f2))).setCell ⟨gb540, 3, none⟩ (.int .i64 ((rd_T90 l0 t538).f3))) w.heap.size (fun k_ => some k_ ≠ (.slice (some ad533) t530.length co14 : Value).ownBlock) (.slice (some ad537) t534.length co20) t534) := ⟨by (with_reducible repeat (first | apply Kd.R_alloc | apply Kd.R_drewN | apply Kd.R_drew)); exact Kd.R_mono (Kd.R_far (p := ⟨gb540, 3, none⟩) (Kd.R_far (p := ⟨gb540, 2, none⟩) (Kd.R_far (p := ⟨gb540, 1, none⟩) (Kd.R_far (p := ⟨gb540, 0, none⟩) (Kd.R_types HO_34.out BK540.out (by decide)) (fun _ hk => hk.2) (.int .i64 ((rd_T90 l0 t538).f0))) (fun _ hk => hk.2) (.int .i64 ((rd_T90 l0 t538).f1))) (fun _ hk => hk.2) (.int .i64 ((rd_T90 l0 t538).f2))) (fun _ hk => hk.2) (.int .i64 ((rd_T90 l0 t538).f3))) (fun _ hk => hk.1)⟩
           have n2_ : Aside0 (((((w35.setCell ⟨gb540, 0, none⟩ (.int .i64 ((rd_T90 l0 t538).f0))).setCell ⟨gb540, 1, none⟩ (.int .i64 ((rd_T90 l0 t538).f1))).setCell ⟨gb540, 2, none⟩ (.int .i64 ((rd_T90 l0 t538).f2))).setCell ⟨gb540, 3, none⟩ (.int .i64 ((rd_T90 l0 t538).f3))).heap[gb540]? = some (.cells #[.int .i64 ((rd_T90 l0 t538).f0), .int .i64 ((rd_T90 l0 t538).f1), .int .i64 ((rd_T90 l0 t538).f2), .int .i64 ((rd_T90 l0 t538).f3)] 90 (0, 0))) := ⟨by (with_reducible repeat (first | refine blk_drewN ?_ _ | refine blk_drew ?_ | refine blk_alloc ?_ _)); refine blk_put (cs := #[.int .i64 ((rd_T90 l0 t538).f0), .int .i64 ((rd_T90 l0 t538).f1), .int .i64 ((rd_T90 l0 t538).f2), .int .i64 0]) ?_ 3 _ rfl; (with_reducible repeat (first | refine blk_drewN ?_ _ | refine blk_drew ?_ | refine blk_alloc ?_ _)); refine blk_put (cs := #[.int .i64 ((rd_T90 l0 t538).f0), .int .i64 ((rd_T90 l0 t538).f1), .int .i64 0, .int .i64 0]) ?_ 2 _ rfl; (with_reducible repeat (first | refine blk_drewN ?_ _ | refine blk_drew ?_ | refine blk_alloc ?_ _)); refine blk_put (cs := #[.int .i64 ((rd_T90 l0 t538).f0), .int .i64 0, .int .i64 0, .int .i64 0]) ?_ 1 _ rfl; (with_reducible repeat (first | refine blk_drewN ?_ _ | refine blk_drew ?_ | refine blk_alloc ?_ _)); refine blk_put (cs := #[.int .i64 0, .int .i64 0, .int .i64 0, .int .i64 0]) ?_ 0 _ rfl; (with_reducible repeat (first | refine blk_drewN ?_ _ | refine blk_drew ?_ | refine blk_alloc ?_ _)); exact BK540.out⟩
           have n3_ : Aside0 (Below w.heap.size w ((((w35.setCell ⟨gb540, 0, none⟩ (.int .i64 ((rd_T90 l0 t538).f0))).setCell ⟨gb540, 1, none⟩ (.int .i64 ((rd_T90 l0 t538).f1))).setCell ⟨gb540, 2, none⟩ (.int .i64 ((rd_T90 l0 t538).f2))).setCell ⟨gb540, 3, none⟩ (.int .i64 ((rd_T90 l0 t538).f3)))) := ⟨bG⟩
           (try clear HO_26)
           (try clear HO_34)
           (try clear BK540)
           (try clear HB)
           generalize ((((w35.setCell ⟨gb540, 0, none⟩ (.int .i64 ((rd_T90 l0 t538).f0))).setCell ⟨gb540, 1, none⟩ (.int .i64 ((rd_T90 l0 t538).f1))).setCell ⟨gb540, 2, none⟩ (.int .i64 ((rd_T90 l0 t538).f2))).setCell ⟨gb540, 3, none⟩ (.int .i64 ((rd_T90 l0 t538).f3))) = w37 at n0_ n1_ n2_ n3_ ⊢
           have HO_26 := n0_
           have HO_34 := n1_
           have BK540 := n2_
           have HB := n3_
           clear n0_ n1_ n2_ n3_
           replace HO_26 := Aside0.mk (Kd.R_drew HO_26.out)
           replace HO_34 := Aside0.mk (Kd.R_drew HO_34.out)
           replace BK540 := Aside0.mk (blk_drew BK540.out)
           have HBo := HB
           replace HB := Aside0.mk (below_drew1 HB.out)
           have p542 : 0 ≤ (t541 : Int) := dA
           have q542 : t541 < (l0.length : Int) := dA
           obtain ⟨ad542, e542, hx542_0, hx542_1, hx542_2, hx542_3⟩ := at_T90 HR0.out t541 p542 q542
           have hw542_3 := hx542_3
           have hw542_2 := hx542_2
           have hw542_1 := hx542_1
           have hw542_0 := hx542_0
           obtain rfl : ad539 = ad542 := (by injection e542)
           replace hx542_0 := hC HB hx542_0
           replace hx542_1 := hC HB hx542_1
           replace hx542_2 := hC HB hx542_2
           replace hx542_3 := hC HB hx542_3
           replace p542 := eq_true p542
           replace q542 := eq_true q542
           refine start_ (n := 8) (S := fun w' => w'.cell? ⟨gb540, 0, none⟩ = some (.int .i64 ((rd_T90 l0 t538).f0)) ∧ w'.cell? ⟨gb540, 1, none⟩ = some (.int .i64 ((rd_T90 l0 t538).f1)) ∧ w'.cell? ⟨gb540, 2, none⟩ = some (.int .i64 ((rd_T90 l0 t538).f2)) ∧ w'.cell? ⟨gb540, 3, none⟩ = some (.int .i64 ((rd_T90 l0 t538).f3)) ∧ w'.cell? (ad539.add ((t541).toNat * 4)) = some (.int .i64 ((rd_T90 l0 t541).f0)) ∧ w'.cell? ⟨(ad539.add ((t541).toNat * 4)).block, (ad539.add ((t541).toNat * 4)).off + 1, none⟩ = some (.int .i64 ((rd_T90 l0 t541).f1)) ∧ w'.cell? ⟨(ad539.add ((t541).toNat * 4)).block, (ad539.add ((t541).toNat * 4)).off + 2, none⟩ = some (.int .i64 ((rd_T90 l0 t541).f2)) ∧ w'.cell? ⟨(ad539.add ((t541).toNat * 4)).block, (ad539.add ((t541).toNat * 4)).off + 3, none⟩ = some (.int .i64 ((rd_T90 l0 t541).f3))) (ds := []) (mb 8 0) (by kernel_rfl) rfl rfl ⟨bC BK540 0, bC BK540 1, bC BK540 2, bC BK540 3, (hC HB hw542_0), (hC HB hw542_1), (hC HB hw542_2), (hC HB hw542_3)⟩ (fun hHeld => ?_); refine with_tabW impl_ClearBetween.tab11 impl_ClearBetween.bits11 (fun HT_ HW_ => ?_)
           generalize w37.drew = w38 at HO_26 HO_34 BK540 HB hx542_0 hx542_1 hx542_2 hx542_3 hHeld ⊢
           refine pA (i := 1) (N := some 47) (mb 8 2) HT_ ?_
           refine pA (i := 2) (N := some 48) (mb 8 6) HT_ ?_
           refine pA (i := 3) (N := some 49) (mb 8 14) HT_ ?_
           refine tA8 (i := 0) (N := some 46) (mb 8 15) HT_ HW_ hHeld ?_
           refine oA (i := 4) (N := some 50) (mb 8 31) HT_ (fun K hK => ?_)
           refine gA Try.func84 #[.slice (some ad539) l0.length c0, .int .i64 (rd t534 x36_3)] ?_
           with_reducible refine (impl_FindPath.calls _ _ l0 (rd t534 x36_3) t541 _ ?side1 ?side2 A27.out).mono ?_
           (case side1 => exact cB HR0)
           (case side2 => exact HC0.out)
           rintro e w39 ⟨rfl, hb⟩
           refine ⟨_, rfl, ?_⟩
           replace HO_26 := Aside0.mk (Kd.R_below (rK HO_26) hb)
           replace HO_34 := Aside0.mk (Kd.R_below (rK HO_34) hb)
           replace BK540 := Aside0.mk (blk_below (g := gb540) (bK BK540) hb)
           replace HB := Aside0.mk (below_step bG hb)
           (try clear hb)
           (try clear hb2)
           (try clear hk)
           (try clear hi)
           refine hK.out _ _ ⟨bC BK540 0, bC BK540 1, bC BK540 2, bC BK540 3, (hC HB hw542_0), (hC HB hw542_1), (hC HB hw542_2), (hC HB hw542_3)⟩ (fun hHeld => ?_)
           clear hK K
           refine nB ?_
           refine pA (i := 5) (N := some 51) (mb 8 63) HT_ ?_
           refine tA8 (i := 6) (N := some 52) (mb 8 127) HT_ HW_ hHeld ?_
           refine oA (i := 7) (N := some 53) (mb 8 255) HT_ (fun K hK => ?_)
           refine gA Try.func92 #[.agg #[.int .i64 ((rd_T90 l0 t538).f0), .int .i64 ((rd_T90 l0 t538).f1), .int .i64 ((rd_T90 l0 t538).f2), .int .i64 ((rd_T90 l0 t538).f3)], .agg #[.int .i64 ((rd_T90 l0 t541).f0), .int .i64 ((rd_T90 l0 t541).f1), .int .i64 ((rd_T90 l0 t541).f2), .int .i64 ((rd_T90 l0 t541).f3)]] ?_
           with_reducible refine (impl_Conflict.calls k3 ((rd_T90 l0 t538).f0) ((rd_T90 l0 t538).f1) ((rd_T90 l0 t538).f2) ((rd_T90 l0 t538).f3) ((rd_T90 l0 t541).f0) ((rd_T90 l0 t541).f1) ((rd_T90 l0 t541).f2) ((rd_T90 l0 t541).f3) true _ A30.out).mono ?_
           rintro e w40 ⟨rfl, hb⟩
           refine ⟨_, rfl, ?_⟩
           replace HO_26 := Aside0.mk (Kd.R_below (rK HO_26) hb)
           replace HO_34 := Aside0.mk (Kd.R_below (rK HO_34) hb)
           replace BK540 := Aside0.mk (blk_below (g := gb540) (bK BK540) hb)
           replace HB := Aside0.mk (below_step bG hb)
           (try clear hb)
           (try clear hb2)
           (try clear hk)
           (try clear hi)
           refine hK.out _ _ ⟨bC BK540 0, bC BK540 1, bC BK540 2, bC BK540 3, (hC HB hw542_0), (hC HB hw542_1), (hC HB hw542_2), (hC HB hw542_3)⟩ (fun hHeld => ?_)
           clear hK K
           refine nB ?_
           refine eA HT_ ?_
           obtain ⟨hcz41_0, hcz41_1, hcz41_2, hcz41_3, hfz41_0, hfz41_1, hfz41_2, hfz41_3⟩ := blkc4 BK540
           try go_wp2_with (first | ((with_reducible refine gate_callee (f := 131) rfl ?_); refine gL (some 56) Try.func131 #[.agg #[.int .i64 ((rd_T90 l0 t538).f0), .int .i64 ((rd_T90 l0 t538).f1), .int .i64 ((rd_T90 l0 t538).f2), .int .i64 ((rd_T90 l0 t538).f3)]] ?_; (with_reducible refine (impl_ClearOf.calls ((rd_T90 l0 t538).f0) ((rd_T90 l0 t538).f1) ((rd_T90 l0 t538).f2) ((rd_T90 l0 t538).f3) t544 _ A32.out).mono ?_); rintro e w42 ⟨rfl, hb⟩; refine ⟨_, rfl, ?_⟩; replace HO_26 := Aside0.mk (Kd.R_below (rK HO_26) hb); replace HO_34 := Aside0.mk (Kd.R_below (rK HO_34) hb); replace BK540 := Aside0.mk (blk_below (g := gb540) (bK BK540) hb); replace HB := Aside0.mk (below_step bG hb); (try clear hb); (try clear hb2); (try clear hk); (try clear hi)))
           go_roundg k3
           case measure => have := HJ3.out; have := HK2.out; have := HK3.out; omega
           case rel => exact ⟨(ji33), (wrap64 (x36_3 + 1)), (by first | rfl | (simp; done) | (simp only [← hji33] <;> (first | rfl | simp)) | (simp [*]; done)), rS, H', ⟨by have := HJ3.out; have := HK2.out; have := HK3.out; omega⟩, ⟨rK HO_26⟩, ⟨rK HO_34⟩, ⟨bG⟩⟩
          ·
           replace c31 := Bool.eq_false_iff.mpr c31
           subst c31
           have H1 : (impl_ClearBetween.l1 k3 l0 l1 l2 x7_3 (rd t530 x28_2) t530 (t530.length : Int) x28_2 t534 (t534.length : Int) (wrap64 (x36_3 + 1))) = some r := by rw [if_neg (show ¬ (false = true) by decide)] at H; exact H
           clear H
           have H := H1
           clear H1
           have H' := Aside0.mk H
           clear H
           have p537 : 0 ≤ (x36_3 : Int) := dA
           have q537 : x36_3 < (t534.length : Int) := dA
           obtain ⟨ad537, e537, hx537_0⟩ := Kd.at_int (Kd.R_reads' HO_34.out).2.2 x36_3 p537 q537
           cases e537
           replace p537 := eq_true p537
           replace q537 := eq_true q537
           try go_wp2_with (first | ((with_reducible refine gate_callee (f := 84) rfl ?_); refine gL (some 43) Try.func84 #[.slice A0 l0.length c0, .int .i64 (rd t530 x28_2)] ?_; (with_reducible refine (impl_FindPath.calls _ _ l0 (rd t530 x28_2) t538 _ ?side1 ?side2 A24.out).mono ?_); (case side1 => exact cB HR0); (case side2 => exact HC0.out); rintro e w43 ⟨rfl, hb⟩; refine ⟨_, rfl, ?_⟩; replace HO_26 := Aside0.mk (Kd.R_below (rK HO_26) hb); replace HO_34 := Aside0.mk (Kd.R_below (rK HO_34) hb); replace HB := Aside0.mk (below_step bA hb); (try clear hb); (try clear hb2); (try clear hk); (try clear hi); have p539 : 0 ≤ (t538 : Int) := dA; have q539 : t538 < (l0.length : Int) := dA; obtain ⟨ad539, e539, hx539_0, hx539_1, hx539_2, hx539_3⟩ := at_T90 HR0.out t538 p539 q539; cases e539; replace hx539_0 := hC HB hx539_0; replace hx539_1 := hC HB hx539_1; replace hx539_2 := hC HB hx539_2; replace hx539_3 := hC HB hx539_3; replace p539 := eq_true p539; replace q539 := eq_true q539) | ((with_reducible refine gate_dst (N := 12) rfl ?_); refine bE (N := 12) (cs := #[.int .i64 0, .int .i64 0, .int .i64 0, .int .i64 0]) (t := 90) ?_; intro gb540 hg w44 hbox hb; have n0_ := Aside0.mk (Kd.R_below (rK HO_26) hb); have n1_ := Aside0.mk (Kd.R_below (rK HO_34) hb); have n2_ := Aside0.mk (below_step bA hb); have n3_ := Aside0.mk (hbox); have n4_ := Aside0.mk ((by rw [hg]; exact (below_size bA) : w.heap.size ≤ gb540)); have n5_ := Aside0.mk ((by rw [hg]; exact (below_size bA) : w.heap.size ≤ gb540)); clear HO_26; clear HO_34; clear HB; have HO_26 := n0_; have HO_34 := n1_; have HB := n2_; have BK540 := n3_; have GW540 := n4_; have GE540 := n5_; clear n0_ n1_ n2_ n3_ n4_ n5_; clear hb hbox hg; obtain ⟨hcz45_0, hcz45_1, hcz45_2, hcz45_3, hfz45_0, hfz45_1, hfz45_2, hfz45_3⟩ := blkc4 BK540))
           have n0_ : Aside0 (Kd.R (Kd.int .i64) 3 ((((w44.setCell ⟨gb540, 0, none⟩ (.int .i64 ((rd_T90 l0 t538).f0))).setCell ⟨gb540, 1, none⟩ (.int .i64 ((rd_T90 l0 t538).f1))).setCell ⟨gb540, 2, none⟩ (.int .i64 ((rd_T90 l0 t538).f2))).setCell ⟨gb540, 3, none⟩ (.int .i64 ((rd_T90 l0 t538).f3))) w.heap.size (fun k_ => some k_ ≠ (.slice (some ad537) t534.length co20 : Value).ownBlock) (.slice (some ad533) t530.length co14) t530) := ⟨by (with_reducible repeat (first | apply Kd.R_alloc | apply Kd.R_drewN | apply Kd.R_drew)); exact Kd.R_mono (Kd.R_far (p := ⟨gb540, 3, none⟩) (Kd.R_far (p := ⟨gb540, 2, none⟩) (Kd.R_far (p := ⟨gb540, 1, none⟩) (Kd.R_far (p := ⟨gb540, 0, none⟩) (Kd.R_types HO_26.out BK540.out (by decide)) (fun _ hk => hk.2) (.int .i64 ((rd_T90 l0 t538).f0))) (fun _ hk => hk.2) (.int .i64 ((rd_T90 l0 t538).f1))) (fun _ hk => hk.2) (.int .i64 ((rd_T90 l0 t538).f2))) (fun _ hk => hk.2) (.int .i64 ((rd_T90 l0 t538).f3))) (fun _ hk => hk.1)⟩
           have n1_ : Aside0 (Kd.R (Kd.int .i64) 3 ((((w44.setCell ⟨gb540, 0, none⟩ (.int .i64 ((rd_T90 l0 t538).f0))).setCell ⟨gb540, 1, none⟩ (.int .i64 ((rd_T90 l0 t538).f1))).setCell ⟨gb540, 2, none⟩ (.int .i64 ((rd_T90 l0 t538).f2))).setCell ⟨gb540, 3, none⟩ (.int .i64 ((rd_T90 l0 t538).f3))) w.heap.size (fun k_ => some k_ ≠ (.slice (some ad533) t530.length co14 : Value).ownBlock) (.slice (some ad537) t534.length co20) t534) := ⟨by (with_reducible repeat (first | apply Kd.R_alloc | apply Kd.R_drewN | apply Kd.R_drew)); exact Kd.R_mono (Kd.R_far (p := ⟨gb540, 3, none⟩) (Kd.R_far (p := ⟨gb540, 2, none⟩) (Kd.R_far (p := ⟨gb540, 1, none⟩) (Kd.R_far (p := ⟨gb540, 0, none⟩) (Kd.R_types HO_34.out BK540.out (by decide)) (fun _ hk => hk.2) (.int .i64 ((rd_T90 l0 t538).f0))) (fun _ hk => hk.2) (.int .i64 ((rd_T90 l0 t538).f1))) (fun _ hk => hk.2) (.int .i64 ((rd_T90 l0 t538).f2))) (fun _ hk => hk.2) (.int .i64 ((rd_T90 l0 t538).f3))) (fun _ hk => hk.1)⟩
           have n2_ : Aside0 (((((w44.setCell ⟨gb540, 0, none⟩ (.int .i64 ((rd_T90 l0 t538).f0))).setCell ⟨gb540, 1, none⟩ (.int .i64 ((rd_T90 l0 t538).f1))).setCell ⟨gb540, 2, none⟩ (.int .i64 ((rd_T90 l0 t538).f2))).setCell ⟨gb540, 3, none⟩ (.int .i64 ((rd_T90 l0 t538).f3))).heap[gb540]? = some (.cells #[.int .i64 ((rd_T90 l0 t538).f0), .int .i64 ((rd_T90 l0 t538).f1), .int .i64 ((rd_T90 l0 t538).f2), .int .i64 ((rd_T90 l0 t538).f3)] 90 (0, 0))) := ⟨by (with_reducible repeat (first | refine blk_drewN ?_ _ | refine blk_drew ?_ | refine blk_alloc ?_ _)); refine blk_put (cs := #[.int .i64 ((rd_T90 l0 t538).f0), .int .i64 ((rd_T90 l0 t538).f1), .int .i64 ((rd_T90 l0 t538).f2), .int .i64 0]) ?_ 3 _ rfl; (with_reducible repeat (first | refine blk_drewN ?_ _ | refine blk_drew ?_ | refine blk_alloc ?_ _)); refine blk_put (cs := #[.int .i64 ((rd_T90 l0 t538).f0), .int .i64 ((rd_T90 l0 t538).f1), .int .i64 0, .int .i64 0]) ?_ 2 _ rfl; (with_reducible repeat (first | refine blk_drewN ?_ _ | refine blk_drew ?_ | refine blk_alloc ?_ _)); refine blk_put (cs := #[.int .i64 ((rd_T90 l0 t538).f0), .int .i64 0, .int .i64 0, .int .i64 0]) ?_ 1 _ rfl; (with_reducible repeat (first | refine blk_drewN ?_ _ | refine blk_drew ?_ | refine blk_alloc ?_ _)); refine blk_put (cs := #[.int .i64 0, .int .i64 0, .int .i64 0, .int .i64 0]) ?_ 0 _ rfl; (with_reducible repeat (first | refine blk_drewN ?_ _ | refine blk_drew ?_ | refine blk_alloc ?_ _)); exact BK540.out⟩
           have n3_ : Aside0 (Below w.heap.size w ((((w44.setCell ⟨gb540, 0, none⟩ (.int .i64 ((rd_T90 l0 t538).f0))).setCell ⟨gb540, 1, none⟩ (.int .i64 ((rd_T90 l0 t538).f1))).setCell ⟨gb540, 2, none⟩ (.int .i64 ((rd_T90 l0 t538).f2))).setCell ⟨gb540, 3, none⟩ (.int .i64 ((rd_T90 l0 t538).f3)))) := ⟨bG⟩
           (try clear HO_26)
           (try clear HO_34)
           (try clear BK540)
           (try clear HB)
           generalize ((((w44.setCell ⟨gb540, 0, none⟩ (.int .i64 ((rd_T90 l0 t538).f0))).setCell ⟨gb540, 1, none⟩ (.int .i64 ((rd_T90 l0 t538).f1))).setCell ⟨gb540, 2, none⟩ (.int .i64 ((rd_T90 l0 t538).f2))).setCell ⟨gb540, 3, none⟩ (.int .i64 ((rd_T90 l0 t538).f3))) = w46 at n0_ n1_ n2_ n3_ ⊢
           have HO_26 := n0_
           have HO_34 := n1_
           have BK540 := n2_
           have HB := n3_
           clear n0_ n1_ n2_ n3_
           replace HO_26 := Aside0.mk (Kd.R_drew HO_26.out)
           replace HO_34 := Aside0.mk (Kd.R_drew HO_34.out)
           replace BK540 := Aside0.mk (blk_drew BK540.out)
           have HBo := HB
           replace HB := Aside0.mk (below_drew1 HB.out)
           have p542 : 0 ≤ (t541 : Int) := dA
           have q542 : t541 < (l0.length : Int) := dA
           obtain ⟨ad542, e542, hx542_0, hx542_1, hx542_2, hx542_3⟩ := at_T90 HR0.out t541 p542 q542
           have hw542_3 := hx542_3
           have hw542_2 := hx542_2
           have hw542_1 := hx542_1
           have hw542_0 := hx542_0
           obtain rfl : ad539 = ad542 := (by injection e542)
           replace hx542_0 := hC HB hx542_0
           replace hx542_1 := hC HB hx542_1
           replace hx542_2 := hC HB hx542_2
           replace hx542_3 := hC HB hx542_3
           replace p542 := eq_true p542
           replace q542 := eq_true q542
           refine start_ (n := 8) (S := fun w' => w'.cell? ⟨gb540, 0, none⟩ = some (.int .i64 ((rd_T90 l0 t538).f0)) ∧ w'.cell? ⟨gb540, 1, none⟩ = some (.int .i64 ((rd_T90 l0 t538).f1)) ∧ w'.cell? ⟨gb540, 2, none⟩ = some (.int .i64 ((rd_T90 l0 t538).f2)) ∧ w'.cell? ⟨gb540, 3, none⟩ = some (.int .i64 ((rd_T90 l0 t538).f3)) ∧ w'.cell? (ad539.add ((t541).toNat * 4)) = some (.int .i64 ((rd_T90 l0 t541).f0)) ∧ w'.cell? ⟨(ad539.add ((t541).toNat * 4)).block, (ad539.add ((t541).toNat * 4)).off + 1, none⟩ = some (.int .i64 ((rd_T90 l0 t541).f1)) ∧ w'.cell? ⟨(ad539.add ((t541).toNat * 4)).block, (ad539.add ((t541).toNat * 4)).off + 2, none⟩ = some (.int .i64 ((rd_T90 l0 t541).f2)) ∧ w'.cell? ⟨(ad539.add ((t541).toNat * 4)).block, (ad539.add ((t541).toNat * 4)).off + 3, none⟩ = some (.int .i64 ((rd_T90 l0 t541).f3))) (ds := []) (mb 8 0) (by kernel_rfl) rfl rfl ⟨bC BK540 0, bC BK540 1, bC BK540 2, bC BK540 3, (hC HB hw542_0), (hC HB hw542_1), (hC HB hw542_2), (hC HB hw542_3)⟩ (fun hHeld => ?_); refine with_tabW impl_ClearBetween.tab11 impl_ClearBetween.bits11 (fun HT_ HW_ => ?_)
           generalize w46.drew = w47 at HO_26 HO_34 BK540 HB hx542_0 hx542_1 hx542_2 hx542_3 hHeld ⊢
           refine pA (i := 1) (N := some 47) (mb 8 2) HT_ ?_
           refine pA (i := 2) (N := some 48) (mb 8 6) HT_ ?_
           refine pA (i := 3) (N := some 49) (mb 8 14) HT_ ?_
           refine tA8 (i := 0) (N := some 46) (mb 8 15) HT_ HW_ hHeld ?_
           refine oA (i := 4) (N := some 50) (mb 8 31) HT_ (fun K hK => ?_)
           refine gA Try.func84 #[.slice (some ad539) l0.length c0, .int .i64 (rd t534 x36_3)] ?_
           with_reducible refine (impl_FindPath.calls _ _ l0 (rd t534 x36_3) t541 _ ?side1 ?side2 A27.out).mono ?_
           (case side1 => exact cB HR0)
           (case side2 => exact HC0.out)
           rintro e w48 ⟨rfl, hb⟩
           refine ⟨_, rfl, ?_⟩
           replace HO_26 := Aside0.mk (Kd.R_below (rK HO_26) hb)
           replace HO_34 := Aside0.mk (Kd.R_below (rK HO_34) hb)
           replace BK540 := Aside0.mk (blk_below (g := gb540) (bK BK540) hb)
           replace HB := Aside0.mk (below_step bG hb)
           (try clear hb)
           (try clear hb2)
           (try clear hk)
           (try clear hi)
           refine hK.out _ _ ⟨bC BK540 0, bC BK540 1, bC BK540 2, bC BK540 3, (hC HB hw542_0), (hC HB hw542_1), (hC HB hw542_2), (hC HB hw542_3)⟩ (fun hHeld => ?_)
           clear hK K
           refine nB ?_
           refine pA (i := 5) (N := some 51) (mb 8 63) HT_ ?_
           refine tA8 (i := 6) (N := some 52) (mb 8 127) HT_ HW_ hHeld ?_
           refine oA (i := 7) (N := some 53) (mb 8 255) HT_ (fun K hK => ?_)
           refine gA Try.func92 #[.agg #[.int .i64 ((rd_T90 l0 t538).f0), .int .i64 ((rd_T90 l0 t538).f1), .int .i64 ((rd_T90 l0 t538).f2), .int .i64 ((rd_T90 l0 t538).f3)], .agg #[.int .i64 ((rd_T90 l0 t541).f0), .int .i64 ((rd_T90 l0 t541).f1), .int .i64 ((rd_T90 l0 t541).f2), .int .i64 ((rd_T90 l0 t541).f3)]] ?_
           with_reducible refine (impl_Conflict.calls k3 ((rd_T90 l0 t538).f0) ((rd_T90 l0 t538).f1) ((rd_T90 l0 t538).f2) ((rd_T90 l0 t538).f3) ((rd_T90 l0 t541).f0) ((rd_T90 l0 t541).f1) ((rd_T90 l0 t541).f2) ((rd_T90 l0 t541).f3) false _ A30.out).mono ?_
           rintro e w49 ⟨rfl, hb⟩
           refine ⟨_, rfl, ?_⟩
           replace HO_26 := Aside0.mk (Kd.R_below (rK HO_26) hb)
           replace HO_34 := Aside0.mk (Kd.R_below (rK HO_34) hb)
           replace BK540 := Aside0.mk (blk_below (g := gb540) (bK BK540) hb)
           replace HB := Aside0.mk (below_step bG hb)
           (try clear hb)
           (try clear hb2)
           (try clear hk)
           (try clear hi)
           refine hK.out _ _ ⟨bC BK540 0, bC BK540 1, bC BK540 2, bC BK540 3, (hC HB hw542_0), (hC HB hw542_1), (hC HB hw542_2), (hC HB hw542_3)⟩ (fun hHeld => ?_)
           clear hK K
           refine nB ?_
           refine eA HT_ ?_
           try go_wp2
           go_roundg k3
           case measure => have := HJ3.out; have := HK2.out; have := HK3.out; omega
           case rel => exact ⟨(x7_3), (wrap64 (x36_3 + 1)), rS, rS, H', ⟨by have := HJ3.out; have := HK2.out; have := HK3.out; omega⟩, ⟨rK HO_26⟩, ⟨rK HO_34⟩, ⟨bG⟩⟩
         ·
          rw [if_neg c21] at H
          have c21b0 : decide (x36_3 < (t534.length : Int)) = false := decide_eq_false c21
          clear c21
          have H' := Aside0.mk H
          clear H
          go_wp2
          go_roundg k3
          case measure => have := HJ3.out; have := HK2.out; have := HK3.out; omega
          case rel => exact ⟨(x7_3), (wrap64 (x28_2 + 1)), rS, rS, H', ⟨by have := HJ3.out; have := HK2.out; have := HK3.out; omega⟩, ⟨by (with_reducible repeat (first | apply Kd.R_alloc | apply Kd.R_drewN | apply Kd.R_drew)); exact Kd.R_mono HO_26.out (fun _ hk => trivial)⟩, ⟨bA⟩⟩
      ·
       rw [if_neg c15] at H
       have c15b0 : decide (x28_2 < (t530.length : Int)) = false := decide_eq_false c15
       clear c15
       obtain rfl := Option.some.inj H
       go_wp2
       go_ret
       exact ⟨rA, bA⟩

/-! ### impl_IsControl: function 57 -/
def impl_IsControl.j0 : Nat → List (S90) → Bool → List Int → Int → List Int → Int → Option (Bool)
 | 0, _, _, _, _, _, _ => none
 | k + 1, x0, x28, x546000, x546001, x546002, x546003 => if x28 = true then (some false) else (if (x546002.length : Int) = 0 then (some (x546003 == 0)) else ((impl_ClearBetween.f k x0 x546000 x546002).bind fun t549 => ((impl_InRange.f x546003 1 t549).bind fun t550 => (some t550))))
def impl_IsControl.f (k : Nat) (l0 : List (S90)) (l1_0 : List Int) (a1_1 : Int) (l1_2 : List Int) (a1_3 : Int) : Option (Bool) := (impl_IsTogether.f k l0 l1_0).bind fun t546 => (if t546 = true then ((impl_IsTogether.f k l0 l1_2).bind fun t547 => (if t547 = true then (if (l1_0.length : Int) = 0 then (impl_IsControl.j0 k l0 true l1_0 a1_1 l1_2 a1_3) else ((impl_InRange.f a1_1 0 1000000).bind fun t548 => (impl_IsControl.j0 k l0 (!t548) l1_0 a1_1 l1_2 a1_3))) else (impl_IsControl.j0 k l0 true l1_0 a1_1 l1_2 a1_3))) else (impl_IsControl.j0 k l0 true l1_0 a1_1 l1_2 a1_3))
theorem impl_IsControl.mono_l : ∀ k, (∀ y0 y1 y2 y3 y4 y5, LeO (impl_IsControl.j0 k y0 y1 y2 y3 y4 y5) (impl_IsControl.j0 (k + 1) y0 y1 y2 y3 y4 y5))
 | 0 => fun _ _ _ _ _ _ r h => by simp [impl_IsControl.j0] at h
 | k + 1 => by
  have ih0 := impl_IsControl.mono_l k
  ·
   intro y0 y1 y2 y3 y4 y5
   unfold impl_IsControl.j0
   repeat' first | (with_reducible first | exact LeO.refl _ | exact LeO.none _ | refine LeO.ite ?_ ?_ | refine LeO.bind ?_ (fun _ => ?_) | exact ih0 _ _ _ _ _ _ | exact impl_ClearBetween.mono _ _ _ _ | exact impl_IsTogether.mono _ _ _) | exact LeO.none _ | refine LeO.ite ?_ ?_ | refine LeO.bind ?_ (fun _ => ?_) | exact ih0 _ _ _ _ _ _ | exact impl_ClearBetween.mono _ _ _ _ | exact impl_IsTogether.mono _ _ _
theorem impl_IsControl.mono : ∀ a0 a1 a2 a3 a4 k, LeO (impl_IsControl.f k a0 a1 a2 a3 a4) (impl_IsControl.f (k + 1) a0 a1 a2 a3 a4) := by
 intro a0 a1 a2 a3 a4 k
 have ih0 := impl_IsControl.mono_l k
 unfold impl_IsControl.f
 repeat' first | (with_reducible first | exact LeO.refl _ | exact LeO.none _ | refine LeO.ite ?_ ?_ | refine LeO.bind ?_ (fun _ => ?_) | exact ih0 _ _ _ _ _ _ | exact impl_ClearBetween.mono _ _ _ _ | exact impl_IsTogether.mono _ _ _) | exact LeO.none _ | refine LeO.ite ?_ ?_ | refine LeO.bind ?_ (fun _ => ?_) | exact ih0 _ _ _ _ _ _ | exact impl_ClearBetween.mono _ _ _ _ | exact impl_IsTogether.mono _ _ _
def impl_IsControl.T5 : Bool × List (List Nat × List Nat) := (true, [([], []), ([0], [0]), ([], []), ([], []), ([3], [3]), ([], []), ([5], [5]), ([2, 4, 6], [2, 4, 6]), ([1, 7, 7], [1, 7]), ([8, 8, 0, 1, 2, 3, 4, 5, 6, 7, 8], [8])])
def impl_IsControl.B5 : List Nat := [0, 1, 0, 0, 8, 0, 32, 124, 255, 511]
theorem impl_IsControl.tab5 : rtab .any (opsOf Try.f57 5) = impl_IsControl.T5 := by kernel_rfl
theorem impl_IsControl.bits5 : waitsOk impl_IsControl.T5.2 impl_IsControl.B5 = true := by kernel_rfl
set_option maxHeartbeats 8000000 in
set_option maxRecDepth 100000 in
theorem impl_IsControl.calls (k : Nat) (A0 : Option Addr) (c0 : Nat) (l0 : List (S90)) (A1_0 : Option Addr) (c1_0 : Nat) (l1_0 : List Int) (a1_1 : Int) (A1_2 : Option Addr) (c1_2 : Nat) (l1_2 : List Int) (a1_3 : Int) (r : Bool) (w : World) (hr0 : Kd.C k90 w A0 l0.length l0) (hc0 : l0.length ≤ c0) (hr1_0 : Kd.C (Kd.int .i64) w A1_0 l1_0.length l1_0) (hc1_0 : l1_0.length ≤ c1_0) (hr1_2 : Kd.C (Kd.int .i64) w A1_2 l1_2.length l1_2) (hc1_2 : l1_2.length ≤ c1_2) (h : impl_IsControl.f k l0 l1_0 a1_1 l1_2 a1_3 = some r) :
  Calls Try.prog 57 #[.slice A0 l0.length c0, .agg #[.slice A1_0 l1_0.length c1_0, .int .i64 a1_1, .slice A1_2 l1_2.length c1_2, .int .i64 a1_3]] w fun e w' => e = .returned (.bool r) ∧ Below w.heap.size w w' := by
 have hu70 := Try.underlying70
 have HR0 := Aside0.mk hr0
 have HC0 := Aside0.mk hc0
 clear hr0 hc0
 have HR1_0 := Aside0.mk hr1_0
 have HC1_0 := Aside0.mk hc1_0
 clear hr1_0 hc1_0
 have HR1_2 := Aside0.mk hr1_2
 have HC1_2 := Aside0.mk hc1_2
 clear hr1_2 hc1_2
 have HB := Aside0.mk (Below.refl w.heap.size w)
 have H : ((impl_IsTogether.f k l0 l1_0).bind fun t546 => (if t546 = true then ((impl_IsTogether.f k l0 l1_2).bind fun t547 => (if t547 = true then (if (l1_0.length : Int) = 0 then (impl_IsControl.j0 k l0 true l1_0 a1_1 l1_2 a1_3) else ((impl_InRange.f a1_1 0 1000000).bind fun t548 => (impl_IsControl.j0 k l0 (!t548) l1_0 a1_1 l1_2 a1_3))) else (impl_IsControl.j0 k l0 true l1_0 a1_1 l1_2 a1_3))) else (impl_IsControl.j0 k l0 true l1_0 a1_1 l1_2 a1_3))) = some r := h
 clear h
 have HC3 := Aside0.mk H
 clear H
 go_enter Try.func57, Try.ntmps57
 go_upto_region 1 with (first | ((with_reducible refine gate_dst (N := 3) rfl ?_); (try (refine gate_guard (by rfl) ?_; dsimp only)); refine bE (N := 3) (cs := #[.slice A1_0 l1_0.length c1_0, .int .i64 a1_1, .slice A1_2 l1_2.length c1_2, .int .i64 a1_3]) (t := 70) ?_; intro gb545 hg w4 hbox hb; have n0_ := Aside0.mk (below_step bA hb); have n1_ := Aside0.mk (hbox); have n2_ := Aside0.mk ((by rw [hg]; exact (below_size bA) : w.heap.size ≤ gb545)); have n3_ := Aside0.mk ((by rw [hg]; exact (below_size bA) : w.heap.size ≤ gb545)); clear HB; have HB := n0_; have BK545 := n1_; have GW545 := n2_; have GE545 := n3_; clear n0_ n1_ n2_ n3_; clear hb hbox hg))
 (try simp only [Act.put, List.setIfInBounds_toArray, List.set_cons_zero, List.set_cons_succ])
 go_cut [28] (fun v28 wc => ∃ (kq : Nat) (x28_2 : Bool), v28 = .bool x28_2 ∧ Aside0 (impl_IsControl.j0 kq l0 x28_2 l1_0 a1_1 l1_2 a1_3 = some r) ∧ Aside0 (kq ≤ k) ∧ Aside0 (wc.heap[gb545]? = some (.cells #[(.slice A1_0 l1_0.length c1_0), .int .i64 a1_1, (.slice A1_2 l1_2.length c1_2), .int .i64 a1_3] 70 (0, 0))) ∧ Aside0 (Below w.heap.size w wc))
 case first =>
  have H := HC3.out
  clear HC3
  obtain ⟨t546, A5, H⟩ := bindE H
  try dsimp only at H
  by_cases c6 : t546 = true
  ·
   subst c6
   have H1 : ((impl_IsTogether.f k l0 l1_2).bind fun t547 => (if t547 = true then (if (l1_0.length : Int) = 0 then (impl_IsControl.j0 k l0 true l1_0 a1_1 l1_2 a1_3) else ((impl_InRange.f a1_1 0 1000000).bind fun t548 => (impl_IsControl.j0 k l0 (!t548) l1_0 a1_1 l1_2 a1_3))) else (impl_IsControl.j0 k l0 true l1_0 a1_1 l1_2 a1_3))) = some r := by rw [if_pos rfl] at H; exact H
   clear H
   have H := H1
   clear H1
   obtain ⟨t547, A7, H⟩ := bindE H
   try dsimp only at H
   by_cases c8 : t547 = true
   ·
    subst c8
    have H1 : (if (l1_0.length : Int) = 0 then (impl_IsControl.j0 k l0 true l1_0 a1_1 l1_2 a1_3) else ((impl_InRange.f a1_1 0 1000000).bind fun t548 => (impl_IsControl.j0 k l0 (!t548) l1_0 a1_1 l1_2 a1_3))) = some r := by rw [if_pos rfl] at H; exact H
    clear H
    have H := H1
    clear H1
    by_cases c9 : (l1_0.length : Int) = 0
    ·
     rw [if_pos c9] at H
     have c9b0 : ((l1_0.length : Int) == 0) = true := beq_iff_eq.mpr c9
     have c9b1 : ((l1_0.length : Int) != 0) = false := bne_eq_false_iff_eq.mpr c9
     clear c9
     (first | rw [c9b0] | (simp only [i64_w, i32_w]; rw [c9b0]) | skip)
     have H' := Aside0.mk H
     clear H
     obtain ⟨hcz10_0, hcz10_1, hcz10_2, hcz10_3, hfz10_0, hfz10_1, hfz10_2, hfz10_3⟩ := blkc4 BK545
     go_wp2_with (first | ((with_reducible refine gate_callee (f := 100) rfl ?_); refine gL (some 8) Try.func100 #[.slice A0 l0.length c0, .slice A1_0 l1_0.length c1_0] ?_; (with_reducible refine (impl_IsTogether.calls k _ _ l0 _ _ l1_0 true _ ?side1 ?side2 ?side3 ?side4 A5.out).mono ?_); (case side1 => exact cB HR0); (case side2 => exact HC0.out); (case side3 => exact cB HR1_0); (case side4 => exact HC1_0.out); rintro e w11 ⟨rfl, hb⟩; refine ⟨_, rfl, ?_⟩; replace BK545 := Aside0.mk (blk_below (g := gb545) (bK BK545) hb); replace HB := Aside0.mk (below_step bG hb); (try clear hb); (try clear hb2); (try clear hk); (try clear hi); have hcz12_0 : w11.cell? ⟨gb545, 0, none⟩ = some (.slice A1_0 l1_0.length c1_0) := bC BK545 0; have hcz12_1 : w11.cell? ⟨gb545, 1, none⟩ = some (.int .i64 a1_1) := bC BK545 1; have hcz12_2 : w11.cell? ⟨gb545, 2, none⟩ = some (.slice A1_2 l1_2.length c1_2) := bC BK545 2; have hcz12_3 : w11.cell? ⟨gb545, 3, none⟩ = some (.int .i64 a1_3) := bC BK545 3; have hfz12_0 := blk_frozen BK545.out 0; have hfz12_1 := blk_frozen BK545.out 1; have hfz12_2 := blk_frozen BK545.out 2; have hfz12_3 := blk_frozen BK545.out 3) | (go_at_call 100; (with_reducible refine (impl_IsTogether.calls k _ _ l0 _ _ l1_2 true _ ?side1 ?side2 ?side3 ?side4 A7.out).mono ?_); (case side1 => exact cB HR0); (case side2 => exact HC0.out); (case side3 => exact cB HR1_2); (case side4 => exact HC1_2.out); rintro e w13 ⟨rfl, hb⟩; replace BK545 := Aside0.mk (blk_below (g := gb545) (bK BK545) hb); replace HB := Aside0.mk (below_step bG hb); (try clear hb); (try clear hb2); (try clear hk); (try clear hi); obtain ⟨hcz14_0, hcz14_1, hcz14_2, hcz14_3, hfz14_0, hfz14_1, hfz14_2, hfz14_3⟩ := blkc4 BK545))
     go_meet
     case rel => exact ⟨_, (true), rS, H', ⟨by first | omega | exact Nat.le_refl _⟩, ⟨bK BK545⟩, ⟨bG⟩⟩
    ·
     rw [if_neg c9] at H
     have c9b0 : ((l1_0.length : Int) == 0) = false := beq_eq_false_iff_ne.mpr c9
     have c9b1 : ((l1_0.length : Int) != 0) = true := bne_iff_ne.mpr c9
     have c9b2 : ¬ (l1_0 = []) := fun h_ => c9 (by rw [h_]; rfl)
     (first | rw [c9b0] | (simp only [i64_w, i32_w]; rw [c9b0]) | skip)
     obtain ⟨t548, A15, H⟩ := bindE H
     try dsimp only at H
     have H' := Aside0.mk H
     clear H
     obtain ⟨hcz16_0, hcz16_1, hcz16_2, hcz16_3, hfz16_0, hfz16_1, hfz16_2, hfz16_3⟩ := blkc4 BK545
     go_wp2_with (first | ((with_reducible refine gate_callee (f := 100) rfl ?_); refine gL (some 8) Try.func100 #[.slice A0 l0.length c0, .slice A1_0 l1_0.length c1_0] ?_; (with_reducible refine (impl_IsTogether.calls k _ _ l0 _ _ l1_0 true _ ?side1 ?side2 ?side3 ?side4 A5.out).mono ?_); (case side1 => exact cB HR0); (case side2 => exact HC0.out); (case side3 => exact cB HR1_0); (case side4 => exact HC1_0.out); rintro e w17 ⟨rfl, hb⟩; refine ⟨_, rfl, ?_⟩; replace BK545 := Aside0.mk (blk_below (g := gb545) (bK BK545) hb); replace HB := Aside0.mk (below_step bG hb); (try clear hb); (try clear hb2); (try clear hk); (try clear hi); have hcz18_0 : w17.cell? ⟨gb545, 0, none⟩ = some (.slice A1_0 l1_0.length c1_0) := bC BK545 0; have hcz18_1 : w17.cell? ⟨gb545, 1, none⟩ = some (.int .i64 a1_1) := bC BK545 1; have hcz18_2 : w17.cell? ⟨gb545, 2, none⟩ = some (.slice A1_2 l1_2.length c1_2) := bC BK545 2; have hcz18_3 : w17.cell? ⟨gb545, 3, none⟩ = some (.int .i64 a1_3) := bC BK545 3; have hfz18_0 := blk_frozen BK545.out 0; have hfz18_1 := blk_frozen BK545.out 1; have hfz18_2 := blk_frozen BK545.out 2; have hfz18_3 := blk_frozen BK545.out 3) | (go_at_call 100; (with_reducible refine (impl_IsTogether.calls k _ _ l0 _ _ l1_2 true _ ?side1 ?side2 ?side3 ?side4 A7.out).mono ?_); (case side1 => exact cB HR0); (case side2 => exact HC0.out); (case side3 => exact cB HR1_2); (case side4 => exact HC1_2.out); rintro e w19 ⟨rfl, hb⟩; replace BK545 := Aside0.mk (blk_below (g := gb545) (bK BK545) hb); replace HB := Aside0.mk (below_step bG hb); (try clear hb); (try clear hb2); (try clear hk); (try clear hi); have hcz20_0 : w19.cell? ⟨gb545, 0, none⟩ = some (.slice A1_0 l1_0.length c1_0) := bC BK545 0; have hcz20_1 : w19.cell? ⟨gb545, 1, none⟩ = some (.int .i64 a1_1) := bC BK545 1; have hcz20_2 : w19.cell? ⟨gb545, 2, none⟩ = some (.slice A1_2 l1_2.length c1_2) := bC BK545 2; have hcz20_3 : w19.cell? ⟨gb545, 3, none⟩ = some (.int .i64 a1_3) := bC BK545 3; have hfz20_0 := blk_frozen BK545.out 0; have hfz20_1 := blk_frozen BK545.out 1; have hfz20_2 := blk_frozen BK545.out 2; have hfz20_3 := blk_frozen BK545.out 3) | (go_at_call 69; (with_reducible refine (impl_InRange.calls a1_1 0 1000000 t548 _ A15.out).mono ?_); rintro e w' ⟨rfl, ⟨nd, rfl⟩⟩))
     go_meet
     case rel => exact ⟨_, (!t548), rS, H', ⟨by first | omega | exact Nat.le_refl _⟩, ⟨bK BK545⟩, ⟨bG⟩⟩
   ·
    replace c8 := Bool.eq_false_iff.mpr c8
    subst c8
    have H1 : (impl_IsControl.j0 k l0 true l1_0 a1_1 l1_2 a1_3) = some r := by rw [if_neg (show ¬ (false = true) by decide)] at H; exact H
    clear H
    have H := H1
    clear H1
    have H' := Aside0.mk H
    clear H
    obtain ⟨hcz21_0, hcz21_1, hcz21_2, hcz21_3, hfz21_0, hfz21_1, hfz21_2, hfz21_3⟩ := blkc4 BK545
    go_wp2_with (first | ((with_reducible refine gate_callee (f := 100) rfl ?_); refine gL (some 8) Try.func100 #[.slice A0 l0.length c0, .slice A1_0 l1_0.length c1_0] ?_; (with_reducible refine (impl_IsTogether.calls k _ _ l0 _ _ l1_0 true _ ?side1 ?side2 ?side3 ?side4 A5.out).mono ?_); (case side1 => exact cB HR0); (case side2 => exact HC0.out); (case side3 => exact cB HR1_0); (case side4 => exact HC1_0.out); rintro e w22 ⟨rfl, hb⟩; refine ⟨_, rfl, ?_⟩; replace BK545 := Aside0.mk (blk_below (g := gb545) (bK BK545) hb); replace HB := Aside0.mk (below_step bG hb); (try clear hb); (try clear hb2); (try clear hk); (try clear hi); have hcz23_0 : w22.cell? ⟨gb545, 0, none⟩ = some (.slice A1_0 l1_0.length c1_0) := bC BK545 0; have hcz23_1 : w22.cell? ⟨gb545, 1, none⟩ = some (.int .i64 a1_1) := bC BK545 1; have hcz23_2 : w22.cell? ⟨gb545, 2, none⟩ = some (.slice A1_2 l1_2.length c1_2) := bC BK545 2; have hcz23_3 : w22.cell? ⟨gb545, 3, none⟩ = some (.int .i64 a1_3) := bC BK545 3; have hfz23_0 := blk_frozen BK545.out 0; have hfz23_1 := blk_frozen BK545.out 1; have hfz23_2 := blk_frozen BK545.out 2; have hfz23_3 := blk_frozen BK545.out 3) | (go_at_call 100; (with_reducible refine (impl_IsTogether.calls k _ _ l0 _ _ l1_2 false _ ?side1 ?side2 ?side3 ?side4 A7.out).mono ?_); (case side1 => exact cB HR0); (case side2 => exact HC0.out); (case side3 => exact cB HR1_2); (case side4 => exact HC1_2.out); rintro e w24 ⟨rfl, hb⟩; replace BK545 := Aside0.mk (blk_below (g := gb545) (bK BK545) hb); replace HB := Aside0.mk (below_step bG hb); (try clear hb); (try clear hb2); (try clear hk); (try clear hi)))
    go_meet
    case rel => exact ⟨_, (true), rS, H', ⟨by first | omega | exact Nat.le_refl _⟩, ⟨bK BK545⟩, ⟨bG⟩⟩
  ·
   replace c6 := Bool.eq_false_iff.mpr c6
   subst c6
   have H1 : (impl_IsControl.j0 k l0 true l1_0 a1_1 l1_2 a1_3) = some r := by rw [if_neg (show ¬ (false = true) by decide)] at H; exact H
   clear H
   have H := H1
   clear H1
   have H' := Aside0.mk H
   clear H
   obtain ⟨hcz25_0, hcz25_1, hcz25_2, hcz25_3, hfz25_0, hfz25_1, hfz25_2, hfz25_3⟩ := blkc4 BK545
   go_wp2_with (first | ((with_reducible refine gate_callee (f := 100) rfl ?_); refine gL (some 8) Try.func100 #[.slice A0 l0.length c0, .slice A1_0 l1_0.length c1_0] ?_; (with_reducible refine (impl_IsTogether.calls k _ _ l0 _ _ l1_0 false _ ?side1 ?side2 ?side3 ?side4 A5.out).mono ?_); (case side1 => exact cB HR0); (case side2 => exact HC0.out); (case side3 => exact cB HR1_0); (case side4 => exact HC1_0.out); rintro e w26 ⟨rfl, hb⟩; refine ⟨_, rfl, ?_⟩; replace BK545 := Aside0.mk (blk_below (g := gb545) (bK BK545) hb); replace HB := Aside0.mk (below_step bG hb); (try clear hb); (try clear hb2); (try clear hk); (try clear hi)))
   go_meet
   case rel => exact ⟨_, (true), rS, H', ⟨by first | omega | exact Nat.le_refl _⟩, ⟨bK BK545⟩, ⟨bG⟩⟩
 case rest =>
  clear HC3
  try clear c1
  try clear p2
  try clear c5
  try clear c6
  try clear c8
  try clear c9
  try clear c9b0
  try clear c9b1
  try clear c9b2
  try clear c10
  try clear hcz10_0
  try clear hcz10_1
  try clear hcz10_2
  try clear hcz10_3
  try clear hcz12_0
  try clear hcz12_1
  try clear hcz12_2
  try clear hcz12_3
  try clear hcz14_0
  try clear hcz14_1
  try clear hcz14_2
  try clear hcz14_3
  try clear hcz16_0
  try clear hcz16_1
  try clear hcz16_2
  try clear hcz16_3
  try clear hcz18_0
  try clear hcz18_1
  try clear hcz18_2
  try clear hcz18_3
  try clear hcz20_0
  try clear hcz20_1
  try clear hcz20_2
  try clear hcz20_3
  try clear hcz21_0
  try clear hcz21_1
  try clear hcz21_2
  try clear hcz21_3
  try clear hcz23_0
  try clear hcz23_1
  try clear hcz23_2
  try clear hcz23_3
  try clear hcz25_0
  try clear hcz25_1
  try clear hcz25_2
  try clear hcz25_3
  try clear hfz10_0
  try clear hfz10_1
  try clear hfz10_2
  try clear hfz10_3
  try clear hfz12_0
  try clear hfz12_1
  try clear hfz12_2
  try clear hfz12_3
  try clear hfz14_0
  try clear hfz14_1
  try clear hfz14_2
  try clear hfz14_3
  try clear hfz16_0
  try clear hfz16_1
  try clear hfz16_2
  try clear hfz16_3
  try clear hfz18_0
  try clear hfz18_1
  try clear hfz18_2
  try clear hfz18_3
  try clear hfz20_0
  try clear hfz20_1
  try clear hfz20_2
  try clear hfz20_3
  try clear hfz21_0
  try clear hfz21_1
  try clear hfz21_2
  try clear hfz21_3
  try clear hfz23_0
  try clear hfz23_1
  try clear hfz23_2
  try clear hfz23_3
  try clear hfz25_0
  try clear hfz25_1
  try clear hfz25_2
  try clear hfz25_3
  obtain ⟨kq, x28_2, rfl, HA, HJ2, BK545, HB⟩ := hcut
  cases kq with
  | zero => exact absurd HA.out (by simp [impl_IsControl.j0])
  | succ kj2 =>
   have H := HA.out
   clear HA
   simp only [impl_IsControl.j0] at H
   by_cases c27 : x28_2 = true
   ·
    subst c27
    have H1 : (some false) = some r := by rw [if_pos rfl] at H; exact H
    clear H
    have H := H1
    clear H1
    obtain rfl := Option.some.inj H
    go_wp2
    go_ret
    exact ⟨rA, bG⟩
   ·
    replace c27 := Bool.eq_false_iff.mpr c27
    subst c27
    have H1 : (if (l1_2.length : Int) = 0 then (some (a1_3 == 0)) else ((impl_ClearBetween.f kj2 l0 l1_0 l1_2).bind fun t549 => ((impl_InRange.f a1_3 1 t549).bind fun t550 => (some t550)))) = some r := by rw [if_neg (show ¬ (false = true) by decide)] at H; exact H
    clear H
    have H := H1
    clear H1
    by_cases c28 : (l1_2.length : Int) = 0
    ·
     rw [if_pos c28] at H
     have c28b0 : ((l1_2.length : Int) == 0) = true := beq_iff_eq.mpr c28
     have c28b1 : ((l1_2.length : Int) != 0) = false := bne_eq_false_iff_eq.mpr c28
     clear c28
     obtain rfl := Option.some.inj H
     obtain ⟨hcz29_0, hcz29_1, hcz29_2, hcz29_3, hfz29_0, hfz29_1, hfz29_2, hfz29_3⟩ := blkc4 BK545
     go_wp2
     go_ret
     exact ⟨rA, bG⟩
    ·
     rw [if_neg c28] at H
     have c28b0 : ((l1_2.length : Int) == 0) = false := beq_eq_false_iff_ne.mpr c28
     have c28b1 : ((l1_2.length : Int) != 0) = true := bne_iff_ne.mpr c28
     have c28b2 : ¬ (l1_2 = []) := fun h_ => c28 (by rw [h_]; rfl)
     obtain ⟨t549, A30, H⟩ := bindE H
     try dsimp only at H
     obtain ⟨t550, A31, H⟩ := bindE H
     try dsimp only at H
     obtain rfl := Option.some.inj H
     obtain ⟨hcz32_0, hcz32_1, hcz32_2, hcz32_3, hfz32_0, hfz32_1, hfz32_2, hfz32_3⟩ := blkc4 BK545
     try go_wp2
     replace BK545 := Aside0.mk (blk_drew BK545.out)
     have HBo := HB
     replace HB := Aside0.mk (below_drew1 HB.out)
     refine start_ (n := 10) (S := fun w' => w'.cell? ⟨gb545, 0, none⟩ = some (.slice A1_0 l1_0.length c1_0) ∧ w'.cell? ⟨gb545, 1, none⟩ = some (.int .i64 a1_1) ∧ w'.cell? ⟨gb545, 2, none⟩ = some (.slice A1_2 l1_2.length c1_2) ∧ w'.cell? ⟨gb545, 3, none⟩ = some (.int .i64 a1_3)) (ds := []) (mb 10 0) (by kernel_rfl) rfl rfl ⟨bC BK545 0, bC BK545 1, bC BK545 2, bC BK545 3⟩ (fun hHeld => ?_); refine with_tabW impl_IsControl.tab5 impl_IsControl.bits5 (fun HT_ HW_ => ?_)
     generalize wc.drew = w33 at BK545 HB hHeld ⊢
     refine pA (i := 0) (N := some 36) (mb 10 1) HT_ ?_
     refine pA (i := 2) (N := some 38) (mb 10 5) HT_ ?_
     refine pA (i := 3) (N := some 39) (mb 10 13) HT_ ?_
     refine pA (i := 5) (N := some 41) (mb 10 45) HT_ ?_
     refine tA4 (i := 1) (N := some 37) (mb 10 47) HT_ HW_ hHeld ?_
     refine tA4 (i := 4) (N := some 40) (mb 10 63) HT_ HW_ hHeld ?_
     refine tA4 (i := 6) (N := some 42) (mb 10 127) HT_ HW_ hHeld ?_
     refine oA (i := 7) (N := some 43) (mb 10 255) HT_ (fun K hK => ?_)
     refine gA Try.func101 #[.slice A0 l0.length c0, .slice A1_0 l1_0.length c1_0, .slice A1_2 l1_2.length c1_2] ?_
     with_reducible refine (impl_ClearBetween.calls kj2 _ _ l0 _ _ l1_0 _ _ l1_2 t549 _ ?side1 ?side2 ?side3 ?side4 ?side5 ?side6 A30.out).mono ?_
     (case side1 => exact cB HR0)
     (case side2 => exact HC0.out)
     (case side3 => exact cB HR1_0)
     (case side4 => exact HC1_0.out)
     (case side5 => exact cB HR1_2)
     (case side6 => exact HC1_2.out)
     rintro e w34 ⟨rfl, hb⟩
     refine ⟨_, rfl, ?_⟩
     replace BK545 := Aside0.mk (blk_below (g := gb545) (bK BK545) hb)
     replace HB := Aside0.mk (below_step bG hb)
     (try clear hb)
     (try clear hb2)
     (try clear hk)
     (try clear hi)
     refine hK.out _ _ ⟨bC BK545 0, bC BK545 1, bC BK545 2, bC BK545 3⟩ (fun hHeld => ?_)
     clear hK K
     refine nB ?_
     refine oA (i := 8) (N := some 44) (mb 10 511) HT_ (fun K hK => ?_)
     refine gA Try.func69 #[.int .i64 a1_3, .int .i64 1, .int .i64 t549] ?_
     with_reducible refine (impl_InRange.calls a1_3 1 t549 t550 _ A31.out).mono ?_
     rintro e w' ⟨rfl, ⟨nd, rfl⟩⟩
     refine ⟨_, rfl, ?_⟩
     refine hK.out _ _ ⟨bC BK545 0, bC BK545 1, bC BK545 2, bC BK545 3⟩ (fun hHeld => ?_)
     clear hK K
     refine nB ?_
     refine pA (i := 9) (N := some 4) (mb 10 1023) HT_ ?_
     refine eA HT_ ?_
     try go_wp2
     go_ret
     exact ⟨rA, bG⟩

/-! ### slices_Clone_int_int: function 109 -/
def slices_Clone_int_int.f (l0 : List Int) : Option (List Int) := if l0.length < 17592186044416 then some l0 else none
theorem slices_Clone_int_int.eq0 {P : Program} (w : World) (d : Nat) (t e : TypeId) (a : Option Addr) (n c n' c' : Nat) (h : P.underlying t = some (.slice e)) : (Op.equalIn (d + 1) t (.slice a n c) (.slice none n' c')).run P w = .ok a.isNone w := by
 cases a <;> simp [Op.equalIn, run_underlying h]
theorem slices_Clone_int_int.eq1 {P : Program} (w : World) (t e : TypeId) (a : Option Addr) (n c n' c' : Nat) (h : P.underlying t = some (.slice e)) : (binOp .eql t (.slice a n c) (.slice none n' c')).run P w = .ok (.bool a.isNone) w := by
 simp only [binOp]
 simp [Op.equal, Op.maxDepth, slices_Clone_int_int.eq0 w 9999 t e a n c n' c' h]
set_option maxHeartbeats 4000000 in
set_option maxRecDepth 100000 in
theorem slices_Clone_int_int.calls (A0 : Option Addr) (c0 : Nat) (l0 : List Int) (r : List Int) (w : World) (hr0 : Kd.C (Kd.int .i64) w A0 l0.length l0) (hc0 : l0.length ≤ c0) (h : slices_Clone_int_int.f l0 = some r) :
  Calls Try.prog 109 #[.slice A0 l0.length c0] w fun e w' => ∃ v0_ : Value, e = .returned (v0_) ∧ Kd.R (Kd.int .i64) 3 w' w.heap.size (fun _ => True) v0_ r ∧ Below w.heap.size w w' := by
 unfold slices_Clone_int_int.f at h
 have hlim := ifN h
 replace h := ifT h
 obtain rfl := Option.some.inj h
 have HL := Aside0.mk hlim
 have HR0 := Aside0.mk hr0
 have HC0 := Aside0.mk hc0
 clear hr0 hc0 h hlim
 have q_ : ∀ (w : World) (a : Option Addr) (n c n' c' : Nat), (binOp .eql 22 (.slice a n c) (.slice none n' c')).run Try.prog w = .ok (.bool a.isNone) w := fun w a n c n' c' => slices_Clone_int_int.eq1 w _ _ a n c n' c' Try.underlying22
 cases A0 with
 | none =>
  have hl0 : l0 = [] := by
   rcases Nat.eq_zero_or_pos l0.length with h0 | h0
   ·
    exact List.eq_nil_of_length_eq_zero h0
   ·
    obtain ⟨ad, ha, _⟩ := HR0.out.2.2 h0
    cases ha
  subst hl0
  go_enter Try.func109, Try.ntmps109
  go_wp2
  go_ret
  exact ⟨_, rfl, Kd.R_nil _ _ _ _ _, Below.refl _ _⟩
 | some ad =>
  go_enter Try.func109, Try.ntmps109
  go_wp2_with (first
   | ((with_reducible refine gate_dst (N := 5) rfl ?_); refine Kd.R_lit (Kd.int .i64) _ 3 ?hg (N := 5) ?hd (xs := ([] : List Int)) (inner := []) (ok := fun _ => True) (okp := fun _ => True) ?hr ?hp (fun _ hk => hk) trivial (Below.refl w.heap.size w) (Nat.le_refl _) (by simp) ?_; (case hd => rfl); (case hg => rfl); (case hr => first | (go_simp; done) | (go_simp; rfl)); (case hp => exact (Reps.none _ _)); intro v304 w3 ho4 hb hg_ hnew_; have HO := Aside0.mk ho4; have HB := Aside0.mk hb; clear ho4 hb hg_ hnew_)
   | ((with_reducible refine gate_builtin (b := .append) (xs := #[.tmp 5, .tmp 6]) rfl ?_); at_builtin; refine Kd.R_append_rows (Kd.int .i64) (w0 := w) w.heap.size rfl (.tmp 5) (.tmp 6) 22 3 (.int .i64 0) 8 rfl Try.underlying22 info3 rfl (by decide) (by omega) v304 ([] : List Int) l0 _ _ _ (fun _ => True) (fun _ => False) rfl rfl ?aO ?aR (fun _ _ h => h) (fun _ h => h.elim) ?aF ?aB ?aS ?aL ?_; (case aR => exact Kd.C_below HR0.out HB.out); (case aB => exact HB.out); (case aF => exact (fun _ _ => trivial)); (case aO => exact HO.out); (case aS => exact HB.out.size); (case aL => have := HL.out; simp; omega); intro v1 w9 ho hb hg hat; rw [List.nil_append] at ho; have HO1 := Aside0.mk ho; have HB1 := Aside0.mk hb; clear ho hb hg hat))
  go_ret
  exact ⟨_, rfl, HO1.out, HB1.out⟩

end Go.Proofs.Ytimmadeghcghoaa.P
