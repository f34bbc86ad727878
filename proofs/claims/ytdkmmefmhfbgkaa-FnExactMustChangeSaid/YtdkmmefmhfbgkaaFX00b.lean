/- Printed by myprint.py (wip/tools) over the kit's print: what Go's functions compute, and that they do. Lean checks it. -/
import Derived.Test.YtdkmmefmhfbgkaaF0
import Derived.Test.YtdkmmefmhfbgkaaFX00
namespace Go.Proofs.Ytdkmmefmhfbgkaa.P
open Go.RowKit Go.Proofs.YtdkmmefmhfbgkaaW.PrintWords Go.Proofs.YtdkmmefmhfbgkaaW.PrintLast Go.Proofs.YtdkmmefmhfbgkaaW.PrintMore Go.Proofs.Ytdkmmefmhfbgkaa.Sq
attribute [local go_sem] max2_int min2_int max_two min_two max_three min_three max_four min_four
set_option linter.unusedVariables false
set_option linter.unusedSimpArgs false

/-! ### spec_Conflict: function 129 -/
def spec_Conflict.j0 : Nat → Bool → Int → Int → Int → Int → Int → Int → Int → Int → Option (Bool)
 | 0, _, _, _, _, _, _, _, _, _ => none
 | k + 1, x5, x182000, x182001, x182002, x182003, x183000, x183001, x183002, x183003 => if x5 = true then (some false) else (if x182001 = 2 then (if x183002 = x182002 then (some true) else (some (x183003 == x182002))) else (if x183001 = 2 then (if x182002 = x183002 then (some true) else (some (x182003 == x183002))) else (if x182002 = x183002 then (some false) else (if x182003 = x183003 then (some true) else ((spec_InPlace.f x182002).bind fun t185 => ((spec_OutPlace.f x182003).bind fun t186 => ((spec_InPlace.f x183002).bind fun t187 => ((spec_OutPlace.f x183003).bind fun t188 => ((spec_Interleave.f k t185 t186 t187 t188).bind fun t189 => (some t189))))))))))
def spec_Conflict.f (k : Nat) (a0_0 : Int) (a0_1 : Int) (a0_2 : Int) (a0_3 : Int) (a1_0 : Int) (a1_1 : Int) (a1_2 : Int) (a1_3 : Int) : Option (Bool) := (spec_IsPath.f a0_0 a0_1 a0_2 a0_3).bind fun t183 => (if t183 = true then ((spec_IsPath.f a1_0 a1_1 a1_2 a1_3).bind fun t184 => (if t184 = true then (if a0_1 = 2 then (spec_Conflict.j0 k (a1_1 == 2) a0_0 a0_1 a0_2 a0_3 a1_0 a1_1 a1_2 a1_3) else (spec_Conflict.j0 k false a0_0 a0_1 a0_2 a0_3 a1_0 a1_1 a1_2 a1_3)) else (spec_Conflict.j0 k true a0_0 a0_1 a0_2 a0_3 a1_0 a1_1 a1_2 a1_3))) else (spec_Conflict.j0 k true a0_0 a0_1 a0_2 a0_3 a1_0 a1_1 a1_2 a1_3))
theorem spec_Conflict.mono_l : ∀ k, (∀ y0 y1 y2 y3 y4 y5 y6 y7 y8, LeO (spec_Conflict.j0 k y0 y1 y2 y3 y4 y5 y6 y7 y8) (spec_Conflict.j0 (k + 1) y0 y1 y2 y3 y4 y5 y6 y7 y8))
 | 0 => fun _ _ _ _ _ _ _ _ _ r h => by simp [spec_Conflict.j0] at h
 | k + 1 => by
  have ih0 := spec_Conflict.mono_l k
  ·
   intro y0 y1 y2 y3 y4 y5 y6 y7 y8
   unfold spec_Conflict.j0
   repeat' first | (with_reducible first | exact LeO.refl _ | exact LeO.none _ | refine LeO.ite ?_ ?_ | refine LeO.bind ?_ (fun _ => ?_) | exact ih0 _ _ _ _ _ _ _ _ _ | exact spec_Interleave.mono _ _ _ _ _)
theorem spec_Conflict.mono : ∀ a0 a1 a2 a3 a4 a5 a6 a7 k, LeO (spec_Conflict.f k a0 a1 a2 a3 a4 a5 a6 a7) (spec_Conflict.f (k + 1) a0 a1 a2 a3 a4 a5 a6 a7) := by
 intro a0 a1 a2 a3 a4 a5 a6 a7 k
 have ih0 := spec_Conflict.mono_l k
 unfold spec_Conflict.f
 repeat' first | (with_reducible first | exact LeO.refl _ | exact LeO.none _ | refine LeO.ite ?_ ?_ | refine LeO.bind ?_ (fun _ => ?_) | exact ih0 _ _ _ _ _ _ _ _ _ | exact spec_Interleave.mono _ _ _ _ _)
def spec_Conflict.T11 : Bool × List (List Nat × List Nat) := (true, [([], []), ([0], [0]), ([1], [1]), ([], []), ([3], [3]), ([4, 2], [4]), ([], []), ([6], [6]), ([7, 5], [7]), ([], []), ([9], [9]), ([10, 8], [10]), ([2, 5, 8, 11, 11], [2, 5, 8, 11]), ([12, 12, 0, 1, 2, 3, 4, 5, 6, 7, 8, 9, 10, 11, 12], [12])])
def spec_Conflict.B11 : List Nat := [0, 1, 3, 0, 8, 31, 0, 64, 255, 0, 512, 2047, 4095, 8191]
theorem spec_Conflict.tab11 : rtab .any (opsOf Try.f129 11) = spec_Conflict.T11 := by kernel_rfl
theorem spec_Conflict.bits11 : waitsOk spec_Conflict.T11.2 spec_Conflict.B11 = true := by kernel_rfl
set_option maxHeartbeats 8000000 in
set_option maxRecDepth 100000 in
theorem spec_Conflict.calls (k : Nat) (a0_0 : Int) (a0_1 : Int) (a0_2 : Int) (a0_3 : Int) (a1_0 : Int) (a1_1 : Int) (a1_2 : Int) (a1_3 : Int) (r : Bool) (w : World) (h : spec_Conflict.f k a0_0 a0_1 a0_2 a0_3 a1_0 a1_1 a1_2 a1_3 = some r) :
  Calls Try.prog 129 #[.agg #[.int .i64 a0_0, .int .i64 a0_1, .int .i64 a0_2, .int .i64 a0_3], .agg #[.int .i64 a1_0, .int .i64 a1_1, .int .i64 a1_2, .int .i64 a1_3]] w fun e w' => e = .returned (.bool r) ∧ Below w.heap.size w w' := by
 have hu89 := Try.underlying89
 have HB := Aside0.mk (Below.refl w.heap.size w)
 have H : ((spec_IsPath.f a0_0 a0_1 a0_2 a0_3).bind fun t183 => (if t183 = true then ((spec_IsPath.f a1_0 a1_1 a1_2 a1_3).bind fun t184 => (if t184 = true then (if a0_1 = 2 then (spec_Conflict.j0 k (a1_1 == 2) a0_0 a0_1 a0_2 a0_3 a1_0 a1_1 a1_2 a1_3) else (spec_Conflict.j0 k false a0_0 a0_1 a0_2 a0_3 a1_0 a1_1 a1_2 a1_3)) else (spec_Conflict.j0 k true a0_0 a0_1 a0_2 a0_3 a1_0 a1_1 a1_2 a1_3))) else (spec_Conflict.j0 k true a0_0 a0_1 a0_2 a0_3 a1_0 a1_1 a1_2 a1_3))) = some r := h
 clear h
 have HC3 := Aside0.mk H
 clear H
 go_enter Try.func129, Try.ntmps129
 go_upto_region 1 with (first | ((with_reducible refine gate_dst (N := 2) rfl ?_); refine bE (N := 2) (cs := #[.int .i64 a0_0, .int .i64 a0_1, .int .i64 a0_2, .int .i64 a0_3]) (t := 89) ?_; intro gb181 hg w4 hbox hb; have n0_ := Aside0.mk (below_step bA hb); have n1_ := Aside0.mk (hbox); have n2_ := Aside0.mk ((by rw [hg]; exact (below_size bA) : w.heap.size ≤ gb181)); have n3_ := Aside0.mk ((by rw [hg]; exact (below_size bA) : w.heap.size ≤ gb181)); clear HB; have HB := n0_; have BK181 := n1_; have GW181 := n2_; have GE181 := n3_; clear n0_ n1_ n2_ n3_; clear hb hbox hg) | ((with_reducible refine gate_dst (N := 3) rfl ?_); refine bE (N := 3) (cs := #[.int .i64 a1_0, .int .i64 a1_1, .int .i64 a1_2, .int .i64 a1_3]) (t := 89) ?_; intro gb182 hg w5 hbox hb; have n0_ := Aside0.mk (blk_below (g := gb181) (bK BK181) hb); have n1_ := Aside0.mk (below_step bG hb); have n2_ := Aside0.mk (hbox); have n3_ := Aside0.mk ((by rw [hg]; exact (below_size bG) : w.heap.size ≤ gb182)); have n4_ := Aside0.mk ((by rw [hg]; exact (below_size bG) : w.heap.size ≤ gb182)); have n5_ := Aside0.mk ((by rw [hg]; exact Nat.ne_of_lt (blk_lt (g := gb181) (o := .cells #[.int .i64 a0_0, .int .i64 a0_1, .int .i64 a0_2, .int .i64 a0_3] 89 (0, 0)) (bK BK181)) : gb181 ≠ gb182)); have n6_ := Aside0.mk ((by rw [hg]; exact Nat.ne_of_gt (blk_lt (g := gb181) (o := .cells #[.int .i64 a0_0, .int .i64 a0_1, .int .i64 a0_2, .int .i64 a0_3] 89 (0, 0)) (bK BK181)) : gb182 ≠ gb181)); clear BK181; clear HB; have BK181 := n0_; have HB := n1_; have BK182 := n2_; have GW182 := n3_; have GE182 := n4_; have NB181_182 := n5_; have NB182_181 := n6_; clear n0_ n1_ n2_ n3_ n4_ n5_ n6_; clear hb hbox hg))
 (try simp only [Act.put, List.setIfInBounds_toArray, List.set_cons_zero, List.set_cons_succ])
 go_cut [5] (fun v5 wc => ∃ (kq : Nat) (x5_2 : Bool), v5 = .bool x5_2 ∧ Aside0 (spec_Conflict.j0 kq x5_2 a0_0 a0_1 a0_2 a0_3 a1_0 a1_1 a1_2 a1_3 = some r) ∧ Aside0 (kq ≤ k) ∧ Aside0 (wc.heap[gb181]? = some (.cells #[.int .i64 a0_0, .int .i64 a0_1, .int .i64 a0_2, .int .i64 a0_3] 89 (0, 0))) ∧ Aside0 (wc.heap[gb182]? = some (.cells #[.int .i64 a1_0, .int .i64 a1_1, .int .i64 a1_2, .int .i64 a1_3] 89 (0, 0))) ∧ Aside0 (Below w.heap.size w wc))
 case first =>
  have H := HC3.out
  clear HC3
  obtain ⟨t183, A6, H⟩ := bindE H
  try dsimp only at H
  by_cases c7 : t183 = true
  ·
   subst c7
   have H1 : ((spec_IsPath.f a1_0 a1_1 a1_2 a1_3).bind fun t184 => (if t184 = true then (if a0_1 = 2 then (spec_Conflict.j0 k (a1_1 == 2) a0_0 a0_1 a0_2 a0_3 a1_0 a1_1 a1_2 a1_3) else (spec_Conflict.j0 k false a0_0 a0_1 a0_2 a0_3 a1_0 a1_1 a1_2 a1_3)) else (spec_Conflict.j0 k true a0_0 a0_1 a0_2 a0_3 a1_0 a1_1 a1_2 a1_3))) = some r := by rw [if_pos rfl] at H; exact H
   clear H
   have H := H1
   clear H1
   obtain ⟨t184, A8, H⟩ := bindE H
   try dsimp only at H
   by_cases c9 : t184 = true
   ·
    subst c9
    have H1 : (if a0_1 = 2 then (spec_Conflict.j0 k (a1_1 == 2) a0_0 a0_1 a0_2 a0_3 a1_0 a1_1 a1_2 a1_3) else (spec_Conflict.j0 k false a0_0 a0_1 a0_2 a0_3 a1_0 a1_1 a1_2 a1_3)) = some r := by rw [if_pos rfl] at H; exact H
    clear H
    have H := H1
    clear H1
    by_cases c10 : a0_1 = 2
    ·
     rw [if_pos c10] at H
     have c10b0 : (a0_1 == 2) = true := beq_iff_eq.mpr c10
     have c10b1 : (a0_1 != 2) = false := bne_eq_false_iff_eq.mpr c10
     clear c10
     (first | rw [c10b0] | (simp only [i64_w, i32_w]; rw [c10b0]) | skip)
     have H' := Aside0.mk H
     clear H
     have hnb11 := NB181_182.out
     have hnc11 := NB182_181.out
     obtain ⟨hcz12_0, hcz12_1, hcz12_2, hcz12_3, hfz12_0, hfz12_1, hfz12_2, hfz12_3⟩ := blkc4 BK181
     go_wp2_with (first | ((with_reducible refine gate_callee (f := 145) rfl ?_); refine gL (some 7) Try.func145 #[.agg #[.int .i64 a0_0, .int .i64 a0_1, .int .i64 a0_2, .int .i64 a0_3]] ?_; (with_reducible refine (spec_IsPath.calls a0_0 a0_1 a0_2 a0_3 true _ A6.out).mono ?_); rintro e w13 ⟨rfl, hb⟩; refine ⟨_, rfl, ?_⟩; replace BK181 := Aside0.mk (blk_below (g := gb181) (bK BK181) hb); replace BK182 := Aside0.mk (blk_below (g := gb182) (bK BK182) hb); replace HB := Aside0.mk (below_step bG hb); (try clear hb); have hcz14_0 : w13.cell? ⟨gb182, 0, none⟩ = some (.int .i64 a1_0) := bC BK182 0; have hcz14_1 : w13.cell? ⟨gb182, 1, none⟩ = some (.int .i64 a1_1) := bC BK182 1; have hcz14_2 : w13.cell? ⟨gb182, 2, none⟩ = some (.int .i64 a1_2) := bC BK182 2; have hcz14_3 : w13.cell? ⟨gb182, 3, none⟩ = some (.int .i64 a1_3) := bC BK182 3; have hfz14_0 := blk_frozen BK182.out 0; have hfz14_1 := blk_frozen BK182.out 1; have hfz14_2 := blk_frozen BK182.out 2; have hfz14_3 := blk_frozen BK182.out 3) | (go_at_call 145; (with_reducible refine (spec_IsPath.calls a1_0 a1_1 a1_2 a1_3 true _ A8.out).mono ?_); rintro e w15 ⟨rfl, hb⟩; replace BK181 := Aside0.mk (blk_below (g := gb181) (bK BK181) hb); replace BK182 := Aside0.mk (blk_below (g := gb182) (bK BK182) hb); replace HB := Aside0.mk (below_step bG hb); (try clear hb); obtain ⟨hcz16_0, hcz16_1, hcz16_2, hcz16_3, hfz16_0, hfz16_1, hfz16_2, hfz16_3⟩ := blkc4 BK181; obtain ⟨hcz17_0, hcz17_1, hcz17_2, hcz17_3, hfz17_0, hfz17_1, hfz17_2, hfz17_3⟩ := blkc4 BK182))
     go_meet
     case rel => exact ⟨_, ((a1_1 == 2)), rS, H', ⟨by first | omega | exact Nat.le_refl _⟩, ⟨bK BK181⟩, ⟨bK BK182⟩, ⟨bG⟩⟩
    ·
     rw [if_neg c10] at H
     have c10b0 : (a0_1 == 2) = false := beq_eq_false_iff_ne.mpr c10
     have c10b1 : (a0_1 != 2) = true := bne_iff_ne.mpr c10
     (first | rw [c10b0] | (simp only [i64_w, i32_w]; rw [c10b0]) | skip)
     have H' := Aside0.mk H
     clear H
     have hnb18 := NB181_182.out
     have hnc18 := NB182_181.out
     obtain ⟨hcz19_0, hcz19_1, hcz19_2, hcz19_3, hfz19_0, hfz19_1, hfz19_2, hfz19_3⟩ := blkc4 BK181
     go_wp2_with (first | ((with_reducible refine gate_callee (f := 145) rfl ?_); refine gL (some 7) Try.func145 #[.agg #[.int .i64 a0_0, .int .i64 a0_1, .int .i64 a0_2, .int .i64 a0_3]] ?_; (with_reducible refine (spec_IsPath.calls a0_0 a0_1 a0_2 a0_3 true _ A6.out).mono ?_); rintro e w20 ⟨rfl, hb⟩; refine ⟨_, rfl, ?_⟩; replace BK181 := Aside0.mk (blk_below (g := gb181) (bK BK181) hb); replace BK182 := Aside0.mk (blk_below (g := gb182) (bK BK182) hb); replace HB := Aside0.mk (below_step bG hb); (try clear hb); have hcz21_0 : w20.cell? ⟨gb182, 0, none⟩ = some (.int .i64 a1_0) := bC BK182 0; have hcz21_1 : w20.cell? ⟨gb182, 1, none⟩ = some (.int .i64 a1_1) := bC BK182 1; have hcz21_2 : w20.cell? ⟨gb182, 2, none⟩ = some (.int .i64 a1_2) := bC BK182 2; have hcz21_3 : w20.cell? ⟨gb182, 3, none⟩ = some (.int .i64 a1_3) := bC BK182 3; have hfz21_0 := blk_frozen BK182.out 0; have hfz21_1 := blk_frozen BK182.out 1; have hfz21_2 := blk_frozen BK182.out 2; have hfz21_3 := blk_frozen BK182.out 3) | (go_at_call 145; (with_reducible refine (spec_IsPath.calls a1_0 a1_1 a1_2 a1_3 true _ A8.out).mono ?_); rintro e w22 ⟨rfl, hb⟩; replace BK181 := Aside0.mk (blk_below (g := gb181) (bK BK181) hb); replace BK182 := Aside0.mk (blk_below (g := gb182) (bK BK182) hb); replace HB := Aside0.mk (below_step bG hb); (try clear hb); obtain ⟨hcz23_0, hcz23_1, hcz23_2, hcz23_3, hfz23_0, hfz23_1, hfz23_2, hfz23_3⟩ := blkc4 BK181))
     go_meet
     case rel => exact ⟨_, (false), rS, H', ⟨by first | omega | exact Nat.le_refl _⟩, ⟨bK BK181⟩, ⟨bK BK182⟩, ⟨bG⟩⟩
   ·
    replace c9 := Bool.eq_false_iff.mpr c9
    subst c9
    have H1 : (spec_Conflict.j0 k true a0_0 a0_1 a0_2 a0_3 a1_0 a1_1 a1_2 a1_3) = some r := by rw [if_neg (show ¬ (false = true) by decide)] at H; exact H
    clear H
    have H := H1
    clear H1
    have H' := Aside0.mk H
    clear H
    have hnb24 := NB181_182.out
    have hnc24 := NB182_181.out
    obtain ⟨hcz25_0, hcz25_1, hcz25_2, hcz25_3, hfz25_0, hfz25_1, hfz25_2, hfz25_3⟩ := blkc4 BK181
    go_wp2_with (first | ((with_reducible refine gate_callee (f := 145) rfl ?_); refine gL (some 7) Try.func145 #[.agg #[.int .i64 a0_0, .int .i64 a0_1, .int .i64 a0_2, .int .i64 a0_3]] ?_; (with_reducible refine (spec_IsPath.calls a0_0 a0_1 a0_2 a0_3 true _ A6.out).mono ?_); rintro e w26 ⟨rfl, hb⟩; refine ⟨_, rfl, ?_⟩; replace BK181 := Aside0.mk (blk_below (g := gb181) (bK BK181) hb); replace BK182 := Aside0.mk (blk_below (g := gb182) (bK BK182) hb); replace HB := Aside0.mk (below_step bG hb); (try clear hb); have hcz27_0 : w26.cell? ⟨gb182, 0, none⟩ = some (.int .i64 a1_0) := bC BK182 0; have hcz27_1 : w26.cell? ⟨gb182, 1, none⟩ = some (.int .i64 a1_1) := bC BK182 1; have hcz27_2 : w26.cell? ⟨gb182, 2, none⟩ = some (.int .i64 a1_2) := bC BK182 2; have hcz27_3 : w26.cell? ⟨gb182, 3, none⟩ = some (.int .i64 a1_3) := bC BK182 3; have hfz27_0 := blk_frozen BK182.out 0; have hfz27_1 := blk_frozen BK182.out 1; have hfz27_2 := blk_frozen BK182.out 2; have hfz27_3 := blk_frozen BK182.out 3) | (go_at_call 145; (with_reducible refine (spec_IsPath.calls a1_0 a1_1 a1_2 a1_3 false _ A8.out).mono ?_); rintro e w28 ⟨rfl, hb⟩; replace BK181 := Aside0.mk (blk_below (g := gb181) (bK BK181) hb); replace BK182 := Aside0.mk (blk_below (g := gb182) (bK BK182) hb); replace HB := Aside0.mk (below_step bG hb); (try clear hb)))
    go_meet
    case rel => exact ⟨_, (true), rS, H', ⟨by first | omega | exact Nat.le_refl _⟩, ⟨bK BK181⟩, ⟨bK BK182⟩, ⟨bG⟩⟩
  ·
   replace c7 := Bool.eq_false_iff.mpr c7
   subst c7
   have H1 : (spec_Conflict.j0 k true a0_0 a0_1 a0_2 a0_3 a1_0 a1_1 a1_2 a1_3) = some r := by rw [if_neg (show ¬ (false = true) by decide)] at H; exact H
   clear H
   have H := H1
   clear H1
   have H' := Aside0.mk H
   clear H
   have hnb29 := NB181_182.out
   have hnc29 := NB182_181.out
   obtain ⟨hcz30_0, hcz30_1, hcz30_2, hcz30_3, hfz30_0, hfz30_1, hfz30_2, hfz30_3⟩ := blkc4 BK181
   go_wp2_with (first | ((with_reducible refine gate_callee (f := 145) rfl ?_); refine gL (some 7) Try.func145 #[.agg #[.int .i64 a0_0, .int .i64 a0_1, .int .i64 a0_2, .int .i64 a0_3]] ?_; (with_reducible refine (spec_IsPath.calls a0_0 a0_1 a0_2 a0_3 false _ A6.out).mono ?_); rintro e w31 ⟨rfl, hb⟩; refine ⟨_, rfl, ?_⟩; replace BK181 := Aside0.mk (blk_below (g := gb181) (bK BK181) hb); replace BK182 := Aside0.mk (blk_below (g := gb182) (bK BK182) hb); replace HB := Aside0.mk (below_step bG hb); (try clear hb)))
   go_meet
   case rel => exact ⟨_, (true), rS, H', ⟨by first | omega | exact Nat.le_refl _⟩, ⟨bK BK181⟩, ⟨bK BK182⟩, ⟨bG⟩⟩
 case rest =>
  clear HC3
  try clear c1
  try clear c2
  try clear p2
  try clear c7
  try clear c9
  try clear c10
  try clear c10b0
  try clear c10b1
  try clear c11
  try clear c12
  try clear c14
  try clear c18
  try clear c24
  try clear c29
  try clear hcz12_0
  try clear hcz12_1
  try clear hcz12_2
  try clear hcz12_3
  try clear hcz14_0
  try clear hcz14_1
  try clear hcz14_2
  try clear hcz14_3
  try clear hcz16_0
  try clear hcz16_1
  try clear hcz16_2
  try clear hcz16_3
  try clear hcz17_0
  try clear hcz17_1
  try clear hcz17_2
  try clear hcz17_3
  try clear hcz19_0
  try clear hcz19_1
  try clear hcz19_2
  try clear hcz19_3
  try clear hcz21_0
  try clear hcz21_1
  try clear hcz21_2
  try clear hcz21_3
  try clear hcz23_0
  try clear hcz23_1
  try clear hcz23_2
  try clear hcz23_3
  try clear hcz25_0
  try clear hcz25_1
  try clear hcz25_2
  try clear hcz25_3
  try clear hcz27_0
  try clear hcz27_1
  try clear hcz27_2
  try clear hcz27_3
  try clear hcz30_0
  try clear hcz30_1
  try clear hcz30_2
  try clear hcz30_3
  try clear hfz12_0
  try clear hfz12_1
  try clear hfz12_2
  try clear hfz12_3
  try clear hfz14_0
  try clear hfz14_1
  try clear hfz14_2
  try clear hfz14_3
  try clear hfz16_0
  try clear hfz16_1
  try clear hfz16_2
  try clear hfz16_3
  try clear hfz17_0
  try clear hfz17_1
  try clear hfz17_2
  try clear hfz17_3
  try clear hfz19_0
  try clear hfz19_1
  try clear hfz19_2
  try clear hfz19_3
  try clear hfz21_0
  try clear hfz21_1
  try clear hfz21_2
  try clear hfz21_3
  try clear hfz23_0
  try clear hfz23_1
  try clear hfz23_2
  try clear hfz23_3
  try clear hfz25_0
  try clear hfz25_1
  try clear hfz25_2
  try clear hfz25_3
  try clear hfz27_0
  try clear hfz27_1
  try clear hfz27_2
  try clear hfz27_3
  try clear hfz30_0
  try clear hfz30_1
  try clear hfz30_2
  try clear hfz30_3
  obtain ⟨kq, x5_2, rfl, HA, HJ2, BK181, BK182, HB⟩ := hcut
  cases kq with
  | zero => exact absurd HA.out (by simp [spec_Conflict.j0])
  | succ kj2 =>
   have H := HA.out
   clear HA
   simp only [spec_Conflict.j0] at H
   by_cases c32 : x5_2 = true
   ·
    subst c32
    have H1 : (some false) = some r := by rw [if_pos rfl] at H; exact H
    clear H
    have H := H1
    clear H1
    obtain rfl := Option.some.inj H
    go_wp2
    go_ret
    exact ⟨rA, bG⟩
   ·
    replace c32 := Bool.eq_false_iff.mpr c32
    subst c32
    have H1 : (if a0_1 = 2 then (if a1_2 = a0_2 then (some true) else (some (a1_3 == a0_2))) else (if a1_1 = 2 then (if a0_2 = a1_2 then (some true) else (some (a0_3 == a1_2))) else (if a0_2 = a1_2 then (some false) else (if a0_3 = a1_3 then (some true) else ((spec_InPlace.f a0_2).bind fun t185 => ((spec_OutPlace.f a0_3).bind fun t186 => ((spec_InPlace.f a1_2).bind fun t187 => ((spec_OutPlace.f a1_3).bind fun t188 => ((spec_Interleave.f kj2 t185 t186 t187 t188).bind fun t189 => (some t189)))))))))) = some r := by rw [if_neg (show ¬ (false = true) by decide)] at H; exact H
    clear H
    have H := H1
    clear H1
    by_cases c33 : a0_1 = 2
    ·
     rw [if_pos c33] at H
     have c33b0 : (a0_1 == 2) = true := beq_iff_eq.mpr c33
     have c33b1 : (a0_1 != 2) = false := bne_eq_false_iff_eq.mpr c33
     clear c33
     by_cases c34 : a1_2 = a0_2
     ·
      rw [if_pos c34] at H
      have c34b0 : (a1_2 == a0_2) = true := beq_iff_eq.mpr c34
      have c34b1 : (a1_2 != a0_2) = false := bne_eq_false_iff_eq.mpr c34
      clear c34
      obtain rfl := Option.some.inj H
      have hnb35 := NB181_182.out
      have hnc35 := NB182_181.out
      obtain ⟨hcz36_0, hcz36_1, hcz36_2, hcz36_3, hfz36_0, hfz36_1, hfz36_2, hfz36_3⟩ := blkc4 BK181
      obtain ⟨hcz37_0, hcz37_1, hcz37_2, hcz37_3, hfz37_0, hfz37_1, hfz37_2, hfz37_3⟩ := blkc4 BK182
      go_wp2
      go_ret
      exact ⟨rA, bG⟩
     ·
      rw [if_neg c34] at H
      have c34b0 : (a1_2 == a0_2) = false := beq_eq_false_iff_ne.mpr c34
      have c34b1 : (a1_2 != a0_2) = true := bne_iff_ne.mpr c34
      obtain rfl := Option.some.inj H
      have hnb38 := NB181_182.out
      have hnc38 := NB182_181.out
      obtain ⟨hcz39_0, hcz39_1, hcz39_2, hcz39_3, hfz39_0, hfz39_1, hfz39_2, hfz39_3⟩ := blkc4 BK181
      obtain ⟨hcz40_0, hcz40_1, hcz40_2, hcz40_3, hfz40_0, hfz40_1, hfz40_2, hfz40_3⟩ := blkc4 BK182
      go_wp2
      go_ret
      exact ⟨rA, bG⟩
    ·
     rw [if_neg c33] at H
     have c33b0 : (a0_1 == 2) = false := beq_eq_false_iff_ne.mpr c33
     have c33b1 : (a0_1 != 2) = true := bne_iff_ne.mpr c33
     by_cases c41 : a1_1 = 2
     ·
      rw [if_pos c41] at H
      have c41b0 : (a1_1 == 2) = true := beq_iff_eq.mpr c41
      have c41b1 : (a1_1 != 2) = false := bne_eq_false_iff_eq.mpr c41
      clear c41
      by_cases c42 : a0_2 = a1_2
      ·
       rw [if_pos c42] at H
       have c42b0 : (a0_2 == a1_2) = true := beq_iff_eq.mpr c42
       have c42b1 : (a0_2 != a1_2) = false := bne_eq_false_iff_eq.mpr c42
       clear c42
       obtain rfl := Option.some.inj H
       have hnb43 := NB181_182.out
       have hnc43 := NB182_181.out
       obtain ⟨hcz44_0, hcz44_1, hcz44_2, hcz44_3, hfz44_0, hfz44_1, hfz44_2, hfz44_3⟩ := blkc4 BK181
       obtain ⟨hcz45_0, hcz45_1, hcz45_2, hcz45_3, hfz45_0, hfz45_1, hfz45_2, hfz45_3⟩ := blkc4 BK182
       go_wp2
       go_ret
       exact ⟨rA, bG⟩
      ·
       rw [if_neg c42] at H
       have c42b0 : (a0_2 == a1_2) = false := beq_eq_false_iff_ne.mpr c42
       have c42b1 : (a0_2 != a1_2) = true := bne_iff_ne.mpr c42
       obtain rfl := Option.some.inj H
       have hnb46 := NB181_182.out
       have hnc46 := NB182_181.out
       obtain ⟨hcz47_0, hcz47_1, hcz47_2, hcz47_3, hfz47_0, hfz47_1, hfz47_2, hfz47_3⟩ := blkc4 BK181
       obtain ⟨hcz48_0, hcz48_1, hcz48_2, hcz48_3, hfz48_0, hfz48_1, hfz48_2, hfz48_3⟩ := blkc4 BK182
       go_wp2
       go_ret
       exact ⟨rA, bG⟩
     ·
      rw [if_neg c41] at H
      have c41b0 : (a1_1 == 2) = false := beq_eq_false_iff_ne.mpr c41
      have c41b1 : (a1_1 != 2) = true := bne_iff_ne.mpr c41
      by_cases c49 : a0_2 = a1_2
      ·
       rw [if_pos c49] at H
       have c49b0 : (a0_2 == a1_2) = true := beq_iff_eq.mpr c49
       have c49b1 : (a0_2 != a1_2) = false := bne_eq_false_iff_eq.mpr c49
       clear c49
       obtain rfl := Option.some.inj H
       have hnb50 := NB181_182.out
       have hnc50 := NB182_181.out
       obtain ⟨hcz51_0, hcz51_1, hcz51_2, hcz51_3, hfz51_0, hfz51_1, hfz51_2, hfz51_3⟩ := blkc4 BK181
       obtain ⟨hcz52_0, hcz52_1, hcz52_2, hcz52_3, hfz52_0, hfz52_1, hfz52_2, hfz52_3⟩ := blkc4 BK182
       go_wp2
       go_ret
       exact ⟨rA, bG⟩
      ·
       rw [if_neg c49] at H
       have c49b0 : (a0_2 == a1_2) = false := beq_eq_false_iff_ne.mpr c49
       have c49b1 : (a0_2 != a1_2) = true := bne_iff_ne.mpr c49
       by_cases c53 : a0_3 = a1_3
       ·
        rw [if_pos c53] at H
        have c53b0 : (a0_3 == a1_3) = true := beq_iff_eq.mpr c53
        have c53b1 : (a0_3 != a1_3) = false := bne_eq_false_iff_eq.mpr c53
        clear c53
        obtain rfl := Option.some.inj H
        have hnb54 := NB181_182.out
        have hnc54 := NB182_181.out
        obtain ⟨hcz55_0, hcz55_1, hcz55_2, hcz55_3, hfz55_0, hfz55_1, hfz55_2, hfz55_3⟩ := blkc4 BK181
        obtain ⟨hcz56_0, hcz56_1, hcz56_2, hcz56_3, hfz56_0, hfz56_1, hfz56_2, hfz56_3⟩ := blkc4 BK182
        go_wp2
        go_ret
        exact ⟨rA, bG⟩
       ·
        rw [if_neg c53] at H
        have c53b0 : (a0_3 == a1_3) = false := beq_eq_false_iff_ne.mpr c53
        have c53b1 : (a0_3 != a1_3) = true := bne_iff_ne.mpr c53
        obtain ⟨t185, A57, H⟩ := bindE H
        try dsimp only at H
        obtain ⟨t186, A58, H⟩ := bindE H
        try dsimp only at H
        obtain ⟨t187, A59, H⟩ := bindE H
        try dsimp only at H
        obtain ⟨t188, A60, H⟩ := bindE H
        try dsimp only at H
        obtain ⟨t189, A61, H⟩ := bindE H
        try dsimp only at H
        obtain rfl := Option.some.inj H
        have hnb62 := NB181_182.out
        have hnc62 := NB182_181.out
        obtain ⟨hcz63_0, hcz63_1, hcz63_2, hcz63_3, hfz63_0, hfz63_1, hfz63_2, hfz63_3⟩ := blkc4 BK181
        obtain ⟨hcz64_0, hcz64_1, hcz64_2, hcz64_3, hfz64_0, hfz64_1, hfz64_2, hfz64_3⟩ := blkc4 BK182
        try go_wp2
        replace BK181 := Aside0.mk (blk_drew BK181.out)
        replace BK182 := Aside0.mk (blk_drew BK182.out)
        have HBo := HB
        replace HB := Aside0.mk (below_drew1 HB.out)
        refine start_ (n := 14) (S := fun w' => w'.cell? ⟨gb181, 0, none⟩ = some (.int .i64 a0_0) ∧ w'.cell? ⟨gb181, 1, none⟩ = some (.int .i64 a0_1) ∧ w'.cell? ⟨gb181, 2, none⟩ = some (.int .i64 a0_2) ∧ w'.cell? ⟨gb181, 3, none⟩ = some (.int .i64 a0_3) ∧ w'.cell? ⟨gb182, 0, none⟩ = some (.int .i64 a1_0) ∧ w'.cell? ⟨gb182, 1, none⟩ = some (.int .i64 a1_1) ∧ w'.cell? ⟨gb182, 2, none⟩ = some (.int .i64 a1_2) ∧ w'.cell? ⟨gb182, 3, none⟩ = some (.int .i64 a1_3)) (ds := []) (mb 14 0) (by kernel_rfl) rfl rfl ⟨bC BK181 0, bC BK181 1, bC BK181 2, bC BK181 3, bC BK182 0, bC BK182 1, bC BK182 2, bC BK182 3⟩ (fun hHeld => ?_); refine with_tabW spec_Conflict.tab11 spec_Conflict.bits11 (fun HT_ HW_ => ?_)
        generalize wc.drew = w65 at BK181 BK182 HB hHeld ⊢
        refine pA (i := 0) (N := some 68) (mb 14 1) HT_ ?_
        refine pA (i := 3) (N := some 71) (mb 14 9) HT_ ?_
        refine pA (i := 6) (N := some 74) (mb 14 73) HT_ ?_
        refine pA (i := 9) (N := some 77) (mb 14 585) HT_ ?_
        refine tA8 (i := 1) (N := some 69) (mb 14 587) HT_ HW_ hHeld ?_
        refine tA8 (i := 4) (N := some 72) (mb 14 603) HT_ HW_ hHeld ?_
        refine tA8 (i := 7) (N := some 75) (mb 14 731) HT_ HW_ hHeld ?_
        refine tA8 (i := 10) (N := some 78) (mb 14 1755) HT_ HW_ hHeld ?_
        refine oA (i := 2) (N := some 70) (mb 14 1759) HT_ (fun K hK => ?_)
        refine gA Try.func150 #[.int .i64 a0_2] ?_
        with_reducible refine (spec_InPlace.calls a0_2 t185 _ A57.out).mono ?_
        rintro e w' ⟨rfl, ⟨nd, rfl⟩⟩
        refine ⟨_, rfl, ?_⟩
        refine hK.out _ _ ⟨bC BK181 0, bC BK181 1, bC BK181 2, bC BK181 3, bC BK182 0, bC BK182 1, bC BK182 2, bC BK182 3⟩ (fun hHeld => ?_)
        clear hK K
        refine nB ?_
        refine oA (i := 5) (N := some 73) (mb 14 1791) HT_ (fun K hK => ?_)
        refine gA Try.func151 #[.int .i64 a0_3] ?_
        with_reducible refine (spec_OutPlace.calls a0_3 t186 _ A58.out).mono ?_
        rintro e w' ⟨rfl, ⟨nd, rfl⟩⟩
        refine ⟨_, rfl, ?_⟩
        refine hK.out _ _ ⟨bC BK181 0, bC BK181 1, bC BK181 2, bC BK181 3, bC BK182 0, bC BK182 1, bC BK182 2, bC BK182 3⟩ (fun hHeld => ?_)
        clear hK K
        refine nB ?_
        refine oA (i := 8) (N := some 76) (mb 14 2047) HT_ (fun K hK => ?_)
        refine gA Try.func150 #[.int .i64 a1_2] ?_
        with_reducible refine (spec_InPlace.calls a1_2 t187 _ A59.out).mono ?_
        rintro e w' ⟨rfl, ⟨nd, rfl⟩⟩
        refine ⟨_, rfl, ?_⟩
        refine hK.out _ _ ⟨bC BK181 0, bC BK181 1, bC BK181 2, bC BK181 3, bC BK182 0, bC BK182 1, bC BK182 2, bC BK182 3⟩ (fun hHeld => ?_)
        clear hK K
        refine nB ?_
        refine oA (i := 11) (N := some 79) (mb 14 4095) HT_ (fun K hK => ?_)
        refine gA Try.func151 #[.int .i64 a1_3] ?_
        with_reducible refine (spec_OutPlace.calls a1_3 t188 _ A60.out).mono ?_
        rintro e w' ⟨rfl, ⟨nd, rfl⟩⟩
        refine ⟨_, rfl, ?_⟩
        refine hK.out _ _ ⟨bC BK181 0, bC BK181 1, bC BK181 2, bC BK181 3, bC BK182 0, bC BK182 1, bC BK182 2, bC BK182 3⟩ (fun hHeld => ?_)
        clear hK K
        refine nB ?_
        refine oA (i := 12) (N := some 80) (mb 14 8191) HT_ (fun K hK => ?_)
        refine gA Try.func149 #[.int .i64 t185, .int .i64 t186, .int .i64 t187, .int .i64 t188] ?_
        with_reducible refine (spec_Interleave.calls kj2 t185 t186 t187 t188 t189 _ A61.out).mono ?_
        rintro e w66 ⟨rfl, hb⟩
        refine ⟨_, rfl, ?_⟩
        replace BK181 := Aside0.mk (blk_below (g := gb181) (bK BK181) hb)
        replace BK182 := Aside0.mk (blk_below (g := gb182) (bK BK182) hb)
        replace HB := Aside0.mk (below_step bG hb)
        (try clear hb)
        (try clear hb2)
        (try clear hk)
        (try clear hi)
        refine hK.out _ _ ⟨bC BK181 0, bC BK181 1, bC BK181 2, bC BK181 3, bC BK182 0, bC BK182 1, bC BK182 2, bC BK182 3⟩ (fun hHeld => ?_)
        clear hK K
        refine nB ?_
        refine pA (i := 13) (N := some 4) (mb 14 16383) HT_ ?_
        refine eA HT_ ?_
        try go_wp2
        go_ret
        exact ⟨rA, bG⟩

/-! ### spec_IsTogether: function 82 -/
mutual
def spec_IsTogether.l0 : Nat → List (S89) → List Int → Int → Option (Bool)
 | 0, _, _, _ => none
 | k + 1, x0, x1, x5 => if x5 < (x1.length : Int) then (if 0 ≤ x5 then ((spec_FindPath.f k x0 (rd x1 x5)).bind fun t192 => (if t192 < 0 then (spec_IsTogether.j1 k x0 x1 x5 t192 true) else (if x5 > 0 then (if 0 ≤ (wrap64 (x5 - 1)) then (if (wrap64 (x5 - 1)) < (x1.length : Int) then (spec_IsTogether.j1 k x0 x1 x5 t192 (decide ((rd x1 (wrap64 (x5 - 1))) ≥ (rd x1 x5)))) else (none)) else (none)) else (spec_IsTogether.j1 k x0 x1 x5 t192 false)))) else (none)) else ((spec_ArePaths.f k x0).bind fun t190 => (some t190))
def spec_IsTogether.j1 : Nat → List (S89) → List Int → Int → Int → Bool → Option (Bool)
 | 0, _, _, _, _, _ => none
 | k + 1, x0, x1, x5, x6, x37 => if x37 = true then (some false) else (spec_IsTogether.l1 k x0 x1 x5 x6 0)
def spec_IsTogether.l1 : Nat → List (S89) → List Int → Int → Int → Int → Option (Bool)
 | 0, _, _, _, _, _ => none
 | k + 1, x0, x1, x5, x6, x7 => if x7 < x5 then (if 0 ≤ x6 then (if x6 < (x0.length : Int) then (if 0 ≤ x7 then (if x7 < (x1.length : Int) then ((spec_FindPath.f k x0 (rd x1 x7)).bind fun t197 => (if 0 ≤ t197 then (if t197 < (x0.length : Int) then ((spec_Conflict.f k ((rd_T89 x0 x6).f0) ((rd_T89 x0 x6).f1) ((rd_T89 x0 x6).f2) ((rd_T89 x0 x6).f3) ((rd_T89 x0 t197).f0) ((rd_T89 x0 t197).f1) ((rd_T89 x0 t197).f2) ((rd_T89 x0 t197).f3)).bind fun t199 => (if t199 = true then (some false) else (spec_IsTogether.l1 k x0 x1 x5 x6 (wrap64 (x7 + 1))))) else (none)) else (none))) else (none)) else (none)) else (none)) else (none)) else (spec_IsTogether.l0 k x0 x1 (wrap64 (x5 + 1)))
end
def spec_IsTogether.f (k : Nat) (l0 : List (S89)) (l1 : List Int) : Option (Bool) := spec_IsTogether.l0 k l0 l1 0
theorem spec_IsTogether.mono_l : ∀ k, (∀ y0 y1 y2, LeO (spec_IsTogether.l0 k y0 y1 y2) (spec_IsTogether.l0 (k + 1) y0 y1 y2)) ∧ (∀ y0 y1 y2 y3 y4, LeO (spec_IsTogether.j1 k y0 y1 y2 y3 y4) (spec_IsTogether.j1 (k + 1) y0 y1 y2 y3 y4)) ∧ (∀ y0 y1 y2 y3 y4, LeO (spec_IsTogether.l1 k y0 y1 y2 y3 y4) (spec_IsTogether.l1 (k + 1) y0 y1 y2 y3 y4))
 | 0 => ⟨fun _ _ _ r h => by simp [spec_IsTogether.l0] at h, fun _ _ _ _ _ r h => by simp [spec_IsTogether.j1] at h, fun _ _ _ _ _ r h => by simp [spec_IsTogether.l1] at h⟩
 | k + 1 => by
  obtain ⟨ih0, ih1, ih2⟩ := spec_IsTogether.mono_l k
  refine ⟨?_, ?_, ?_⟩
  ·
   intro y0 y1 y2
   unfold spec_IsTogether.l0
   repeat' first | (with_reducible first | exact LeO.refl _ | exact LeO.none _ | refine LeO.ite ?_ ?_ | refine LeO.bind ?_ (fun _ => ?_) | exact ih0 _ _ _ | exact ih1 _ _ _ _ _ | exact ih2 _ _ _ _ _ | exact spec_ArePaths.mono _ _ | exact spec_Conflict.mono _ _ _ _ _ _ _ _ _ | exact spec_FindPath.mono _ _ _)
  ·
   intro y0 y1 y2 y3 y4
   unfold spec_IsTogether.j1
   repeat' first | (with_reducible first | exact LeO.refl _ | exact LeO.none _ | refine LeO.ite ?_ ?_ | refine LeO.bind ?_ (fun _ => ?_) | exact ih0 _ _ _ | exact ih1 _ _ _ _ _ | exact ih2 _ _ _ _ _ | exact spec_ArePaths.mono _ _ | exact spec_Conflict.mono _ _ _ _ _ _ _ _ _ | exact spec_FindPath.mono _ _ _)
  ·
   intro y0 y1 y2 y3 y4
   unfold spec_IsTogether.l1
   repeat' first | (with_reducible first | exact LeO.refl _ | exact LeO.none _ | refine LeO.ite ?_ ?_ | refine LeO.bind ?_ (fun _ => ?_) | exact ih0 _ _ _ | exact ih1 _ _ _ _ _ | exact ih2 _ _ _ _ _ | exact spec_ArePaths.mono _ _ | exact spec_Conflict.mono _ _ _ _ _ _ _ _ _ | exact spec_FindPath.mono _ _ _)
theorem spec_IsTogether.mono : ∀ a0 a1 k, LeO (spec_IsTogether.f k a0 a1) (spec_IsTogether.f (k + 1) a0 a1) := by
 intro a0 a1 k
 obtain ⟨ih0, ih1, ih2⟩ := spec_IsTogether.mono_l k
 unfold spec_IsTogether.f
 repeat' first | (with_reducible first | exact LeO.refl _ | exact LeO.none _ | refine LeO.ite ?_ ?_ | refine LeO.bind ?_ (fun _ => ?_) | exact ih0 _ _ _ | exact ih1 _ _ _ _ _ | exact ih2 _ _ _ _ _ | exact spec_ArePaths.mono _ _ | exact spec_Conflict.mono _ _ _ _ _ _ _ _ _ | exact spec_FindPath.mono _ _ _)
def spec_IsTogether.T5 : Bool × List (List Nat × List Nat) := (true, [([], []), ([0], [0]), ([1], [1]), ([2], [2]), ([3, 2], [2, 3]), ([4, 2, 2], [2, 4]), ([5], [5]), ([5], [5]), ([7, 5], [5, 7]), ([6, 8, 5], [5, 6, 8]), ([9, 5], [5, 9]), ([5], [5]), ([5], [5]), ([11, 12, 5], [5, 11, 12]), ([13, 5], [5, 13]), ([10, 14, 5], [5, 10, 14]), ([5, 15, 2], [2, 5, 15]), ([2, 16], [2, 16])])
def spec_IsTogether.B5 : List Nat := [0, 1, 3, 7, 15, 31, 63, 63, 191, 511, 1023, 63, 63, 6207, 14399, 32767, 65535, 131071]
theorem spec_IsTogether.tab5 : rtab .any (opsOf Try.f82 5) = spec_IsTogether.T5 := by kernel_rfl
theorem spec_IsTogether.bits5 : waitsOk spec_IsTogether.T5.2 spec_IsTogether.B5 = true := by kernel_rfl
def spec_IsTogether.T10 : Bool × List (List Nat × List Nat) := (true, [([], []), ([], []), ([0, 1], [0, 1]), ([2], [2]), ([], []), ([], []), ([], []), ([], []), ([6, 7], [6, 7]), ([8], [8]), ([5, 9], [5, 9]), ([4, 10], [4, 10]), ([11], [11]), ([3, 12, 10], [3, 12])])
def spec_IsTogether.B10 : List Nat := [0, 0, 3, 7, 0, 0, 0, 0, 192, 448, 992, 2032, 4080, 8191]
theorem spec_IsTogether.tab10 : rtab .any (opsOf Try.f82 10) = spec_IsTogether.T10 := by kernel_rfl
theorem spec_IsTogether.bits10 : waitsOk spec_IsTogether.T10.2 spec_IsTogether.B10 = true := by kernel_rfl
set_option maxHeartbeats 8000000 in
set_option maxRecDepth 100000 in
theorem spec_IsTogether.calls (k : Nat) (A0 : Option Addr) (c0 : Nat) (l0 : List (S89)) (A1 : Option Addr) (c1 : Nat) (l1 : List Int) (r : Bool) (w : World) (hr0 : Kd.C k89 w A0 l0.length l0) (hc0 : l0.length ≤ c0) (hr1 : Kd.C (Kd.int .i64) w A1 l1.length l1) (hc1 : l1.length ≤ c1) (h : spec_IsTogether.f k l0 l1 = some r) :
  Calls Try.prog 82 #[.slice A0 l0.length c0, .slice A1 l1.length c1] w fun e w' => e = .returned (.bool r) ∧ Below w.heap.size w w' := by
 have hu89 := Try.underlying89
 have HR0 := Aside0.mk hr0
 have HC0 := Aside0.mk hc0
 clear hr0 hc0
 have HR1 := Aside0.mk hr1
 have HC1 := Aside0.mk hc1
 clear hr1 hc1
 have HB := Aside0.mk (Below.refl w.heap.size w)
 have H : (spec_IsTogether.l0 k l0 l1 0) = some r := h
 clear h
 have H' := Aside0.mk H
 clear H
 go_enter Try.func82, Try.ntmps82
 go_wp2
 go_loopg [5] k (fun kq v5 w' => ∃ (x5_1 : Int), v5 = .int .i64 x5_1 ∧ Aside0 (spec_IsTogether.l0 kq l0 l1 x5_1 = some r) ∧ Aside0 (kq ≤ k) ∧ Aside0 (Below w.heap.size w w'))
 case atStart => exact ⟨(0), rS, H', ⟨Nat.le_refl _⟩, ⟨bA⟩⟩
 case round =>
  clear H'
  try clear c1
  try clear p2
  obtain ⟨x5_1, rfl, HA, HK1, HB⟩ := hrel
  cases gk with
  | zero => exact absurd HA.out (by simp [spec_IsTogether.l0])
  | succ k1 =>
   have H := HA.out
   clear HA
   simp only [spec_IsTogether.l0] at H
   by_cases c3 : x5_1 < (l1.length : Int)
   ·
    rw [if_pos c3] at H
    have c3b0 := decide_eq_true c3
    clear c3
    have c4 : 0 ≤ x5_1 := ifN H
    replace H := ifT H
    have c4b0 := decide_eq_true c4
    clear c4
    obtain ⟨t192, A5, H⟩ := bindE H
    try dsimp only at H
    have HC6 := Aside0.mk H
    clear H
    have p191 : 0 ≤ (x5_1 : Int) := dA
    have q191 : x5_1 < (l1.length : Int) := dA
    obtain ⟨ad191, e191, hx191_0⟩ := Kd.at_int HR1.out x5_1 p191 q191
    cases e191
    replace hx191_0 := hC HB hx191_0
    replace p191 := eq_true p191
    replace q191 := eq_true q191
    go_upto_region 5 with (first | ((with_reducible refine gate_callee (f := 116) rfl ?_); refine gL (some 19) Try.func116 #[.slice A0 l0.length c0, .int .i64 (rd l1 x5_1)] ?_; (with_reducible refine (spec_FindPath.calls k1 _ _ l0 (rd l1 x5_1) t192 _ ?side1 ?side2 A5.out).mono ?_); (case side1 => exact cB HR0); (case side2 => exact HC0.out); rintro e w' ⟨rfl, ⟨nd, rfl⟩⟩; refine ⟨_, rfl, ?_⟩))
    (try simp only [Act.put, List.setIfInBounds_toArray, List.set_cons_zero, List.set_cons_succ])
    go_cut [37] (fun v37 wc => ∃ (kq : Nat) (x37_5 : Bool), v37 = .bool x37_5 ∧ Aside0 (spec_IsTogether.j1 kq l0 l1 x5_1 t192 x37_5 = some r) ∧ Aside0 (kq ≤ k1) ∧ Aside0 (Below w.heap.size w wc))
    case first =>
     have H := HC6.out
     clear HC6
     by_cases c7 : t192 < 0
     ·
      rw [if_pos c7] at H
      have c7b0 := decide_eq_true c7
      clear c7
      (first | rw [c7b0] | (simp only [i64_w, i32_w]; rw [c7b0]) | skip)
      have H' := Aside0.mk H
      clear H
      try go_wp2
      have HBo := HB
      replace HB := Aside0.mk (below_drew1 HB.out)
      refine start_ (n := 18) (S := fun w' => True) (ds := []) (mb 18 0) (by kernel_rfl) rfl rfl trivial (fun hHeld => ?_); refine with_tabW spec_IsTogether.tab5 spec_IsTogether.bits5 (fun HT_ HW_ => ?_)
      generalize wr.drew = w8 at HB hHeld ⊢
      refine pA (i := 0) (N := some 20) (mb 18 1) HT_ ?_
      refine pA (i := 1) (N := some 21) (mb 18 3) HT_ ?_
      refine pA (i := 2) (N := some 22) (mb 18 7) HT_ ?_
      refine pU (i := 3) (N := some 23) (mb 18 15) HT_ ?_
      refine pU (i := 4) (N := some 24) (mb 18 31) HT_ ?_
      refine pU (i := 5) (N := some 25) (mb 18 63) HT_ ?_
      refine pU (i := 6) (N := some 26) (mb 18 127) HT_ ?_
      refine pU (i := 7) (N := some 27) (mb 18 255) HT_ ?_
      refine pU (i := 8) (N := some 28) (mb 18 511) HT_ ?_
      refine pU (i := 9) (N := some 29) (mb 18 1023) HT_ ?_
      refine pU (i := 10) (N := some 30) (mb 18 2047) HT_ ?_
      refine pU (i := 11) (N := some 31) (mb 18 4095) HT_ ?_
      refine pU (i := 12) (N := some 32) (mb 18 8191) HT_ ?_
      refine pU (i := 13) (N := some 33) (mb 18 16383) HT_ ?_
      refine pU (i := 14) (N := some 34) (mb 18 32767) HT_ ?_
      refine pU (i := 15) (N := some 35) (mb 18 65535) HT_ ?_
      refine pU (i := 16) (N := some 36) (mb 18 131071) HT_ ?_
      refine pA (i := 17) (N := some 37) (mb 18 262143) HT_ ?_
      refine eA HT_ ?_
      try go_wp2
      go_meet
      case rel => exact ⟨_, (true), rS, H', ⟨by have := HK1.out; first | omega | exact Nat.le_refl _⟩, ⟨bA⟩⟩
     ·
      rw [if_neg c7] at H
      have c7b0 := decide_eq_false c7
      clear c7
      (first | rw [c7b0] | (simp only [i64_w, i32_w]; rw [c7b0]) | skip)
      by_cases c9 : x5_1 > 0
      ·
       rw [if_pos c9] at H
       have c9b0 := decide_eq_true c9
       clear c9
       obtain ⟨ji10, hji10⟩ : ∃ j_ : Int, (wrap64 (x5_1 - 1)) = j_ := ⟨_, rfl⟩
       replace H : (if 0 ≤ (ji10) then (if (ji10) < (l1.length : Int) then (spec_IsTogether.j1 k1 l0 l1 x5_1 t192 (decide ((rd l1 (ji10)) ≥ (rd l1 x5_1)))) else (none)) else (none)) = some r := by first | (rw [hji10] at H; exact H) | (simp only [hji10] at H ⊢; exact H)
       have hji10w : (IntKind.i64.wrap (x5_1 - 1)) = ji10 := (i64_w _).trans hji10
       have c11 : 0 ≤ (ji10) := ifN H
       replace H := ifT H
       have c11b0 := decide_eq_true c11
       clear c11
       have c12 : (ji10) < (l1.length : Int) := ifN H
       replace H := ifT H
       have c12b0 := decide_eq_true c12
       clear c12
       have H' := Aside0.mk H
       clear H
       try go_wp2
       have HBo := HB
       replace HB := Aside0.mk (below_drew1 HB.out)
       have p193 : 0 ≤ ((ji10) : Int) := dA
       have q193 : (ji10) < (l1.length : Int) := dA
       obtain ⟨ad193, e193, hx193_0⟩ := Kd.at_int HR1.out (ji10) p193 q193
       have hw193_0 := hx193_0
       obtain rfl : ad191 = ad193 := (by injection e193)
       replace hx193_0 := hC HB hx193_0
       replace p193 := eq_true p193
       replace q193 := eq_true q193
       have p194 : 0 ≤ (x5_1 : Int) := dA
       have q194 : x5_1 < (l1.length : Int) := dA
       obtain ⟨ad194, e194, hx194_0⟩ := Kd.at_int HR1.out x5_1 p194 q194
       have hw194_0 := hx194_0
       obtain rfl : ad191 = ad194 := (by injection e194)
       replace hx194_0 := hC HB hx194_0
       replace p194 := eq_true p194
       replace q194 := eq_true q194
       refine start_ (n := 18) (S := fun w' => w'.cell? (ad191.add ((ji10)).toNat) = some (.int .i64 (rd l1 (ji10))) ∧ w'.cell? (ad191.add (x5_1).toNat) = some (.int .i64 (rd l1 x5_1))) (ds := []) (mb 18 0) (by kernel_rfl) rfl rfl ⟨(hC HB hw193_0), (hC HB hw194_0)⟩ (fun hHeld => ?_); refine with_tabW spec_IsTogether.tab5 spec_IsTogether.bits5 (fun HT_ HW_ => ?_)
       generalize wr.drew = w13 at HB hx193_0 hx194_0 hHeld ⊢
       refine pA (i := 0) (N := some 20) (mb 18 1) HT_ ?_
       refine pA (i := 1) (N := some 21) (mb 18 3) HT_ ?_
       refine pA (i := 2) (N := some 22) (mb 18 7) HT_ ?_
       refine pA (i := 3) (N := some 23) (mb 18 15) HT_ ?_
       refine pA (i := 4) (N := some 24) (mb 18 31) HT_ ?_
       refine pA (i := 5) (N := some 25) (mb 18 63) HT_ ?_
       refine pA (i := 6) (N := some 26) (mb 18 127) HT_ ?_
       refine pA (i := 7) (N := some 27) (mb 18 255) HT_ ?_
       refine pA (i := 8) (N := some 28) (mb 18 511) HT_ ?_
       refine pA (i := 9) (N := some 29) (mb 18 1023) HT_ ?_
       refine pA (i := 11) (N := some 31) (mb 18 3071) HT_ ?_
       refine pA (i := 12) (N := some 32) (mb 18 7167) HT_ ?_
       refine pA (i := 13) (N := some 33) (mb 18 15359) HT_ ?_
       refine tA2 (i := 10) (N := some 30) (mb 18 16383) HT_ HW_ hHeld ?_
       refine tA2 (i := 14) (N := some 34) (mb 18 32767) HT_ HW_ hHeld ?_
       refine pA (i := 15) (N := some 35) (mb 18 65535) HT_ ?_
       refine pA (i := 16) (N := some 36) (mb 18 131071) HT_ ?_
       refine pA (i := 17) (N := some 37) (mb 18 262143) HT_ ?_
       refine eA HT_ ?_
       try go_wp2
       go_meet
       case rel => exact ⟨_, (decide ((rd l1 (ji10)) ≥ (rd l1 x5_1))), (by first | rfl | (simp; done) | (simp only [← hji10] <;> (first | rfl | simp)) | (simp [*]; done)), H', ⟨by have := HK1.out; first | omega | exact Nat.le_refl _⟩, ⟨bA⟩⟩
      ·
       rw [if_neg c9] at H
       have c9b0 := decide_eq_false c9
       clear c9
       have H' := Aside0.mk H
       clear H
       try go_wp2
       have HBo := HB
       replace HB := Aside0.mk (below_drew1 HB.out)
       refine start_ (n := 18) (S := fun w' => True) (ds := []) (mb 18 0) (by kernel_rfl) rfl rfl trivial (fun hHeld => ?_); refine with_tabW spec_IsTogether.tab5 spec_IsTogether.bits5 (fun HT_ HW_ => ?_)
       generalize wr.drew = w14 at HB hHeld ⊢
       refine pA (i := 0) (N := some 20) (mb 18 1) HT_ ?_
       refine pA (i := 1) (N := some 21) (mb 18 3) HT_ ?_
       refine pA (i := 2) (N := some 22) (mb 18 7) HT_ ?_
       refine pA (i := 3) (N := some 23) (mb 18 15) HT_ ?_
       refine pA (i := 4) (N := some 24) (mb 18 31) HT_ ?_
       refine pA (i := 5) (N := some 25) (mb 18 63) HT_ ?_
       refine pU (i := 6) (N := some 26) (mb 18 127) HT_ ?_
       refine pU (i := 7) (N := some 27) (mb 18 255) HT_ ?_
       refine pU (i := 8) (N := some 28) (mb 18 511) HT_ ?_
       refine pU (i := 9) (N := some 29) (mb 18 1023) HT_ ?_
       refine pU (i := 10) (N := some 30) (mb 18 2047) HT_ ?_
       refine pU (i := 11) (N := some 31) (mb 18 4095) HT_ ?_
       refine pU (i := 12) (N := some 32) (mb 18 8191) HT_ ?_
       refine pU (i := 13) (N := some 33) (mb 18 16383) HT_ ?_
       refine pU (i := 14) (N := some 34) (mb 18 32767) HT_ ?_
       refine pU (i := 15) (N := some 35) (mb 18 65535) HT_ ?_
       refine pA (i := 16) (N := some 36) (mb 18 131071) HT_ ?_
       refine pA (i := 17) (N := some 37) (mb 18 262143) HT_ ?_
       refine eA HT_ ?_
       try go_wp2
       go_meet
       case rel => exact ⟨_, (false), rS, H', ⟨by have := HK1.out; first | omega | exact Nat.le_refl _⟩, ⟨bA⟩⟩
    case rest =>
     clear HC6
     try clear c1
     try clear p1
     try clear q1
     try clear hx1
     try clear p2
     try clear c3
     try clear c3b0
     try clear c4
     try clear c4b0
     try clear p6
     try clear c7
     try clear c7b0
     try clear c8
     try clear c9
     try clear c9b0
     try clear c11
     try clear c11b0
     try clear c12
     try clear c12b0
     try clear hx191_0
     try clear hx193_0
     try clear hx194_0
     try clear p191
     try clear p193
     try clear p194
     try clear p2
     try clear q191
     try clear q193
     try clear q194
     obtain ⟨kq, x37_5, rfl, HA, HJ5, HB⟩ := hcut
     cases kq with
     | zero => exact absurd HA.out (by simp [spec_IsTogether.j1])
     | succ kj5 =>
      have H := HA.out
      clear HA
      simp only [spec_IsTogether.j1] at H
      by_cases c15 : x37_5 = true
      ·
       subst c15
       have H1 : (some false) = some r := by rw [if_pos rfl] at H; exact H
       clear H
       have H := H1
       clear H1
       obtain rfl := Option.some.inj H
       go_wp2
       go_ret
       exact ⟨rA, bA⟩
      ·
       replace c15 := Bool.eq_false_iff.mpr c15
       subst c15
       have H1 : (spec_IsTogether.l1 kj5 l0 l1 x5_1 t192 0) = some r := by rw [if_neg (show ¬ (false = true) by decide)] at H; exact H
       clear H
       have H := H1
       clear H1
       have H' := Aside0.mk H
       clear H
       go_wp2
       go_loopg [7] kj5 (fun kq v7 w' => ∃ (x7_3 : Int), v7 = .int .i64 x7_3 ∧ Aside0 (spec_IsTogether.l1 kq l0 l1 x5_1 t192 x7_3 = some r) ∧ Aside0 (kq ≤ kj5) ∧ Aside0 (Below w.heap.size w w'))
       case atStart => exact ⟨(0), rS, H', ⟨Nat.le_refl _⟩, ⟨bA⟩⟩
       case round =>
        clear H'
        try clear c1
        try clear p1
        try clear q1
        try clear hx1
        try clear p2
        try clear c3
        try clear c3b0
        try clear c4
        try clear c4b0
        try clear p6
        try clear c7
        try clear c7b0
        try clear c8
        try clear c9
        try clear c9b0
        try clear c11
        try clear c11b0
        try clear c12
        try clear c12b0
        try clear c15
        try clear hx191_0
        try clear hx193_0
        try clear hx194_0
        try clear p1
        try clear p191
        try clear p193
        try clear p194
        try clear p2
        try clear p6
        try clear q1
        try clear q191
        try clear q193
        try clear q194
        obtain ⟨x7_3, rfl, HA, HK3, HB⟩ := hrel
        cases gk with
        | zero => exact absurd HA.out (by simp [spec_IsTogether.l1])
        | succ k3 =>
         have H := HA.out
         clear HA
         simp only [spec_IsTogether.l1] at H
         by_cases c16 : x7_3 < x5_1
         ·
          rw [if_pos c16] at H
          have c16b0 := decide_eq_true c16
          clear c16
          have c17 : 0 ≤ t192 := ifN H
          replace H := ifT H
          have c17b0 := decide_eq_true c17
          clear c17
          have c18 : t192 < (l0.length : Int) := ifN H
          replace H := ifT H
          have c18b0 := decide_eq_true c18
          clear c18
          have c19 : 0 ≤ x7_3 := ifN H
          replace H := ifT H
          have c19b0 := decide_eq_true c19
          clear c19
          have c20 : x7_3 < (l1.length : Int) := ifN H
          replace H := ifT H
          have c20b0 := decide_eq_true c20
          clear c20
          obtain ⟨t197, A21, H⟩ := bindE H
          try dsimp only at H
          have c22 : 0 ≤ t197 := ifN H
          replace H := ifT H
          have c22b0 := decide_eq_true c22
          clear c22
          have c23 : t197 < (l0.length : Int) := ifN H
          replace H := ifT H
          have c23b0 := decide_eq_true c23
          clear c23
          obtain ⟨t199, A24, H⟩ := bindE H
          try dsimp only at H
          by_cases c25 : t199 = true
          ·
           subst c25
           have H1 : (some false) = some r := by rw [if_pos rfl] at H; exact H
           clear H
           have H := H1
           clear H1
           obtain rfl := Option.some.inj H
           try go_wp2
           have HBo := HB
           replace HB := Aside0.mk (below_drew1 HB.out)
           have p195 : 0 ≤ (t192 : Int) := dA
           have q195 : t192 < (l0.length : Int) := dA
           obtain ⟨ad195, e195, hx195_0, hx195_1, hx195_2, hx195_3⟩ := at_T89 HR0.out t192 p195 q195
           have hw195_3 := hx195_3
           have hw195_2 := hx195_2
           have hw195_1 := hx195_1
           have hw195_0 := hx195_0
           cases e195
           replace hx195_0 := hC HB hx195_0
           replace hx195_1 := hC HB hx195_1
           replace hx195_2 := hC HB hx195_2
           replace hx195_3 := hC HB hx195_3
           replace p195 := eq_true p195
           replace q195 := eq_true q195
           have p196 : 0 ≤ (x7_3 : Int) := dA
           have q196 : x7_3 < (l1.length : Int) := dA
           obtain ⟨ad196, e196, hx196_0⟩ := Kd.at_int HR1.out x7_3 p196 q196
           have hw196_0 := hx196_0
           obtain rfl : ad191 = ad196 := (by injection e196)
           replace hx196_0 := hC HB hx196_0
           replace p196 := eq_true p196
           replace q196 := eq_true q196
           have p198 : 0 ≤ (t197 : Int) := dA
           have q198 : t197 < (l0.length : Int) := dA
           obtain ⟨ad198, e198, hx198_0, hx198_1, hx198_2, hx198_3⟩ := at_T89 HR0.out t197 p198 q198
           have hw198_3 := hx198_3
           have hw198_2 := hx198_2
           have hw198_1 := hx198_1
           have hw198_0 := hx198_0
           obtain rfl : ad195 = ad198 := (by injection e198)
           replace hx198_0 := hC HB hx198_0
           replace hx198_1 := hC HB hx198_1
           replace hx198_2 := hC HB hx198_2
           replace hx198_3 := hC HB hx198_3
           replace p198 := eq_true p198
           replace q198 := eq_true q198
           refine start_ (n := 14) (S := fun w' => w'.cell? (ad195.add ((t192).toNat * 4)) = some (.int .i64 ((rd_T89 l0 t192).f0)) ∧ w'.cell? ⟨(ad195.add ((t192).toNat * 4)).block, (ad195.add ((t192).toNat * 4)).off + 1, none⟩ = some (.int .i64 ((rd_T89 l0 t192).f1)) ∧ w'.cell? ⟨(ad195.add ((t192).toNat * 4)).block, (ad195.add ((t192).toNat * 4)).off + 2, none⟩ = some (.int .i64 ((rd_T89 l0 t192).f2)) ∧ w'.cell? ⟨(ad195.add ((t192).toNat * 4)).block, (ad195.add ((t192).toNat * 4)).off + 3, none⟩ = some (.int .i64 ((rd_T89 l0 t192).f3)) ∧ w'.cell? (ad191.add (x7_3).toNat) = some (.int .i64 (rd l1 x7_3)) ∧ w'.cell? (ad195.add ((t197).toNat * 4)) = some (.int .i64 ((rd_T89 l0 t197).f0)) ∧ w'.cell? ⟨(ad195.add ((t197).toNat * 4)).block, (ad195.add ((t197).toNat * 4)).off + 1, none⟩ = some (.int .i64 ((rd_T89 l0 t197).f1)) ∧ w'.cell? ⟨(ad195.add ((t197).toNat * 4)).block, (ad195.add ((t197).toNat * 4)).off + 2, none⟩ = some (.int .i64 ((rd_T89 l0 t197).f2)) ∧ w'.cell? ⟨(ad195.add ((t197).toNat * 4)).block, (ad195.add ((t197).toNat * 4)).off + 3, none⟩ = some (.int .i64 ((rd_T89 l0 t197).f3))) (ds := []) (mb 14 0) (by kernel_rfl) rfl rfl ⟨(hC HB hw195_0), (hC HB hw195_1), (hC HB hw195_2), (hC HB hw195_3), (hC HB hw196_0), (hC HB hw198_0), (hC HB hw198_1), (hC HB hw198_2), (hC HB hw198_3)⟩ (fun hHeld => ?_); refine with_tabW spec_IsTogether.tab10 spec_IsTogether.bits10 (fun HT_ HW_ => ?_)
           generalize wr.drew = w26 at HB hx195_0 hx195_1 hx195_2 hx195_3 hx196_0 hx198_0 hx198_1 hx198_2 hx198_3 hHeld ⊢
           refine pA (i := 0) (N := some 43) (mb 14 1) HT_ ?_
           refine pA (i := 1) (N := some 44) (mb 14 3) HT_ ?_
           refine pA (i := 2) (N := some 45) (mb 14 7) HT_ ?_
           refine pA (i := 4) (N := some 47) (mb 14 23) HT_ ?_
           refine pA (i := 5) (N := some 48) (mb 14 55) HT_ ?_
           refine pA (i := 6) (N := some 49) (mb 14 119) HT_ ?_
           refine pA (i := 7) (N := some 50) (mb 14 247) HT_ ?_
           refine pA (i := 8) (N := some 51) (mb 14 503) HT_ ?_
           refine tA9 (i := 3) (N := some 46) (mb 14 511) HT_ HW_ hHeld ?_
           refine tA9 (i := 9) (N := some 52) (mb 14 1023) HT_ HW_ hHeld ?_
           refine oA (i := 10) (N := some 53) (mb 14 2047) HT_ (fun K hK => ?_)
           refine gA Try.func116 #[.slice (some ad195) l0.length c0, .int .i64 (rd l1 x7_3)] ?_
           with_reducible refine (spec_FindPath.calls k3 _ _ l0 (rd l1 x7_3) t197 _ ?side1 ?side2 A21.out).mono ?_
           (case side1 => exact cB HR0)
           (case side2 => exact HC0.out)
           rintro e w' ⟨rfl, ⟨nd, rfl⟩⟩
           refine ⟨_, rfl, ?_⟩
           refine hK.out _ _ ⟨(hC HB hw195_0), (hC HB hw195_1), (hC HB hw195_2), (hC HB hw195_3), (hC HB hw196_0), (hC HB hw198_0), (hC HB hw198_1), (hC HB hw198_2), (hC HB hw198_3)⟩ (fun hHeld => ?_)
           clear hK K
           refine nB ?_
           refine pA (i := 11) (N := some 54) (mb 14 4095) HT_ ?_
           refine tA9 (i := 12) (N := some 55) (mb 14 8191) HT_ HW_ hHeld ?_
           refine oA (i := 13) (N := some 56) (mb 14 16383) HT_ (fun K hK => ?_)
           refine gA Try.func129 #[.agg #[.int .i64 ((rd_T89 l0 t192).f0), .int .i64 ((rd_T89 l0 t192).f1), .int .i64 ((rd_T89 l0 t192).f2), .int .i64 ((rd_T89 l0 t192).f3)], .agg #[.int .i64 ((rd_T89 l0 t197).f0), .int .i64 ((rd_T89 l0 t197).f1), .int .i64 ((rd_T89 l0 t197).f2), .int .i64 ((rd_T89 l0 t197).f3)]] ?_
           with_reducible refine (spec_Conflict.calls k3 ((rd_T89 l0 t192).f0) ((rd_T89 l0 t192).f1) ((rd_T89 l0 t192).f2) ((rd_T89 l0 t192).f3) ((rd_T89 l0 t197).f0) ((rd_T89 l0 t197).f1) ((rd_T89 l0 t197).f2) ((rd_T89 l0 t197).f3) true _ A24.out).mono ?_
           rintro e w27 ⟨rfl, hb⟩
           refine ⟨_, rfl, ?_⟩
           replace HB := Aside0.mk (below_step bA hb)
           (try clear hb)
           (try clear hb2)
           (try clear hk)
           (try clear hi)
           refine hK.out _ _ ⟨(hC HB hw195_0), (hC HB hw195_1), (hC HB hw195_2), (hC HB hw195_3), (hC HB hw196_0), (hC HB hw198_0), (hC HB hw198_1), (hC HB hw198_2), (hC HB hw198_3)⟩ (fun hHeld => ?_)
           clear hK K
           refine nB ?_
           refine eA HT_ ?_
           try go_wp2
           go_ret
           exact ⟨rA, bA⟩
          ·
           replace c25 := Bool.eq_false_iff.mpr c25
           subst c25
           have H1 : (spec_IsTogether.l1 k3 l0 l1 x5_1 t192 (wrap64 (x7_3 + 1))) = some r := by rw [if_neg (show ¬ (false = true) by decide)] at H; exact H
           clear H
           have H := H1
           clear H1
           have H' := Aside0.mk H
           clear H
           try go_wp2
           have HBo := HB
           replace HB := Aside0.mk (below_drew1 HB.out)
           have p195 : 0 ≤ (t192 : Int) := dA
           have q195 : t192 < (l0.length : Int) := dA
           obtain ⟨ad195, e195, hx195_0, hx195_1, hx195_2, hx195_3⟩ := at_T89 HR0.out t192 p195 q195
           have hw195_3 := hx195_3
           have hw195_2 := hx195_2
           have hw195_1 := hx195_1
           have hw195_0 := hx195_0
           cases e195
           replace hx195_0 := hC HB hx195_0
           replace hx195_1 := hC HB hx195_1
           replace hx195_2 := hC HB hx195_2
           replace hx195_3 := hC HB hx195_3
           replace p195 := eq_true p195
           replace q195 := eq_true q195
           have p196 : 0 ≤ (x7_3 : Int) := dA
           have q196 : x7_3 < (l1.length : Int) := dA
           obtain ⟨ad196, e196, hx196_0⟩ := Kd.at_int HR1.out x7_3 p196 q196
           have hw196_0 := hx196_0
           obtain rfl : ad191 = ad196 := (by injection e196)
           replace hx196_0 := hC HB hx196_0
           replace p196 := eq_true p196
           replace q196 := eq_true q196
           have p198 : 0 ≤ (t197 : Int) := dA
           have q198 : t197 < (l0.length : Int) := dA
           obtain ⟨ad198, e198, hx198_0, hx198_1, hx198_2, hx198_3⟩ := at_T89 HR0.out t197 p198 q198
           have hw198_3 := hx198_3
           have hw198_2 := hx198_2
           have hw198_1 := hx198_1
           have hw198_0 := hx198_0
           obtain rfl : ad195 = ad198 := (by injection e198)
           replace hx198_0 := hC HB hx198_0
           replace hx198_1 := hC HB hx198_1
           replace hx198_2 := hC HB hx198_2
           replace hx198_3 := hC HB hx198_3
           replace p198 := eq_true p198
           replace q198 := eq_true q198
           refine start_ (n := 14) (S := fun w' => w'.cell? (ad195.add ((t192).toNat * 4)) = some (.int .i64 ((rd_T89 l0 t192).f0)) ∧ w'.cell? ⟨(ad195.add ((t192).toNat * 4)).block, (ad195.add ((t192).toNat * 4)).off + 1, none⟩ = some (.int .i64 ((rd_T89 l0 t192).f1)) ∧ w'.cell? ⟨(ad195.add ((t192).toNat * 4)).block, (ad195.add ((t192).toNat * 4)).off + 2, none⟩ = some (.int .i64 ((rd_T89 l0 t192).f2)) ∧ w'.cell? ⟨(ad195.add ((t192).toNat * 4)).block, (ad195.add ((t192).toNat * 4)).off + 3, none⟩ = some (.int .i64 ((rd_T89 l0 t192).f3)) ∧ w'.cell? (ad191.add (x7_3).toNat) = some (.int .i64 (rd l1 x7_3)) ∧ w'.cell? (ad195.add ((t197).toNat * 4)) = some (.int .i64 ((rd_T89 l0 t197).f0)) ∧ w'.cell? ⟨(ad195.add ((t197).toNat * 4)).block, (ad195.add ((t197).toNat * 4)).off + 1, none⟩ = some (.int .i64 ((rd_T89 l0 t197).f1)) ∧ w'.cell? ⟨(ad195.add ((t197).toNat * 4)).block, (ad195.add ((t197).toNat * 4)).off + 2, none⟩ = some (.int .i64 ((rd_T89 l0 t197).f2)) ∧ w'.cell? ⟨(ad195.add ((t197).toNat * 4)).block, (ad195.add ((t197).toNat * 4)).off + 3, none⟩ = some (.int .i64 ((rd_T89 l0 t197).f3))) (ds := []) (mb 14 0) (by kernel_rfl) rfl rfl ⟨(hC HB hw195_0), (hC HB hw195_1), (hC HB hw195_2), (hC HB hw195_3), (hC HB hw196_0), (hC HB hw198_0), (hC HB hw198_1), (hC HB hw198_2), (hC HB hw198_3)⟩ (fun hHeld => ?_); refine with_tabW spec_IsTogether.tab10 spec_IsTogether.bits10 (fun HT_ HW_ => ?_)
           generalize wr.drew = w28 at HB hx195_0 hx195_1 hx195_2 hx195_3 hx196_0 hx198_0 hx198_1 hx198_2 hx198_3 hHeld ⊢
           refine pA (i := 0) (N := some 43) (mb 14 1) HT_ ?_
           refine pA (i := 1) (N := some 44) (mb 14 3) HT_ ?_
           refine pA (i := 2) (N := some 45) (mb 14 7) HT_ ?_
           refine pA (i := 4) (N := some 47) (mb 14 23) HT_ ?_
           refine pA (i := 5) (N := some 48) (mb 14 55) HT_ ?_
           refine pA (i := 6) (N := some 49) (mb 14 119) HT_ ?_
           refine pA (i := 7) (N := some 50) (mb 14 247) HT_ ?_
           refine pA (i := 8) (N := some 51) (mb 14 503) HT_ ?_
           refine tA9 (i := 3) (N := some 46) (mb 14 511) HT_ HW_ hHeld ?_
           refine tA9 (i := 9) (N := some 52) (mb 14 1023) HT_ HW_ hHeld ?_
           refine oA (i := 10) (N := some 53) (mb 14 2047) HT_ (fun K hK => ?_)
           refine gA Try.func116 #[.slice (some ad195) l0.length c0, .int .i64 (rd l1 x7_3)] ?_
           with_reducible refine (spec_FindPath.calls k3 _ _ l0 (rd l1 x7_3) t197 _ ?side1 ?side2 A21.out).mono ?_
           (case side1 => exact cB HR0)
           (case side2 => exact HC0.out)
           rintro e w' ⟨rfl, ⟨nd, rfl⟩⟩
           refine ⟨_, rfl, ?_⟩
           refine hK.out _ _ ⟨(hC HB hw195_0), (hC HB hw195_1), (hC HB hw195_2), (hC HB hw195_3), (hC HB hw196_0), (hC HB hw198_0), (hC HB hw198_1), (hC HB hw198_2), (hC HB hw198_3)⟩ (fun hHeld => ?_)
           clear hK K
           refine nB ?_
           refine pA (i := 11) (N := some 54) (mb 14 4095) HT_ ?_
           refine tA9 (i := 12) (N := some 55) (mb 14 8191) HT_ HW_ hHeld ?_
           refine oA (i := 13) (N := some 56) (mb 14 16383) HT_ (fun K hK => ?_)
           refine gA Try.func129 #[.agg #[.int .i64 ((rd_T89 l0 t192).f0), .int .i64 ((rd_T89 l0 t192).f1), .int .i64 ((rd_T89 l0 t192).f2), .int .i64 ((rd_T89 l0 t192).f3)], .agg #[.int .i64 ((rd_T89 l0 t197).f0), .int .i64 ((rd_T89 l0 t197).f1), .int .i64 ((rd_T89 l0 t197).f2), .int .i64 ((rd_T89 l0 t197).f3)]] ?_
           with_reducible refine (spec_Conflict.calls k3 ((rd_T89 l0 t192).f0) ((rd_T89 l0 t192).f1) ((rd_T89 l0 t192).f2) ((rd_T89 l0 t192).f3) ((rd_T89 l0 t197).f0) ((rd_T89 l0 t197).f1) ((rd_T89 l0 t197).f2) ((rd_T89 l0 t197).f3) false _ A24.out).mono ?_
           rintro e w29 ⟨rfl, hb⟩
           refine ⟨_, rfl, ?_⟩
           replace HB := Aside0.mk (below_step bA hb)
           (try clear hb)
           (try clear hb2)
           (try clear hk)
           (try clear hi)
           refine hK.out _ _ ⟨(hC HB hw195_0), (hC HB hw195_1), (hC HB hw195_2), (hC HB hw195_3), (hC HB hw196_0), (hC HB hw198_0), (hC HB hw198_1), (hC HB hw198_2), (hC HB hw198_3)⟩ (fun hHeld => ?_)
           clear hK K
           refine nB ?_
           refine eA HT_ ?_
           try go_wp2
           go_roundg k3
           case measure => have := HK1.out; have := HJ5.out; have := HK3.out; omega
           case rel => exact ⟨(wrap64 (x7_3 + 1)), rS, H', ⟨by have := HK1.out; have := HJ5.out; have := HK3.out; omega⟩, ⟨bA⟩⟩
         ·
          rw [if_neg c16] at H
          have c16b0 := decide_eq_false c16
          clear c16
          have H' := Aside0.mk H
          clear H
          go_wp2
          go_roundg k3
          case measure => have := HK1.out; have := HJ5.out; have := HK3.out; omega
          case rel => exact ⟨(wrap64 (x5_1 + 1)), rS, H', ⟨by have := HK1.out; have := HJ5.out; have := HK3.out; omega⟩, ⟨bA⟩⟩
   ·
    rw [if_neg c3] at H
    have c3b0 := decide_eq_false c3
    clear c3
    obtain ⟨t190, A30, H⟩ := bindE H
    try dsimp only at H
    obtain rfl := Option.some.inj H
    go_wp2_with (first | ((with_reducible refine gate_callee (f := 122) rfl ?_); refine gL (some 58) Try.func122 #[.slice A0 l0.length c0] ?_; (with_reducible refine (spec_ArePaths.calls k1 _ _ l0 t190 _ ?side1 ?side2 A30.out).mono ?_); (case side1 => exact cB HR0); (case side2 => exact HC0.out); rintro e w31 ⟨rfl, hb⟩; refine ⟨_, rfl, ?_⟩; replace HB := Aside0.mk (below_step bA hb); (try clear hb)))
    go_ret
    exact ⟨rA, bA⟩

/-! ### spec_Closes: function 130 -/
def spec_Closes.l0 : Nat → List Int → List Int → List Int → Int → Option (List Int)
 | 0, _, _, _, _ => none
 | k + 1, x0, x1, x5, x6 => if x6 < (x0.length : Int) then (if 0 ≤ x6 then ((spec_l6Has.f k x1 (rd x0 x6)).bind fun t204 => (if t204 = true then (spec_Closes.l0 k x0 x1 x5 (wrap64 (x6 + 1))) else (if x5.length < 17592186044416 then (spec_Closes.l0 k x0 x1 (x5 ++ [rd x0 x6]) (wrap64 (x6 + 1))) else (none)))) else (none)) else (some x5)
def spec_Closes.f (k : Nat) (l0 : List Int) (l1 : List Int) : Option (List Int) := spec_Closes.l0 k l0 l1 (([] : List Int)) 0
theorem spec_Closes.mono_l : ∀ k, (∀ y0 y1 y2 y3, LeO (spec_Closes.l0 k y0 y1 y2 y3) (spec_Closes.l0 (k + 1) y0 y1 y2 y3))
 | 0 => fun _ _ _ _ r h => by simp [spec_Closes.l0] at h
 | k + 1 => by
  have ih0 := spec_Closes.mono_l k
  ·
   intro y0 y1 y2 y3
   unfold spec_Closes.l0
   repeat' first | (with_reducible first | exact LeO.refl _ | exact LeO.none _ | refine LeO.ite ?_ ?_ | refine LeO.bind ?_ (fun _ => ?_) | exact ih0 _ _ _ _ | exact spec_l6Has.mono _ _ _)
theorem spec_Closes.mono : ∀ a0 a1 k, LeO (spec_Closes.f k a0 a1) (spec_Closes.f (k + 1) a0 a1) := by
 intro a0 a1 k
 have ih0 := spec_Closes.mono_l k
 unfold spec_Closes.f
 repeat' first | (with_reducible first | exact LeO.refl _ | exact LeO.none _ | refine LeO.ite ?_ ?_ | refine LeO.bind ?_ (fun _ => ?_) | exact ih0 _ _ _ _ | exact spec_l6Has.mono _ _ _)
set_option maxHeartbeats 8000000 in
set_option maxRecDepth 100000 in
theorem spec_Closes.calls (k : Nat) (A0 : Option Addr) (c0 : Nat) (l0 : List Int) (A1 : Option Addr) (c1 : Nat) (l1 : List Int) (r : List Int) (w : World) (hr0 : Kd.C (Kd.int .i64) w A0 l0.length l0) (hc0 : l0.length ≤ c0) (hr1 : Kd.C (Kd.int .i64) w A1 l1.length l1) (hc1 : l1.length ≤ c1) (h : spec_Closes.f k l0 l1 = some r) :
  Calls Try.prog 130 #[.slice A0 l0.length c0, .slice A1 l1.length c1] w fun e w' => ∃ v0_ : Value, e = .returned (v0_) ∧ Kd.R (Kd.int .i64) 3 w' w.heap.size (fun _ => True) v0_ r ∧ Below w.heap.size w w' := by
 have HR0 := Aside0.mk hr0
 have HC0 := Aside0.mk hc0
 clear hr0 hc0
 have HR1 := Aside0.mk hr1
 have HC1 := Aside0.mk hc1
 clear hr1 hc1
 have HB := Aside0.mk (Below.refl w.heap.size w)
 have H : (spec_Closes.l0 k l0 l1 (([] : List Int)) 0) = some r := h
 clear h
 obtain ⟨y200, hy200⟩ : ∃ y_ : List Int, y_ = (([] : List Int)) := ⟨_, rfl⟩
 replace H : (spec_Closes.l0 k l0 l1 y200 0) = some r := by first | (rw [hy200]; with_reducible exact H) | (have H2_ := (Option.bind_some _ _).symm.trans H; rw [hy200]; with_reducible exact H2_) | (have H2_ := (Option.bind_some _ _).symm.trans H; with_reducible exact H2_) | with_reducible exact H | (rw [hy200]; exact H) | exact H
 have Ny200 := Aside0.mk hy200
 clear hy200
 have H' := Aside0.mk H
 clear H
 go_enter Try.func130, Try.ntmps130
 go_wp2_with (first | ((with_reducible refine gate_dst (N := 7) rfl ?_); refine Kd.R_lit (Kd.int .i64) _ 3 ?hg (N := 7) ?hd (xs := ([] : List Int)) (inner := []) (ok := fun _ => True) (okp := fun _ => True) ?hr ?hp (fun _ hk => hk) trivial (Below.refl _ _) (Nat.le_refl _) (by simp) ?_; (case hd => rfl); (case hg => rfl); (case hr => first | (go_simp; done) | (go_simp; rfl)); (case hp => exact (Reps.none _ _)); intro v201 w3 ho4 hb hg_ hnew_; clear hg_ hnew_; (first | rw [← Ny200.out] at ho4 | (simp only [Int.reduceToNat] at ho4; rw [← Ny200.out] at ho4)); have HO202 := Aside0.mk (Kd.R_lower ho4 (below_size bA)); replace HB := Aside0.mk (below_step bA hb); clear hb ho4))
 go_loopg [5, 6] k (fun kq v5 v6 w' => ∃ (x5_1 : List Int) (x6_1 : Int), v6 = .int .i64 x6_1 ∧ Aside0 (spec_Closes.l0 kq l0 l1 x5_1 x6_1 = some r) ∧ Aside0 (kq ≤ k) ∧ Aside0 (Kd.R (Kd.int .i64) 3 w' w.heap.size (fun _ => True) v5 x5_1) ∧ Aside0 (Below w.heap.size w w'))
 case atStart => exact ⟨(y200), (0), rS, H', ⟨Nat.le_refl _⟩, ⟨rK HO202⟩, ⟨bA⟩⟩
 case round =>
  clear H'
  try clear c1
  try clear p2
  obtain ⟨x5_1, x6_1, rfl, HA, HK1, HO_5, HB⟩ := hrel
  cases gk with
  | zero => exact absurd HA.out (by simp [spec_Closes.l0])
  | succ k1 =>
   have H := HA.out
   clear HA
   simp only [spec_Closes.l0] at H
   by_cases c5 : x6_1 < (l0.length : Int)
   ·
    rw [if_pos c5] at H
    have c5b0 := decide_eq_true c5
    clear c5
    have c6 : 0 ≤ x6_1 := ifN H
    replace H := ifT H
    have c6b0 := decide_eq_true c6
    clear c6
    obtain ⟨t204, A7, H⟩ := bindE H
    try dsimp only at H
    by_cases c8 : t204 = true
    ·
     subst c8
     have H1 : (spec_Closes.l0 k1 l0 l1 x5_1 (wrap64 (x6_1 + 1))) = some r := by rw [if_pos rfl] at H; exact H
     clear H
     have H := H1
     clear H1
     have H' := Aside0.mk H
     clear H
     have p203 : 0 ≤ (x6_1 : Int) := dA
     have q203 : x6_1 < (l0.length : Int) := dA
     obtain ⟨ad203, e203, hx203_0⟩ := Kd.at_int HR0.out x6_1 p203 q203
     cases e203
     replace hx203_0 := hC HB hx203_0
     replace p203 := eq_true p203
     replace q203 := eq_true q203
     go_wp2_with (first | ((with_reducible refine gate_callee (f := 101) rfl ?_); refine gL (some 19) Try.func101 #[.slice A1 l1.length c1, .int .i64 (rd l0 x6_1)] ?_; (with_reducible refine (spec_l6Has.calls k1 _ _ l1 (rd l0 x6_1) true _ ?side1 ?side2 A7.out).mono ?_); (case side1 => exact cB HR1); (case side2 => exact HC1.out); rintro e w' ⟨rfl, ⟨nd, rfl⟩⟩; refine ⟨_, rfl, ?_⟩))
     go_roundg k1
     case measure => have := HK1.out; omega
     case rel => exact ⟨(x5_1), (wrap64 (x6_1 + 1)), rS, H', ⟨by have := HK1.out; omega⟩, ⟨rK HO_5⟩, ⟨bA⟩⟩
    ·
     replace c8 := Bool.eq_false_iff.mpr c8
     subst c8
     have H1 : (if x5_1.length < 17592186044416 then (spec_Closes.l0 k1 l0 l1 (x5_1 ++ [rd l0 x6_1]) (wrap64 (x6_1 + 1))) else (none)) = some r := by rw [if_neg (show ¬ (false = true) by decide)] at H; exact H
     clear H
     have H := H1
     clear H1
     have c9 : x5_1.length < 17592186044416 := ifN H
     replace H := ifT H
     have LMc9 := Aside0.mk c9
     clear c9
     obtain ⟨y206, hy206⟩ : ∃ y_ : List Int, y_ = (x5_1 ++ [rd l0 x6_1]) := ⟨_, rfl⟩
     replace H : (spec_Closes.l0 k1 l0 l1 y206 (wrap64 (x6_1 + 1))) = some r := by first | (rw [hy206]; with_reducible exact H) | (have H2_ := (Option.bind_some _ _).symm.trans H; rw [hy206]; with_reducible exact H2_) | (have H2_ := (Option.bind_some _ _).symm.trans H; with_reducible exact H2_) | with_reducible exact H | (rw [hy206]; exact H) | exact H
     have Ny206 := Aside0.mk hy206
     clear hy206
     have H' := Aside0.mk H
     clear H
     have p203 : 0 ≤ (x6_1 : Int) := dA
     have q203 : x6_1 < (l0.length : Int) := dA
     obtain ⟨ad203, e203, hx203_0⟩ := Kd.at_int HR0.out x6_1 p203 q203
     cases e203
     replace hx203_0 := hC HB hx203_0
     replace p203 := eq_true p203
     replace q203 := eq_true q203
     go_wp2_with (first | ((with_reducible refine gate_callee (f := 101) rfl ?_); refine gL (some 19) Try.func101 #[.slice A1 l1.length c1, .int .i64 (rd l0 x6_1)] ?_; (with_reducible refine (spec_l6Has.calls k1 _ _ l1 (rd l0 x6_1) false _ ?side1 ?side2 A7.out).mono ?_); (case side1 => exact cB HR1); (case side2 => exact HC1.out); rintro e w' ⟨rfl, ⟨nd, rfl⟩⟩; refine ⟨_, rfl, ?_⟩; have p205 : 0 ≤ (x6_1 : Int) := dA; have q205 : x6_1 < (l0.length : Int) := dA; obtain ⟨ad205, e205, hx205_0⟩ := Kd.at_int HR0.out x6_1 p205 q205; obtain rfl : ad203 = ad205 := (by injection e205); replace hx205_0 := hC HB hx205_0; replace p205 := eq_true p205; replace q205 := eq_true q205) | ((with_reducible refine gate_builtin (b := .append) (xs := #[.tmp 21, .tmp 26]) rfl ?_); at_builtin; refine Kd.R_append (Kd.int .i64) (w0 := w) w.heap.size rfl (.tmp 21) (.tmp 26) 41 3 (.int .i64 0) 8 rfl Try.underlying41 info3 rfl (by decide) (by omega) u5 x5_1 (rd l0 x6_1) [.int .i64 (rd l0 x6_1)] (fun _ => True) (fun _ => False) rfl rfl ?aP (fun _ hk => hk.elim) ?aF ?aO ?aB ?aS ?aL ?_; (case aP => exact rfl); (case aB => exact bA); (case aF => exact (fun _ _ => trivial)); (case aO => exact (rK HO_5)); (case aS => exact (below_size bA)); (case aL => have := LMc9.out; omega); intro v207 w10 ho hb hg hat; rw [← Ny206.out] at ho; have n0_ := Aside0.mk (hb); have n1_ := Aside0.mk (ho); clear HB; clear HO_5; have HB := n0_; have HO208 := n1_; clear n0_ n1_; clear ho hb hg hat))
     go_roundg k1
     case measure => have := HK1.out; omega
     case rel => exact ⟨(y206), (wrap64 (x6_1 + 1)), rS, H', ⟨by have := HK1.out; omega⟩, ⟨rK HO208⟩, ⟨bA⟩⟩
   ·
    rw [if_neg c5] at H
    have c5b0 := decide_eq_false c5
    clear c5
    obtain rfl := Option.some.inj H
    go_wp2
    go_ret
    exact ⟨_, by first | rfl | (simp [errW_none, errW_some] <;> rfl) | (simp [*, errW_none, errW_some] <;> rfl), by (with_reducible repeat (first | apply Kd.R_alloc | apply Kd.R_drewN | apply Kd.R_drew)); exact HO_5.out, bA⟩

/-! ### spec_Max: function 131 -/
def spec_Max.f (a0 : Int) (a1 : Int) : Option (Int) := if a1 > a0 then (some a1) else (some a0)
set_option maxHeartbeats 8000000 in
set_option maxRecDepth 100000 in
theorem spec_Max.calls (a0 : Int) (a1 : Int) (r : Int) (w : World) (h : spec_Max.f a0 a1 = some r) :
  Calls Try.prog 131 #[.int .i64 a0, .int .i64 a1] w fun e w' => e = .returned (.int .i64 r) ∧ Drawn0 w w' := by
 have H : (if a1 > a0 then (some a1) else (some a0)) = some r := h
 clear h
 by_cases c3 : a1 > a0
 ·
  rw [if_pos c3] at H
  have c3b0 := decide_eq_true c3
  clear c3
  obtain rfl := Option.some.inj H
  go_enter Try.func131, Try.ntmps131
  go_wp2
  go_ret
  exact ⟨by first | rfl | (simp; done) | (simp [*]; done), by repeat (first | exact Drawn0.refl _ | apply Drawn0.step)⟩
 ·
  rw [if_neg c3] at H
  have c3b0 := decide_eq_false c3
  clear c3
  obtain rfl := Option.some.inj H
  go_enter Try.func131, Try.ntmps131
  go_wp2
  go_ret
  exact ⟨by first | rfl | (simp; done) | (simp [*]; done), by repeat (first | exact Drawn0.refl _ | apply Drawn0.step)⟩

/-! ### spec_ClearOf: function 132 -/
def spec_ClearOf.f (a0_0 : Int) (a0_1 : Int) (a0_2 : Int) (a0_3 : Int) : Option (Int) := (spec_IsPath.f a0_0 a0_1 a0_2 a0_3).bind fun t210 => (if t210 = true then ((some (([0, 2, 5, 3] : List Int) : List Int)).bind fun y211 => (if 0 ≤ a0_1 then (if a0_1 < (y211.length : Int) then (some (rd y211 a0_1)) else (none)) else (none))) else (some 0))
set_option maxHeartbeats 8000000 in
set_option maxRecDepth 100000 in
theorem spec_ClearOf.calls (a0_0 : Int) (a0_1 : Int) (a0_2 : Int) (a0_3 : Int) (r : Int) (w : World) (h : spec_ClearOf.f a0_0 a0_1 a0_2 a0_3 = some r) :
  Calls Try.prog 132 #[.agg #[.int .i64 a0_0, .int .i64 a0_1, .int .i64 a0_2, .int .i64 a0_3]] w fun e w' => e = .returned (.int .i64 r) ∧ Below w.heap.size w w' := by
 have hu89 := Try.underlying89
 have HB := Aside0.mk (Below.refl w.heap.size w)
 have H : ((spec_IsPath.f a0_0 a0_1 a0_2 a0_3).bind fun t210 => (if t210 = true then ((some (([0, 2, 5, 3] : List Int) : List Int)).bind fun y211 => (if 0 ≤ a0_1 then (if a0_1 < (y211.length : Int) then (some (rd y211 a0_1)) else (none)) else (none))) else (some 0))) = some r := h
 clear h
 obtain ⟨t210, A2, H⟩ := bindE H
 try dsimp only at H
 by_cases c3 : t210 = true
 ·
  subst c3
  have H1 : ((some (([0, 2, 5, 3] : List Int) : List Int)).bind fun y211 => (if 0 ≤ a0_1 then (if a0_1 < (y211.length : Int) then (some (rd y211 a0_1)) else (none)) else (none))) = some r := by rw [if_pos rfl] at H; exact H
  clear H
  have H := H1
  clear H1
  obtain ⟨y211, hy211⟩ : ∃ y_ : List Int, y_ = (([0, 2, 5, 3] : List Int)) := ⟨_, rfl⟩
  replace H : (if 0 ≤ a0_1 then (if a0_1 < (y211.length : Int) then (some (rd y211 a0_1)) else (none)) else (none)) = some r := by first | (rw [hy211]; with_reducible exact H) | (have H2_ := (Option.bind_some _ _).symm.trans H; rw [hy211]; with_reducible exact H2_) | (have H2_ := (Option.bind_some _ _).symm.trans H; with_reducible exact H2_) | with_reducible exact H | (rw [hy211]; exact H) | exact H
  have Ny211 := Aside0.mk hy211
  clear hy211
  have c4 : 0 ≤ a0_1 := ifN H
  replace H := ifT H
  have c4b0 := decide_eq_true c4
  clear c4
  have c5 : a0_1 < (y211.length : Int) := ifN H
  replace H := ifT H
  have c5b0 := decide_eq_true c5
  clear c5
  obtain rfl := Option.some.inj H
  go_enter Try.func132, Try.ntmps132
  go_wp2_with (first | ((with_reducible refine gate_dst (N := 1) rfl ?_); refine bE (N := 1) (cs := #[.int .i64 a0_0, .int .i64 a0_1, .int .i64 a0_2, .int .i64 a0_3]) (t := 89) ?_; intro gb209 hg w6 hbox hb; have n0_ := Aside0.mk (below_step bA hb); have n1_ := Aside0.mk (hbox); have n2_ := Aside0.mk ((by rw [hg]; exact (below_size bA) : w.heap.size ≤ gb209)); have n3_ := Aside0.mk ((by rw [hg]; exact (below_size bA) : w.heap.size ≤ gb209)); clear HB; have HB := n0_; have BK209 := n1_; have GW209 := n2_; have GE209 := n3_; clear n0_ n1_ n2_ n3_; clear hb hbox hg; have hcz7_0 : w6.cell? ⟨gb209, 0, none⟩ = some (.int .i64 a0_0) := bC BK209 0; have hcz7_1 : w6.cell? ⟨gb209, 1, none⟩ = some (.int .i64 a0_1) := bC BK209 1; have hcz7_2 : w6.cell? ⟨gb209, 2, none⟩ = some (.int .i64 a0_2) := bC BK209 2; have hcz7_3 : w6.cell? ⟨gb209, 3, none⟩ = some (.int .i64 a0_3) := bC BK209 3; have hfz7_0 := blk_frozen BK209.out 0; have hfz7_1 := blk_frozen BK209.out 1; have hfz7_2 := blk_frozen BK209.out 2; have hfz7_3 := blk_frozen BK209.out 3) | ((with_reducible refine gate_callee (f := 145) rfl ?_); refine gL (some 4) Try.func145 #[.agg #[.int .i64 a0_0, .int .i64 a0_1, .int .i64 a0_2, .int .i64 a0_3]] ?_; (with_reducible refine (spec_IsPath.calls a0_0 a0_1 a0_2 a0_3 true _ A2.out).mono ?_); rintro e w8 ⟨rfl, hb⟩; refine ⟨_, rfl, ?_⟩; replace BK209 := Aside0.mk (blk_below (g := gb209) (bK BK209) hb); replace HB := Aside0.mk (below_step bG hb); (try clear hb)) | ((with_reducible refine gate_dst (N := 6) rfl ?_); refine Kd.R_lit (Kd.int .i64) _ 3 ?hg (N := 6) ?hd (xs := ([0, 2, 5, 3] : List Int)) (inner := [.int .i64 0, .int .i64 2, .int .i64 5, .int .i64 3]) (ok := fun _ => True) (okp := fun _ => True) ?hr ?hp (fun _ hk => hk) trivial (Below.refl _ _) (Nat.le_refl _) (by simp) ?_; (case hd => rfl); (case hg => rfl); (case hr => first | (go_simp; done) | (go_simp; rfl)); (case hp => exact (Reps.one (show Kd.M (Kd.int .i64) _ _ _ 0 [.int .i64 0] from rfl) (Reps.one (show Kd.M (Kd.int .i64) _ _ _ 2 [.int .i64 2] from rfl) (Reps.one (show Kd.M (Kd.int .i64) _ _ _ 5 [.int .i64 5] from rfl) (Reps.one (show Kd.M (Kd.int .i64) _ _ _ 3 [.int .i64 3] from rfl) (Reps.none _ _)))))); intro v212 w9 ho10 hb hg_ hnew_; clear hg_ hnew_; (first | rw [← Ny211.out] at ho10 | (simp only [Int.reduceToNat] at ho10; rw [← Ny211.out] at ho10)); have HO213 := Aside0.mk (Kd.R_lower ho10 (below_size bG)); replace BK209 := Aside0.mk (blk_below (g := gb209) (bK BK209) hb); replace HB := Aside0.mk (below_step bG hb); clear hb ho10; obtain ⟨hcz11_0, hcz11_1, hcz11_2, hcz11_3, hfz11_0, hfz11_1, hfz11_2, hfz11_3⟩ := blkc4 BK209; obtain ⟨Ao12, co12, eo12⟩ := Kd.R_slice HO213.out; subst eo12; have p214 : 0 ≤ (a0_1 : Int) := dA; have q214 : a0_1 < (y211.length : Int) := dA; obtain ⟨ad214, e214, hx214_0⟩ := Kd.at_int (Kd.R_reads' HO213.out).2.2 a0_1 p214 q214; cases e214; replace p214 := eq_true p214; replace q214 := eq_true q214))
  go_ret
  exact ⟨rA, bG⟩
 ·
  replace c3 := Bool.eq_false_iff.mpr c3
  subst c3
  have H1 : (some 0) = some r := by rw [if_neg (show ¬ (false = true) by decide)] at H; exact H
  clear H
  have H := H1
  clear H1
  obtain rfl := Option.some.inj H
  go_enter Try.func132, Try.ntmps132
  go_wp2_with (first | ((with_reducible refine gate_dst (N := 1) rfl ?_); refine bE (N := 1) (cs := #[.int .i64 a0_0, .int .i64 a0_1, .int .i64 a0_2, .int .i64 a0_3]) (t := 89) ?_; intro gb209 hg w13 hbox hb; have n0_ := Aside0.mk (below_step bA hb); have n1_ := Aside0.mk (hbox); have n2_ := Aside0.mk ((by rw [hg]; exact (below_size bA) : w.heap.size ≤ gb209)); have n3_ := Aside0.mk ((by rw [hg]; exact (below_size bA) : w.heap.size ≤ gb209)); clear HB; have HB := n0_; have BK209 := n1_; have GW209 := n2_; have GE209 := n3_; clear n0_ n1_ n2_ n3_; clear hb hbox hg; have hcz14_0 : w13.cell? ⟨gb209, 0, none⟩ = some (.int .i64 a0_0) := bC BK209 0; have hcz14_1 : w13.cell? ⟨gb209, 1, none⟩ = some (.int .i64 a0_1) := bC BK209 1; have hcz14_2 : w13.cell? ⟨gb209, 2, none⟩ = some (.int .i64 a0_2) := bC BK209 2; have hcz14_3 : w13.cell? ⟨gb209, 3, none⟩ = some (.int .i64 a0_3) := bC BK209 3; have hfz14_0 := blk_frozen BK209.out 0; have hfz14_1 := blk_frozen BK209.out 1; have hfz14_2 := blk_frozen BK209.out 2; have hfz14_3 := blk_frozen BK209.out 3) | ((with_reducible refine gate_callee (f := 145) rfl ?_); refine gL (some 4) Try.func145 #[.agg #[.int .i64 a0_0, .int .i64 a0_1, .int .i64 a0_2, .int .i64 a0_3]] ?_; (with_reducible refine (spec_IsPath.calls a0_0 a0_1 a0_2 a0_3 false _ A2.out).mono ?_); rintro e w15 ⟨rfl, hb⟩; refine ⟨_, rfl, ?_⟩; replace BK209 := Aside0.mk (blk_below (g := gb209) (bK BK209) hb); replace HB := Aside0.mk (below_step bG hb); (try clear hb)))
  go_ret
  exact ⟨rA, bG⟩

/-! ### spec_ClearBetween: function 84 -/
mutual
def spec_ClearBetween.l0 : Nat → List (S89) → List Int → List Int → Int → List Int → List Int → Int → Option (Int)
 | 0, _, _, _, _, _, _, _ => none
 | k + 1, x0, x1, x2, x7, x8, x9, x10 => if x10 < (x8.length : Int) then ((spec_IsTogether.f k x0 x1).bind fun t221 => (if t221 = true then ((spec_IsTogether.f k x0 x2).bind fun t222 => (spec_ClearBetween.j1 k x0 x1 x2 x7 x8 x9 x10 t222)) else (spec_ClearBetween.j1 k x0 x1 x2 x7 x8 x9 x10 false))) else (spec_ClearBetween.j1 k x0 x1 x2 x7 x8 x9 x10 false)
def spec_ClearBetween.j1 : Nat → List (S89) → List Int → List Int → Int → List Int → List Int → Int → Bool → Option (Int)
 | 0, _, _, _, _, _, _, _, _ => none
 | k + 1, x0, x1, x2, x7, x8, x9, x10, x32 => if x32 = true then (spec_ClearBetween.l1 k x0 x1 x2 x7 x8 x9 x10 0) else (some x7)
def spec_ClearBetween.l1 : Nat → List (S89) → List Int → List Int → Int → List Int → List Int → Int → Int → Option (Int)
 | 0, _, _, _, _, _, _, _, _ => none
 | k + 1, x0, x1, x2, x7, x8, x9, x10, x11 => if x11 < (x9.length : Int) then (if 0 ≤ x10 then (if x10 < (x8.length : Int) then ((spec_FindPath.f k x0 (rd x8 x10)).bind fun t224 => (if 0 ≤ t224 then (if t224 < (x0.length : Int) then (if 0 ≤ x11 then ((spec_FindPath.f k x0 (rd x9 x11)).bind fun t228 => (if 0 ≤ t228 then (if t228 < (x0.length : Int) then ((spec_Conflict.f k ((rd_T89 x0 t224).f0) ((rd_T89 x0 t224).f1) ((rd_T89 x0 t224).f2) ((rd_T89 x0 t224).f3) ((rd_T89 x0 t228).f0) ((rd_T89 x0 t228).f1) ((rd_T89 x0 t228).f2) ((rd_T89 x0 t228).f3)).bind fun t230 => (if t230 = true then ((spec_ClearOf.f ((rd_T89 x0 t224).f0) ((rd_T89 x0 t224).f1) ((rd_T89 x0 t224).f2) ((rd_T89 x0 t224).f3)).bind fun t231 => ((spec_Max.f x7 t231).bind fun t232 => (spec_ClearBetween.l1 k x0 x1 x2 t232 x8 x9 x10 (wrap64 (x11 + 1))))) else (spec_ClearBetween.l1 k x0 x1 x2 x7 x8 x9 x10 (wrap64 (x11 + 1))))) else (none)) else (none))) else (none)) else (none)) else (none))) else (none)) else (none)) else (spec_ClearBetween.l0 k x0 x1 x2 x7 x8 x9 (wrap64 (x10 + 1)))
end
def spec_ClearBetween.f (k : Nat) (l0 : List (S89)) (l1 : List Int) (l2 : List Int) : Option (Int) := (spec_Closes.f k l1 l2).bind fun t215 => ((spec_Closes.f k l2 l1).bind fun t218 => (spec_ClearBetween.l0 k l0 l1 l2 0 t215 t218 0))
theorem spec_ClearBetween.mono_l : ∀ k, (∀ y0 y1 y2 y3 y4 y5 y6, LeO (spec_ClearBetween.l0 k y0 y1 y2 y3 y4 y5 y6) (spec_ClearBetween.l0 (k + 1) y0 y1 y2 y3 y4 y5 y6)) ∧ (∀ y0 y1 y2 y3 y4 y5 y6 y7, LeO (spec_ClearBetween.j1 k y0 y1 y2 y3 y4 y5 y6 y7) (spec_ClearBetween.j1 (k + 1) y0 y1 y2 y3 y4 y5 y6 y7)) ∧ (∀ y0 y1 y2 y3 y4 y5 y6 y7, LeO (spec_ClearBetween.l1 k y0 y1 y2 y3 y4 y5 y6 y7) (spec_ClearBetween.l1 (k + 1) y0 y1 y2 y3 y4 y5 y6 y7))
 | 0 => ⟨fun _ _ _ _ _ _ _ r h => by simp [spec_ClearBetween.l0] at h, fun _ _ _ _ _ _ _ _ r h => by simp [spec_ClearBetween.j1] at h, fun _ _ _ _ _ _ _ _ r h => by simp [spec_ClearBetween.l1] at h⟩
 | k + 1 => by
  obtain ⟨ih0, ih1, ih2⟩ := spec_ClearBetween.mono_l k
  refine ⟨?_, ?_, ?_⟩
  ·
   intro y0 y1 y2 y3 y4 y5 y6
   unfold spec_ClearBetween.l0
   repeat' first | (with_reducible first | exact LeO.refl _ | exact LeO.none _ | refine LeO.ite ?_ ?_ | refine LeO.bind ?_ (fun _ => ?_) | exact ih0 _ _ _ _ _ _ _ | exact ih1 _ _ _ _ _ _ _ _ | exact ih2 _ _ _ _ _ _ _ _ | exact spec_Closes.mono _ _ _ | exact spec_Conflict.mono _ _ _ _ _ _ _ _ _ | exact spec_FindPath.mono _ _ _ | exact spec_IsTogether.mono _ _ _)
  ·
   intro y0 y1 y2 y3 y4 y5 y6 y7
   unfold spec_ClearBetween.j1
   repeat' first | (with_reducible first | exact LeO.refl _ | exact LeO.none _ | refine LeO.ite ?_ ?_ | refine LeO.bind ?_ (fun _ => ?_) | exact ih0 _ _ _ _ _ _ _ | exact ih1 _ _ _ _ _ _ _ _ | exact ih2 _ _ _ _ _ _ _ _ | exact spec_Closes.mono _ _ _ | exact spec_Conflict.mono _ _ _ _ _ _ _ _ _ | exact spec_FindPath.mono _ _ _ | exact spec_IsTogether.mono _ _ _)
  ·
   intro y0 y1 y2 y3 y4 y5 y6 y7
   unfold spec_ClearBetween.l1
   repeat' first | (with_reducible first | exact LeO.refl _ | exact LeO.none _ | refine LeO.ite ?_ ?_ | refine LeO.bind ?_ (fun _ => ?_) | exact ih0 _ _ _ _ _ _ _ | exact ih1 _ _ _ _ _ _ _ _ | exact ih2 _ _ _ _ _ _ _ _ | exact spec_Closes.mono _ _ _ | exact spec_Conflict.mono _ _ _ _ _ _ _ _ _ | exact spec_FindPath.mono _ _ _ | exact spec_IsTogether.mono _ _ _)
theorem spec_ClearBetween.mono : ∀ a0 a1 a2 k, LeO (spec_ClearBetween.f k a0 a1 a2) (spec_ClearBetween.f (k + 1) a0 a1 a2) := by
 intro a0 a1 a2 k
 obtain ⟨ih0, ih1, ih2⟩ := spec_ClearBetween.mono_l k
 unfold spec_ClearBetween.f
 repeat' first | (with_reducible first | exact LeO.refl _ | exact LeO.none _ | refine LeO.ite ?_ ?_ | refine LeO.bind ?_ (fun _ => ?_) | exact ih0 _ _ _ _ _ _ _ | exact ih1 _ _ _ _ _ _ _ _ | exact ih2 _ _ _ _ _ _ _ _ | exact spec_Closes.mono _ _ _ | exact spec_Conflict.mono _ _ _ _ _ _ _ _ _ | exact spec_FindPath.mono _ _ _ | exact spec_IsTogether.mono _ _ _)
def spec_ClearBetween.T11 : Bool × List (List Nat × List Nat) := (true, [([], []), ([], []), ([], []), ([], []), ([], []), ([3, 4], [3, 4]), ([5], [5]), ([2, 6], [2, 6]), ([1, 7], [1, 7]), ([8], [8]), ([0, 9, 7], [0, 9])])
def spec_ClearBetween.B11 : List Nat := [0, 0, 0, 0, 0, 24, 56, 124, 254, 510, 1023]
theorem spec_ClearBetween.tab11 : rtab .any (opsOf Try.f84 11) = spec_ClearBetween.T11 := by kernel_rfl
theorem spec_ClearBetween.bits11 : waitsOk spec_ClearBetween.T11.2 spec_ClearBetween.B11 = true := by kernel_rfl
set_option maxHeartbeats 8000000 in
set_option maxRecDepth 100000 in
theorem spec_ClearBetween.calls (k : Nat) (A0 : Option Addr) (c0 : Nat) (l0 : List (S89)) (A1 : Option Addr) (c1 : Nat) (l1 : List Int) (A2 : Option Addr) (c2 : Nat) (l2 : List Int) (r : Int) (w : World) (hr0 : Kd.C k89 w A0 l0.length l0) (hc0 : l0.length ≤ c0) (hr1 : Kd.C (Kd.int .i64) w A1 l1.length l1) (hc1 : l1.length ≤ c1) (hr2 : Kd.C (Kd.int .i64) w A2 l2.length l2) (hc2 : l2.length ≤ c2) (h : spec_ClearBetween.f k l0 l1 l2 = some r) :
  Calls Try.prog 84 #[.slice A0 l0.length c0, .slice A1 l1.length c1, .slice A2 l2.length c2] w fun e w' => e = .returned (.int .i64 r) ∧ Below w.heap.size w w' := by
 have hu89 := Try.underlying89
 have HR0 := Aside0.mk hr0
 have HC0 := Aside0.mk hc0
 clear hr0 hc0
 have HR1 := Aside0.mk hr1
 have HC1 := Aside0.mk hc1
 clear hr1 hc1
 have HR2 := Aside0.mk hr2
 have HC2 := Aside0.mk hc2
 clear hr2 hc2
 have HB := Aside0.mk (Below.refl w.heap.size w)
 have H : ((spec_Closes.f k l1 l2).bind fun t215 => ((spec_Closes.f k l2 l1).bind fun t218 => (spec_ClearBetween.l0 k l0 l1 l2 0 t215 t218 0))) = some r := h
 clear h
 obtain ⟨t215, A4, H⟩ := bindE H
 try dsimp only at H
 obtain ⟨t218, A5, H⟩ := bindE H
 try dsimp only at H
 have H' := Aside0.mk H
 clear H
 go_enter Try.func84, Try.ntmps84
 go_wp2_with (first | ((with_reducible refine gate_callee (f := 130) rfl ?_); refine gL (some 15) Try.func130 #[.slice A1 l1.length c1, .slice A2 l2.length c2] ?_; (with_reducible refine (spec_Closes.calls k _ _ l1 _ _ l2 t215 _ ?side1 ?side2 ?side3 ?side4 A4.out).mono ?_); (case side1 => exact cO HR1); (case side2 => exact HC1.out); (case side3 => exact cO HR2); (case side4 => exact HC2.out); rintro e w6 ⟨v216, rfl, ho0, hb⟩; refine ⟨_, rfl, ?_⟩; have HO217 := Aside0.mk (Kd.R_lower ho0 (below_size bA)); replace HB := Aside0.mk (below_step bA hb); (try clear hb); (try clear ho0)) | ((with_reducible refine gate_callee (f := 130) rfl ?_); refine gL (some 18) Try.func130 #[.slice A2 l2.length c2, .slice A1 l1.length c1] ?_; (with_reducible refine (spec_Closes.calls k _ _ l2 _ _ l1 t218 _ ?side1 ?side2 ?side3 ?side4 A5.out).mono ?_); (case side1 => exact cB HR2); (case side2 => exact HC2.out); (case side3 => exact cB HR1); (case side4 => exact HC1.out); rintro e w7 ⟨v219, rfl, ho0, hb⟩; refine ⟨_, rfl, ?_⟩; have HO220 := Aside0.mk (Kd.R_lower (Kd.R_new' ho0 (Kd.R_lt (rK HO217))) (below_size bA)); replace HO217 := Aside0.mk (Kd.R_elder' (rK HO217) (Kd.R_base ho0) hb); replace HB := Aside0.mk (below_step bA hb); (try clear hb); (try clear ho0)))
 go_loopg [7, 10] k (fun kq v7 v10 w' => ∃ (x7_1 : Int) (x10_1 : Int), v7 = .int .i64 x7_1 ∧ v10 = .int .i64 x10_1 ∧ Aside0 (spec_ClearBetween.l0 kq l0 l1 l2 x7_1 t215 t218 x10_1 = some r) ∧ Aside0 (kq ≤ k) ∧ Aside0 (Kd.R (Kd.int .i64) 3 w' w.heap.size (fun k_ => some k_ ≠ (v219 : Value).ownBlock) v216 t215) ∧ Aside0 (Kd.R (Kd.int .i64) 3 w' w.heap.size (fun k_ => some k_ ≠ (v216 : Value).ownBlock) v219 t218) ∧ Aside0 (Below w.heap.size w w'))
 case atStart => exact ⟨(0), (0), rS, rS, H', ⟨Nat.le_refl _⟩, ⟨by (with_reducible repeat (first | apply Kd.R_alloc | apply Kd.R_drewN | apply Kd.R_drew)); exact Kd.R_mono HO217.out (fun _ hk => hk.2)⟩, ⟨by (with_reducible repeat (first | apply Kd.R_alloc | apply Kd.R_drewN | apply Kd.R_drew)); exact Kd.R_mono HO220.out (fun _ hk => hk.2)⟩, ⟨bA⟩⟩
 case round =>
  clear H'
  try clear c1
  try clear c2
  try clear p2
  obtain ⟨x7_1, x10_1, rfl, rfl, HA, HK1, HO_8, HO_9, HB⟩ := hrel
  cases gk with
  | zero => exact absurd HA.out (by simp [spec_ClearBetween.l0])
  | succ k1 =>
   have H := HA.out
   clear HA
   simp only [spec_ClearBetween.l0] at H
   have HC8 := Aside0.mk H
   clear H
   go_upto_region 5 with (fail)
   go_cut [32] (fun v32 wc => ∃ (kq : Nat) (x32_7 : Bool), v32 = .bool x32_7 ∧ Aside0 (spec_ClearBetween.j1 kq l0 l1 l2 x7_1 t215 t218 x10_1 x32_7 = some r) ∧ Aside0 (kq ≤ k1) ∧ Aside0 (Kd.R (Kd.int .i64) 3 wc w.heap.size (fun k_ => some k_ ≠ (v219 : Value).ownBlock) v216 t215) ∧ Aside0 (Kd.R (Kd.int .i64) 3 wc w.heap.size (fun k_ => some k_ ≠ (v216 : Value).ownBlock) v219 t218) ∧ Aside0 (Below w.heap.size w wc))
   case first =>
    have H := HC8.out
    clear HC8
    by_cases c9 : x10_1 < (t215.length : Int)
    ·
     rw [if_pos c9] at H
     have c9b0 := decide_eq_true c9
     clear c9
     (first | rw [c9b0] | (simp only [i64_w, i32_w]; rw [c9b0]) | skip)
     obtain ⟨t221, A10, H⟩ := bindE H
     try dsimp only at H
     by_cases c11 : t221 = true
     ·
      subst c11
      have H1 : ((spec_IsTogether.f k1 l0 l2).bind fun t222 => (spec_ClearBetween.j1 k1 l0 l1 l2 x7_1 t215 t218 x10_1 t222)) = some r := by rw [if_pos rfl] at H; exact H
      clear H
      have H := H1
      clear H1
      obtain ⟨t222, A12, H⟩ := bindE H
      try dsimp only at H
      have H' := Aside0.mk H
      clear H
      obtain ⟨Ao13, co13, eo13⟩ := Kd.R_slice HO_8.out
      subst eo13
      go_wp2_with (first | (go_at_call 82; (with_reducible refine (spec_IsTogether.calls k1 _ _ l0 _ _ l1 true _ ?side1 ?side2 ?side3 ?side4 A10.out).mono ?_); (case side1 => exact cB HR0); (case side2 => exact HC0.out); (case side3 => exact cB HR1); (case side4 => exact HC1.out); rintro e w14 ⟨rfl, hb⟩; replace HO_8 := Aside0.mk (Kd.R_below (rK HO_8) hb); replace HO_9 := Aside0.mk (Kd.R_below (rK HO_9) hb); replace HB := Aside0.mk (below_step bA hb); (try clear hb)) | (go_at_call 82; (with_reducible refine (spec_IsTogether.calls k1 _ _ l0 _ _ l2 t222 _ ?side1 ?side2 ?side3 ?side4 A12.out).mono ?_); (case side1 => exact cB HR0); (case side2 => exact HC0.out); (case side3 => exact cB HR2); (case side4 => exact HC2.out); rintro e w15 ⟨rfl, hb⟩; replace HO_8 := Aside0.mk (Kd.R_below (rK HO_8) hb); replace HO_9 := Aside0.mk (Kd.R_below (rK HO_9) hb); replace HB := Aside0.mk (below_step bA hb); (try clear hb)))
      go_meet
      case rel => exact ⟨_, (t222), rS, H', ⟨by have := HK1.out; first | omega | exact Nat.le_refl _⟩, ⟨rK HO_8⟩, ⟨rK HO_9⟩, ⟨bA⟩⟩
     ·
      replace c11 := Bool.eq_false_iff.mpr c11
      subst c11
      have H1 : (spec_ClearBetween.j1 k1 l0 l1 l2 x7_1 t215 t218 x10_1 false) = some r := by rw [if_neg (show ¬ (false = true) by decide)] at H; exact H
      clear H
      have H := H1
      clear H1
      have H' := Aside0.mk H
      clear H
      obtain ⟨Ao16, co16, eo16⟩ := Kd.R_slice HO_8.out
      subst eo16
      go_wp2_with (first | (go_at_call 82; (with_reducible refine (spec_IsTogether.calls k1 _ _ l0 _ _ l1 false _ ?side1 ?side2 ?side3 ?side4 A10.out).mono ?_); (case side1 => exact cB HR0); (case side2 => exact HC0.out); (case side3 => exact cB HR1); (case side4 => exact HC1.out); rintro e w17 ⟨rfl, hb⟩; replace HO_8 := Aside0.mk (Kd.R_below (rK HO_8) hb); replace HO_9 := Aside0.mk (Kd.R_below (rK HO_9) hb); replace HB := Aside0.mk (below_step bA hb); (try clear hb)))
      go_meet
      case rel => exact ⟨_, (false), rS, H', ⟨by have := HK1.out; first | omega | exact Nat.le_refl _⟩, ⟨rK HO_8⟩, ⟨rK HO_9⟩, ⟨bA⟩⟩
    ·
     rw [if_neg c9] at H
     have c9b0 := decide_eq_false c9
     clear c9
     (first | rw [c9b0] | (simp only [i64_w, i32_w]; rw [c9b0]) | skip)
     have H' := Aside0.mk H
     clear H
     obtain ⟨Ao18, co18, eo18⟩ := Kd.R_slice HO_8.out
     subst eo18
     go_wp2
     go_meet
     case rel => exact ⟨_, (false), rS, H', ⟨by have := HK1.out; first | omega | exact Nat.le_refl _⟩, ⟨rK HO_8⟩, ⟨rK HO_9⟩, ⟨bA⟩⟩
   case rest =>
    clear HC8
    try clear c1
    try clear c2
    try clear p2
    try clear c8
    try clear c9
    try clear c9b0
    try clear c11
    try clear c13
    try clear p2
    obtain ⟨kq, x32_7, rfl, HA, HJ7, HO_8, HO_9, HB⟩ := hcut
    cases kq with
    | zero => exact absurd HA.out (by simp [spec_ClearBetween.j1])
    | succ kj7 =>
     have H := HA.out
     clear HA
     simp only [spec_ClearBetween.j1] at H
     by_cases c19 : x32_7 = true
     ·
      subst c19
      have H1 : (spec_ClearBetween.l1 kj7 l0 l1 l2 x7_1 t215 t218 x10_1 0) = some r := by rw [if_pos rfl] at H; exact H
      clear H
      have H := H1
      clear H1
      have H' := Aside0.mk H
      clear H
      go_wp2
      go_loopg [7, 11] kj7 (fun kq v7 v11 w' => ∃ (x7_3 : Int) (x11_3 : Int), v7 = .int .i64 x7_3 ∧ v11 = .int .i64 x11_3 ∧ Aside0 (spec_ClearBetween.l1 kq l0 l1 l2 x7_3 t215 t218 x10_1 x11_3 = some r) ∧ Aside0 (kq ≤ kj7) ∧ Aside0 (Kd.R (Kd.int .i64) 3 w' w.heap.size (fun k_ => some k_ ≠ (v219 : Value).ownBlock) v216 t215) ∧ Aside0 (Kd.R (Kd.int .i64) 3 w' w.heap.size (fun k_ => some k_ ≠ (v216 : Value).ownBlock) v219 t218) ∧ Aside0 (Below w.heap.size w w'))
      case atStart => exact ⟨(x7_1), (0), rS, rS, H', ⟨Nat.le_refl _⟩, ⟨rK HO_8⟩, ⟨rK HO_9⟩, ⟨bA⟩⟩
      case round =>
       clear H'
       try clear c1
       try clear c2
       try clear p2
       try clear c8
       try clear c9
       try clear c9b0
       try clear c11
       try clear c13
       try clear c19
       try clear p2
       obtain ⟨x7_3, x11_3, rfl, rfl, HA, HK3, HO_8, HO_9, HB⟩ := hrel
       cases gk with
       | zero => exact absurd HA.out (by simp [spec_ClearBetween.l1])
       | succ k3 =>
        have H := HA.out
        clear HA
        simp only [spec_ClearBetween.l1] at H
        by_cases c20 : x11_3 < (t218.length : Int)
        ·
         rw [if_pos c20] at H
         have c20b0 := decide_eq_true c20
         clear c20
         have c21 : 0 ≤ x10_1 := ifN H
         replace H := ifT H
         have c21b0 := decide_eq_true c21
         clear c21
         have c22 : x10_1 < (t215.length : Int) := ifN H
         replace H := ifT H
         have c22b0 := decide_eq_true c22
         clear c22
         obtain ⟨t224, A23, H⟩ := bindE H
         try dsimp only at H
         have c24 : 0 ≤ t224 := ifN H
         replace H := ifT H
         have c24b0 := decide_eq_true c24
         clear c24
         have c25 : t224 < (l0.length : Int) := ifN H
         replace H := ifT H
         have c25b0 := decide_eq_true c25
         clear c25
         have c26 : 0 ≤ x11_3 := ifN H
         replace H := ifT H
         have c26b0 := decide_eq_true c26
         clear c26
         obtain ⟨t228, A27, H⟩ := bindE H
         try dsimp only at H
         have c28 : 0 ≤ t228 := ifN H
         replace H := ifT H
         have c28b0 := decide_eq_true c28
         clear c28
         have c29 : t228 < (l0.length : Int) := ifN H
         replace H := ifT H
         have c29b0 := decide_eq_true c29
         clear c29
         obtain ⟨t230, A30, H⟩ := bindE H
         try dsimp only at H
         by_cases c31 : t230 = true
         ·
          subst c31
          have H1 : ((spec_ClearOf.f ((rd_T89 l0 t224).f0) ((rd_T89 l0 t224).f1) ((rd_T89 l0 t224).f2) ((rd_T89 l0 t224).f3)).bind fun t231 => ((spec_Max.f x7_3 t231).bind fun t232 => (spec_ClearBetween.l1 k3 l0 l1 l2 t232 t215 t218 x10_1 (wrap64 (x11_3 + 1))))) = some r := by rw [if_pos rfl] at H; exact H
          clear H
          have H := H1
          clear H1
          obtain ⟨t231, A32, H⟩ := bindE H
          try dsimp only at H
          obtain ⟨t232, A33, H⟩ := bindE H
          try dsimp only at H
          have H' := Aside0.mk H
          clear H
          obtain ⟨Ao34, co34, eo34⟩ := Kd.R_slice HO_9.out
          subst eo34
          obtain ⟨Ao35, co35, eo35⟩ := Kd.R_slice HO_8.out
          subst eo35
          have p223 : 0 ≤ (x10_1 : Int) := dA
          have q223 : x10_1 < (t215.length : Int) := dA
          obtain ⟨ad223, e223, hx223_0⟩ := Kd.at_int (Kd.R_reads' HO_8.out).2.2 x10_1 p223 q223
          cases e223
          replace p223 := eq_true p223
          replace q223 := eq_true q223
          try go_wp2_with (first | ((with_reducible refine gate_callee (f := 116) rfl ?_); refine gL (some 47) Try.func116 #[.slice A0 l0.length c0, .int .i64 (rd t215 x10_1)] ?_; (with_reducible refine (spec_FindPath.calls k3 _ _ l0 (rd t215 x10_1) t224 _ ?side1 ?side2 A23.out).mono ?_); (case side1 => exact cB HR0); (case side2 => exact HC0.out); rintro e w' ⟨rfl, ⟨nd, rfl⟩⟩; refine ⟨_, rfl, ?_⟩; (try (rw [drewN_self wr]; generalize hq_ : World.drewN wr _ = wr; have n0_ : Aside0 (Kd.R (Kd.int .i64) 3 wr w.heap.size (fun k_ => some k_ ≠ (.slice Ao34 t218.length co34 : Value).ownBlock) (.slice (some ad223) t215.length co35) t215) := ⟨by rw [← hq_]; exact (rK HO_8)⟩; have n1_ : Aside0 (Kd.R (Kd.int .i64) 3 wr w.heap.size (fun k_ => some k_ ≠ (.slice (some ad223) t215.length co35 : Value).ownBlock) (.slice Ao34 t218.length co34) t218) := ⟨by rw [← hq_]; exact (rK HO_9)⟩; have n2_ : Aside0 (Below w.heap.size w wr) := ⟨by rw [← hq_]; exact bA⟩; clear HO_8 HO_9 HB hq_; have HO_8 := n0_; have HO_9 := n1_; have HB := n2_; clear n0_ n1_ n2_)); have p225 : 0 ≤ (t224 : Int) := dA; have q225 : t224 < (l0.length : Int) := dA; obtain ⟨ad225, e225, hx225_0, hx225_1, hx225_2, hx225_3⟩ := at_T89 HR0.out t224 p225 q225; cases e225; replace hx225_0 := hC HB hx225_0; replace hx225_1 := hC HB hx225_1; replace hx225_2 := hC HB hx225_2; replace hx225_3 := hC HB hx225_3; replace p225 := eq_true p225; replace q225 := eq_true q225) | ((with_reducible refine gate_dst (N := 12) rfl ?_); refine bE (N := 12) (cs := #[.int .i64 0, .int .i64 0, .int .i64 0, .int .i64 0]) (t := 89) ?_; intro gb226 hg w36 hbox hb; have n0_ := Aside0.mk (Kd.R_below (rK HO_8) hb); have n1_ := Aside0.mk (Kd.R_below (rK HO_9) hb); have n2_ := Aside0.mk (below_step bA hb); have n3_ := Aside0.mk (hbox); have n4_ := Aside0.mk ((by rw [hg]; exact (below_size bA) : w.heap.size ≤ gb226)); have n5_ := Aside0.mk ((by rw [hg]; exact (below_size bA) : w.heap.size ≤ gb226)); clear HO_8; clear HO_9; clear HB; have HO_8 := n0_; have HO_9 := n1_; have HB := n2_; have BK226 := n3_; have GW226 := n4_; have GE226 := n5_; clear n0_ n1_ n2_ n3_ n4_ n5_; clear hb hbox hg; obtain ⟨hcz37_0, hcz37_1, hcz37_2, hcz37_3, hfz37_0, hfz37_1, hfz37_2, hfz37_3⟩ := blkc4 BK226))
          have n0_ : Aside0 (Kd.R (Kd.int .i64) 3 ((((w36.setCell ⟨gb226, 0, none⟩ (.int .i64 ((rd_T89 l0 t224).f0))).setCell ⟨gb226, 1, none⟩ (.int .i64 ((rd_T89 l0 t224).f1))).setCell ⟨gb226, 2, none⟩ (.int .i64 ((rd_T89 l0 t224).f2))).setCell ⟨gb226, 3, none⟩ (.int .i64 ((rd_T89 l0 t224).f3))) w.heap.size (fun k_ => some k_ ≠ (.slice Ao34 t218.length co34 : Value).ownBlock) (.slice (some ad223) t215.length co35) t215) := ⟨by (with_reducible repeat (first | apply Kd.R_alloc | apply Kd.R_drewN | apply Kd.R_drew)); exact Kd.R_mono (Kd.R_far (p := ⟨gb226, 3, none⟩) (Kd.R_far (p := ⟨gb226, 2, none⟩) (Kd.R_far (p := ⟨gb226, 1, none⟩) (Kd.R_far (p := ⟨gb226, 0, none⟩) (Kd.R_types HO_8.out BK226.out (by decide)) (fun _ hk => hk.2) (.int .i64 ((rd_T89 l0 t224).f0))) (fun _ hk => hk.2) (.int .i64 ((rd_T89 l0 t224).f1))) (fun _ hk => hk.2) (.int .i64 ((rd_T89 l0 t224).f2))) (fun _ hk => hk.2) (.int .i64 ((rd_T89 l0 t224).f3))) (fun _ hk => hk.1)⟩
          have n1_ : Aside0 (Kd.R (Kd.int .i64) 3 ((((w36.setCell ⟨gb226, 0, none⟩ (.int .i64 ((rd_T89 l0 t224).f0))).setCell ⟨gb226, 1, none⟩ (.int .i64 ((rd_T89 l0 t224).f1))).setCell ⟨gb226, 2, none⟩ (.int .i64 ((rd_T89 l0 t224).f2))).setCell ⟨gb226, 3, none⟩ (.int .i64 ((rd_T89 l0 t224).f3))) w.heap.size (fun k_ => some k_ ≠ (.slice (some ad223) t215.length co35 : Value).ownBlock) (.slice Ao34 t218.length co34) t218) := ⟨by (with_reducible repeat (first | apply Kd.R_alloc | apply Kd.R_drewN | apply Kd.R_drew)); exact Kd.R_mono (Kd.R_far (p := ⟨gb226, 3, none⟩) (Kd.R_far (p := ⟨gb226, 2, none⟩) (Kd.R_far (p := ⟨gb226, 1, none⟩) (Kd.R_far (p := ⟨gb226, 0, none⟩) (Kd.R_types HO_9.out BK226.out (by decide)) (fun _ hk => hk.2) (.int .i64 ((rd_T89 l0 t224).f0))) (fun _ hk => hk.2) (.int .i64 ((rd_T89 l0 t224).f1))) (fun _ hk => hk.2) (.int .i64 ((rd_T89 l0 t224).f2))) (fun _ hk => hk.2) (.int .i64 ((rd_T89 l0 t224).f3))) (fun _ hk => hk.1)⟩
          have n2_ : Aside0 (((((w36.setCell ⟨gb226, 0, none⟩ (.int .i64 ((rd_T89 l0 t224).f0))).setCell ⟨gb226, 1, none⟩ (.int .i64 ((rd_T89 l0 t224).f1))).setCell ⟨gb226, 2, none⟩ (.int .i64 ((rd_T89 l0 t224).f2))).setCell ⟨gb226, 3, none⟩ (.int .i64 ((rd_T89 l0 t224).f3))).heap[gb226]? = some (.cells #[.int .i64 ((rd_T89 l0 t224).f0), .int .i64 ((rd_T89 l0 t224).f1), .int .i64 ((rd_T89 l0 t224).f2), .int .i64 ((rd_T89 l0 t224).f3)] 89 (0, 0))) := ⟨by (with_reducible repeat (first | refine blk_drewN ?_ _ | refine blk_drew ?_ | refine blk_alloc ?_ _)); refine blk_put (cs := #[.int .i64 ((rd_T89 l0 t224).f0), .int .i64 ((rd_T89 l0 t224).f1), .int .i64 ((rd_T89 l0 t224).f2), .int .i64 0]) ?_ 3 _ rfl; (with_reducible repeat (first | refine blk_drewN ?_ _ | refine blk_drew ?_ | refine blk_alloc ?_ _)); refine blk_put (cs := #[.int .i64 ((rd_T89 l0 t224).f0), .int .i64 ((rd_T89 l0 t224).f1), .int .i64 0, .int .i64 0]) ?_ 2 _ rfl; (with_reducible repeat (first | refine blk_drewN ?_ _ | refine blk_drew ?_ | refine blk_alloc ?_ _)); refine blk_put (cs := #[.int .i64 ((rd_T89 l0 t224).f0), .int .i64 0, .int .i64 0, .int .i64 0]) ?_ 1 _ rfl; (with_reducible repeat (first | refine blk_drewN ?_ _ | refine blk_drew ?_ | refine blk_alloc ?_ _)); refine blk_put (cs := #[.int .i64 0, .int .i64 0, .int .i64 0, .int .i64 0]) ?_ 0 _ rfl; (with_reducible repeat (first | refine blk_drewN ?_ _ | refine blk_drew ?_ | refine blk_alloc ?_ _)); exact BK226.out⟩
          have n3_ : Aside0 (Below w.heap.size w ((((w36.setCell ⟨gb226, 0, none⟩ (.int .i64 ((rd_T89 l0 t224).f0))).setCell ⟨gb226, 1, none⟩ (.int .i64 ((rd_T89 l0 t224).f1))).setCell ⟨gb226, 2, none⟩ (.int .i64 ((rd_T89 l0 t224).f2))).setCell ⟨gb226, 3, none⟩ (.int .i64 ((rd_T89 l0 t224).f3)))) := ⟨bG⟩
          (try clear HO_8)
          (try clear HO_9)
          (try clear BK226)
          (try clear HB)
          generalize ((((w36.setCell ⟨gb226, 0, none⟩ (.int .i64 ((rd_T89 l0 t224).f0))).setCell ⟨gb226, 1, none⟩ (.int .i64 ((rd_T89 l0 t224).f1))).setCell ⟨gb226, 2, none⟩ (.int .i64 ((rd_T89 l0 t224).f2))).setCell ⟨gb226, 3, none⟩ (.int .i64 ((rd_T89 l0 t224).f3))) = w38 at n0_ n1_ n2_ n3_ ⊢
          have HO_8 := n0_
          have HO_9 := n1_
          have BK226 := n2_
          have HB := n3_
          clear n0_ n1_ n2_ n3_
          replace HO_8 := Aside0.mk (Kd.R_drew HO_8.out)
          replace HO_9 := Aside0.mk (Kd.R_drew HO_9.out)
          replace BK226 := Aside0.mk (blk_drew BK226.out)
          have HBo := HB
          replace HB := Aside0.mk (below_drew1 HB.out)
          have p227 : 0 ≤ (x11_3 : Int) := dA
          have q227 : x11_3 < (t218.length : Int) := dA
          obtain ⟨ad227, e227, hx227_0⟩ := Kd.at_int (Kd.R_reads' HO_9.out).2.2 x11_3 p227 q227
          cases e227
          replace p227 := eq_true p227
          replace q227 := eq_true q227
          have p229 : 0 ≤ (t228 : Int) := dA
          have q229 : t228 < (l0.length : Int) := dA
          obtain ⟨ad229, e229, hx229_0, hx229_1, hx229_2, hx229_3⟩ := at_T89 HR0.out t228 p229 q229
          have hw229_3 := hx229_3
          have hw229_2 := hx229_2
          have hw229_1 := hx229_1
          have hw229_0 := hx229_0
          obtain rfl : ad225 = ad229 := (by injection e229)
          replace hx229_0 := hC HB hx229_0
          replace hx229_1 := hC HB hx229_1
          replace hx229_2 := hC HB hx229_2
          replace hx229_3 := hC HB hx229_3
          replace p229 := eq_true p229
          replace q229 := eq_true q229
          refine start_ (n := 11) (S := fun w' => w'.cell? ⟨gb226, 0, none⟩ = some (.int .i64 ((rd_T89 l0 t224).f0)) ∧ w'.cell? ⟨gb226, 1, none⟩ = some (.int .i64 ((rd_T89 l0 t224).f1)) ∧ w'.cell? ⟨gb226, 2, none⟩ = some (.int .i64 ((rd_T89 l0 t224).f2)) ∧ w'.cell? ⟨gb226, 3, none⟩ = some (.int .i64 ((rd_T89 l0 t224).f3)) ∧ w'.cell? (ad227.add (x11_3).toNat) = some (.int .i64 (rd t218 x11_3)) ∧ w'.cell? (ad225.add ((t228).toNat * 4)) = some (.int .i64 ((rd_T89 l0 t228).f0)) ∧ w'.cell? ⟨(ad225.add ((t228).toNat * 4)).block, (ad225.add ((t228).toNat * 4)).off + 1, none⟩ = some (.int .i64 ((rd_T89 l0 t228).f1)) ∧ w'.cell? ⟨(ad225.add ((t228).toNat * 4)).block, (ad225.add ((t228).toNat * 4)).off + 2, none⟩ = some (.int .i64 ((rd_T89 l0 t228).f2)) ∧ w'.cell? ⟨(ad225.add ((t228).toNat * 4)).block, (ad225.add ((t228).toNat * 4)).off + 3, none⟩ = some (.int .i64 ((rd_T89 l0 t228).f3))) (ds := []) (mb 11 0) (by kernel_rfl) rfl rfl ⟨bC BK226 0, bC BK226 1, bC BK226 2, bC BK226 3, hx227_0, (hC HB hw229_0), (hC HB hw229_1), (hC HB hw229_2), (hC HB hw229_3)⟩ (fun hHeld => ?_); refine with_tabW spec_ClearBetween.tab11 spec_ClearBetween.bits11 (fun HT_ HW_ => ?_)
          generalize w38.drew = w39 at HO_8 HO_9 BK226 HB hx227_0 hx229_0 hx229_1 hx229_2 hx229_3 hHeld ⊢
          refine pA (i := 1) (N := some 51) (mb 11 2) HT_ ?_
          refine pA (i := 2) (N := some 52) (mb 11 6) HT_ ?_
          refine pA (i := 3) (N := some 53) (mb 11 14) HT_ ?_
          refine pA (i := 4) (N := some 54) (mb 11 30) HT_ ?_
          refine pA (i := 5) (N := some 55) (mb 11 62) HT_ ?_
          refine tA9 (i := 0) (N := some 50) (mb 11 63) HT_ HW_ hHeld ?_
          refine tA9 (i := 6) (N := some 56) (mb 11 127) HT_ HW_ hHeld ?_
          refine oA (i := 7) (N := some 57) (mb 11 255) HT_ (fun K hK => ?_)
          refine gA Try.func116 #[.slice (some ad225) l0.length c0, .int .i64 (rd t218 x11_3)] ?_
          with_reducible refine (spec_FindPath.calls k3 _ _ l0 (rd t218 x11_3) t228 _ ?side1 ?side2 A27.out).mono ?_
          (case side1 => exact cB HR0)
          (case side2 => exact HC0.out)
          rintro e w' ⟨rfl, ⟨nd, rfl⟩⟩
          refine ⟨_, rfl, ?_⟩
          refine hK.out _ _ ⟨bC BK226 0, bC BK226 1, bC BK226 2, bC BK226 3, hHeld.2.2.2.2.1, (hC HB hw229_0), (hC HB hw229_1), (hC HB hw229_2), (hC HB hw229_3)⟩ (fun hHeld => ?_)
          clear hK K
          refine nB ?_
          refine pA (i := 8) (N := some 58) (mb 11 511) HT_ ?_
          refine tA9 (i := 9) (N := some 59) (mb 11 1023) HT_ HW_ hHeld ?_
          refine oA (i := 10) (N := some 60) (mb 11 2047) HT_ (fun K hK => ?_)
          refine gA Try.func129 #[.agg #[.int .i64 ((rd_T89 l0 t224).f0), .int .i64 ((rd_T89 l0 t224).f1), .int .i64 ((rd_T89 l0 t224).f2), .int .i64 ((rd_T89 l0 t224).f3)], .agg #[.int .i64 ((rd_T89 l0 t228).f0), .int .i64 ((rd_T89 l0 t228).f1), .int .i64 ((rd_T89 l0 t228).f2), .int .i64 ((rd_T89 l0 t228).f3)]] ?_
          with_reducible refine (spec_Conflict.calls k3 ((rd_T89 l0 t224).f0) ((rd_T89 l0 t224).f1) ((rd_T89 l0 t224).f2) ((rd_T89 l0 t224).f3) ((rd_T89 l0 t228).f0) ((rd_T89 l0 t228).f1) ((rd_T89 l0 t228).f2) ((rd_T89 l0 t228).f3) true _ A30.out).mono ?_
          rintro e w40 ⟨rfl, hb⟩
          have HS4_ := (hb.cell (World.block_lt_of_cell? _ _ (hHeld.2.2.2.2.1))).trans (hHeld.2.2.2.2.1)
          refine ⟨_, rfl, ?_⟩
          replace HO_8 := Aside0.mk (Kd.R_below (rK HO_8) hb)
          replace HO_9 := Aside0.mk (Kd.R_below (rK HO_9) hb)
          replace BK226 := Aside0.mk (blk_below (g := gb226) (bK BK226) hb)
          replace HB := Aside0.mk (below_step bG hb)
          (try clear hb)
          (try clear hb2)
          (try clear hk)
          (try clear hi)
          refine hK.out _ _ ⟨bC BK226 0, bC BK226 1, bC BK226 2, bC BK226 3, HS4_, (hC HB hw229_0), (hC HB hw229_1), (hC HB hw229_2), (hC HB hw229_3)⟩ (fun hHeld => ?_)
          clear hK K
          refine nB ?_
          refine eA HT_ ?_
          obtain ⟨hcz41_0, hcz41_1, hcz41_2, hcz41_3, hfz41_0, hfz41_1, hfz41_2, hfz41_3⟩ := blkc4 BK226
          try go_wp2_with (first | ((with_reducible refine gate_callee (f := 132) rfl ?_); refine gL (some 63) Try.func132 #[.agg #[.int .i64 ((rd_T89 l0 t224).f0), .int .i64 ((rd_T89 l0 t224).f1), .int .i64 ((rd_T89 l0 t224).f2), .int .i64 ((rd_T89 l0 t224).f3)]] ?_; (with_reducible refine (spec_ClearOf.calls ((rd_T89 l0 t224).f0) ((rd_T89 l0 t224).f1) ((rd_T89 l0 t224).f2) ((rd_T89 l0 t224).f3) t231 _ A32.out).mono ?_); rintro e w42 ⟨rfl, hb⟩; refine ⟨_, rfl, ?_⟩; replace HO_8 := Aside0.mk (Kd.R_below (rK HO_8) hb); replace HO_9 := Aside0.mk (Kd.R_below (rK HO_9) hb); replace BK226 := Aside0.mk (blk_below (g := gb226) (bK BK226) hb); replace HB := Aside0.mk (below_step bG hb); (try clear hb)) | ((with_reducible refine gate_callee (f := 131) rfl ?_); refine gL (some 64) Try.func131 #[.int .i64 x7_3, .int .i64 t231] ?_; (with_reducible refine (spec_Max.calls x7_3 t231 t232 _ A33.out).mono ?_); rintro e w' ⟨rfl, ⟨nd, rfl⟩⟩; refine ⟨_, rfl, ?_⟩))
          go_roundg k3
          case measure => have := HK1.out; have := HJ7.out; have := HK3.out; omega
          case rel => exact ⟨(t232), (wrap64 (x11_3 + 1)), rS, rS, H', ⟨by have := HK1.out; have := HJ7.out; have := HK3.out; omega⟩, ⟨rK HO_8⟩, ⟨rK HO_9⟩, ⟨bG⟩⟩
         ·
          replace c31 := Bool.eq_false_iff.mpr c31
          subst c31
          have H1 : (spec_ClearBetween.l1 k3 l0 l1 l2 x7_3 t215 t218 x10_1 (wrap64 (x11_3 + 1))) = some r := by rw [if_neg (show ¬ (false = true) by decide)] at H; exact H
          clear H
          have H := H1
          clear H1
          have H' := Aside0.mk H
          clear H
          obtain ⟨Ao43, co43, eo43⟩ := Kd.R_slice HO_9.out
          subst eo43
          obtain ⟨Ao44, co44, eo44⟩ := Kd.R_slice HO_8.out
          subst eo44
          have p223 : 0 ≤ (x10_1 : Int) := dA
          have q223 : x10_1 < (t215.length : Int) := dA
          obtain ⟨ad223, e223, hx223_0⟩ := Kd.at_int (Kd.R_reads' HO_8.out).2.2 x10_1 p223 q223
          cases e223
          replace p223 := eq_true p223
          replace q223 := eq_true q223
          try go_wp2_with (first | ((with_reducible refine gate_callee (f := 116) rfl ?_); refine gL (some 47) Try.func116 #[.slice A0 l0.length c0, .int .i64 (rd t215 x10_1)] ?_; (with_reducible refine (spec_FindPath.calls k3 _ _ l0 (rd t215 x10_1) t224 _ ?side1 ?side2 A23.out).mono ?_); (case side1 => exact cB HR0); (case side2 => exact HC0.out); rintro e w' ⟨rfl, ⟨nd, rfl⟩⟩; refine ⟨_, rfl, ?_⟩; (try (rw [drewN_self wr]; generalize hq_ : World.drewN wr _ = wr; have n0_ : Aside0 (Kd.R (Kd.int .i64) 3 wr w.heap.size (fun k_ => some k_ ≠ (.slice Ao43 t218.length co43 : Value).ownBlock) (.slice (some ad223) t215.length co44) t215) := ⟨by rw [← hq_]; exact (rK HO_8)⟩; have n1_ : Aside0 (Kd.R (Kd.int .i64) 3 wr w.heap.size (fun k_ => some k_ ≠ (.slice (some ad223) t215.length co44 : Value).ownBlock) (.slice Ao43 t218.length co43) t218) := ⟨by rw [← hq_]; exact (rK HO_9)⟩; have n2_ : Aside0 (Below w.heap.size w wr) := ⟨by rw [← hq_]; exact bA⟩; clear HO_8 HO_9 HB hq_; have HO_8 := n0_; have HO_9 := n1_; have HB := n2_; clear n0_ n1_ n2_)); have p225 : 0 ≤ (t224 : Int) := dA; have q225 : t224 < (l0.length : Int) := dA; obtain ⟨ad225, e225, hx225_0, hx225_1, hx225_2, hx225_3⟩ := at_T89 HR0.out t224 p225 q225; cases e225; replace hx225_0 := hC HB hx225_0; replace hx225_1 := hC HB hx225_1; replace hx225_2 := hC HB hx225_2; replace hx225_3 := hC HB hx225_3; replace p225 := eq_true p225; replace q225 := eq_true q225) | ((with_reducible refine gate_dst (N := 12) rfl ?_); refine bE (N := 12) (cs := #[.int .i64 0, .int .i64 0, .int .i64 0, .int .i64 0]) (t := 89) ?_; intro gb226 hg w45 hbox hb; have n0_ := Aside0.mk (Kd.R_below (rK HO_8) hb); have n1_ := Aside0.mk (Kd.R_below (rK HO_9) hb); have n2_ := Aside0.mk (below_step bA hb); have n3_ := Aside0.mk (hbox); have n4_ := Aside0.mk ((by rw [hg]; exact (below_size bA) : w.heap.size ≤ gb226)); have n5_ := Aside0.mk ((by rw [hg]; exact (below_size bA) : w.heap.size ≤ gb226)); clear HO_8; clear HO_9; clear HB; have HO_8 := n0_; have HO_9 := n1_; have HB := n2_; have BK226 := n3_; have GW226 := n4_; have GE226 := n5_; clear n0_ n1_ n2_ n3_ n4_ n5_; clear hb hbox hg; obtain ⟨hcz46_0, hcz46_1, hcz46_2, hcz46_3, hfz46_0, hfz46_1, hfz46_2, hfz46_3⟩ := blkc4 BK226))
          have n0_ : Aside0 (Kd.R (Kd.int .i64) 3 ((((w45.setCell ⟨gb226, 0, none⟩ (.int .i64 ((rd_T89 l0 t224).f0))).setCell ⟨gb226, 1, none⟩ (.int .i64 ((rd_T89 l0 t224).f1))).setCell ⟨gb226, 2, none⟩ (.int .i64 ((rd_T89 l0 t224).f2))).setCell ⟨gb226, 3, none⟩ (.int .i64 ((rd_T89 l0 t224).f3))) w.heap.size (fun k_ => some k_ ≠ (.slice Ao43 t218.length co43 : Value).ownBlock) (.slice (some ad223) t215.length co44) t215) := ⟨by (with_reducible repeat (first | apply Kd.R_alloc | apply Kd.R_drewN | apply Kd.R_drew)); exact Kd.R_mono (Kd.R_far (p := ⟨gb226, 3, none⟩) (Kd.R_far (p := ⟨gb226, 2, none⟩) (Kd.R_far (p := ⟨gb226, 1, none⟩) (Kd.R_far (p := ⟨gb226, 0, none⟩) (Kd.R_types HO_8.out BK226.out (by decide)) (fun _ hk => hk.2) (.int .i64 ((rd_T89 l0 t224).f0))) (fun _ hk => hk.2) (.int .i64 ((rd_T89 l0 t224).f1))) (fun _ hk => hk.2) (.int .i64 ((rd_T89 l0 t224).f2))) (fun _ hk => hk.2) (.int .i64 ((rd_T89 l0 t224).f3))) (fun _ hk => hk.1)⟩
          have n1_ : Aside0 (Kd.R (Kd.int .i64) 3 ((((w45.setCell ⟨gb226, 0, none⟩ (.int .i64 ((rd_T89 l0 t224).f0))).setCell ⟨gb226, 1, none⟩ (.int .i64 ((rd_T89 l0 t224).f1))).setCell ⟨gb226, 2, none⟩ (.int .i64 ((rd_T89 l0 t224).f2))).setCell ⟨gb226, 3, none⟩ (.int .i64 ((rd_T89 l0 t224).f3))) w.heap.size (fun k_ => some k_ ≠ (.slice (some ad223) t215.length co44 : Value).ownBlock) (.slice Ao43 t218.length co43) t218) := ⟨by (with_reducible repeat (first | apply Kd.R_alloc | apply Kd.R_drewN | apply Kd.R_drew)); exact Kd.R_mono (Kd.R_far (p := ⟨gb226, 3, none⟩) (Kd.R_far (p := ⟨gb226, 2, none⟩) (Kd.R_far (p := ⟨gb226, 1, none⟩) (Kd.R_far (p := ⟨gb226, 0, none⟩) (Kd.R_types HO_9.out BK226.out (by decide)) (fun _ hk => hk.2) (.int .i64 ((rd_T89 l0 t224).f0))) (fun _ hk => hk.2) (.int .i64 ((rd_T89 l0 t224).f1))) (fun _ hk => hk.2) (.int .i64 ((rd_T89 l0 t224).f2))) (fun _ hk => hk.2) (.int .i64 ((rd_T89 l0 t224).f3))) (fun _ hk => hk.1)⟩
          have n2_ : Aside0 (((((w45.setCell ⟨gb226, 0, none⟩ (.int .i64 ((rd_T89 l0 t224).f0))).setCell ⟨gb226, 1, none⟩ (.int .i64 ((rd_T89 l0 t224).f1))).setCell ⟨gb226, 2, none⟩ (.int .i64 ((rd_T89 l0 t224).f2))).setCell ⟨gb226, 3, none⟩ (.int .i64 ((rd_T89 l0 t224).f3))).heap[gb226]? = some (.cells #[.int .i64 ((rd_T89 l0 t224).f0), .int .i64 ((rd_T89 l0 t224).f1), .int .i64 ((rd_T89 l0 t224).f2), .int .i64 ((rd_T89 l0 t224).f3)] 89 (0, 0))) := ⟨by (with_reducible repeat (first | refine blk_drewN ?_ _ | refine blk_drew ?_ | refine blk_alloc ?_ _)); refine blk_put (cs := #[.int .i64 ((rd_T89 l0 t224).f0), .int .i64 ((rd_T89 l0 t224).f1), .int .i64 ((rd_T89 l0 t224).f2), .int .i64 0]) ?_ 3 _ rfl; (with_reducible repeat (first | refine blk_drewN ?_ _ | refine blk_drew ?_ | refine blk_alloc ?_ _)); refine blk_put (cs := #[.int .i64 ((rd_T89 l0 t224).f0), .int .i64 ((rd_T89 l0 t224).f1), .int .i64 0, .int .i64 0]) ?_ 2 _ rfl; (with_reducible repeat (first | refine blk_drewN ?_ _ | refine blk_drew ?_ | refine blk_alloc ?_ _)); refine blk_put (cs := #[.int .i64 ((rd_T89 l0 t224).f0), .int .i64 0, .int .i64 0, .int .i64 0]) ?_ 1 _ rfl; (with_reducible repeat (first | refine blk_drewN ?_ _ | refine blk_drew ?_ | refine blk_alloc ?_ _)); refine blk_put (cs := #[.int .i64 0, .int .i64 0, .int .i64 0, .int .i64 0]) ?_ 0 _ rfl; (with_reducible repeat (first | refine blk_drewN ?_ _ | refine blk_drew ?_ | refine blk_alloc ?_ _)); exact BK226.out⟩
          have n3_ : Aside0 (Below w.heap.size w ((((w45.setCell ⟨gb226, 0, none⟩ (.int .i64 ((rd_T89 l0 t224).f0))).setCell ⟨gb226, 1, none⟩ (.int .i64 ((rd_T89 l0 t224).f1))).setCell ⟨gb226, 2, none⟩ (.int .i64 ((rd_T89 l0 t224).f2))).setCell ⟨gb226, 3, none⟩ (.int .i64 ((rd_T89 l0 t224).f3)))) := ⟨bG⟩
          (try clear HO_8)
          (try clear HO_9)
          (try clear BK226)
          (try clear HB)
          generalize ((((w45.setCell ⟨gb226, 0, none⟩ (.int .i64 ((rd_T89 l0 t224).f0))).setCell ⟨gb226, 1, none⟩ (.int .i64 ((rd_T89 l0 t224).f1))).setCell ⟨gb226, 2, none⟩ (.int .i64 ((rd_T89 l0 t224).f2))).setCell ⟨gb226, 3, none⟩ (.int .i64 ((rd_T89 l0 t224).f3))) = w47 at n0_ n1_ n2_ n3_ ⊢
          have HO_8 := n0_
          have HO_9 := n1_
          have BK226 := n2_
          have HB := n3_
          clear n0_ n1_ n2_ n3_
          replace HO_8 := Aside0.mk (Kd.R_drew HO_8.out)
          replace HO_9 := Aside0.mk (Kd.R_drew HO_9.out)
          replace BK226 := Aside0.mk (blk_drew BK226.out)
          have HBo := HB
          replace HB := Aside0.mk (below_drew1 HB.out)
          have p227 : 0 ≤ (x11_3 : Int) := dA
          have q227 : x11_3 < (t218.length : Int) := dA
          obtain ⟨ad227, e227, hx227_0⟩ := Kd.at_int (Kd.R_reads' HO_9.out).2.2 x11_3 p227 q227
          cases e227
          replace p227 := eq_true p227
          replace q227 := eq_true q227
          have p229 : 0 ≤ (t228 : Int) := dA
          have q229 : t228 < (l0.length : Int) := dA
          obtain ⟨ad229, e229, hx229_0, hx229_1, hx229_2, hx229_3⟩ := at_T89 HR0.out t228 p229 q229
          have hw229_3 := hx229_3
          have hw229_2 := hx229_2
          have hw229_1 := hx229_1
          have hw229_0 := hx229_0
          obtain rfl : ad225 = ad229 := (by injection e229)
          replace hx229_0 := hC HB hx229_0
          replace hx229_1 := hC HB hx229_1
          replace hx229_2 := hC HB hx229_2
          replace hx229_3 := hC HB hx229_3
          replace p229 := eq_true p229
          replace q229 := eq_true q229
          refine start_ (n := 11) (S := fun w' => w'.cell? ⟨gb226, 0, none⟩ = some (.int .i64 ((rd_T89 l0 t224).f0)) ∧ w'.cell? ⟨gb226, 1, none⟩ = some (.int .i64 ((rd_T89 l0 t224).f1)) ∧ w'.cell? ⟨gb226, 2, none⟩ = some (.int .i64 ((rd_T89 l0 t224).f2)) ∧ w'.cell? ⟨gb226, 3, none⟩ = some (.int .i64 ((rd_T89 l0 t224).f3)) ∧ w'.cell? (ad227.add (x11_3).toNat) = some (.int .i64 (rd t218 x11_3)) ∧ w'.cell? (ad225.add ((t228).toNat * 4)) = some (.int .i64 ((rd_T89 l0 t228).f0)) ∧ w'.cell? ⟨(ad225.add ((t228).toNat * 4)).block, (ad225.add ((t228).toNat * 4)).off + 1, none⟩ = some (.int .i64 ((rd_T89 l0 t228).f1)) ∧ w'.cell? ⟨(ad225.add ((t228).toNat * 4)).block, (ad225.add ((t228).toNat * 4)).off + 2, none⟩ = some (.int .i64 ((rd_T89 l0 t228).f2)) ∧ w'.cell? ⟨(ad225.add ((t228).toNat * 4)).block, (ad225.add ((t228).toNat * 4)).off + 3, none⟩ = some (.int .i64 ((rd_T89 l0 t228).f3))) (ds := []) (mb 11 0) (by kernel_rfl) rfl rfl ⟨bC BK226 0, bC BK226 1, bC BK226 2, bC BK226 3, hx227_0, (hC HB hw229_0), (hC HB hw229_1), (hC HB hw229_2), (hC HB hw229_3)⟩ (fun hHeld => ?_); refine with_tabW spec_ClearBetween.tab11 spec_ClearBetween.bits11 (fun HT_ HW_ => ?_)
          generalize w47.drew = w48 at HO_8 HO_9 BK226 HB hx227_0 hx229_0 hx229_1 hx229_2 hx229_3 hHeld ⊢
          refine pA (i := 1) (N := some 51) (mb 11 2) HT_ ?_
          refine pA (i := 2) (N := some 52) (mb 11 6) HT_ ?_
          refine pA (i := 3) (N := some 53) (mb 11 14) HT_ ?_
          refine pA (i := 4) (N := some 54) (mb 11 30) HT_ ?_
          refine pA (i := 5) (N := some 55) (mb 11 62) HT_ ?_
          refine tA9 (i := 0) (N := some 50) (mb 11 63) HT_ HW_ hHeld ?_
          refine tA9 (i := 6) (N := some 56) (mb 11 127) HT_ HW_ hHeld ?_
          refine oA (i := 7) (N := some 57) (mb 11 255) HT_ (fun K hK => ?_)
          refine gA Try.func116 #[.slice (some ad225) l0.length c0, .int .i64 (rd t218 x11_3)] ?_
          with_reducible refine (spec_FindPath.calls k3 _ _ l0 (rd t218 x11_3) t228 _ ?side1 ?side2 A27.out).mono ?_
          (case side1 => exact cB HR0)
          (case side2 => exact HC0.out)
          rintro e w' ⟨rfl, ⟨nd, rfl⟩⟩
          refine ⟨_, rfl, ?_⟩
          refine hK.out _ _ ⟨bC BK226 0, bC BK226 1, bC BK226 2, bC BK226 3, hHeld.2.2.2.2.1, (hC HB hw229_0), (hC HB hw229_1), (hC HB hw229_2), (hC HB hw229_3)⟩ (fun hHeld => ?_)
          clear hK K
          refine nB ?_
          refine pA (i := 8) (N := some 58) (mb 11 511) HT_ ?_
          refine tA9 (i := 9) (N := some 59) (mb 11 1023) HT_ HW_ hHeld ?_
          refine oA (i := 10) (N := some 60) (mb 11 2047) HT_ (fun K hK => ?_)
          refine gA Try.func129 #[.agg #[.int .i64 ((rd_T89 l0 t224).f0), .int .i64 ((rd_T89 l0 t224).f1), .int .i64 ((rd_T89 l0 t224).f2), .int .i64 ((rd_T89 l0 t224).f3)], .agg #[.int .i64 ((rd_T89 l0 t228).f0), .int .i64 ((rd_T89 l0 t228).f1), .int .i64 ((rd_T89 l0 t228).f2), .int .i64 ((rd_T89 l0 t228).f3)]] ?_
          with_reducible refine (spec_Conflict.calls k3 ((rd_T89 l0 t224).f0) ((rd_T89 l0 t224).f1) ((rd_T89 l0 t224).f2) ((rd_T89 l0 t224).f3) ((rd_T89 l0 t228).f0) ((rd_T89 l0 t228).f1) ((rd_T89 l0 t228).f2) ((rd_T89 l0 t228).f3) false _ A30.out).mono ?_
          rintro e w49 ⟨rfl, hb⟩
          have HS4_ := (hb.cell (World.block_lt_of_cell? _ _ (hHeld.2.2.2.2.1))).trans (hHeld.2.2.2.2.1)
          refine ⟨_, rfl, ?_⟩
          replace HO_8 := Aside0.mk (Kd.R_below (rK HO_8) hb)
          replace HO_9 := Aside0.mk (Kd.R_below (rK HO_9) hb)
          replace BK226 := Aside0.mk (blk_below (g := gb226) (bK BK226) hb)
          replace HB := Aside0.mk (below_step bG hb)
          (try clear hb)
          (try clear hb2)
          (try clear hk)
          (try clear hi)
          refine hK.out _ _ ⟨bC BK226 0, bC BK226 1, bC BK226 2, bC BK226 3, HS4_, (hC HB hw229_0), (hC HB hw229_1), (hC HB hw229_2), (hC HB hw229_3)⟩ (fun hHeld => ?_)
          clear hK K
          refine nB ?_
          refine eA HT_ ?_
          try go_wp2
          go_roundg k3
          case measure => have := HK1.out; have := HJ7.out; have := HK3.out; omega
          case rel => exact ⟨(x7_3), (wrap64 (x11_3 + 1)), rS, rS, H', ⟨by have := HK1.out; have := HJ7.out; have := HK3.out; omega⟩, ⟨rK HO_8⟩, ⟨rK HO_9⟩, ⟨bG⟩⟩
        ·
         rw [if_neg c20] at H
         have c20b0 := decide_eq_false c20
         clear c20
         have H' := Aside0.mk H
         clear H
         obtain ⟨Ao50, co50, eo50⟩ := Kd.R_slice HO_9.out
         subst eo50
         go_wp2
         go_roundg k3
         case measure => have := HK1.out; have := HJ7.out; have := HK3.out; omega
         case rel => exact ⟨(x7_3), (wrap64 (x10_1 + 1)), rS, rS, H', ⟨by have := HK1.out; have := HJ7.out; have := HK3.out; omega⟩, ⟨rK HO_8⟩, ⟨rK HO_9⟩, ⟨bA⟩⟩
     ·
      replace c19 := Bool.eq_false_iff.mpr c19
      subst c19
      have H1 : (some x7_1) = some r := by rw [if_neg (show ¬ (false = true) by decide)] at H; exact H
      clear H
      have H := H1
      clear H1
      obtain rfl := Option.some.inj H
      go_wp2
      go_ret
      exact ⟨rA, bA⟩

/-! ### spec_IsControl: function 92 -/
def spec_IsControl.j0 : Nat → List (S89) → Bool → List Int → Int → List Int → Int → Option (Bool)
 | 0, _, _, _, _, _, _ => none
 | k + 1, x0, x28, x234000, x234001, x234002, x234003 => if x28 = true then (some false) else (if (x234002.length : Int) = 0 then (some (x234003 == 0)) else ((spec_ClearBetween.f k x0 x234000 x234002).bind fun t237 => ((spec_l1In.f x234003 1 t237).bind fun t238 => (some t238))))
def spec_IsControl.f (k : Nat) (l0 : List (S89)) (l1_0 : List Int) (a1_1 : Int) (l1_2 : List Int) (a1_3 : Int) : Option (Bool) := if (l1_0.length : Int) = 0 then (spec_IsControl.j0 k l0 true l1_0 a1_1 l1_2 a1_3) else ((spec_IsTogether.f k l0 l1_0).bind fun t234 => (if t234 = true then ((spec_IsTogether.f k l0 l1_2).bind fun t235 => (if t235 = true then ((spec_l1In.f a1_1 0 1000000).bind fun t236 => (spec_IsControl.j0 k l0 (!t236) l1_0 a1_1 l1_2 a1_3)) else (spec_IsControl.j0 k l0 true l1_0 a1_1 l1_2 a1_3))) else (spec_IsControl.j0 k l0 true l1_0 a1_1 l1_2 a1_3)))
theorem spec_IsControl.mono_l : ∀ k, (∀ y0 y1 y2 y3 y4 y5, LeO (spec_IsControl.j0 k y0 y1 y2 y3 y4 y5) (spec_IsControl.j0 (k + 1) y0 y1 y2 y3 y4 y5))
 | 0 => fun _ _ _ _ _ _ r h => by simp [spec_IsControl.j0] at h
 | k + 1 => by
  have ih0 := spec_IsControl.mono_l k
  ·
   intro y0 y1 y2 y3 y4 y5
   unfold spec_IsControl.j0
   repeat' first | (with_reducible first | exact LeO.refl _ | exact LeO.none _ | refine LeO.ite ?_ ?_ | refine LeO.bind ?_ (fun _ => ?_) | exact ih0 _ _ _ _ _ _ | exact spec_ClearBetween.mono _ _ _ _ | exact spec_IsTogether.mono _ _ _)
theorem spec_IsControl.mono : ∀ a0 a1 a2 a3 a4 k, LeO (spec_IsControl.f k a0 a1 a2 a3 a4) (spec_IsControl.f (k + 1) a0 a1 a2 a3 a4) := by
 intro a0 a1 a2 a3 a4 k
 have ih0 := spec_IsControl.mono_l k
 unfold spec_IsControl.f
 repeat' first | (with_reducible first | exact LeO.refl _ | exact LeO.none _ | refine LeO.ite ?_ ?_ | refine LeO.bind ?_ (fun _ => ?_) | exact ih0 _ _ _ _ _ _ | exact spec_ClearBetween.mono _ _ _ _ | exact spec_IsTogether.mono _ _ _)
def spec_IsControl.T5 : Bool × List (List Nat × List Nat) := (true, [([], []), ([0], [0]), ([], []), ([], []), ([3], [3]), ([], []), ([5], [5]), ([2, 4, 6], [2, 4, 6]), ([1, 7, 7], [1, 7]), ([8, 8, 0, 1, 2, 3, 4, 5, 6, 7, 8], [8])])
def spec_IsControl.B5 : List Nat := [0, 1, 0, 0, 8, 0, 32, 124, 255, 511]
theorem spec_IsControl.tab5 : rtab .any (opsOf Try.f92 5) = spec_IsControl.T5 := by kernel_rfl
theorem spec_IsControl.bits5 : waitsOk spec_IsControl.T5.2 spec_IsControl.B5 = true := by kernel_rfl
set_option maxHeartbeats 8000000 in
set_option maxRecDepth 100000 in
theorem spec_IsControl.calls (k : Nat) (A0 : Option Addr) (c0 : Nat) (l0 : List (S89)) (A1_0 : Option Addr) (c1_0 : Nat) (l1_0 : List Int) (a1_1 : Int) (A1_2 : Option Addr) (c1_2 : Nat) (l1_2 : List Int) (a1_3 : Int) (r : Bool) (w : World) (hr0 : Kd.C k89 w A0 l0.length l0) (hc0 : l0.length ≤ c0) (hr1_0 : Kd.C (Kd.int .i64) w A1_0 l1_0.length l1_0) (hc1_0 : l1_0.length ≤ c1_0) (hr1_2 : Kd.C (Kd.int .i64) w A1_2 l1_2.length l1_2) (hc1_2 : l1_2.length ≤ c1_2) (h : spec_IsControl.f k l0 l1_0 a1_1 l1_2 a1_3 = some r) :
  Calls Try.prog 92 #[.slice A0 l0.length c0, .agg #[.slice A1_0 l1_0.length c1_0, .int .i64 a1_1, .slice A1_2 l1_2.length c1_2, .int .i64 a1_3]] w fun e w' => e = .returned (.bool r) ∧ Below w.heap.size w w' := by
 have hu57 := Try.underlying57
 have HR0 := Aside0.mk hr0
 have HC0 := Aside0.mk hc0
 clear hr0 hc0
 have HR1_0 := Aside0.mk hr1_0
 have HC1_0 := Aside0.mk hc1_0
 clear hr1_0 hc1_0
 have HR1_2 := Aside0.mk hr1_2
 have HC1_2 := Aside0.mk hc1_2
 clear hr1_2 hc1_2
 have HB := Aside0.mk (Below.refl w.heap.size w)
 have H : (if (l1_0.length : Int) = 0 then (spec_IsControl.j0 k l0 true l1_0 a1_1 l1_2 a1_3) else ((spec_IsTogether.f k l0 l1_0).bind fun t234 => (if t234 = true then ((spec_IsTogether.f k l0 l1_2).bind fun t235 => (if t235 = true then ((spec_l1In.f a1_1 0 1000000).bind fun t236 => (spec_IsControl.j0 k l0 (!t236) l1_0 a1_1 l1_2 a1_3)) else (spec_IsControl.j0 k l0 true l1_0 a1_1 l1_2 a1_3))) else (spec_IsControl.j0 k l0 true l1_0 a1_1 l1_2 a1_3)))) = some r := h
 clear h
 have HC3 := Aside0.mk H
 clear H
 go_enter Try.func92, Try.ntmps92
 go_upto_region 1 with (first | ((with_reducible refine gate_dst (N := 3) rfl ?_); refine bE (N := 3) (cs := #[.slice A1_0 l1_0.length c1_0, .int .i64 a1_1, .slice A1_2 l1_2.length c1_2, .int .i64 a1_3]) (t := 57) ?_; intro gb233 hg w4 hbox hb; have n0_ := Aside0.mk (below_step bA hb); have n1_ := Aside0.mk (hbox); have n2_ := Aside0.mk ((by rw [hg]; exact (below_size bA) : w.heap.size ≤ gb233)); have n3_ := Aside0.mk ((by rw [hg]; exact (below_size bA) : w.heap.size ≤ gb233)); clear HB; have HB := n0_; have BK233 := n1_; have GW233 := n2_; have GE233 := n3_; clear n0_ n1_ n2_ n3_; clear hb hbox hg))
 (try simp only [Act.put, List.setIfInBounds_toArray, List.set_cons_zero, List.set_cons_succ])
 go_cut [28] (fun v28 wc => ∃ (kq : Nat) (x28_2 : Bool), v28 = .bool x28_2 ∧ Aside0 (spec_IsControl.j0 kq l0 x28_2 l1_0 a1_1 l1_2 a1_3 = some r) ∧ Aside0 (kq ≤ k) ∧ Aside0 (wc.heap[gb233]? = some (.cells #[(.slice A1_0 l1_0.length c1_0), .int .i64 a1_1, (.slice A1_2 l1_2.length c1_2), .int .i64 a1_3] 57 (0, 0))) ∧ Aside0 (Below w.heap.size w wc))
 case first =>
  have H := HC3.out
  clear HC3
  by_cases c5 : (l1_0.length : Int) = 0
  ·
   rw [if_pos c5] at H
   have c5b0 : ((l1_0.length : Int) == 0) = true := beq_iff_eq.mpr c5
   have c5b1 : ((l1_0.length : Int) != 0) = false := bne_eq_false_iff_eq.mpr c5
   clear c5
   (first | rw [c5b0] | (simp only [i64_w, i32_w]; rw [c5b0]) | skip)
   have H' := Aside0.mk H
   clear H
   obtain ⟨hcz6_0, hcz6_1, hcz6_2, hcz6_3, hfz6_0, hfz6_1, hfz6_2, hfz6_3⟩ := blkc4 BK233
   go_wp2
   go_meet
   case rel => exact ⟨_, (true), rS, H', ⟨by first | omega | exact Nat.le_refl _⟩, ⟨bK BK233⟩, ⟨bG⟩⟩
  ·
   rw [if_neg c5] at H
   have c5b0 : ((l1_0.length : Int) == 0) = false := beq_eq_false_iff_ne.mpr c5
   have c5b1 : ((l1_0.length : Int) != 0) = true := bne_iff_ne.mpr c5
   have c5b2 : ¬ (l1_0 = []) := fun h_ => c5 (by rw [h_]; rfl)
   (first | rw [c5b0] | (simp only [i64_w, i32_w]; rw [c5b0]) | skip)
   obtain ⟨t234, A7, H⟩ := bindE H
   try dsimp only at H
   by_cases c8 : t234 = true
   ·
    subst c8
    have H1 : ((spec_IsTogether.f k l0 l1_2).bind fun t235 => (if t235 = true then ((spec_l1In.f a1_1 0 1000000).bind fun t236 => (spec_IsControl.j0 k l0 (!t236) l1_0 a1_1 l1_2 a1_3)) else (spec_IsControl.j0 k l0 true l1_0 a1_1 l1_2 a1_3))) = some r := by rw [if_pos rfl] at H; exact H
    clear H
    have H := H1
    clear H1
    obtain ⟨t235, A9, H⟩ := bindE H
    try dsimp only at H
    by_cases c10 : t235 = true
    ·
     subst c10
     have H1 : ((spec_l1In.f a1_1 0 1000000).bind fun t236 => (spec_IsControl.j0 k l0 (!t236) l1_0 a1_1 l1_2 a1_3)) = some r := by rw [if_pos rfl] at H; exact H
     clear H
     have H := H1
     clear H1
     obtain ⟨t236, A11, H⟩ := bindE H
     try dsimp only at H
     have H' := Aside0.mk H
     clear H
     obtain ⟨hcz12_0, hcz12_1, hcz12_2, hcz12_3, hfz12_0, hfz12_1, hfz12_2, hfz12_3⟩ := blkc4 BK233
     go_wp2_with (first | (go_at_call 82; (with_reducible refine (spec_IsTogether.calls k _ _ l0 _ _ l1_0 true _ ?side1 ?side2 ?side3 ?side4 A7.out).mono ?_); (case side1 => exact cB HR0); (case side2 => exact HC0.out); (case side3 => exact cB HR1_0); (case side4 => exact HC1_0.out); rintro e w13 ⟨rfl, hb⟩; replace BK233 := Aside0.mk (blk_below (g := gb233) (bK BK233) hb); replace HB := Aside0.mk (below_step bG hb); (try clear hb); have hcz14_0 : w13.cell? ⟨gb233, 0, none⟩ = some (.slice A1_0 l1_0.length c1_0) := bC BK233 0; have hcz14_1 : w13.cell? ⟨gb233, 1, none⟩ = some (.int .i64 a1_1) := bC BK233 1; have hcz14_2 : w13.cell? ⟨gb233, 2, none⟩ = some (.slice A1_2 l1_2.length c1_2) := bC BK233 2; have hcz14_3 : w13.cell? ⟨gb233, 3, none⟩ = some (.int .i64 a1_3) := bC BK233 3; have hfz14_0 := blk_frozen BK233.out 0; have hfz14_1 := blk_frozen BK233.out 1; have hfz14_2 := blk_frozen BK233.out 2; have hfz14_3 := blk_frozen BK233.out 3) | (go_at_call 82; (with_reducible refine (spec_IsTogether.calls k _ _ l0 _ _ l1_2 true _ ?side1 ?side2 ?side3 ?side4 A9.out).mono ?_); (case side1 => exact cB HR0); (case side2 => exact HC0.out); (case side3 => exact cB HR1_2); (case side4 => exact HC1_2.out); rintro e w15 ⟨rfl, hb⟩; replace BK233 := Aside0.mk (blk_below (g := gb233) (bK BK233) hb); replace HB := Aside0.mk (below_step bG hb); (try clear hb); have hcz16_0 : w15.cell? ⟨gb233, 0, none⟩ = some (.slice A1_0 l1_0.length c1_0) := bC BK233 0; have hcz16_1 : w15.cell? ⟨gb233, 1, none⟩ = some (.int .i64 a1_1) := bC BK233 1; have hcz16_2 : w15.cell? ⟨gb233, 2, none⟩ = some (.slice A1_2 l1_2.length c1_2) := bC BK233 2; have hcz16_3 : w15.cell? ⟨gb233, 3, none⟩ = some (.int .i64 a1_3) := bC BK233 3; have hfz16_0 := blk_frozen BK233.out 0; have hfz16_1 := blk_frozen BK233.out 1; have hfz16_2 := blk_frozen BK233.out 2; have hfz16_3 := blk_frozen BK233.out 3) | (go_at_call 62; (with_reducible refine (spec_l1In.calls a1_1 0 1000000 t236 _ A11.out).mono ?_); rintro e w' ⟨rfl, ⟨nd, rfl⟩⟩))
     go_meet
     case rel => exact ⟨_, (!t236), rS, H', ⟨by first | omega | exact Nat.le_refl _⟩, ⟨bK BK233⟩, ⟨bG⟩⟩
    ·
     replace c10 := Bool.eq_false_iff.mpr c10
     subst c10
     have H1 : (spec_IsControl.j0 k l0 true l1_0 a1_1 l1_2 a1_3) = some r := by rw [if_neg (show ¬ (false = true) by decide)] at H; exact H
     clear H
     have H := H1
     clear H1
     have H' := Aside0.mk H
     clear H
     obtain ⟨hcz17_0, hcz17_1, hcz17_2, hcz17_3, hfz17_0, hfz17_1, hfz17_2, hfz17_3⟩ := blkc4 BK233
     go_wp2_with (first | (go_at_call 82; (with_reducible refine (spec_IsTogether.calls k _ _ l0 _ _ l1_0 true _ ?side1 ?side2 ?side3 ?side4 A7.out).mono ?_); (case side1 => exact cB HR0); (case side2 => exact HC0.out); (case side3 => exact cB HR1_0); (case side4 => exact HC1_0.out); rintro e w18 ⟨rfl, hb⟩; replace BK233 := Aside0.mk (blk_below (g := gb233) (bK BK233) hb); replace HB := Aside0.mk (below_step bG hb); (try clear hb); have hcz19_0 : w18.cell? ⟨gb233, 0, none⟩ = some (.slice A1_0 l1_0.length c1_0) := bC BK233 0; have hcz19_1 : w18.cell? ⟨gb233, 1, none⟩ = some (.int .i64 a1_1) := bC BK233 1; have hcz19_2 : w18.cell? ⟨gb233, 2, none⟩ = some (.slice A1_2 l1_2.length c1_2) := bC BK233 2; have hcz19_3 : w18.cell? ⟨gb233, 3, none⟩ = some (.int .i64 a1_3) := bC BK233 3; have hfz19_0 := blk_frozen BK233.out 0; have hfz19_1 := blk_frozen BK233.out 1; have hfz19_2 := blk_frozen BK233.out 2; have hfz19_3 := blk_frozen BK233.out 3) | (go_at_call 82; (with_reducible refine (spec_IsTogether.calls k _ _ l0 _ _ l1_2 false _ ?side1 ?side2 ?side3 ?side4 A9.out).mono ?_); (case side1 => exact cB HR0); (case side2 => exact HC0.out); (case side3 => exact cB HR1_2); (case side4 => exact HC1_2.out); rintro e w20 ⟨rfl, hb⟩; replace BK233 := Aside0.mk (blk_below (g := gb233) (bK BK233) hb); replace HB := Aside0.mk (below_step bG hb); (try clear hb)))
     go_meet
     case rel => exact ⟨_, (true), rS, H', ⟨by first | omega | exact Nat.le_refl _⟩, ⟨bK BK233⟩, ⟨bG⟩⟩
   ·
    replace c8 := Bool.eq_false_iff.mpr c8
    subst c8
    have H1 : (spec_IsControl.j0 k l0 true l1_0 a1_1 l1_2 a1_3) = some r := by rw [if_neg (show ¬ (false = true) by decide)] at H; exact H
    clear H
    have H := H1
    clear H1
    have H' := Aside0.mk H
    clear H
    obtain ⟨hcz21_0, hcz21_1, hcz21_2, hcz21_3, hfz21_0, hfz21_1, hfz21_2, hfz21_3⟩ := blkc4 BK233
    go_wp2_with (first | (go_at_call 82; (with_reducible refine (spec_IsTogether.calls k _ _ l0 _ _ l1_0 false _ ?side1 ?side2 ?side3 ?side4 A7.out).mono ?_); (case side1 => exact cB HR0); (case side2 => exact HC0.out); (case side3 => exact cB HR1_0); (case side4 => exact HC1_0.out); rintro e w22 ⟨rfl, hb⟩; replace BK233 := Aside0.mk (blk_below (g := gb233) (bK BK233) hb); replace HB := Aside0.mk (below_step bG hb); (try clear hb)))
    go_meet
    case rel => exact ⟨_, (true), rS, H', ⟨by first | omega | exact Nat.le_refl _⟩, ⟨bK BK233⟩, ⟨bG⟩⟩
 case rest =>
  clear HC3
  try clear c1
  try clear p2
  try clear c5
  try clear c5b0
  try clear c5b1
  try clear c5b2
  try clear c8
  try clear c9
  try clear c10
  try clear hcz12_0
  try clear hcz12_1
  try clear hcz12_2
  try clear hcz12_3
  try clear hcz14_0
  try clear hcz14_1
  try clear hcz14_2
  try clear hcz14_3
  try clear hcz16_0
  try clear hcz16_1
  try clear hcz16_2
  try clear hcz16_3
  try clear hcz17_0
  try clear hcz17_1
  try clear hcz17_2
  try clear hcz17_3
  try clear hcz19_0
  try clear hcz19_1
  try clear hcz19_2
  try clear hcz19_3
  try clear hcz21_0
  try clear hcz21_1
  try clear hcz21_2
  try clear hcz21_3
  try clear hcz6_0
  try clear hcz6_1
  try clear hcz6_2
  try clear hcz6_3
  try clear hfz12_0
  try clear hfz12_1
  try clear hfz12_2
  try clear hfz12_3
  try clear hfz14_0
  try clear hfz14_1
  try clear hfz14_2
  try clear hfz14_3
  try clear hfz16_0
  try clear hfz16_1
  try clear hfz16_2
  try clear hfz16_3
  try clear hfz17_0
  try clear hfz17_1
  try clear hfz17_2
  try clear hfz17_3
  try clear hfz19_0
  try clear hfz19_1
  try clear hfz19_2
  try clear hfz19_3
  try clear hfz21_0
  try clear hfz21_1
  try clear hfz21_2
  try clear hfz21_3
  try clear hfz6_0
  try clear hfz6_1
  try clear hfz6_2
  try clear hfz6_3
  obtain ⟨kq, x28_2, rfl, HA, HJ2, BK233, HB⟩ := hcut
  cases kq with
  | zero => exact absurd HA.out (by simp [spec_IsControl.j0])
  | succ kj2 =>
   have H := HA.out
   clear HA
   simp only [spec_IsControl.j0] at H
   by_cases c23 : x28_2 = true
   ·
    subst c23
    have H1 : (some false) = some r := by rw [if_pos rfl] at H; exact H
    clear H
    have H := H1
    clear H1
    obtain rfl := Option.some.inj H
    go_wp2
    go_ret
    exact ⟨rA, bG⟩
   ·
    replace c23 := Bool.eq_false_iff.mpr c23
    subst c23
    have H1 : (if (l1_2.length : Int) = 0 then (some (a1_3 == 0)) else ((spec_ClearBetween.f kj2 l0 l1_0 l1_2).bind fun t237 => ((spec_l1In.f a1_3 1 t237).bind fun t238 => (some t238)))) = some r := by rw [if_neg (show ¬ (false = true) by decide)] at H; exact H
    clear H
    have H := H1
    clear H1
    by_cases c24 : (l1_2.length : Int) = 0
    ·
     rw [if_pos c24] at H
     have c24b0 : ((l1_2.length : Int) == 0) = true := beq_iff_eq.mpr c24
     have c24b1 : ((l1_2.length : Int) != 0) = false := bne_eq_false_iff_eq.mpr c24
     clear c24
     obtain rfl := Option.some.inj H
     obtain ⟨hcz25_0, hcz25_1, hcz25_2, hcz25_3, hfz25_0, hfz25_1, hfz25_2, hfz25_3⟩ := blkc4 BK233
     go_wp2
     go_ret
     exact ⟨rA, bG⟩
    ·
     rw [if_neg c24] at H
     have c24b0 : ((l1_2.length : Int) == 0) = false := beq_eq_false_iff_ne.mpr c24
     have c24b1 : ((l1_2.length : Int) != 0) = true := bne_iff_ne.mpr c24
     have c24b2 : ¬ (l1_2 = []) := fun h_ => c24 (by rw [h_]; rfl)
     obtain ⟨t237, A26, H⟩ := bindE H
     try dsimp only at H
     obtain ⟨t238, A27, H⟩ := bindE H
     try dsimp only at H
     obtain rfl := Option.some.inj H
     obtain ⟨hcz28_0, hcz28_1, hcz28_2, hcz28_3, hfz28_0, hfz28_1, hfz28_2, hfz28_3⟩ := blkc4 BK233
     try go_wp2
     replace BK233 := Aside0.mk (blk_drew BK233.out)
     have HBo := HB
     replace HB := Aside0.mk (below_drew1 HB.out)
     refine start_ (n := 10) (S := fun w' => w'.cell? ⟨gb233, 0, none⟩ = some (.slice A1_0 l1_0.length c1_0) ∧ w'.cell? ⟨gb233, 1, none⟩ = some (.int .i64 a1_1) ∧ w'.cell? ⟨gb233, 2, none⟩ = some (.slice A1_2 l1_2.length c1_2) ∧ w'.cell? ⟨gb233, 3, none⟩ = some (.int .i64 a1_3)) (ds := []) (mb 10 0) (by kernel_rfl) rfl rfl ⟨bC BK233 0, bC BK233 1, bC BK233 2, bC BK233 3⟩ (fun hHeld => ?_); refine with_tabW spec_IsControl.tab5 spec_IsControl.bits5 (fun HT_ HW_ => ?_)
     generalize wc.drew = w29 at BK233 HB hHeld ⊢
     refine pA (i := 0) (N := some 36) (mb 10 1) HT_ ?_
     refine pA (i := 2) (N := some 38) (mb 10 5) HT_ ?_
     refine pA (i := 3) (N := some 39) (mb 10 13) HT_ ?_
     refine pA (i := 5) (N := some 41) (mb 10 45) HT_ ?_
     refine tA4 (i := 1) (N := some 37) (mb 10 47) HT_ HW_ hHeld ?_
     refine tA4 (i := 4) (N := some 40) (mb 10 63) HT_ HW_ hHeld ?_
     refine tA4 (i := 6) (N := some 42) (mb 10 127) HT_ HW_ hHeld ?_
     refine oA (i := 7) (N := some 43) (mb 10 255) HT_ (fun K hK => ?_)
     refine gA Try.func84 #[.slice A0 l0.length c0, .slice A1_0 l1_0.length c1_0, .slice A1_2 l1_2.length c1_2] ?_
     with_reducible refine (spec_ClearBetween.calls kj2 _ _ l0 _ _ l1_0 _ _ l1_2 t237 _ ?side1 ?side2 ?side3 ?side4 ?side5 ?side6 A26.out).mono ?_
     (case side1 => exact cB HR0)
     (case side2 => exact HC0.out)
     (case side3 => exact cB HR1_0)
     (case side4 => exact HC1_0.out)
     (case side5 => exact cB HR1_2)
     (case side6 => exact HC1_2.out)
     rintro e w30 ⟨rfl, hb⟩
     refine ⟨_, rfl, ?_⟩
     replace BK233 := Aside0.mk (blk_below (g := gb233) (bK BK233) hb)
     replace HB := Aside0.mk (below_step bG hb)
     (try clear hb)
     (try clear hb2)
     (try clear hk)
     (try clear hi)
     refine hK.out _ _ ⟨bC BK233 0, bC BK233 1, bC BK233 2, bC BK233 3⟩ (fun hHeld => ?_)
     clear hK K
     refine nB ?_
     refine oA (i := 8) (N := some 44) (mb 10 511) HT_ (fun K hK => ?_)
     refine gA Try.func62 #[.int .i64 a1_3, .int .i64 1, .int .i64 t237] ?_
     with_reducible refine (spec_l1In.calls a1_3 1 t237 t238 _ A27.out).mono ?_
     rintro e w' ⟨rfl, ⟨nd, rfl⟩⟩
     refine ⟨_, rfl, ?_⟩
     refine hK.out _ _ ⟨bC BK233 0, bC BK233 1, bC BK233 2, bC BK233 3⟩ (fun hHeld => ?_)
     clear hK K
     refine nB ?_
     refine pA (i := 9) (N := some 4) (mb 10 1023) HT_ ?_
     refine eA HT_ ?_
     try go_wp2
     go_ret
     exact ⟨rA, bG⟩

/-! ### spec_AreWants: function 93 -/
def spec_AreWants.l0 : Nat → List (S89) → List (S115) → Int → Option (Bool)
 | 0, _, _, _ => none
 | k + 1, x0, x1, x5 => if x5 < (x1.length : Int) then (if 0 ≤ x5 then ((spec_FindPath.f k x0 ((rd_T115 x1 x5).f0)).bind fun t241 => (if t241 < 0 then (some false) else ((spec_l1In.f ((rd_T115 x1 x5).f1) 0 100000).bind fun t243 => (if t243 = true then (if x5 > 0 then (if 0 ≤ (wrap64 (x5 - 1)) then (if (wrap64 (x5 - 1)) < (x1.length : Int) then (if ((rd_T115 x1 (wrap64 (x5 - 1))).f0) ≥ ((rd_T115 x1 x5).f0) then (some false) else (spec_AreWants.l0 k x0 x1 (wrap64 (x5 + 1)))) else (none)) else (none)) else (spec_AreWants.l0 k x0 x1 (wrap64 (x5 + 1)))) else (some false))))) else (none)) else ((spec_ArePaths.f k x0).bind fun t239 => (some t239))
def spec_AreWants.f (k : Nat) (l0 : List (S89)) (l1 : List (S115)) : Option (Bool) := spec_AreWants.l0 k l0 l1 0
theorem spec_AreWants.mono_l : ∀ k, (∀ y0 y1 y2, LeO (spec_AreWants.l0 k y0 y1 y2) (spec_AreWants.l0 (k + 1) y0 y1 y2))
 | 0 => fun _ _ _ r h => by simp [spec_AreWants.l0] at h
 | k + 1 => by
  have ih0 := spec_AreWants.mono_l k
  ·
   intro y0 y1 y2
   unfold spec_AreWants.l0
   repeat' first | (with_reducible first | exact LeO.refl _ | exact LeO.none _ | refine LeO.ite ?_ ?_ | refine LeO.bind ?_ (fun _ => ?_) | exact ih0 _ _ _ | exact spec_ArePaths.mono _ _ | exact spec_FindPath.mono _ _ _)
theorem spec_AreWants.mono : ∀ a0 a1 k, LeO (spec_AreWants.f k a0 a1) (spec_AreWants.f (k + 1) a0 a1) := by
 intro a0 a1 k
 have ih0 := spec_AreWants.mono_l k
 unfold spec_AreWants.f
 repeat' first | (with_reducible first | exact LeO.refl _ | exact LeO.none _ | refine LeO.ite ?_ ?_ | refine LeO.bind ?_ (fun _ => ?_) | exact ih0 _ _ _ | exact spec_ArePaths.mono _ _ | exact spec_FindPath.mono _ _ _)
def spec_AreWants.T4 : Bool × List (List Nat × List Nat) := (true, [([], []), ([], []), ([], []), ([1, 2], [1, 2]), ([3], [3]), ([4], [4]), ([0, 5], [0, 5]), ([6], [6]), ([7, 6], [7]), ([8], [8]), ([8], [8]), ([9, 10, 8], [8, 9, 10]), ([11, 8], [8, 11]), ([12, 8], [8, 12]), ([13, 8, 8], [8, 13]), ([14, 8], [8, 14]), ([8, 15], [8, 15]), ([16, 14], [16]), ([17], [17]), ([18, 17], [17, 18]), ([19, 17, 17], [17, 19]), ([20], [20]), ([20], [20]), ([22, 20], [20, 22]), ([21, 23, 20], [20, 21, 23]), ([24, 20], [20, 24]), ([25, 20], [20, 25]), ([20], [20]), ([20], [20]), ([27, 28, 20], [20, 27, 28]), ([29, 20], [20, 29]), ([30, 20], [20, 30]), ([26, 31, 20], [20, 26, 31]), ([20, 32, 17], [17, 20, 32]), ([17, 33], [17, 33])])
def spec_AreWants.B4 : List Nat := [0, 0, 0, 6, 14, 30, 63, 127, 255, 511, 511, 2047, 4095, 8191, 16383, 32767, 65535, 131071, 262143, 524287, 1048575, 2097151, 2097151, 6291455, 16777215, 33554431, 67108863, 2097151, 2097151, 404750335, 941621247, 2015363071, 4294967295, 8589934591, 17179869183]
theorem spec_AreWants.tab4 : rtab .any (opsOf Try.f93 4) = spec_AreWants.T4 := by kernel_rfl
theorem spec_AreWants.bits4 : waitsOk spec_AreWants.T4.2 spec_AreWants.B4 = true := by kernel_rfl
set_option maxHeartbeats 8000000 in
set_option maxRecDepth 100000 in
theorem spec_AreWants.calls (k : Nat) (A0 : Option Addr) (c0 : Nat) (l0 : List (S89)) (A1 : Option Addr) (c1 : Nat) (l1 : List (S115)) (r : Bool) (w : World) (hr0 : Kd.C k89 w A0 l0.length l0) (hc0 : l0.length ≤ c0) (hr1 : Kd.C k115 w A1 l1.length l1) (hc1 : l1.length ≤ c1) (h : spec_AreWants.f k l0 l1 = some r) :
  Calls Try.prog 93 #[.slice A0 l0.length c0, .slice A1 l1.length c1] w fun e w' => e = .returned (.bool r) ∧ Below w.heap.size w w' := by
 have HR0 := Aside0.mk hr0
 have HC0 := Aside0.mk hc0
 clear hr0 hc0
 have HR1 := Aside0.mk hr1
 have HC1 := Aside0.mk hc1
 clear hr1 hc1
 have HB := Aside0.mk (Below.refl w.heap.size w)
 have H : (spec_AreWants.l0 k l0 l1 0) = some r := h
 clear h
 have H' := Aside0.mk H
 clear H
 go_enter Try.func93, Try.ntmps93
 go_wp2
 go_loopg [5] k (fun kq v5 w' => ∃ (x5_1 : Int), v5 = .int .i64 x5_1 ∧ Aside0 (spec_AreWants.l0 kq l0 l1 x5_1 = some r) ∧ Aside0 (kq ≤ k) ∧ Aside0 (Below w.heap.size w w'))
 case atStart => exact ⟨(0), rS, H', ⟨Nat.le_refl _⟩, ⟨bA⟩⟩
 case round =>
  clear H'
  try clear c1
  try clear p2
  obtain ⟨x5_1, rfl, HA, HK1, HB⟩ := hrel
  cases gk with
  | zero => exact absurd HA.out (by simp [spec_AreWants.l0])
  | succ k1 =>
   have H := HA.out
   clear HA
   simp only [spec_AreWants.l0] at H
   by_cases c3 : x5_1 < (l1.length : Int)
   ·
    rw [if_pos c3] at H
    have c3b0 := decide_eq_true c3
    clear c3
    have c4 : 0 ≤ x5_1 := ifN H
    replace H := ifT H
    have c4b0 := decide_eq_true c4
    clear c4
    obtain ⟨t241, A5, H⟩ := bindE H
    try dsimp only at H
    by_cases c6 : t241 < 0
    ·
     rw [if_pos c6] at H
     have c6b0 := decide_eq_true c6
     clear c6
     obtain rfl := Option.some.inj H
     try go_wp2
     have HBo := HB
     replace HB := Aside0.mk (below_drew1 HB.out)
     have p240 : 0 ≤ (x5_1 : Int) := dA
     have q240 : x5_1 < (l1.length : Int) := dA
     obtain ⟨ad240, e240, hx240_0, hx240_1⟩ := at_T115 HR1.out x5_1 p240 q240
     have hw240_1 := hx240_1
     have hw240_0 := hx240_0
     cases e240
     replace hx240_0 := hC HB hx240_0
     replace hx240_1 := hC HB hx240_1
     replace p240 := eq_true p240
     replace q240 := eq_true q240
     refine start_ (n := 35) (S := fun w' => w'.cell? (ad240.add ((x5_1).toNat * 2)) = some (.int .i64 ((rd_T115 l1 x5_1).f0)) ∧ w'.cell? ⟨(ad240.add ((x5_1).toNat * 2)).block, (ad240.add ((x5_1).toNat * 2)).off + 1, none⟩ = some (.int .i64 ((rd_T115 l1 x5_1).f1))) (ds := []) (mb 35 0) (by kernel_rfl) rfl rfl ⟨(hC HB hw240_0), (hC HB hw240_1)⟩ (fun hHeld => ?_); refine with_tabW spec_AreWants.tab4 spec_AreWants.bits4 (fun HT_ HW_ => ?_)
     generalize wr.drew = w7 at HB hx240_0 hx240_1 hHeld ⊢
     refine pA (i := 0) (N := some 12) (mb 35 1) HT_ ?_
     refine pA (i := 1) (N := some 13) (mb 35 3) HT_ ?_
     refine pA (i := 2) (N := some 14) (mb 35 7) HT_ ?_
     refine pA (i := 3) (N := some 15) (mb 35 15) HT_ ?_
     refine pA (i := 4) (N := some 16) (mb 35 31) HT_ ?_
     refine tA2 (i := 5) (N := some 17) (mb 35 63) HT_ HW_ hHeld ?_
     refine oA (i := 6) (N := some 18) (mb 35 127) HT_ (fun K hK => ?_)
     refine gA Try.func116 #[.slice A0 l0.length c0, .int .i64 ((rd_T115 l1 x5_1).f0)] ?_
     with_reducible refine (spec_FindPath.calls k1 _ _ l0 ((rd_T115 l1 x5_1).f0) t241 _ ?side1 ?side2 A5.out).mono ?_
     (case side1 => exact cB HR0)
     (case side2 => exact HC0.out)
     rintro e w' ⟨rfl, ⟨nd, rfl⟩⟩
     refine ⟨_, rfl, ?_⟩
     refine hK.out _ _ ⟨(hC HB hw240_0), (hC HB hw240_1)⟩ (fun hHeld => ?_)
     clear hK K
     refine nB ?_
     refine pA (i := 7) (N := some 19) (mb 35 255) HT_ ?_
     refine pA (i := 8) (N := some 20) (mb 35 511) HT_ ?_
     refine pU (i := 9) (N := some 21) (mb 35 1023) HT_ ?_
     refine pU (i := 10) (N := some 22) (mb 35 2047) HT_ ?_
     refine pU (i := 11) (N := some 23) (mb 35 4095) HT_ ?_
     refine pU (i := 12) (N := some 24) (mb 35 8191) HT_ ?_
     refine pU (i := 13) (N := some 25) (mb 35 16383) HT_ ?_
     refine pU (i := 14) (N := some 26) (mb 35 32767) HT_ ?_
     refine pU (i := 15) (N := some 27) (mb 35 65535) HT_ ?_
     refine pA (i := 16) (N := some 28) (mb 35 131071) HT_ ?_
     refine pA (i := 17) (N := some 29) (mb 35 262143) HT_ ?_
     refine pU (i := 18) (N := some 30) (mb 35 524287) HT_ ?_
     refine pU (i := 19) (N := some 31) (mb 35 1048575) HT_ ?_
     refine pU (i := 20) (N := some 32) (mb 35 2097151) HT_ ?_
     refine pU (i := 21) (N := some 33) (mb 35 4194303) HT_ ?_
     refine pU (i := 22) (N := some 34) (mb 35 8388607) HT_ ?_
     refine pU (i := 23) (N := some 35) (mb 35 16777215) HT_ ?_
     refine pU (i := 24) (N := some 36) (mb 35 33554431) HT_ ?_
     refine pU (i := 25) (N := some 37) (mb 35 67108863) HT_ ?_
     refine pU (i := 26) (N := some 38) (mb 35 134217727) HT_ ?_
     refine pU (i := 27) (N := some 39) (mb 35 268435455) HT_ ?_
     refine pU (i := 28) (N := some 40) (mb 35 536870911) HT_ ?_
     refine pU (i := 29) (N := some 41) (mb 35 1073741823) HT_ ?_
     refine pU (i := 30) (N := some 42) (mb 35 2147483647) HT_ ?_
     refine pU (i := 31) (N := some 43) (mb 35 4294967295) HT_ ?_
     refine pU (i := 32) (N := some 44) (mb 35 8589934591) HT_ ?_
     refine pU (i := 33) (N := some 45) (mb 35 17179869183) HT_ ?_
     refine pA (i := 34) (N := some 46) (mb 35 34359738367) HT_ ?_
     refine eA HT_ ?_
     try go_wp2
     go_ret
     exact ⟨rA, bA⟩
    ·
     rw [if_neg c6] at H
     have c6b0 := decide_eq_false c6
     clear c6
     obtain ⟨t243, A8, H⟩ := bindE H
     try dsimp only at H
     by_cases c9 : t243 = true
     ·
      subst c9
      have H1 : (if x5_1 > 0 then (if 0 ≤ (wrap64 (x5_1 - 1)) then (if (wrap64 (x5_1 - 1)) < (l1.length : Int) then (if ((rd_T115 l1 (wrap64 (x5_1 - 1))).f0) ≥ ((rd_T115 l1 x5_1).f0) then (some false) else (spec_AreWants.l0 k1 l0 l1 (wrap64 (x5_1 + 1)))) else (none)) else (none)) else (spec_AreWants.l0 k1 l0 l1 (wrap64 (x5_1 + 1)))) = some r := by rw [if_pos rfl] at H; exact H
      clear H
      have H := H1
      clear H1
      by_cases c10 : x5_1 > 0
      ·
       rw [if_pos c10] at H
       have c10b0 := decide_eq_true c10
       clear c10
       obtain ⟨ji11, hji11⟩ : ∃ j_ : Int, (wrap64 (x5_1 - 1)) = j_ := ⟨_, rfl⟩
       replace H : (if 0 ≤ (ji11) then (if (ji11) < (l1.length : Int) then (if ((rd_T115 l1 (ji11)).f0) ≥ ((rd_T115 l1 x5_1).f0) then (some false) else (spec_AreWants.l0 k1 l0 l1 (wrap64 (x5_1 + 1)))) else (none)) else (none)) = some r := by first | (rw [hji11] at H; exact H) | (simp only [hji11] at H ⊢; exact H)
       (try rw [hji11] at A5)
       (try rw [hji11] at A8)
       have hji11w : (IntKind.i64.wrap (x5_1 - 1)) = ji11 := (i64_w _).trans hji11
       have c12 : 0 ≤ (ji11) := ifN H
       replace H := ifT H
       have c12b0 := decide_eq_true c12
       clear c12
       have c13 : (ji11) < (l1.length : Int) := ifN H
       replace H := ifT H
       have c13b0 := decide_eq_true c13
       clear c13
       by_cases c14 : ((rd_T115 l1 (ji11)).f0) ≥ ((rd_T115 l1 x5_1).f0)
       ·
        rw [if_pos c14] at H
        have c14b0 := decide_eq_true c14
        clear c14
        obtain rfl := Option.some.inj H
        try go_wp2
        have HBo := HB
        replace HB := Aside0.mk (below_drew1 HB.out)
        have p240 : 0 ≤ (x5_1 : Int) := dA
        have q240 : x5_1 < (l1.length : Int) := dA
        obtain ⟨ad240, e240, hx240_0, hx240_1⟩ := at_T115 HR1.out x5_1 p240 q240
        have hw240_1 := hx240_1
        have hw240_0 := hx240_0
        cases e240
        replace hx240_0 := hC HB hx240_0
        replace hx240_1 := hC HB hx240_1
        replace p240 := eq_true p240
        replace q240 := eq_true q240
        have p242 : 0 ≤ (x5_1 : Int) := dA
        have q242 : x5_1 < (l1.length : Int) := dA
        obtain ⟨ad242, e242, hx242_0, hx242_1⟩ := at_T115 HR1.out x5_1 p242 q242
        have hw242_1 := hx242_1
        have hw242_0 := hx242_0
        obtain rfl : ad240 = ad242 := (by injection e242)
        replace hx242_0 := hC HB hx242_0
        replace hx242_1 := hC HB hx242_1
        replace p242 := eq_true p242
        replace q242 := eq_true q242
        have p244 : 0 ≤ ((ji11) : Int) := dA
        have q244 : (ji11) < (l1.length : Int) := dA
        obtain ⟨ad244, e244, hx244_0, hx244_1⟩ := at_T115 HR1.out (ji11) p244 q244
        have hw244_1 := hx244_1
        have hw244_0 := hx244_0
        obtain rfl : ad240 = ad244 := (by injection e244)
        replace hx244_0 := hC HB hx244_0
        replace hx244_1 := hC HB hx244_1
        replace p244 := eq_true p244
        replace q244 := eq_true q244
        have p245 : 0 ≤ (x5_1 : Int) := dA
        have q245 : x5_1 < (l1.length : Int) := dA
        obtain ⟨ad245, e245, hx245_0, hx245_1⟩ := at_T115 HR1.out x5_1 p245 q245
        have hw245_1 := hx245_1
        have hw245_0 := hx245_0
        obtain rfl : ad240 = ad245 := (by injection e245)
        replace hx245_0 := hC HB hx245_0
        replace hx245_1 := hC HB hx245_1
        replace p245 := eq_true p245
        replace q245 := eq_true q245
        refine start_ (n := 35) (S := fun w' => w'.cell? (ad240.add ((x5_1).toNat * 2)) = some (.int .i64 ((rd_T115 l1 x5_1).f0)) ∧ w'.cell? ⟨(ad240.add ((x5_1).toNat * 2)).block, (ad240.add ((x5_1).toNat * 2)).off + 1, none⟩ = some (.int .i64 ((rd_T115 l1 x5_1).f1)) ∧ w'.cell? (ad240.add ((x5_1).toNat * 2)) = some (.int .i64 ((rd_T115 l1 x5_1).f0)) ∧ w'.cell? ⟨(ad240.add ((x5_1).toNat * 2)).block, (ad240.add ((x5_1).toNat * 2)).off + 1, none⟩ = some (.int .i64 ((rd_T115 l1 x5_1).f1)) ∧ w'.cell? (ad240.add (((ji11)).toNat * 2)) = some (.int .i64 ((rd_T115 l1 (ji11)).f0)) ∧ w'.cell? ⟨(ad240.add (((ji11)).toNat * 2)).block, (ad240.add (((ji11)).toNat * 2)).off + 1, none⟩ = some (.int .i64 ((rd_T115 l1 (ji11)).f1)) ∧ w'.cell? (ad240.add ((x5_1).toNat * 2)) = some (.int .i64 ((rd_T115 l1 x5_1).f0)) ∧ w'.cell? ⟨(ad240.add ((x5_1).toNat * 2)).block, (ad240.add ((x5_1).toNat * 2)).off + 1, none⟩ = some (.int .i64 ((rd_T115 l1 x5_1).f1))) (ds := []) (mb 35 0) (by kernel_rfl) rfl rfl ⟨(hC HB hw240_0), (hC HB hw240_1), (hC HB hw242_0), (hC HB hw242_1), (hC HB hw244_0), (hC HB hw244_1), (hC HB hw245_0), (hC HB hw245_1)⟩ (fun hHeld => ?_); refine with_tabW spec_AreWants.tab4 spec_AreWants.bits4 (fun HT_ HW_ => ?_)
        generalize wr.drew = w15 at HB hx240_0 hx240_1 hx242_0 hx242_1 hx244_0 hx244_1 hx245_0 hx245_1 hHeld ⊢
        refine pA (i := 0) (N := some 12) (mb 35 1) HT_ ?_
        refine pA (i := 1) (N := some 13) (mb 35 3) HT_ ?_
        refine pA (i := 2) (N := some 14) (mb 35 7) HT_ ?_
        refine pA (i := 3) (N := some 15) (mb 35 15) HT_ ?_
        refine pA (i := 4) (N := some 16) (mb 35 31) HT_ ?_
        refine tA8 (i := 5) (N := some 17) (mb 35 63) HT_ HW_ hHeld ?_
        refine oA (i := 6) (N := some 18) (mb 35 127) HT_ (fun K hK => ?_)
        refine gA Try.func116 #[.slice A0 l0.length c0, .int .i64 ((rd_T115 l1 x5_1).f0)] ?_
        with_reducible refine (spec_FindPath.calls k1 _ _ l0 ((rd_T115 l1 x5_1).f0) t241 _ ?side1 ?side2 A5.out).mono ?_
        (case side1 => exact cB HR0)
        (case side2 => exact HC0.out)
        rintro e w' ⟨rfl, ⟨nd, rfl⟩⟩
        refine ⟨_, rfl, ?_⟩
        refine hK.out _ _ ⟨(hC HB hw240_0), (hC HB hw240_1), (hC HB hw242_0), (hC HB hw242_1), (hC HB hw244_0), (hC HB hw244_1), (hC HB hw245_0), (hC HB hw245_1)⟩ (fun hHeld => ?_)
        clear hK K
        refine nB ?_
        refine pA (i := 7) (N := some 19) (mb 35 255) HT_ ?_
        refine pA (i := 8) (N := some 20) (mb 35 511) HT_ ?_
        refine pA (i := 9) (N := some 21) (mb 35 1023) HT_ ?_
        refine pA (i := 10) (N := some 22) (mb 35 2047) HT_ ?_
        refine pA (i := 11) (N := some 23) (mb 35 4095) HT_ ?_
        refine pA (i := 12) (N := some 24) (mb 35 8191) HT_ ?_
        refine tA8 (i := 13) (N := some 25) (mb 35 16383) HT_ HW_ hHeld ?_
        refine oA (i := 14) (N := some 26) (mb 35 32767) HT_ (fun K hK => ?_)
        refine gA Try.func62 #[.int .i64 ((rd_T115 l1 x5_1).f1), .int .i64 0, .int .i64 100000] ?_
        with_reducible refine (spec_l1In.calls ((rd_T115 l1 x5_1).f1) 0 100000 true _ A8.out).mono ?_
        rintro e w' ⟨rfl, ⟨nd, rfl⟩⟩
        refine ⟨_, rfl, ?_⟩
        refine hK.out _ _ ⟨(hC HB hw240_0), (hC HB hw240_1), (hC HB hw242_0), (hC HB hw242_1), (hC HB hw244_0), (hC HB hw244_1), (hC HB hw245_0), (hC HB hw245_1)⟩ (fun hHeld => ?_)
        clear hK K
        refine nB ?_
        refine pA (i := 15) (N := some 27) (mb 35 65535) HT_ ?_
        refine pA (i := 16) (N := some 28) (mb 35 131071) HT_ ?_
        refine pA (i := 17) (N := some 29) (mb 35 262143) HT_ ?_
        refine pA (i := 18) (N := some 30) (mb 35 524287) HT_ ?_
        refine pA (i := 19) (N := some 31) (mb 35 1048575) HT_ ?_
        refine pA (i := 20) (N := some 32) (mb 35 2097151) HT_ ?_
        refine pA (i := 21) (N := some 33) (mb 35 4194303) HT_ ?_
        refine pA (i := 22) (N := some 34) (mb 35 8388607) HT_ ?_
        refine pA (i := 23) (N := some 35) (mb 35 16777215) HT_ ?_
        refine pA (i := 24) (N := some 36) (mb 35 33554431) HT_ ?_
        refine pA (i := 25) (N := some 37) (mb 35 67108863) HT_ ?_
        refine pA (i := 27) (N := some 39) (mb 35 201326591) HT_ ?_
        refine pA (i := 28) (N := some 40) (mb 35 469762047) HT_ ?_
        refine pA (i := 29) (N := some 41) (mb 35 1006632959) HT_ ?_
        refine pA (i := 30) (N := some 42) (mb 35 2080374783) HT_ ?_
        refine tA8 (i := 26) (N := some 38) (mb 35 2147483647) HT_ HW_ hHeld ?_
        refine tA8 (i := 31) (N := some 43) (mb 35 4294967295) HT_ HW_ hHeld ?_
        refine pA (i := 32) (N := some 44) (mb 35 8589934591) HT_ ?_
        refine pA (i := 33) (N := some 45) (mb 35 17179869183) HT_ ?_
        refine pA (i := 34) (N := some 46) (mb 35 34359738367) HT_ ?_
        refine eA HT_ ?_
        try go_wp2
        go_ret
        exact ⟨by first | rfl | (simp [errW_none, errW_some] <;> rfl) | (simp only [← hji11]; first | rfl | (simp [errW_none, errW_some] <;> rfl)) | (simp [*, errW_none, errW_some] <;> rfl), bA⟩
       ·
        rw [if_neg c14] at H
        have c14b0 := decide_eq_false c14
        clear c14
        have H' := Aside0.mk H
        clear H
        try go_wp2
        have HBo := HB
        replace HB := Aside0.mk (below_drew1 HB.out)
        have p240 : 0 ≤ (x5_1 : Int) := dA
        have q240 : x5_1 < (l1.length : Int) := dA
        obtain ⟨ad240, e240, hx240_0, hx240_1⟩ := at_T115 HR1.out x5_1 p240 q240
        have hw240_1 := hx240_1
        have hw240_0 := hx240_0
        cases e240
        replace hx240_0 := hC HB hx240_0
        replace hx240_1 := hC HB hx240_1
        replace p240 := eq_true p240
        replace q240 := eq_true q240
        have p242 : 0 ≤ (x5_1 : Int) := dA
        have q242 : x5_1 < (l1.length : Int) := dA
        obtain ⟨ad242, e242, hx242_0, hx242_1⟩ := at_T115 HR1.out x5_1 p242 q242
        have hw242_1 := hx242_1
        have hw242_0 := hx242_0
        obtain rfl : ad240 = ad242 := (by injection e242)
        replace hx242_0 := hC HB hx242_0
        replace hx242_1 := hC HB hx242_1
        replace p242 := eq_true p242
        replace q242 := eq_true q242
        have p244 : 0 ≤ ((ji11) : Int) := dA
        have q244 : (ji11) < (l1.length : Int) := dA
        obtain ⟨ad244, e244, hx244_0, hx244_1⟩ := at_T115 HR1.out (ji11) p244 q244
        have hw244_1 := hx244_1
        have hw244_0 := hx244_0
        obtain rfl : ad240 = ad244 := (by injection e244)
        replace hx244_0 := hC HB hx244_0
        replace hx244_1 := hC HB hx244_1
        replace p244 := eq_true p244
        replace q244 := eq_true q244
        have p245 : 0 ≤ (x5_1 : Int) := dA
        have q245 : x5_1 < (l1.length : Int) := dA
        obtain ⟨ad245, e245, hx245_0, hx245_1⟩ := at_T115 HR1.out x5_1 p245 q245
        have hw245_1 := hx245_1
        have hw245_0 := hx245_0
        obtain rfl : ad240 = ad245 := (by injection e245)
        replace hx245_0 := hC HB hx245_0
        replace hx245_1 := hC HB hx245_1
        replace p245 := eq_true p245
        replace q245 := eq_true q245
        refine start_ (n := 35) (S := fun w' => w'.cell? (ad240.add ((x5_1).toNat * 2)) = some (.int .i64 ((rd_T115 l1 x5_1).f0)) ∧ w'.cell? ⟨(ad240.add ((x5_1).toNat * 2)).block, (ad240.add ((x5_1).toNat * 2)).off + 1, none⟩ = some (.int .i64 ((rd_T115 l1 x5_1).f1)) ∧ w'.cell? (ad240.add ((x5_1).toNat * 2)) = some (.int .i64 ((rd_T115 l1 x5_1).f0)) ∧ w'.cell? ⟨(ad240.add ((x5_1).toNat * 2)).block, (ad240.add ((x5_1).toNat * 2)).off + 1, none⟩ = some (.int .i64 ((rd_T115 l1 x5_1).f1)) ∧ w'.cell? (ad240.add (((ji11)).toNat * 2)) = some (.int .i64 ((rd_T115 l1 (ji11)).f0)) ∧ w'.cell? ⟨(ad240.add (((ji11)).toNat * 2)).block, (ad240.add (((ji11)).toNat * 2)).off + 1, none⟩ = some (.int .i64 ((rd_T115 l1 (ji11)).f1)) ∧ w'.cell? (ad240.add ((x5_1).toNat * 2)) = some (.int .i64 ((rd_T115 l1 x5_1).f0)) ∧ w'.cell? ⟨(ad240.add ((x5_1).toNat * 2)).block, (ad240.add ((x5_1).toNat * 2)).off + 1, none⟩ = some (.int .i64 ((rd_T115 l1 x5_1).f1))) (ds := []) (mb 35 0) (by kernel_rfl) rfl rfl ⟨(hC HB hw240_0), (hC HB hw240_1), (hC HB hw242_0), (hC HB hw242_1), (hC HB hw244_0), (hC HB hw244_1), (hC HB hw245_0), (hC HB hw245_1)⟩ (fun hHeld => ?_); refine with_tabW spec_AreWants.tab4 spec_AreWants.bits4 (fun HT_ HW_ => ?_)
        generalize wr.drew = w16 at HB hx240_0 hx240_1 hx242_0 hx242_1 hx244_0 hx244_1 hx245_0 hx245_1 hHeld ⊢
        refine pA (i := 0) (N := some 12) (mb 35 1) HT_ ?_
        refine pA (i := 1) (N := some 13) (mb 35 3) HT_ ?_
        refine pA (i := 2) (N := some 14) (mb 35 7) HT_ ?_
        refine pA (i := 3) (N := some 15) (mb 35 15) HT_ ?_
        refine pA (i := 4) (N := some 16) (mb 35 31) HT_ ?_
        refine tA8 (i := 5) (N := some 17) (mb 35 63) HT_ HW_ hHeld ?_
        refine oA (i := 6) (N := some 18) (mb 35 127) HT_ (fun K hK => ?_)
        refine gA Try.func116 #[.slice A0 l0.length c0, .int .i64 ((rd_T115 l1 x5_1).f0)] ?_
        with_reducible refine (spec_FindPath.calls k1 _ _ l0 ((rd_T115 l1 x5_1).f0) t241 _ ?side1 ?side2 A5.out).mono ?_
        (case side1 => exact cB HR0)
        (case side2 => exact HC0.out)
        rintro e w' ⟨rfl, ⟨nd, rfl⟩⟩
        refine ⟨_, rfl, ?_⟩
        refine hK.out _ _ ⟨(hC HB hw240_0), (hC HB hw240_1), (hC HB hw242_0), (hC HB hw242_1), (hC HB hw244_0), (hC HB hw244_1), (hC HB hw245_0), (hC HB hw245_1)⟩ (fun hHeld => ?_)
        clear hK K
        refine nB ?_
        refine pA (i := 7) (N := some 19) (mb 35 255) HT_ ?_
        refine pA (i := 8) (N := some 20) (mb 35 511) HT_ ?_
        refine pA (i := 9) (N := some 21) (mb 35 1023) HT_ ?_
        refine pA (i := 10) (N := some 22) (mb 35 2047) HT_ ?_
        refine pA (i := 11) (N := some 23) (mb 35 4095) HT_ ?_
        refine pA (i := 12) (N := some 24) (mb 35 8191) HT_ ?_
        refine tA8 (i := 13) (N := some 25) (mb 35 16383) HT_ HW_ hHeld ?_
        refine oA (i := 14) (N := some 26) (mb 35 32767) HT_ (fun K hK => ?_)
        refine gA Try.func62 #[.int .i64 ((rd_T115 l1 x5_1).f1), .int .i64 0, .int .i64 100000] ?_
        with_reducible refine (spec_l1In.calls ((rd_T115 l1 x5_1).f1) 0 100000 true _ A8.out).mono ?_
        rintro e w' ⟨rfl, ⟨nd, rfl⟩⟩
        refine ⟨_, rfl, ?_⟩
        refine hK.out _ _ ⟨(hC HB hw240_0), (hC HB hw240_1), (hC HB hw242_0), (hC HB hw242_1), (hC HB hw244_0), (hC HB hw244_1), (hC HB hw245_0), (hC HB hw245_1)⟩ (fun hHeld => ?_)
        clear hK K
        refine nB ?_
        refine pA (i := 15) (N := some 27) (mb 35 65535) HT_ ?_
        refine pA (i := 16) (N := some 28) (mb 35 131071) HT_ ?_
        refine pA (i := 17) (N := some 29) (mb 35 262143) HT_ ?_
        refine pA (i := 18) (N := some 30) (mb 35 524287) HT_ ?_
        refine pA (i := 19) (N := some 31) (mb 35 1048575) HT_ ?_
        refine pA (i := 20) (N := some 32) (mb 35 2097151) HT_ ?_
        refine pA (i := 21) (N := some 33) (mb 35 4194303) HT_ ?_
        refine pA (i := 22) (N := some 34) (mb 35 8388607) HT_ ?_
        refine pA (i := 23) (N := some 35) (mb 35 16777215) HT_ ?_
        refine pA (i := 24) (N := some 36) (mb 35 33554431) HT_ ?_
        refine pA (i := 25) (N := some 37) (mb 35 67108863) HT_ ?_
        refine pA (i := 27) (N := some 39) (mb 35 201326591) HT_ ?_
        refine pA (i := 28) (N := some 40) (mb 35 469762047) HT_ ?_
        refine pA (i := 29) (N := some 41) (mb 35 1006632959) HT_ ?_
        refine pA (i := 30) (N := some 42) (mb 35 2080374783) HT_ ?_
        refine tA8 (i := 26) (N := some 38) (mb 35 2147483647) HT_ HW_ hHeld ?_
        refine tA8 (i := 31) (N := some 43) (mb 35 4294967295) HT_ HW_ hHeld ?_
        refine pA (i := 32) (N := some 44) (mb 35 8589934591) HT_ ?_
        refine pA (i := 33) (N := some 45) (mb 35 17179869183) HT_ ?_
        refine pA (i := 34) (N := some 46) (mb 35 34359738367) HT_ ?_
        refine eA HT_ ?_
        try go_wp2
        go_roundg k1
        case measure => have := HK1.out; omega
        case rel => exact ⟨(wrap64 (x5_1 + 1)), rS, H', ⟨by have := HK1.out; omega⟩, ⟨bA⟩⟩
      ·
       rw [if_neg c10] at H
       have c10b0 := decide_eq_false c10
       clear c10
       have H' := Aside0.mk H
       clear H
       try go_wp2
       have HBo := HB
       replace HB := Aside0.mk (below_drew1 HB.out)
       have p240 : 0 ≤ (x5_1 : Int) := dA
       have q240 : x5_1 < (l1.length : Int) := dA
       obtain ⟨ad240, e240, hx240_0, hx240_1⟩ := at_T115 HR1.out x5_1 p240 q240
       have hw240_1 := hx240_1
       have hw240_0 := hx240_0
       cases e240
       replace hx240_0 := hC HB hx240_0
       replace hx240_1 := hC HB hx240_1
       replace p240 := eq_true p240
       replace q240 := eq_true q240
       have p242 : 0 ≤ (x5_1 : Int) := dA
       have q242 : x5_1 < (l1.length : Int) := dA
       obtain ⟨ad242, e242, hx242_0, hx242_1⟩ := at_T115 HR1.out x5_1 p242 q242
       have hw242_1 := hx242_1
       have hw242_0 := hx242_0
       obtain rfl : ad240 = ad242 := (by injection e242)
       replace hx242_0 := hC HB hx242_0
       replace hx242_1 := hC HB hx242_1
       replace p242 := eq_true p242
       replace q242 := eq_true q242
       refine start_ (n := 35) (S := fun w' => w'.cell? (ad240.add ((x5_1).toNat * 2)) = some (.int .i64 ((rd_T115 l1 x5_1).f0)) ∧ w'.cell? ⟨(ad240.add ((x5_1).toNat * 2)).block, (ad240.add ((x5_1).toNat * 2)).off + 1, none⟩ = some (.int .i64 ((rd_T115 l1 x5_1).f1)) ∧ w'.cell? (ad240.add ((x5_1).toNat * 2)) = some (.int .i64 ((rd_T115 l1 x5_1).f0)) ∧ w'.cell? ⟨(ad240.add ((x5_1).toNat * 2)).block, (ad240.add ((x5_1).toNat * 2)).off + 1, none⟩ = some (.int .i64 ((rd_T115 l1 x5_1).f1))) (ds := []) (mb 35 0) (by kernel_rfl) rfl rfl ⟨(hC HB hw240_0), (hC HB hw240_1), (hC HB hw242_0), (hC HB hw242_1)⟩ (fun hHeld => ?_); refine with_tabW spec_AreWants.tab4 spec_AreWants.bits4 (fun HT_ HW_ => ?_)
       generalize wr.drew = w17 at HB hx240_0 hx240_1 hx242_0 hx242_1 hHeld ⊢
       refine pA (i := 0) (N := some 12) (mb 35 1) HT_ ?_
       refine pA (i := 1) (N := some 13) (mb 35 3) HT_ ?_
       refine pA (i := 2) (N := some 14) (mb 35 7) HT_ ?_
       refine pA (i := 3) (N := some 15) (mb 35 15) HT_ ?_
       refine pA (i := 4) (N := some 16) (mb 35 31) HT_ ?_
       refine tA4 (i := 5) (N := some 17) (mb 35 63) HT_ HW_ hHeld ?_
       refine oA (i := 6) (N := some 18) (mb 35 127) HT_ (fun K hK => ?_)
       refine gA Try.func116 #[.slice A0 l0.length c0, .int .i64 ((rd_T115 l1 x5_1).f0)] ?_
       with_reducible refine (spec_FindPath.calls k1 _ _ l0 ((rd_T115 l1 x5_1).f0) t241 _ ?side1 ?side2 A5.out).mono ?_
       (case side1 => exact cB HR0)
       (case side2 => exact HC0.out)
       rintro e w' ⟨rfl, ⟨nd, rfl⟩⟩
       refine ⟨_, rfl, ?_⟩
       refine hK.out _ _ ⟨(hC HB hw240_0), (hC HB hw240_1), (hC HB hw242_0), (hC HB hw242_1)⟩ (fun hHeld => ?_)
       clear hK K
       refine nB ?_
       refine pA (i := 7) (N := some 19) (mb 35 255) HT_ ?_
       refine pA (i := 8) (N := some 20) (mb 35 511) HT_ ?_
       refine pA (i := 9) (N := some 21) (mb 35 1023) HT_ ?_
       refine pA (i := 10) (N := some 22) (mb 35 2047) HT_ ?_
       refine pA (i := 11) (N := some 23) (mb 35 4095) HT_ ?_
       refine pA (i := 12) (N := some 24) (mb 35 8191) HT_ ?_
       refine tA4 (i := 13) (N := some 25) (mb 35 16383) HT_ HW_ hHeld ?_
       refine oA (i := 14) (N := some 26) (mb 35 32767) HT_ (fun K hK => ?_)
       refine gA Try.func62 #[.int .i64 ((rd_T115 l1 x5_1).f1), .int .i64 0, .int .i64 100000] ?_
       with_reducible refine (spec_l1In.calls ((rd_T115 l1 x5_1).f1) 0 100000 true _ A8.out).mono ?_
       rintro e w' ⟨rfl, ⟨nd, rfl⟩⟩
       refine ⟨_, rfl, ?_⟩
       refine hK.out _ _ ⟨(hC HB hw240_0), (hC HB hw240_1), (hC HB hw242_0), (hC HB hw242_1)⟩ (fun hHeld => ?_)
       clear hK K
       refine nB ?_
       refine pA (i := 15) (N := some 27) (mb 35 65535) HT_ ?_
       refine pA (i := 16) (N := some 28) (mb 35 131071) HT_ ?_
       refine pA (i := 17) (N := some 29) (mb 35 262143) HT_ ?_
       refine pA (i := 18) (N := some 30) (mb 35 524287) HT_ ?_
       refine pA (i := 19) (N := some 31) (mb 35 1048575) HT_ ?_
       refine pA (i := 20) (N := some 32) (mb 35 2097151) HT_ ?_
       refine pU (i := 21) (N := some 33) (mb 35 4194303) HT_ ?_
       refine pU (i := 22) (N := some 34) (mb 35 8388607) HT_ ?_
       refine pU (i := 23) (N := some 35) (mb 35 16777215) HT_ ?_
       refine pU (i := 24) (N := some 36) (mb 35 33554431) HT_ ?_
       refine pU (i := 25) (N := some 37) (mb 35 67108863) HT_ ?_
       refine pU (i := 26) (N := some 38) (mb 35 134217727) HT_ ?_
       refine pU (i := 27) (N := some 39) (mb 35 268435455) HT_ ?_
       refine pU (i := 28) (N := some 40) (mb 35 536870911) HT_ ?_
       refine pU (i := 29) (N := some 41) (mb 35 1073741823) HT_ ?_
       refine pU (i := 30) (N := some 42) (mb 35 2147483647) HT_ ?_
       refine pU (i := 31) (N := some 43) (mb 35 4294967295) HT_ ?_
       refine pU (i := 32) (N := some 44) (mb 35 8589934591) HT_ ?_
       refine pA (i := 33) (N := some 45) (mb 35 17179869183) HT_ ?_
       refine pA (i := 34) (N := some 46) (mb 35 34359738367) HT_ ?_
       refine eA HT_ ?_
       try go_wp2
       go_roundg k1
       case measure => have := HK1.out; omega
       case rel => exact ⟨(wrap64 (x5_1 + 1)), rS, H', ⟨by have := HK1.out; omega⟩, ⟨bA⟩⟩
     ·
      replace c9 := Bool.eq_false_iff.mpr c9
      subst c9
      have H1 : (some false) = some r := by rw [if_neg (show ¬ (false = true) by decide)] at H; exact H
      clear H
      have H := H1
      clear H1
      obtain rfl := Option.some.inj H
      try go_wp2
      have HBo := HB
      replace HB := Aside0.mk (below_drew1 HB.out)
      have p240 : 0 ≤ (x5_1 : Int) := dA
      have q240 : x5_1 < (l1.length : Int) := dA
      obtain ⟨ad240, e240, hx240_0, hx240_1⟩ := at_T115 HR1.out x5_1 p240 q240
      have hw240_1 := hx240_1
      have hw240_0 := hx240_0
      cases e240
      replace hx240_0 := hC HB hx240_0
      replace hx240_1 := hC HB hx240_1
      replace p240 := eq_true p240
      replace q240 := eq_true q240
      have p242 : 0 ≤ (x5_1 : Int) := dA
      have q242 : x5_1 < (l1.length : Int) := dA
      obtain ⟨ad242, e242, hx242_0, hx242_1⟩ := at_T115 HR1.out x5_1 p242 q242
      have hw242_1 := hx242_1
      have hw242_0 := hx242_0
      obtain rfl : ad240 = ad242 := (by injection e242)
      replace hx242_0 := hC HB hx242_0
      replace hx242_1 := hC HB hx242_1
      replace p242 := eq_true p242
      replace q242 := eq_true q242
      refine start_ (n := 35) (S := fun w' => w'.cell? (ad240.add ((x5_1).toNat * 2)) = some (.int .i64 ((rd_T115 l1 x5_1).f0)) ∧ w'.cell? ⟨(ad240.add ((x5_1).toNat * 2)).block, (ad240.add ((x5_1).toNat * 2)).off + 1, none⟩ = some (.int .i64 ((rd_T115 l1 x5_1).f1)) ∧ w'.cell? (ad240.add ((x5_1).toNat * 2)) = some (.int .i64 ((rd_T115 l1 x5_1).f0)) ∧ w'.cell? ⟨(ad240.add ((x5_1).toNat * 2)).block, (ad240.add ((x5_1).toNat * 2)).off + 1, none⟩ = some (.int .i64 ((rd_T115 l1 x5_1).f1))) (ds := []) (mb 35 0) (by kernel_rfl) rfl rfl ⟨(hC HB hw240_0), (hC HB hw240_1), (hC HB hw242_0), (hC HB hw242_1)⟩ (fun hHeld => ?_); refine with_tabW spec_AreWants.tab4 spec_AreWants.bits4 (fun HT_ HW_ => ?_)
      generalize wr.drew = w18 at HB hx240_0 hx240_1 hx242_0 hx242_1 hHeld ⊢
      refine pA (i := 0) (N := some 12) (mb 35 1) HT_ ?_
      refine pA (i := 1) (N := some 13) (mb 35 3) HT_ ?_
      refine pA (i := 2) (N := some 14) (mb 35 7) HT_ ?_
      refine pA (i := 3) (N := some 15) (mb 35 15) HT_ ?_
      refine pA (i := 4) (N := some 16) (mb 35 31) HT_ ?_
      refine tA4 (i := 5) (N := some 17) (mb 35 63) HT_ HW_ hHeld ?_
      refine oA (i := 6) (N := some 18) (mb 35 127) HT_ (fun K hK => ?_)
      refine gA Try.func116 #[.slice A0 l0.length c0, .int .i64 ((rd_T115 l1 x5_1).f0)] ?_
      with_reducible refine (spec_FindPath.calls k1 _ _ l0 ((rd_T115 l1 x5_1).f0) t241 _ ?side1 ?side2 A5.out).mono ?_
      (case side1 => exact cB HR0)
      (case side2 => exact HC0.out)
      rintro e w' ⟨rfl, ⟨nd, rfl⟩⟩
      refine ⟨_, rfl, ?_⟩
      refine hK.out _ _ ⟨(hC HB hw240_0), (hC HB hw240_1), (hC HB hw242_0), (hC HB hw242_1)⟩ (fun hHeld => ?_)
      clear hK K
      refine nB ?_
      refine pA (i := 7) (N := some 19) (mb 35 255) HT_ ?_
      refine pA (i := 8) (N := some 20) (mb 35 511) HT_ ?_
      refine pA (i := 9) (N := some 21) (mb 35 1023) HT_ ?_
      refine pA (i := 10) (N := some 22) (mb 35 2047) HT_ ?_
      refine pA (i := 11) (N := some 23) (mb 35 4095) HT_ ?_
      refine pA (i := 12) (N := some 24) (mb 35 8191) HT_ ?_
      refine tA4 (i := 13) (N := some 25) (mb 35 16383) HT_ HW_ hHeld ?_
      refine oA (i := 14) (N := some 26) (mb 35 32767) HT_ (fun K hK => ?_)
      refine gA Try.func62 #[.int .i64 ((rd_T115 l1 x5_1).f1), .int .i64 0, .int .i64 100000] ?_
      with_reducible refine (spec_l1In.calls ((rd_T115 l1 x5_1).f1) 0 100000 false _ A8.out).mono ?_
      rintro e w' ⟨rfl, ⟨nd, rfl⟩⟩
      refine ⟨_, rfl, ?_⟩
      refine hK.out _ _ ⟨(hC HB hw240_0), (hC HB hw240_1), (hC HB hw242_0), (hC HB hw242_1)⟩ (fun hHeld => ?_)
      clear hK K
      refine nB ?_
      refine pA (i := 15) (N := some 27) (mb 35 65535) HT_ ?_
      refine pA (i := 16) (N := some 28) (mb 35 131071) HT_ ?_
      refine pA (i := 17) (N := some 29) (mb 35 262143) HT_ ?_
      refine pU (i := 18) (N := some 30) (mb 35 524287) HT_ ?_
      refine pU (i := 19) (N := some 31) (mb 35 1048575) HT_ ?_
      refine pU (i := 20) (N := some 32) (mb 35 2097151) HT_ ?_
      refine pU (i := 21) (N := some 33) (mb 35 4194303) HT_ ?_
      refine pU (i := 22) (N := some 34) (mb 35 8388607) HT_ ?_
      refine pU (i := 23) (N := some 35) (mb 35 16777215) HT_ ?_
      refine pU (i := 24) (N := some 36) (mb 35 33554431) HT_ ?_
      refine pU (i := 25) (N := some 37) (mb 35 67108863) HT_ ?_
      refine pU (i := 26) (N := some 38) (mb 35 134217727) HT_ ?_
      refine pU (i := 27) (N := some 39) (mb 35 268435455) HT_ ?_
      refine pU (i := 28) (N := some 40) (mb 35 536870911) HT_ ?_
      refine pU (i := 29) (N := some 41) (mb 35 1073741823) HT_ ?_
      refine pU (i := 30) (N := some 42) (mb 35 2147483647) HT_ ?_
      refine pU (i := 31) (N := some 43) (mb 35 4294967295) HT_ ?_
      refine pU (i := 32) (N := some 44) (mb 35 8589934591) HT_ ?_
      refine pU (i := 33) (N := some 45) (mb 35 17179869183) HT_ ?_
      refine pA (i := 34) (N := some 46) (mb 35 34359738367) HT_ ?_
      refine eA HT_ ?_
      try go_wp2
      go_ret
      exact ⟨rA, bA⟩
   ·
    rw [if_neg c3] at H
    have c3b0 := decide_eq_false c3
    clear c3
    obtain ⟨t239, A19, H⟩ := bindE H
    try dsimp only at H
    obtain rfl := Option.some.inj H
    go_wp2_with (first | ((with_reducible refine gate_callee (f := 122) rfl ?_); refine gL (some 48) Try.func122 #[.slice A0 l0.length c0] ?_; (with_reducible refine (spec_ArePaths.calls k1 _ _ l0 t239 _ ?side1 ?side2 A19.out).mono ?_); (case side1 => exact cB HR0); (case side2 => exact HC0.out); rintro e w20 ⟨rfl, hb⟩; refine ⟨_, rfl, ?_⟩; replace HB := Aside0.mk (below_step bA hb); (try clear hb)))
    go_ret
    exact ⟨rA, bA⟩

/-! ### spec_l6Put: function 123 -/
def spec_l6Put.l0 : Nat → List Int → Int → Int → Option (List Int)
 | 0, _, _, _ => none
 | k + 1, x0, x1, x5 => if x5 < (x0.length : Int) then (if 0 ≤ x5 then (if (rd x0 x5) < x1 then (spec_l6Put.l0 k x0 x1 (wrap64 (x5 + 1))) else (if (rd x0 x5) = x1 then ((some (([] : List Int) : List Int)).bind fun y248 => (if y248.length + x0.length < 17592186044416 then (some (y248 ++ x0)) else (none))) else ((some (([] : List Int) : List Int)).bind fun y254 => (if x5 ≤ (x0.length : Int) then (if y254.length + (x0.take (x5 : Int).toNat).length < 17592186044416 then ((some (y254 ++ (x0.take (x5 : Int).toNat) : List Int)).bind fun y258 => ((some (([x1] : List Int) : List Int)).bind fun y261 => (if y258.length + y261.length < 17592186044416 then ((some (y258 ++ y261 : List Int)).bind fun y264 => (if y264.length + (x0.drop (x5 : Int).toNat).length < 17592186044416 then (some (y264 ++ (x0.drop (x5 : Int).toNat))) else (none))) else (none)))) else (none)) else (none))))) else (none)) else ((some (([] : List Int) : List Int)).bind fun y271 => (if 0 ≤ x5 then (if x5 ≤ (x0.length : Int) then (if y271.length + (x0.take (x5 : Int).toNat).length < 17592186044416 then ((some (y271 ++ (x0.take (x5 : Int).toNat) : List Int)).bind fun y275 => ((some (([x1] : List Int) : List Int)).bind fun y278 => (if y275.length + y278.length < 17592186044416 then ((some (y275 ++ y278 : List Int)).bind fun y281 => (if y281.length + (x0.drop (x5 : Int).toNat).length < 17592186044416 then (some (y281 ++ (x0.drop (x5 : Int).toNat))) else (none))) else (none)))) else (none)) else (none)) else (none)))
def spec_l6Put.f (k : Nat) (l0 : List Int) (a1 : Int) : Option (List Int) := spec_l6Put.l0 k l0 a1 0
theorem spec_l6Put.mono_l : ∀ k, (∀ y0 y1 y2, LeO (spec_l6Put.l0 k y0 y1 y2) (spec_l6Put.l0 (k + 1) y0 y1 y2))
 | 0 => fun _ _ _ r h => by simp [spec_l6Put.l0] at h
 | k + 1 => by
  have ih0 := spec_l6Put.mono_l k
  ·
   intro y0 y1 y2
   unfold spec_l6Put.l0
   repeat' first | (with_reducible first | exact LeO.refl _ | exact LeO.none _ | refine LeO.ite ?_ ?_ | refine LeO.bind ?_ (fun _ => ?_) | exact ih0 _ _ _)
theorem spec_l6Put.mono : ∀ a0 a1 k, LeO (spec_l6Put.f k a0 a1) (spec_l6Put.f (k + 1) a0 a1) := by
 intro a0 a1 k
 have ih0 := spec_l6Put.mono_l k
 unfold spec_l6Put.f
 repeat' first | (with_reducible first | exact LeO.refl _ | exact LeO.none _ | refine LeO.ite ?_ ?_ | refine LeO.bind ?_ (fun _ => ?_) | exact ih0 _ _ _)
def spec_l6Put.T6 : Bool × List (List Nat × List Nat) := (true, [([], []), ([], []), ([], []), ([1, 2], [1, 2]), ([0, 3], [0, 3]), ([], []), ([5], [5]), ([4, 6, 4], [4, 6]), ([], []), ([], []), ([8, 9], [8, 9]), ([7, 10, 7], [7, 10]), ([11, 11, 0, 1, 2, 3, 4, 5, 6, 7, 8, 9, 10, 11], [11])])
def spec_l6Put.B6 : List Nat := [0, 0, 0, 6, 15, 0, 32, 127, 0, 0, 768, 2047, 4095]
theorem spec_l6Put.tab6 : rtab .any (opsOf Try.f123 6) = spec_l6Put.T6 := by kernel_rfl
theorem spec_l6Put.bits6 : waitsOk spec_l6Put.T6.2 spec_l6Put.B6 = true := by kernel_rfl
set_option maxHeartbeats 8000000 in
set_option maxRecDepth 100000 in
theorem spec_l6Put.calls (k : Nat) (A0 : Option Addr) (c0 : Nat) (l0 : List Int) (a1 : Int) (r : List Int) (w : World) (hr0 : Kd.C (Kd.int .i64) w A0 l0.length l0) (hc0 : l0.length ≤ c0) (h : spec_l6Put.f k l0 a1 = some r) :
  Calls Try.prog 123 #[.slice A0 l0.length c0, .int .i64 a1] w fun e w' => ∃ v0_ : Value, e = .returned (v0_) ∧ Kd.R (Kd.int .i64) 3 w' w.heap.size (fun _ => True) v0_ r ∧ Below w.heap.size w w' := by
 have HR0 := Aside0.mk hr0
 have HC0 := Aside0.mk hc0
 clear hr0 hc0
 have HB := Aside0.mk (Below.refl w.heap.size w)
 have H : (spec_l6Put.l0 k l0 a1 0) = some r := h
 clear h
 have H' := Aside0.mk H
 clear H
 go_enter Try.func123, Try.ntmps123
 go_wp2
 go_loopg [5] k (fun kq v5 w' => ∃ (x5_1 : Int), v5 = .int .i64 x5_1 ∧ Aside0 (spec_l6Put.l0 kq l0 a1 x5_1 = some r) ∧ Aside0 (kq ≤ k) ∧ Aside0 (Below w.heap.size w w'))
 case atStart => exact ⟨(0), rS, H', ⟨Nat.le_refl _⟩, ⟨bA⟩⟩
 case round =>
  clear H'
  try clear c1
  try clear p2
  obtain ⟨x5_1, rfl, HA, HK1, HB⟩ := hrel
  cases gk with
  | zero => exact absurd HA.out (by simp [spec_l6Put.l0])
  | succ k1 =>
   have H := HA.out
   clear HA
   simp only [spec_l6Put.l0] at H
   by_cases c3 : x5_1 < (l0.length : Int)
   ·
    rw [if_pos c3] at H
    have c3b0 := decide_eq_true c3
    clear c3
    have c4 : 0 ≤ x5_1 := ifN H
    replace H := ifT H
    have c4b0 := decide_eq_true c4
    clear c4
    by_cases c5 : (rd l0 x5_1) < a1
    ·
     rw [if_pos c5] at H
     have c5b0 := decide_eq_true c5
     clear c5
     have H' := Aside0.mk H
     clear H
     have p246 : 0 ≤ (x5_1 : Int) := dA
     have q246 : x5_1 < (l0.length : Int) := dA
     obtain ⟨ad246, e246, hx246_0⟩ := Kd.at_int HR0.out x5_1 p246 q246
     cases e246
     replace hx246_0 := hC HB hx246_0
     replace p246 := eq_true p246
     replace q246 := eq_true q246
     go_wp2
     go_roundg k1
     case measure => have := HK1.out; omega
     case rel => exact ⟨(wrap64 (x5_1 + 1)), rS, H', ⟨by have := HK1.out; omega⟩, ⟨bA⟩⟩
    ·
     rw [if_neg c5] at H
     have c5b0 := decide_eq_false c5
     clear c5
     by_cases c6 : (rd l0 x5_1) = a1
     ·
      rw [if_pos c6] at H
      have c6b0 : ((rd l0 x5_1) == a1) = true := beq_iff_eq.mpr c6
      have c6b1 : ((rd l0 x5_1) != a1) = false := bne_eq_false_iff_eq.mpr c6
      clear c6
      obtain ⟨y248, hy248⟩ : ∃ y_ : List Int, y_ = (([] : List Int)) := ⟨_, rfl⟩
      replace H : (if y248.length + l0.length < 17592186044416 then (some (y248 ++ l0)) else (none)) = some r := by first | (rw [hy248]; with_reducible exact H) | (have H2_ := (Option.bind_some _ _).symm.trans H; rw [hy248]; with_reducible exact H2_) | (have H2_ := (Option.bind_some _ _).symm.trans H; with_reducible exact H2_) | with_reducible exact H | (rw [hy248]; exact H) | exact H
      have Ny248 := Aside0.mk hy248
      clear hy248
      have c7 : y248.length + l0.length < 17592186044416 := ifN H
      replace H := ifT H
      have LMc7 := Aside0.mk c7
      clear c7
      obtain ⟨y251, hy251⟩ : ∃ y_ : List Int, y_ = (y248 ++ l0) := ⟨_, rfl⟩
      replace H : (some y251) = some r := by first | (rw [hy251]; with_reducible exact H) | (have H2_ := (Option.bind_some _ _).symm.trans H; rw [hy251]; with_reducible exact H2_) | (have H2_ := (Option.bind_some _ _).symm.trans H; with_reducible exact H2_) | with_reducible exact H | (rw [hy251]; exact H) | exact H
      have Ny251 := Aside0.mk hy251
      clear hy251
      obtain rfl := Option.some.inj H
      have p246 : 0 ≤ (x5_1 : Int) := dA
      have q246 : x5_1 < (l0.length : Int) := dA
      obtain ⟨ad246, e246, hx246_0⟩ := Kd.at_int HR0.out x5_1 p246 q246
      cases e246
      replace hx246_0 := hC HB hx246_0
      replace p246 := eq_true p246
      replace q246 := eq_true q246
      have p247 : 0 ≤ (x5_1 : Int) := dA
      have q247 : x5_1 < (l0.length : Int) := dA
      obtain ⟨ad247, e247, hx247_0⟩ := Kd.at_int HR0.out x5_1 p247 q247
      obtain rfl : ad246 = ad247 := (by injection e247)
      replace hx247_0 := hC HB hx247_0
      replace p247 := eq_true p247
      replace q247 := eq_true q247
      go_wp2_with (first | ((with_reducible refine gate_dst (N := 32) rfl ?_); refine Kd.R_lit (Kd.int .i64) _ 3 ?hg (N := 32) ?hd (xs := ([] : List Int)) (inner := []) (ok := fun _ => True) (okp := fun _ => True) ?hr ?hp (fun _ hk => hk) trivial (Below.refl _ _) (Nat.le_refl _) (by simp) ?_; (case hd => rfl); (case hg => rfl); (case hr => first | (go_simp; done) | (go_simp; rfl)); (case hp => exact (Reps.none _ _)); intro v249 w8 ho9 hb hg_ hnew_; clear hg_ hnew_; (first | rw [← Ny248.out] at ho9 | (simp only [Int.reduceToNat] at ho9; rw [← Ny248.out] at ho9)); have HO250 := Aside0.mk (Kd.R_lower ho9 (below_size bA)); replace HB := Aside0.mk (below_step bA hb); clear hb ho9) | ((with_reducible refine gate_builtin (b := .append) (xs := #[.tmp 32, .tmp 33]) rfl ?_); at_builtin; refine Kd.R_append_rows (Kd.int .i64) (w0 := w) w.heap.size rfl (.tmp 32) (.tmp 33) 41 3 (.int .i64 0) 8 rfl Try.underlying41 info3 rfl (by decide) (by omega) v249 y248 l0 _ _ _ (fun _ => True) (fun _ => False) rfl rfl ?aO ?aR (fun _ _ h => h) (fun _ h => h.elim) ?aF ?aB ?aS ?aL ?_; (case aR => repeat (first | exact (Kd.C_below HR0.out HB.out) | (with_reducible refine Kd.C_alloc ?_ _) | (with_reducible refine Kd.C_drewN ?_ _) | (with_reducible refine Kd.C_drew ?_))); (case aB => exact bA); (case aF => exact (fun _ _ => trivial)); (case aO => exact (rK HO250)); (case aS => exact (below_size bA)); (case aL => have := LMc7.out; omega); intro v252 w10 ho hb hg hat; rw [← Ny251.out] at ho; have n0_ := Aside0.mk (hb); have n1_ := Aside0.mk (ho); clear HB; clear HO250; have HB := n0_; have HO253 := n1_; clear n0_ n1_; clear ho hb hg hat))
      go_ret
      exact ⟨_, by first | rfl | (simp [errW_none, errW_some] <;> rfl) | (simp [*, errW_none, errW_some] <;> rfl), by (with_reducible repeat (first | apply Kd.R_alloc | apply Kd.R_drewN | apply Kd.R_drew)); exact HO253.out, bA⟩
     ·
      rw [if_neg c6] at H
      have c6b0 : ((rd l0 x5_1) == a1) = false := beq_eq_false_iff_ne.mpr c6
      have c6b1 : ((rd l0 x5_1) != a1) = true := bne_iff_ne.mpr c6
      obtain ⟨y254, hy254⟩ : ∃ y_ : List Int, y_ = (([] : List Int)) := ⟨_, rfl⟩
      replace H : (if x5_1 ≤ (l0.length : Int) then (if y254.length + (l0.take (x5_1 : Int).toNat).length < 17592186044416 then ((some (y254 ++ (l0.take (x5_1 : Int).toNat) : List Int)).bind fun y258 => ((some (([a1] : List Int) : List Int)).bind fun y261 => (if y258.length + y261.length < 17592186044416 then ((some (y258 ++ y261 : List Int)).bind fun y264 => (if y264.length + (l0.drop (x5_1 : Int).toNat).length < 17592186044416 then (some (y264 ++ (l0.drop (x5_1 : Int).toNat))) else (none))) else (none)))) else (none)) else (none)) = some r := by first | (rw [hy254]; with_reducible exact H) | (have H2_ := (Option.bind_some _ _).symm.trans H; rw [hy254]; with_reducible exact H2_) | (have H2_ := (Option.bind_some _ _).symm.trans H; with_reducible exact H2_) | with_reducible exact H | (rw [hy254]; exact H) | exact H
      have Ny254 := Aside0.mk hy254
      clear hy254
      have c11b0 := eq_true (dA : 0 ≤ x5_1)
      have c12 : x5_1 ≤ (l0.length : Int) := ifN H
      replace H := ifT H
      have c12b0 := eq_true c12
      have c12b1 := decide_eq_true c12
      clear c12
      have c13 : y254.length + (l0.take (x5_1 : Int).toNat).length < 17592186044416 := ifN H
      replace H := ifT H
      have LMc13 := Aside0.mk c13
      clear c13
      obtain ⟨y258, hy258⟩ : ∃ y_ : List Int, y_ = (y254 ++ (l0.take (x5_1 : Int).toNat)) := ⟨_, rfl⟩
      replace H : ((some (([a1] : List Int) : List Int)).bind fun y261 => (if y258.length + y261.length < 17592186044416 then ((some (y258 ++ y261 : List Int)).bind fun y264 => (if y264.length + (l0.drop (x5_1 : Int).toNat).length < 17592186044416 then (some (y264 ++ (l0.drop (x5_1 : Int).toNat))) else (none))) else (none))) = some r := by first | (rw [hy258]; with_reducible exact H) | (have H2_ := (Option.bind_some _ _).symm.trans H; rw [hy258]; with_reducible exact H2_) | (have H2_ := (Option.bind_some _ _).symm.trans H; with_reducible exact H2_) | with_reducible exact H | (rw [hy258]; exact H) | exact H
      have Ny258 := Aside0.mk hy258
      clear hy258
      obtain ⟨y261, hy261⟩ : ∃ y_ : List Int, y_ = (([a1] : List Int)) := ⟨_, rfl⟩
      replace H : (if y258.length + y261.length < 17592186044416 then ((some (y258 ++ y261 : List Int)).bind fun y264 => (if y264.length + (l0.drop (x5_1 : Int).toNat).length < 17592186044416 then (some (y264 ++ (l0.drop (x5_1 : Int).toNat))) else (none))) else (none)) = some r := by first | (rw [hy261]; with_reducible exact H) | (have H2_ := (Option.bind_some _ _).symm.trans H; rw [hy261]; with_reducible exact H2_) | (have H2_ := (Option.bind_some _ _).symm.trans H; with_reducible exact H2_) | with_reducible exact H | (rw [hy261]; exact H) | exact H
      have Ny261 := Aside0.mk hy261
      clear hy261
      have c14 : y258.length + y261.length < 17592186044416 := ifN H
      replace H := ifT H
      have LMc14 := Aside0.mk c14
      clear c14
      obtain ⟨y264, hy264⟩ : ∃ y_ : List Int, y_ = (y258 ++ y261) := ⟨_, rfl⟩
      replace H : (if y264.length + (l0.drop (x5_1 : Int).toNat).length < 17592186044416 then (some (y264 ++ (l0.drop (x5_1 : Int).toNat))) else (none)) = some r := by first | (rw [hy264]; with_reducible exact H) | (have H2_ := (Option.bind_some _ _).symm.trans H; rw [hy264]; with_reducible exact H2_) | (have H2_ := (Option.bind_some _ _).symm.trans H; with_reducible exact H2_) | with_reducible exact H | (rw [hy264]; exact H) | exact H
      have Ny264 := Aside0.mk hy264
      clear hy264
      have c15b0 := eq_true (dA : 0 ≤ x5_1)
      have c16b0 := eq_true (dA : x5_1 ≤ (l0.length : Int))
      have c17 : y264.length + (l0.drop (x5_1 : Int).toNat).length < 17592186044416 := ifN H
      replace H := ifT H
      have LMc17 := Aside0.mk c17
      clear c17
      obtain ⟨y268, hy268⟩ : ∃ y_ : List Int, y_ = (y264 ++ (l0.drop (x5_1 : Int).toNat)) := ⟨_, rfl⟩
      replace H : (some y268) = some r := by first | (rw [hy268]; with_reducible exact H) | (have H2_ := (Option.bind_some _ _).symm.trans H; rw [hy268]; with_reducible exact H2_) | (have H2_ := (Option.bind_some _ _).symm.trans H; with_reducible exact H2_) | with_reducible exact H | (rw [hy268]; exact H) | exact H
      have Ny268 := Aside0.mk hy268
      clear hy268
      obtain rfl := Option.some.inj H
      have p246 : 0 ≤ (x5_1 : Int) := dA
      have q246 : x5_1 < (l0.length : Int) := dA
      obtain ⟨ad246, e246, hx246_0⟩ := Kd.at_int HR0.out x5_1 p246 q246
      cases e246
      replace hx246_0 := hC HB hx246_0
      replace p246 := eq_true p246
      replace q246 := eq_true q246
      have p247 : 0 ≤ (x5_1 : Int) := dA
      have q247 : x5_1 < (l0.length : Int) := dA
      obtain ⟨ad247, e247, hx247_0⟩ := Kd.at_int HR0.out x5_1 p247 q247
      obtain rfl : ad246 = ad247 := (by injection e247)
      replace hx247_0 := hC HB hx247_0
      replace p247 := eq_true p247
      replace q247 := eq_true q247
      try go_wp2
      have HBo := HB
      replace HB := Aside0.mk (below_drew1 HB.out)
      obtain ⟨i019, hi019, _, hsz19, _⟩ := info_parts info3
      obtain ⟨hcut19, hA19, hC19⟩ := print_take_of (P := Try.prog) (Value.int .i64) 0 41 3 .i64 Try.underlying41 hi019 hsz19 (some ad246) c0 l0 x5_1 (dA) (dA) HC0.out
      have HR257 := Aside0.mk (Kd.C_of_reads (h1 := fun _ => rfl) (hA19 _ (Kd.reads_of_C HR0.out)))
      have HC257 := Aside0.mk hC19
      clear hA19 hC19 hi019 hsz19
      have HL257 := Aside0.mk (show (x5_1 : Int) ≤ (l0.length : Int) from (dA))
      obtain ⟨i020, hi020, _, hsz20, _⟩ := info_parts info3
      obtain ⟨A20, hcut20, hA20, hC20⟩ := print_drop_of (P := Try.prog) (Value.int .i64) 0 41 3 .i64 Try.underlying41 hi020 hsz20 (some ad246) c0 l0 x5_1 (dA) (dA) HC0.out
      have HR267 := Aside0.mk (Kd.C_of_reads (h1 := fun _ => rfl) (hA20 _ (Kd.reads_of_C HR0.out)))
      have HC267 := Aside0.mk hC20
      clear hA20 hC20 hi020 hsz20
      refine start_ (n := 13) (S := fun w' => True) (ds := []) (mb 13 0) (by kernel_rfl) rfl rfl trivial (fun hHeld => ?_); refine with_tabW spec_l6Put.tab6 spec_l6Put.bits6 (fun HT_ HW_ => ?_)
      generalize wr.drew = w18 at HB HR257 HR267 hHeld ⊢
      refine pA (i := 1) (N := some 36) (mb 13 2) HT_ ?_
      refine pA (i := 2) (N := some 37) (mb 13 6) HT_ ?_
      refine pA (i := 3) (N := some 38) (mb 13 14) HT_ ?_
      refine pA (i := 5) (N := some 40) (mb 13 46) HT_ ?_
      refine pA (i := 8) (N := some 43) (mb 13 302) HT_ ?_
      refine pA (i := 9) (N := some 44) (mb 13 814) HT_ ?_
      refine pA (i := 10) (N := some 45) (mb 13 1838) HT_ ?_
      refine join_ (σ := Value × Value × Value) 3 (mb 13 1919) (fun s_ => [(35, s_.1), (39, s_.2.1), (41, s_.2.2)]) (fun s_ w' => (Kd.R (Kd.int .i64) 3 w' w.heap.size (fun k_ => some k_ ≠ (s_.2.2 : Value).ownBlock) s_.2.1 y258) ∧ (Kd.R (Kd.int .i64) 3 w' w.heap.size (fun k_ => some k_ ≠ (s_.2.1 : Value).ownBlock) s_.2.2 y261) ∧ (Below w.heap.size w w')) ?_ ?_
      rotate_left
      ·
       intro hCont
       refine two_ (i := 0) (j := 6) (Ni := some 35) (Nj := some 41) (mb 13 1839) (mb 13 1902) rfl rfl rfl rfl (two_of HT_.out (by kernel_rfl)) (by decide) (by decide) (fun K hK => ?_) (fun K hK => ?_)
       ·
        skip
        refine Kd.R_lit_step (Kd.int .i64) _ 3 ?hg (N := 35) ?hd (xs := ([] : List Int)) (inner := []) (ok := fun _ => True) (okp := fun _ => True) ?hr ?hp (fun _ hk => hk) trivial (Below.refl _ _) (Nat.le_refl _) (by simp) ?_; (case hd => rfl); (case hg => rfl); (case hr => first | (go_simp; done) | (go_simp; rfl)); (case hp => exact (Reps.none _ _))
        intro v255 w21 ho22 hb hg_ hnew_
        clear hg_ hnew_
        (first | rw [← Ny254.out] at ho22 | (simp only [Int.reduceToNat] at ho22; rw [← Ny254.out] at ho22))
        have HO256 := Aside0.mk (Kd.R_lower ho22 (below_size bA))
        replace HB := Aside0.mk (below_step bA hb)
        clear hb ho22
        refine hK.out _ _ trivial (fun hHeld => ?_)
        clear hK K
        refine nB ?_
        refine two_ (i := 4) (j := 6) (Ni := some 39) (Nj := some 41) (mb 13 1855) (mb 13 1903) rfl rfl rfl rfl (two_of HT_.out (by kernel_rfl)) (by decide) (by decide) (fun K hK => ?_) (fun K hK => ?_)
        ·
         skip
         refine Kd.R_append_rows_step (Kd.int .i64) (w0 := w) w.heap.size (by rfl) (.tmp 35) (.tmp 38) 41 3 (.int .i64 0) 8 rfl Try.underlying41 info3 rfl (by decide) (by omega) v255 y254 (l0.take (x5_1 : Int).toNat) _ _ _ (fun _ => True) (fun _ => False) rfl rfl ?aO ?aR (fun _ _ h => h) (fun _ h => h.elim) ?aF ?aB ?aS ?aL ?_
         (case aR => first | (rw [← show (l0.take (x5_1 : Int).toNat).length = x5_1.toNat from (by rw [List.length_take]; have h_ : (x5_1 : Int) ≤ (l0.length : Int) := dA; omega)]; (repeat (first | exact (Kd.C_below HR257.out HB.out) | (with_reducible refine Kd.C_alloc ?_ _) | (with_reducible refine Kd.C_drewN ?_ _) | (with_reducible refine Kd.C_drew ?_))); done) | ((repeat (first | exact (Kd.C_below HR257.out HB.out) | (with_reducible refine Kd.C_alloc ?_ _) | (with_reducible refine Kd.C_drewN ?_ _) | (with_reducible refine Kd.C_drew ?_))); done) | (have hr_ := HR257.out; rw [show (l0.take (x5_1 : Int).toNat).length = x5_1.toNat from (by rw [List.length_take]; have h_ : (x5_1 : Int) ≤ (l0.length : Int) := dA; omega)] at hr_; (repeat (first | exact (Kd.C_below hr_ HB.out) | (with_reducible refine Kd.C_alloc ?_ _) | (with_reducible refine Kd.C_drewN ?_ _) | (with_reducible refine Kd.C_drew ?_))); done))
         (case aB => exact bA)
         (case aF => exact (fun _ _ => trivial))
         (case aO => exact (rK HO256))
         (case aS => exact (below_size bA))
         (case aL => have := LMc13.out; have hlx_ := (show (l0.take (x5_1 : Int).toNat).length = x5_1.toNat from (by rw [List.length_take]; have h_ : (x5_1 : Int) ≤ (l0.length : Int) := dA; omega)); omega)
         intro v259 w23 ho hb hg hat
         rw [← Ny258.out] at ho
         have n0_ := Aside0.mk (hb)
         have n1_ := Aside0.mk (ho)
         clear HB
         clear HO256
         have HB := n0_
         have HO260 := n1_
         clear n0_ n1_
         clear ho hb hg hat
         refine hK.out _ _ trivial (fun hHeld => ?_)
         clear hK K
         refine nB ?_
         refine oA (i := 6) (N := some 41) (mb 13 1919) HT_ (fun K hK => ?_)
         refine Kd.R_lit_step (Kd.int .i64) _ 3 ?hg (N := 41) ?hd (xs := ([a1] : List Int)) (inner := [.int .i64 a1]) (ok := fun _ => True) (okp := fun _ => True) ?hr ?hp (fun _ hk => hk) trivial (Below.refl _ _) (Nat.le_refl _) (by simp) ?_; (case hd => rfl); (case hg => rfl); (case hr => first | (go_simp; done) | (go_simp; rfl)); (case hp => exact (Reps.one (show Kd.M (Kd.int .i64) _ _ _ a1 [.int .i64 a1] from rfl) (Reps.none _ _)))
         intro v262 w24 ho25 hb hg_ hnew_
         clear hg_ hnew_
         (first | rw [← Ny261.out] at ho25 | (simp only [Int.reduceToNat] at ho25; rw [← Ny261.out] at ho25))
         have HO263 := Aside0.mk (Kd.R_lower (Kd.R_new' ho25 (Kd.R_lt (rK HO260))) (below_size bA))
         replace HO260 := Aside0.mk (Kd.R_elder' (rK HO260) (Kd.R_base ho25) hb)
         replace HB := Aside0.mk (below_step bA hb)
         clear hb ho25
         refine hK.out _ _ trivial (fun hHeld => ?_)
         clear hK K
         refine nB ?_
         exact mB (hCont (v255, v259, v262) _ ⟨(by (with_reducible repeat (first | apply Kd.R_alloc | apply Kd.R_drewN | apply Kd.R_drew)); exact Kd.R_mono HO260.out (fun _ hk => hk.2)), (by (with_reducible repeat (first | apply Kd.R_alloc | apply Kd.R_drewN | apply Kd.R_drew)); exact Kd.R_mono HO263.out (fun _ hk => hk.2)), bA⟩)
        ·
         skip
         refine Kd.R_lit_step (Kd.int .i64) _ 3 ?hg (N := 41) ?hd (xs := ([a1] : List Int)) (inner := [.int .i64 a1]) (ok := fun _ => True) (okp := fun _ => True) ?hr ?hp (fun _ hk => hk) trivial (Below.refl _ _) (Nat.le_refl _) (by simp) ?_; (case hd => rfl); (case hg => rfl); (case hr => first | (go_simp; done) | (go_simp; rfl)); (case hp => exact (Reps.one (show Kd.M (Kd.int .i64) _ _ _ a1 [.int .i64 a1] from rfl) (Reps.none _ _)))
         intro v262 w23 ho24 hb hg_ hnew_
         clear hg_ hnew_
         (first | rw [← Ny261.out] at ho24 | (simp only [Int.reduceToNat] at ho24; rw [← Ny261.out] at ho24))
         have HO263 := Aside0.mk (Kd.R_lower (Kd.R_new' ho24 (Kd.R_lt (rK HO256))) (below_size bA))
         replace HO256 := Aside0.mk (Kd.R_elder' (rK HO256) (Kd.R_base ho24) hb)
         replace HB := Aside0.mk (below_step bA hb)
         clear hb ho24
         refine hK.out _ _ trivial (fun hHeld => ?_)
         clear hK K
         refine nB ?_
         refine oA (i := 4) (N := some 39) (mb 13 1919) HT_ (fun K hK => ?_)
         refine Kd.R_append_rows_step (Kd.int .i64) (w0 := w) w.heap.size (by rfl) (.tmp 35) (.tmp 38) 41 3 (.int .i64 0) 8 rfl Try.underlying41 info3 rfl (by decide) (by omega) v255 y254 (l0.take (x5_1 : Int).toNat) _ _ _ (fun k_ => some k_ ≠ (v262 : Value).ownBlock) (fun _ => False) rfl rfl ?aO ?aR (fun _ _ h => h) (fun _ h => h.elim) ?aF ?aB ?aS ?aL ?_
         (case aR => first | (rw [← show (l0.take (x5_1 : Int).toNat).length = x5_1.toNat from (by rw [List.length_take]; have h_ : (x5_1 : Int) ≤ (l0.length : Int) := dA; omega)]; (repeat (first | exact (Kd.C_below HR257.out HB.out) | (with_reducible refine Kd.C_alloc ?_ _) | (with_reducible refine Kd.C_drewN ?_ _) | (with_reducible refine Kd.C_drew ?_))); done) | ((repeat (first | exact (Kd.C_below HR257.out HB.out) | (with_reducible refine Kd.C_alloc ?_ _) | (with_reducible refine Kd.C_drewN ?_ _) | (with_reducible refine Kd.C_drew ?_))); done) | (have hr_ := HR257.out; rw [show (l0.take (x5_1 : Int).toNat).length = x5_1.toNat from (by rw [List.length_take]; have h_ : (x5_1 : Int) ≤ (l0.length : Int) := dA; omega)] at hr_; (repeat (first | exact (Kd.C_below hr_ HB.out) | (with_reducible refine Kd.C_alloc ?_ _) | (with_reducible refine Kd.C_drewN ?_ _) | (with_reducible refine Kd.C_drew ?_))); done))
         (case aB => exact bA)
         (case aF => exact (fun k_ hk => Kd.fresh' (Kd.R_lt (rK HO263)) k_ hk))
         (case aO => exact (by (with_reducible repeat (first | apply Kd.R_alloc | apply Kd.R_drewN | apply Kd.R_drew)); exact Kd.R_mono HO256.out (fun _ hk => hk.2)))
         (case aS => exact (below_size bA))
         (case aL => have := LMc13.out; have hlx_ := (show (l0.take (x5_1 : Int).toNat).length = x5_1.toNat from (by rw [List.length_take]; have h_ : (x5_1 : Int) ≤ (l0.length : Int) := dA; omega)); omega)
         intro v259 w25 ho hb hg hat
         rw [← Ny258.out] at ho
         have n0_ := Aside0.mk (Kd.R_after (ok := (fun _ => True)) (rK HO263) hg hat)
         have n1_ := Aside0.mk (hb)
         have n2_ := Aside0.mk (ho)
         clear HO263
         clear HB
         clear HO256
         have HO263 := n0_
         have HB := n1_
         have HO260 := n2_
         clear n0_ n1_ n2_
         clear ho hb hg hat
         refine hK.out _ _ trivial (fun hHeld => ?_)
         clear hK K
         refine nB ?_
         exact mB (hCont (v255, v259, v262) _ ⟨(rK HO260), (by (with_reducible repeat (first | apply Kd.R_alloc | apply Kd.R_drewN | apply Kd.R_drew)); exact Kd.R_mono HO263.out (fun _ hk => hk.2)), bA⟩)
       ·
        skip
        refine Kd.R_lit_step (Kd.int .i64) _ 3 ?hg (N := 41) ?hd (xs := ([a1] : List Int)) (inner := [.int .i64 a1]) (ok := fun _ => True) (okp := fun _ => True) ?hr ?hp (fun _ hk => hk) trivial (Below.refl _ _) (Nat.le_refl _) (by simp) ?_; (case hd => rfl); (case hg => rfl); (case hr => first | (go_simp; done) | (go_simp; rfl)); (case hp => exact (Reps.one (show Kd.M (Kd.int .i64) _ _ _ a1 [.int .i64 a1] from rfl) (Reps.none _ _)))
        intro v262 w21 ho22 hb hg_ hnew_
        clear hg_ hnew_
        (first | rw [← Ny261.out] at ho22 | (simp only [Int.reduceToNat] at ho22; rw [← Ny261.out] at ho22))
        have HO263 := Aside0.mk (Kd.R_lower ho22 (below_size bA))
        replace HB := Aside0.mk (below_step bA hb)
        clear hb ho22
        refine hK.out _ _ trivial (fun hHeld => ?_)
        clear hK K
        refine nB ?_
        refine oA (i := 0) (N := some 35) (mb 13 1903) HT_ (fun K hK => ?_)
        refine Kd.R_lit_step (Kd.int .i64) _ 3 ?hg (N := 35) ?hd (xs := ([] : List Int)) (inner := []) (ok := fun _ => True) (okp := fun _ => True) ?hr ?hp (fun _ hk => hk) trivial (Below.refl _ _) (Nat.le_refl _) (by simp) ?_; (case hd => rfl); (case hg => rfl); (case hr => first | (go_simp; done) | (go_simp; rfl)); (case hp => exact (Reps.none _ _))
        intro v255 w23 ho24 hb hg_ hnew_
        clear hg_ hnew_
        (first | rw [← Ny254.out] at ho24 | (simp only [Int.reduceToNat] at ho24; rw [← Ny254.out] at ho24))
        have HO256 := Aside0.mk (Kd.R_lower (Kd.R_new' ho24 (Kd.R_lt (rK HO263))) (below_size bA))
        replace HO263 := Aside0.mk (Kd.R_elder' (rK HO263) (Kd.R_base ho24) hb)
        replace HB := Aside0.mk (below_step bA hb)
        clear hb ho24
        refine hK.out _ _ trivial (fun hHeld => ?_)
        clear hK K
        refine nB ?_
        refine oA (i := 4) (N := some 39) (mb 13 1919) HT_ (fun K hK => ?_)
        refine Kd.R_append_rows_step (Kd.int .i64) (w0 := w) w.heap.size (by rfl) (.tmp 35) (.tmp 38) 41 3 (.int .i64 0) 8 rfl Try.underlying41 info3 rfl (by decide) (by omega) v255 y254 (l0.take (x5_1 : Int).toNat) _ _ _ (fun k_ => some k_ ≠ (v262 : Value).ownBlock) (fun _ => False) rfl rfl ?aO ?aR (fun _ _ h => h) (fun _ h => h.elim) ?aF ?aB ?aS ?aL ?_
        (case aR => first | (rw [← show (l0.take (x5_1 : Int).toNat).length = x5_1.toNat from (by rw [List.length_take]; have h_ : (x5_1 : Int) ≤ (l0.length : Int) := dA; omega)]; (repeat (first | exact (Kd.C_below HR257.out HB.out) | (with_reducible refine Kd.C_alloc ?_ _) | (with_reducible refine Kd.C_drewN ?_ _) | (with_reducible refine Kd.C_drew ?_))); done) | ((repeat (first | exact (Kd.C_below HR257.out HB.out) | (with_reducible refine Kd.C_alloc ?_ _) | (with_reducible refine Kd.C_drewN ?_ _) | (with_reducible refine Kd.C_drew ?_))); done) | (have hr_ := HR257.out; rw [show (l0.take (x5_1 : Int).toNat).length = x5_1.toNat from (by rw [List.length_take]; have h_ : (x5_1 : Int) ≤ (l0.length : Int) := dA; omega)] at hr_; (repeat (first | exact (Kd.C_below hr_ HB.out) | (with_reducible refine Kd.C_alloc ?_ _) | (with_reducible refine Kd.C_drewN ?_ _) | (with_reducible refine Kd.C_drew ?_))); done))
        (case aB => exact bA)
        (case aF => exact (fun k_ hk => Kd.fresh' (Kd.R_lt (rK HO263)) k_ hk))
        (case aO => exact (by (with_reducible repeat (first | apply Kd.R_alloc | apply Kd.R_drewN | apply Kd.R_drew)); exact Kd.R_mono HO256.out (fun _ hk => hk.2)))
        (case aS => exact (below_size bA))
        (case aL => have := LMc13.out; have hlx_ := (show (l0.take (x5_1 : Int).toNat).length = x5_1.toNat from (by rw [List.length_take]; have h_ : (x5_1 : Int) ≤ (l0.length : Int) := dA; omega)); omega)
        intro v259 w25 ho hb hg hat
        rw [← Ny258.out] at ho
        have n0_ := Aside0.mk (Kd.R_after (ok := (fun _ => True)) (rK HO263) hg hat)
        have n1_ := Aside0.mk (hb)
        have n2_ := Aside0.mk (ho)
        clear HO263
        clear HB
        clear HO256
        have HO263 := n0_
        have HB := n1_
        have HO260 := n2_
        clear n0_ n1_ n2_
        clear ho hb hg hat
        refine hK.out _ _ trivial (fun hHeld => ?_)
        clear hK K
        refine nB ?_
        exact mB (hCont (v255, v259, v262) _ ⟨(rK HO260), (by (with_reducible repeat (first | apply Kd.R_alloc | apply Kd.R_drewN | apply Kd.R_drew)); exact Kd.R_mono HO263.out (fun _ hk => hk.2)), bA⟩)
      rintro ⟨v255, v259, v262⟩ w26 ⟨h0_, h1_, h2_⟩
      have n0_ : Aside0 (Kd.R (Kd.int .i64) 3 w26 w.heap.size (fun k_ => some k_ ≠ (v262 : Value).ownBlock) v259 y258) := ⟨h0_⟩
      have n1_ : Aside0 (Kd.R (Kd.int .i64) 3 w26 w.heap.size (fun k_ => some k_ ≠ (v259 : Value).ownBlock) v262 y261) := ⟨h1_⟩
      have n2_ : Aside0 (Below w.heap.size w w26) := ⟨h2_⟩
      clear HB
      clear h0_ h1_ h2_
      have HO260 := n0_
      have HO263 := n1_
      have HB := n2_
      clear n0_ n1_ n2_
      have hHeld := trivial
      obtain ⟨Ao28, co28, eo28⟩ := Kd.R_slice HO263.out
      (first | subst eo28 | (injection eo28 with f1_ f2_ f3_; have f4_ := f1_.symm; have f5_ := f3_.symm; clear f1_ f2_ f3_; subst f4_; subst f5_))
      refine norm_ (a' := ?_) ?_ ?_
      rotate_left
      ·
       simp only [putAll, Act.put, List.setIfInBounds_toArray, List.set_cons_zero, List.set_cons_succ]
       rfl
      refine oA (i := 7) (N := some 42) (mb 13 2047) HT_ (fun K hK => ?_)
      refine Kd.R_append_rows_step (Kd.int .i64) (w0 := w) w.heap.size (by rfl) (.tmp 39) (.tmp 41) 41 3 (.int .i64 0) 8 rfl Try.underlying41 info3 rfl (by decide) (by omega) v259 y258 y261 _ _ _ (fun k_ => some k_ ≠ (.slice Ao28 y261.length co28 : Value).ownBlock) (fun _ => False) rfl rfl ?aO ?aR (fun _ _ h => h) (fun _ h => h.elim) ?aF ?aB ?aS ?aL ?_
      (case aR => repeat (first | exact (Kd.R_reads' HO263.out).2.2 | (with_reducible refine Kd.C_alloc ?_ _) | (with_reducible refine Kd.C_drewN ?_ _) | (with_reducible refine Kd.C_drew ?_)))
      (case aB => exact bA)
      (case aF => exact (fun k_ hk => Kd.fresh' (Kd.R_lt (rK HO263)) k_ hk))
      (case aO => exact (rK HO260))
      (case aS => exact (below_size bA))
      (case aL => have := LMc14.out; omega)
      intro v265 w27 ho hb hg hat
      rw [← Ny264.out] at ho
      have n0_ := Aside0.mk (Kd.R_after (ok := (fun _ => True)) (by (with_reducible repeat (first | apply Kd.R_alloc | apply Kd.R_drewN | apply Kd.R_drew)); exact Kd.R_mono HO263.out (fun _ hk => ⟨trivial, hk⟩)) hg hat)
      have n1_ := Aside0.mk (hb)
      have n2_ := Aside0.mk (ho)
      clear HO263
      clear HB
      clear HO260
      have HO263 := n0_
      have HB := n1_
      have HO266 := n2_
      clear n0_ n1_ n2_
      clear ho hb hg hat
      refine hK.out _ _ trivial (fun hHeld => ?_)
      clear hK K
      refine nB ?_
      refine oA (i := 11) (N := some 46) (mb 13 4095) HT_ (fun K hK => ?_)
      refine Kd.R_append_rows_step (Kd.int .i64) (w0 := w) w.heap.size (by rfl) (.tmp 42) (.tmp 45) 41 3 (.int .i64 0) 8 rfl Try.underlying41 info3 rfl (by decide) (by omega) v265 y264 (l0.drop (x5_1 : Int).toNat) _ _ _ (fun k_ => some k_ ≠ (.slice Ao28 y261.length co28 : Value).ownBlock) (fun _ => False) rfl rfl ?aO ?aR (fun _ _ h => h) (fun _ h => h.elim) ?aF ?aB ?aS ?aL ?_
      (case aR => first | (rw [← show (l0.drop (x5_1 : Int).toNat).length = (l0.length - x5_1.toNat) from List.length_drop]; (repeat (first | exact (Kd.C_below HR267.out HB.out) | (with_reducible refine Kd.C_alloc ?_ _) | (with_reducible refine Kd.C_drewN ?_ _) | (with_reducible refine Kd.C_drew ?_))); done) | ((repeat (first | exact (Kd.C_below HR267.out HB.out) | (with_reducible refine Kd.C_alloc ?_ _) | (with_reducible refine Kd.C_drewN ?_ _) | (with_reducible refine Kd.C_drew ?_))); done) | (have hr_ := HR267.out; rw [show (l0.drop (x5_1 : Int).toNat).length = (l0.length - x5_1.toNat) from List.length_drop] at hr_; (repeat (first | exact (Kd.C_below hr_ HB.out) | (with_reducible refine Kd.C_alloc ?_ _) | (with_reducible refine Kd.C_drewN ?_ _) | (with_reducible refine Kd.C_drew ?_))); done))
      (case aB => exact bA)
      (case aF => exact (fun k_ hk => Kd.fresh' (Kd.R_lt (rK HO263)) k_ hk))
      (case aO => exact (rK HO266))
      (case aS => exact (below_size bA))
      (case aL => have := LMc17.out; have hlx_ := (show (l0.drop (x5_1 : Int).toNat).length = (l0.length - x5_1.toNat) from List.length_drop); omega)
      intro v269 w29 ho hb hg hat
      rw [← Ny268.out] at ho
      have n0_ := Aside0.mk (Kd.R_after (ok := (fun _ => True)) (rK HO263) hg hat)
      have n1_ := Aside0.mk (hb)
      have n2_ := Aside0.mk (ho)
      clear HO263
      clear HB
      clear HO266
      have HO263 := n0_
      have HB := n1_
      have HO270 := n2_
      clear n0_ n1_ n2_
      clear ho hb hg hat
      refine hK.out _ _ trivial (fun hHeld => ?_)
      clear hK K
      refine nB ?_
      refine pA (i := 12) (N := some 4) (mb 13 8191) HT_ ?_
      refine eA HT_ ?_
      try go_wp2
      go_ret
      exact ⟨_, by first | rfl | (simp [errW_none, errW_some] <;> rfl) | (simp [*, errW_none, errW_some] <;> rfl), by (with_reducible repeat (first | apply Kd.R_alloc | apply Kd.R_drewN | apply Kd.R_drew)); exact Kd.R_mono HO270.out (fun _ hk => trivial), bA⟩
   ·
    rw [if_neg c3] at H
    have c3b0 := decide_eq_false c3
    clear c3
    obtain ⟨y271, hy271⟩ : ∃ y_ : List Int, y_ = (([] : List Int)) := ⟨_, rfl⟩
    replace H : (if 0 ≤ x5_1 then (if x5_1 ≤ (l0.length : Int) then (if y271.length + (l0.take (x5_1 : Int).toNat).length < 17592186044416 then ((some (y271 ++ (l0.take (x5_1 : Int).toNat) : List Int)).bind fun y275 => ((some (([a1] : List Int) : List Int)).bind fun y278 => (if y275.length + y278.length < 17592186044416 then ((some (y275 ++ y278 : List Int)).bind fun y281 => (if y281.length + (l0.drop (x5_1 : Int).toNat).length < 17592186044416 then (some (y281 ++ (l0.drop (x5_1 : Int).toNat))) else (none))) else (none)))) else (none)) else (none)) else (none)) = some r := by first | (rw [hy271]; with_reducible exact H) | (have H2_ := (Option.bind_some _ _).symm.trans H; rw [hy271]; with_reducible exact H2_) | (have H2_ := (Option.bind_some _ _).symm.trans H; with_reducible exact H2_) | with_reducible exact H | (rw [hy271]; exact H) | exact H
    have Ny271 := Aside0.mk hy271
    clear hy271
    have c30 : 0 ≤ x5_1 := ifN H
    replace H := ifT H
    have c30b0 := eq_true c30
    have c30b1 := decide_eq_true c30
    clear c30
    have c31 : x5_1 ≤ (l0.length : Int) := ifN H
    replace H := ifT H
    have c31b0 := eq_true c31
    have c31b1 := decide_eq_true c31
    clear c31
    have c32 : y271.length + (l0.take (x5_1 : Int).toNat).length < 17592186044416 := ifN H
    replace H := ifT H
    have LMc32 := Aside0.mk c32
    clear c32
    obtain ⟨y275, hy275⟩ : ∃ y_ : List Int, y_ = (y271 ++ (l0.take (x5_1 : Int).toNat)) := ⟨_, rfl⟩
    replace H : ((some (([a1] : List Int) : List Int)).bind fun y278 => (if y275.length + y278.length < 17592186044416 then ((some (y275 ++ y278 : List Int)).bind fun y281 => (if y281.length + (l0.drop (x5_1 : Int).toNat).length < 17592186044416 then (some (y281 ++ (l0.drop (x5_1 : Int).toNat))) else (none))) else (none))) = some r := by first | (rw [hy275]; with_reducible exact H) | (have H2_ := (Option.bind_some _ _).symm.trans H; rw [hy275]; with_reducible exact H2_) | (have H2_ := (Option.bind_some _ _).symm.trans H; with_reducible exact H2_) | with_reducible exact H | (rw [hy275]; exact H) | exact H
    have Ny275 := Aside0.mk hy275
    clear hy275
    obtain ⟨y278, hy278⟩ : ∃ y_ : List Int, y_ = (([a1] : List Int)) := ⟨_, rfl⟩
    replace H : (if y275.length + y278.length < 17592186044416 then ((some (y275 ++ y278 : List Int)).bind fun y281 => (if y281.length + (l0.drop (x5_1 : Int).toNat).length < 17592186044416 then (some (y281 ++ (l0.drop (x5_1 : Int).toNat))) else (none))) else (none)) = some r := by first | (rw [hy278]; with_reducible exact H) | (have H2_ := (Option.bind_some _ _).symm.trans H; rw [hy278]; with_reducible exact H2_) | (have H2_ := (Option.bind_some _ _).symm.trans H; with_reducible exact H2_) | with_reducible exact H | (rw [hy278]; exact H) | exact H
    have Ny278 := Aside0.mk hy278
    clear hy278
    have c33 : y275.length + y278.length < 17592186044416 := ifN H
    replace H := ifT H
    have LMc33 := Aside0.mk c33
    clear c33
    obtain ⟨y281, hy281⟩ : ∃ y_ : List Int, y_ = (y275 ++ y278) := ⟨_, rfl⟩
    replace H : (if y281.length + (l0.drop (x5_1 : Int).toNat).length < 17592186044416 then (some (y281 ++ (l0.drop (x5_1 : Int).toNat))) else (none)) = some r := by first | (rw [hy281]; with_reducible exact H) | (have H2_ := (Option.bind_some _ _).symm.trans H; rw [hy281]; with_reducible exact H2_) | (have H2_ := (Option.bind_some _ _).symm.trans H; with_reducible exact H2_) | with_reducible exact H | (rw [hy281]; exact H) | exact H
    have Ny281 := Aside0.mk hy281
    clear hy281
    have c34b0 := eq_true (dA : 0 ≤ x5_1)
    have c35b0 := eq_true (dA : x5_1 ≤ (l0.length : Int))
    have c36 : y281.length + (l0.drop (x5_1 : Int).toNat).length < 17592186044416 := ifN H
    replace H := ifT H
    have LMc36 := Aside0.mk c36
    clear c36
    obtain ⟨y285, hy285⟩ : ∃ y_ : List Int, y_ = (y281 ++ (l0.drop (x5_1 : Int).toNat)) := ⟨_, rfl⟩
    replace H : (some y285) = some r := by first | (rw [hy285]; with_reducible exact H) | (have H2_ := (Option.bind_some _ _).symm.trans H; rw [hy285]; with_reducible exact H2_) | (have H2_ := (Option.bind_some _ _).symm.trans H; with_reducible exact H2_) | with_reducible exact H | (rw [hy285]; exact H) | exact H
    have Ny285 := Aside0.mk hy285
    clear hy285
    obtain rfl := Option.some.inj H
    try go_wp2
    have HBo := HB
    replace HB := Aside0.mk (below_drew1 HB.out)
    obtain ⟨i038, hi038, _, hsz38, _⟩ := info_parts info3
    obtain ⟨hcut38, hA38, hC38⟩ := print_take_of (P := Try.prog) (Value.int .i64) 0 41 3 .i64 Try.underlying41 hi038 hsz38 A0 c0 l0 x5_1 (dA) (dA) HC0.out
    have HR274 := Aside0.mk (Kd.C_of_reads (h1 := fun _ => rfl) (hA38 _ (Kd.reads_of_C HR0.out)))
    have HC274 := Aside0.mk hC38
    clear hA38 hC38 hi038 hsz38
    have HL274 := Aside0.mk (show (x5_1 : Int) ≤ (l0.length : Int) from (dA))
    obtain ⟨i039, hi039, _, hsz39, _⟩ := info_parts info3
    obtain ⟨A39, hcut39, hA39, hC39⟩ := print_drop_of (P := Try.prog) (Value.int .i64) 0 41 3 .i64 Try.underlying41 hi039 hsz39 A0 c0 l0 x5_1 (dA) (dA) HC0.out
    have HR284 := Aside0.mk (Kd.C_of_reads (h1 := fun _ => rfl) (hA39 _ (Kd.reads_of_C HR0.out)))
    have HC284 := Aside0.mk hC39
    clear hA39 hC39 hi039 hsz39
    refine start_ (n := 13) (S := fun w' => True) (ds := []) (mb 13 0) (by kernel_rfl) rfl rfl trivial (fun hHeld => ?_); refine with_tabW spec_l6Put.tab6 spec_l6Put.bits6 (fun HT_ HW_ => ?_)
    generalize wr.drew = w37 at HB HR274 HR284 hHeld ⊢
    refine pA (i := 1) (N := some 36) (mb 13 2) HT_ ?_
    refine pA (i := 2) (N := some 37) (mb 13 6) HT_ ?_
    refine pA (i := 3) (N := some 38) (mb 13 14) HT_ ?_
    refine pA (i := 5) (N := some 40) (mb 13 46) HT_ ?_
    refine pA (i := 8) (N := some 43) (mb 13 302) HT_ ?_
    refine pA (i := 9) (N := some 44) (mb 13 814) HT_ ?_
    refine pA (i := 10) (N := some 45) (mb 13 1838) HT_ ?_
    refine join_ (σ := Value × Value × Value) 3 (mb 13 1919) (fun s_ => [(35, s_.1), (39, s_.2.1), (41, s_.2.2)]) (fun s_ w' => (Kd.R (Kd.int .i64) 3 w' w.heap.size (fun k_ => some k_ ≠ (s_.2.2 : Value).ownBlock) s_.2.1 y275) ∧ (Kd.R (Kd.int .i64) 3 w' w.heap.size (fun k_ => some k_ ≠ (s_.2.1 : Value).ownBlock) s_.2.2 y278) ∧ (Below w.heap.size w w')) ?_ ?_
    rotate_left
    ·
     intro hCont
     refine two_ (i := 0) (j := 6) (Ni := some 35) (Nj := some 41) (mb 13 1839) (mb 13 1902) rfl rfl rfl rfl (two_of HT_.out (by kernel_rfl)) (by decide) (by decide) (fun K hK => ?_) (fun K hK => ?_)
     ·
      skip
      refine Kd.R_lit_step (Kd.int .i64) _ 3 ?hg (N := 35) ?hd (xs := ([] : List Int)) (inner := []) (ok := fun _ => True) (okp := fun _ => True) ?hr ?hp (fun _ hk => hk) trivial (Below.refl _ _) (Nat.le_refl _) (by simp) ?_; (case hd => rfl); (case hg => rfl); (case hr => first | (go_simp; done) | (go_simp; rfl)); (case hp => exact (Reps.none _ _))
      intro v272 w40 ho41 hb hg_ hnew_
      clear hg_ hnew_
      (first | rw [← Ny271.out] at ho41 | (simp only [Int.reduceToNat] at ho41; rw [← Ny271.out] at ho41))
      have HO273 := Aside0.mk (Kd.R_lower ho41 (below_size bA))
      replace HB := Aside0.mk (below_step bA hb)
      clear hb ho41
      refine hK.out _ _ trivial (fun hHeld => ?_)
      clear hK K
      refine nB ?_
      refine two_ (i := 4) (j := 6) (Ni := some 39) (Nj := some 41) (mb 13 1855) (mb 13 1903) rfl rfl rfl rfl (two_of HT_.out (by kernel_rfl)) (by decide) (by decide) (fun K hK => ?_) (fun K hK => ?_)
      ·
       skip
       refine Kd.R_append_rows_step (Kd.int .i64) (w0 := w) w.heap.size (by rfl) (.tmp 35) (.tmp 38) 41 3 (.int .i64 0) 8 rfl Try.underlying41 info3 rfl (by decide) (by omega) v272 y271 (l0.take (x5_1 : Int).toNat) _ _ _ (fun _ => True) (fun _ => False) rfl rfl ?aO ?aR (fun _ _ h => h) (fun _ h => h.elim) ?aF ?aB ?aS ?aL ?_
       (case aR => first | (rw [← show (l0.take (x5_1 : Int).toNat).length = x5_1.toNat from (by rw [List.length_take]; have h_ : (x5_1 : Int) ≤ (l0.length : Int) := dA; omega)]; (repeat (first | exact (Kd.C_below HR274.out HB.out) | (with_reducible refine Kd.C_alloc ?_ _) | (with_reducible refine Kd.C_drewN ?_ _) | (with_reducible refine Kd.C_drew ?_))); done) | ((repeat (first | exact (Kd.C_below HR274.out HB.out) | (with_reducible refine Kd.C_alloc ?_ _) | (with_reducible refine Kd.C_drewN ?_ _) | (with_reducible refine Kd.C_drew ?_))); done) | (have hr_ := HR274.out; rw [show (l0.take (x5_1 : Int).toNat).length = x5_1.toNat from (by rw [List.length_take]; have h_ : (x5_1 : Int) ≤ (l0.length : Int) := dA; omega)] at hr_; (repeat (first | exact (Kd.C_below hr_ HB.out) | (with_reducible refine Kd.C_alloc ?_ _) | (with_reducible refine Kd.C_drewN ?_ _) | (with_reducible refine Kd.C_drew ?_))); done))
       (case aB => exact bA)
       (case aF => exact (fun _ _ => trivial))
       (case aO => exact (rK HO273))
       (case aS => exact (below_size bA))
       (case aL => have := LMc32.out; have hlx_ := (show (l0.take (x5_1 : Int).toNat).length = x5_1.toNat from (by rw [List.length_take]; have h_ : (x5_1 : Int) ≤ (l0.length : Int) := dA; omega)); omega)
       intro v276 w42 ho hb hg hat
       rw [← Ny275.out] at ho
       have n0_ := Aside0.mk (hb)
       have n1_ := Aside0.mk (ho)
       clear HB
       clear HO273
       have HB := n0_
       have HO277 := n1_
       clear n0_ n1_
       clear ho hb hg hat
       refine hK.out _ _ trivial (fun hHeld => ?_)
       clear hK K
       refine nB ?_
       refine oA (i := 6) (N := some 41) (mb 13 1919) HT_ (fun K hK => ?_)
       refine Kd.R_lit_step (Kd.int .i64) _ 3 ?hg (N := 41) ?hd (xs := ([a1] : List Int)) (inner := [.int .i64 a1]) (ok := fun _ => True) (okp := fun _ => True) ?hr ?hp (fun _ hk => hk) trivial (Below.refl _ _) (Nat.le_refl _) (by simp) ?_; (case hd => rfl); (case hg => rfl); (case hr => first | (go_simp; done) | (go_simp; rfl)); (case hp => exact (Reps.one (show Kd.M (Kd.int .i64) _ _ _ a1 [.int .i64 a1] from rfl) (Reps.none _ _)))
       intro v279 w43 ho44 hb hg_ hnew_
       clear hg_ hnew_
       (first | rw [← Ny278.out] at ho44 | (simp only [Int.reduceToNat] at ho44; rw [← Ny278.out] at ho44))
       have HO280 := Aside0.mk (Kd.R_lower (Kd.R_new' ho44 (Kd.R_lt (rK HO277))) (below_size bA))
       replace HO277 := Aside0.mk (Kd.R_elder' (rK HO277) (Kd.R_base ho44) hb)
       replace HB := Aside0.mk (below_step bA hb)
       clear hb ho44
       refine hK.out _ _ trivial (fun hHeld => ?_)
       clear hK K
       refine nB ?_
       exact mB (hCont (v272, v276, v279) _ ⟨(by (with_reducible repeat (first | apply Kd.R_alloc | apply Kd.R_drewN | apply Kd.R_drew)); exact Kd.R_mono HO277.out (fun _ hk => hk.2)), (by (with_reducible repeat (first | apply Kd.R_alloc | apply Kd.R_drewN | apply Kd.R_drew)); exact Kd.R_mono HO280.out (fun _ hk => hk.2)), bA⟩)
      ·
       skip
       refine Kd.R_lit_step (Kd.int .i64) _ 3 ?hg (N := 41) ?hd (xs := ([a1] : List Int)) (inner := [.int .i64 a1]) (ok := fun _ => True) (okp := fun _ => True) ?hr ?hp (fun _ hk => hk) trivial (Below.refl _ _) (Nat.le_refl _) (by simp) ?_; (case hd => rfl); (case hg => rfl); (case hr => first | (go_simp; done) | (go_simp; rfl)); (case hp => exact (Reps.one (show Kd.M (Kd.int .i64) _ _ _ a1 [.int .i64 a1] from rfl) (Reps.none _ _)))
       intro v279 w42 ho43 hb hg_ hnew_
       clear hg_ hnew_
       (first | rw [← Ny278.out] at ho43 | (simp only [Int.reduceToNat] at ho43; rw [← Ny278.out] at ho43))
       have HO280 := Aside0.mk (Kd.R_lower (Kd.R_new' ho43 (Kd.R_lt (rK HO273))) (below_size bA))
       replace HO273 := Aside0.mk (Kd.R_elder' (rK HO273) (Kd.R_base ho43) hb)
       replace HB := Aside0.mk (below_step bA hb)
       clear hb ho43
       refine hK.out _ _ trivial (fun hHeld => ?_)
       clear hK K
       refine nB ?_
       refine oA (i := 4) (N := some 39) (mb 13 1919) HT_ (fun K hK => ?_)
       refine Kd.R_append_rows_step (Kd.int .i64) (w0 := w) w.heap.size (by rfl) (.tmp 35) (.tmp 38) 41 3 (.int .i64 0) 8 rfl Try.underlying41 info3 rfl (by decide) (by omega) v272 y271 (l0.take (x5_1 : Int).toNat) _ _ _ (fun k_ => some k_ ≠ (v279 : Value).ownBlock) (fun _ => False) rfl rfl ?aO ?aR (fun _ _ h => h) (fun _ h => h.elim) ?aF ?aB ?aS ?aL ?_
       (case aR => first | (rw [← show (l0.take (x5_1 : Int).toNat).length = x5_1.toNat from (by rw [List.length_take]; have h_ : (x5_1 : Int) ≤ (l0.length : Int) := dA; omega)]; (repeat (first | exact (Kd.C_below HR274.out HB.out) | (with_reducible refine Kd.C_alloc ?_ _) | (with_reducible refine Kd.C_drewN ?_ _) | (with_reducible refine Kd.C_drew ?_))); done) | ((repeat (first | exact (Kd.C_below HR274.out HB.out) | (with_reducible refine Kd.C_alloc ?_ _) | (with_reducible refine Kd.C_drewN ?_ _) | (with_reducible refine Kd.C_drew ?_))); done) | (have hr_ := HR274.out; rw [show (l0.take (x5_1 : Int).toNat).length = x5_1.toNat from (by rw [List.length_take]; have h_ : (x5_1 : Int) ≤ (l0.length : Int) := dA; omega)] at hr_; (repeat (first | exact (Kd.C_below hr_ HB.out) | (with_reducible refine Kd.C_alloc ?_ _) | (with_reducible refine Kd.C_drewN ?_ _) | (with_reducible refine Kd.C_drew ?_))); done))
       (case aB => exact bA)
       (case aF => exact (fun k_ hk => Kd.fresh' (Kd.R_lt (rK HO280)) k_ hk))
       (case aO => exact (by (with_reducible repeat (first | apply Kd.R_alloc | apply Kd.R_drewN | apply Kd.R_drew)); exact Kd.R_mono HO273.out (fun _ hk => hk.2)))
       (case aS => exact (below_size bA))
       (case aL => have := LMc32.out; have hlx_ := (show (l0.take (x5_1 : Int).toNat).length = x5_1.toNat from (by rw [List.length_take]; have h_ : (x5_1 : Int) ≤ (l0.length : Int) := dA; omega)); omega)
       intro v276 w44 ho hb hg hat
       rw [← Ny275.out] at ho
       have n0_ := Aside0.mk (Kd.R_after (ok := (fun _ => True)) (rK HO280) hg hat)
       have n1_ := Aside0.mk (hb)
       have n2_ := Aside0.mk (ho)
       clear HO280
       clear HB
       clear HO273
       have HO280 := n0_
       have HB := n1_
       have HO277 := n2_
       clear n0_ n1_ n2_
       clear ho hb hg hat
       refine hK.out _ _ trivial (fun hHeld => ?_)
       clear hK K
       refine nB ?_
       exact mB (hCont (v272, v276, v279) _ ⟨(rK HO277), (by (with_reducible repeat (first | apply Kd.R_alloc | apply Kd.R_drewN | apply Kd.R_drew)); exact Kd.R_mono HO280.out (fun _ hk => hk.2)), bA⟩)
     ·
      skip
      refine Kd.R_lit_step (Kd.int .i64) _ 3 ?hg (N := 41) ?hd (xs := ([a1] : List Int)) (inner := [.int .i64 a1]) (ok := fun _ => True) (okp := fun _ => True) ?hr ?hp (fun _ hk => hk) trivial (Below.refl _ _) (Nat.le_refl _) (by simp) ?_; (case hd => rfl); (case hg => rfl); (case hr => first | (go_simp; done) | (go_simp; rfl)); (case hp => exact (Reps.one (show Kd.M (Kd.int .i64) _ _ _ a1 [.int .i64 a1] from rfl) (Reps.none _ _)))
      intro v279 w40 ho41 hb hg_ hnew_
      clear hg_ hnew_
      (first | rw [← Ny278.out] at ho41 | (simp only [Int.reduceToNat] at ho41; rw [← Ny278.out] at ho41))
      have HO280 := Aside0.mk (Kd.R_lower ho41 (below_size bA))
      replace HB := Aside0.mk (below_step bA hb)
      clear hb ho41
      refine hK.out _ _ trivial (fun hHeld => ?_)
      clear hK K
      refine nB ?_
      refine oA (i := 0) (N := some 35) (mb 13 1903) HT_ (fun K hK => ?_)
      refine Kd.R_lit_step (Kd.int .i64) _ 3 ?hg (N := 35) ?hd (xs := ([] : List Int)) (inner := []) (ok := fun _ => True) (okp := fun _ => True) ?hr ?hp (fun _ hk => hk) trivial (Below.refl _ _) (Nat.le_refl _) (by simp) ?_; (case hd => rfl); (case hg => rfl); (case hr => first | (go_simp; done) | (go_simp; rfl)); (case hp => exact (Reps.none _ _))
      intro v272 w42 ho43 hb hg_ hnew_
      clear hg_ hnew_
      (first | rw [← Ny271.out] at ho43 | (simp only [Int.reduceToNat] at ho43; rw [← Ny271.out] at ho43))
      have HO273 := Aside0.mk (Kd.R_lower (Kd.R_new' ho43 (Kd.R_lt (rK HO280))) (below_size bA))
      replace HO280 := Aside0.mk (Kd.R_elder' (rK HO280) (Kd.R_base ho43) hb)
      replace HB := Aside0.mk (below_step bA hb)
      clear hb ho43
      refine hK.out _ _ trivial (fun hHeld => ?_)
      clear hK K
      refine nB ?_
      refine oA (i := 4) (N := some 39) (mb 13 1919) HT_ (fun K hK => ?_)
      refine Kd.R_append_rows_step (Kd.int .i64) (w0 := w) w.heap.size (by rfl) (.tmp 35) (.tmp 38) 41 3 (.int .i64 0) 8 rfl Try.underlying41 info3 rfl (by decide) (by omega) v272 y271 (l0.take (x5_1 : Int).toNat) _ _ _ (fun k_ => some k_ ≠ (v279 : Value).ownBlock) (fun _ => False) rfl rfl ?aO ?aR (fun _ _ h => h) (fun _ h => h.elim) ?aF ?aB ?aS ?aL ?_
      (case aR => first | (rw [← show (l0.take (x5_1 : Int).toNat).length = x5_1.toNat from (by rw [List.length_take]; have h_ : (x5_1 : Int) ≤ (l0.length : Int) := dA; omega)]; (repeat (first | exact (Kd.C_below HR274.out HB.out) | (with_reducible refine Kd.C_alloc ?_ _) | (with_reducible refine Kd.C_drewN ?_ _) | (with_reducible refine Kd.C_drew ?_))); done) | ((repeat (first | exact (Kd.C_below HR274.out HB.out) | (with_reducible refine Kd.C_alloc ?_ _) | (with_reducible refine Kd.C_drewN ?_ _) | (with_reducible refine Kd.C_drew ?_))); done) | (have hr_ := HR274.out; rw [show (l0.take (x5_1 : Int).toNat).length = x5_1.toNat from (by rw [List.length_take]; have h_ : (x5_1 : Int) ≤ (l0.length : Int) := dA; omega)] at hr_; (repeat (first | exact (Kd.C_below hr_ HB.out) | (with_reducible refine Kd.C_alloc ?_ _) | (with_reducible refine Kd.C_drewN ?_ _) | (with_reducible refine Kd.C_drew ?_))); done))
      (case aB => exact bA)
      (case aF => exact (fun k_ hk => Kd.fresh' (Kd.R_lt (rK HO280)) k_ hk))
      (case aO => exact (by (with_reducible repeat (first | apply Kd.R_alloc | apply Kd.R_drewN | apply Kd.R_drew)); exact Kd.R_mono HO273.out (fun _ hk => hk.2)))
      (case aS => exact (below_size bA))
      (case aL => have := LMc32.out; have hlx_ := (show (l0.take (x5_1 : Int).toNat).length = x5_1.toNat from (by rw [List.length_take]; have h_ : (x5_1 : Int) ≤ (l0.length : Int) := dA; omega)); omega)
      intro v276 w44 ho hb hg hat
      rw [← Ny275.out] at ho
      have n0_ := Aside0.mk (Kd.R_after (ok := (fun _ => True)) (rK HO280) hg hat)
      have n1_ := Aside0.mk (hb)
      have n2_ := Aside0.mk (ho)
      clear HO280
      clear HB
      clear HO273
      have HO280 := n0_
      have HB := n1_
      have HO277 := n2_
      clear n0_ n1_ n2_
      clear ho hb hg hat
      refine hK.out _ _ trivial (fun hHeld => ?_)
      clear hK K
      refine nB ?_
      exact mB (hCont (v272, v276, v279) _ ⟨(rK HO277), (by (with_reducible repeat (first | apply Kd.R_alloc | apply Kd.R_drewN | apply Kd.R_drew)); exact Kd.R_mono HO280.out (fun _ hk => hk.2)), bA⟩)
    rintro ⟨v272, v276, v279⟩ w45 ⟨h0_, h1_, h2_⟩
    have n0_ : Aside0 (Kd.R (Kd.int .i64) 3 w45 w.heap.size (fun k_ => some k_ ≠ (v279 : Value).ownBlock) v276 y275) := ⟨h0_⟩
    have n1_ : Aside0 (Kd.R (Kd.int .i64) 3 w45 w.heap.size (fun k_ => some k_ ≠ (v276 : Value).ownBlock) v279 y278) := ⟨h1_⟩
    have n2_ : Aside0 (Below w.heap.size w w45) := ⟨h2_⟩
    clear HB
    clear h0_ h1_ h2_
    have HO277 := n0_
    have HO280 := n1_
    have HB := n2_
    clear n0_ n1_ n2_
    have hHeld := trivial
    obtain ⟨Ao47, co47, eo47⟩ := Kd.R_slice HO280.out
    (first | subst eo47 | (injection eo47 with f1_ f2_ f3_; have f4_ := f1_.symm; have f5_ := f3_.symm; clear f1_ f2_ f3_; subst f4_; subst f5_))
    refine norm_ (a' := ?_) ?_ ?_
    rotate_left
    ·
     simp only [putAll, Act.put, List.setIfInBounds_toArray, List.set_cons_zero, List.set_cons_succ]
     rfl
    refine oA (i := 7) (N := some 42) (mb 13 2047) HT_ (fun K hK => ?_)
    refine Kd.R_append_rows_step (Kd.int .i64) (w0 := w) w.heap.size (by rfl) (.tmp 39) (.tmp 41) 41 3 (.int .i64 0) 8 rfl Try.underlying41 info3 rfl (by decide) (by omega) v276 y275 y278 _ _ _ (fun k_ => some k_ ≠ (.slice Ao47 y278.length co47 : Value).ownBlock) (fun _ => False) rfl rfl ?aO ?aR (fun _ _ h => h) (fun _ h => h.elim) ?aF ?aB ?aS ?aL ?_
    (case aR => repeat (first | exact (Kd.R_reads' HO280.out).2.2 | (with_reducible refine Kd.C_alloc ?_ _) | (with_reducible refine Kd.C_drewN ?_ _) | (with_reducible refine Kd.C_drew ?_)))
    (case aB => exact bA)
    (case aF => exact (fun k_ hk => Kd.fresh' (Kd.R_lt (rK HO280)) k_ hk))
    (case aO => exact (rK HO277))
    (case aS => exact (below_size bA))
    (case aL => have := LMc33.out; omega)
    intro v282 w46 ho hb hg hat
    rw [← Ny281.out] at ho
    have n0_ := Aside0.mk (Kd.R_after (ok := (fun _ => True)) (by (with_reducible repeat (first | apply Kd.R_alloc | apply Kd.R_drewN | apply Kd.R_drew)); exact Kd.R_mono HO280.out (fun _ hk => ⟨trivial, hk⟩)) hg hat)
    have n1_ := Aside0.mk (hb)
    have n2_ := Aside0.mk (ho)
    clear HO280
    clear HB
    clear HO277
    have HO280 := n0_
    have HB := n1_
    have HO283 := n2_
    clear n0_ n1_ n2_
    clear ho hb hg hat
    refine hK.out _ _ trivial (fun hHeld => ?_)
    clear hK K
    refine nB ?_
    refine oA (i := 11) (N := some 46) (mb 13 4095) HT_ (fun K hK => ?_)
    refine Kd.R_append_rows_step (Kd.int .i64) (w0 := w) w.heap.size (by rfl) (.tmp 42) (.tmp 45) 41 3 (.int .i64 0) 8 rfl Try.underlying41 info3 rfl (by decide) (by omega) v282 y281 (l0.drop (x5_1 : Int).toNat) _ _ _ (fun k_ => some k_ ≠ (.slice Ao47 y278.length co47 : Value).ownBlock) (fun _ => False) rfl rfl ?aO ?aR (fun _ _ h => h) (fun _ h => h.elim) ?aF ?aB ?aS ?aL ?_
    (case aR => first | (rw [← show (l0.drop (x5_1 : Int).toNat).length = (l0.length - x5_1.toNat) from List.length_drop]; (repeat (first | exact (Kd.C_below HR284.out HB.out) | (with_reducible refine Kd.C_alloc ?_ _) | (with_reducible refine Kd.C_drewN ?_ _) | (with_reducible refine Kd.C_drew ?_))); done) | ((repeat (first | exact (Kd.C_below HR284.out HB.out) | (with_reducible refine Kd.C_alloc ?_ _) | (with_reducible refine Kd.C_drewN ?_ _) | (with_reducible refine Kd.C_drew ?_))); done) | (have hr_ := HR284.out; rw [show (l0.drop (x5_1 : Int).toNat).length = (l0.length - x5_1.toNat) from List.length_drop] at hr_; (repeat (first | exact (Kd.C_below hr_ HB.out) | (with_reducible refine Kd.C_alloc ?_ _) | (with_reducible refine Kd.C_drewN ?_ _) | (with_reducible refine Kd.C_drew ?_))); done))
    (case aB => exact bA)
    (case aF => exact (fun k_ hk => Kd.fresh' (Kd.R_lt (rK HO280)) k_ hk))
    (case aO => exact (rK HO283))
    (case aS => exact (below_size bA))
    (case aL => have := LMc36.out; have hlx_ := (show (l0.drop (x5_1 : Int).toNat).length = (l0.length - x5_1.toNat) from List.length_drop); omega)
    intro v286 w48 ho hb hg hat
    rw [← Ny285.out] at ho
    have n0_ := Aside0.mk (Kd.R_after (ok := (fun _ => True)) (rK HO280) hg hat)
    have n1_ := Aside0.mk (hb)
    have n2_ := Aside0.mk (ho)
    clear HO280
    clear HB
    clear HO283
    have HO280 := n0_
    have HB := n1_
    have HO287 := n2_
    clear n0_ n1_ n2_
    clear ho hb hg hat
    refine hK.out _ _ trivial (fun hHeld => ?_)
    clear hK K
    refine nB ?_
    refine pA (i := 12) (N := some 4) (mb 13 8191) HT_ ?_
    refine eA HT_ ?_
    try go_wp2
    go_ret
    exact ⟨_, by first | rfl | (simp [errW_none, errW_some] <;> rfl) | (simp [*, errW_none, errW_some] <;> rfl), by (with_reducible repeat (first | apply Kd.R_alloc | apply Kd.R_drewN | apply Kd.R_drew)); exact Kd.R_mono HO287.out (fun _ hk => trivial), bA⟩

/-! ### spec_AddToStage: function 94 -/
mutual
def spec_AddToStage.l0 : Nat → List (S89) → List Int → List Int → Int → Option (List Int)
 | 0, _, _, _, _ => none
 | k + 1, x0, x1, x5, x6 => if x6 < (x0.length : Int) then ((spec_IsTogether.f k x0 x1).bind fun t294 => (spec_AddToStage.j1 k x0 x1 x5 x6 t294)) else (spec_AddToStage.j1 k x0 x1 x5 x6 false)
def spec_AddToStage.j1 : Nat → List (S89) → List Int → List Int → Int → Bool → Option (List Int)
 | 0, _, _, _, _, _ => none
 | k + 1, x0, x1, x5, x6, x19 => if x19 = true then (if 0 ≤ x6 then (if x6 < (x0.length : Int) then ((spec_l6Put.f k x5 ((rd_T89 x0 x6).f0)).bind fun t296 => ((spec_IsTogether.f k x0 t296).bind fun t299 => (if t299 = true then (spec_AddToStage.l0 k x0 x1 t296 (wrap64 (x6 + 1))) else (spec_AddToStage.l0 k x0 x1 x5 (wrap64 (x6 + 1)))))) else (none)) else (none)) else (some x5)
end
def spec_AddToStage.f (k : Nat) (l0 : List (S89)) (l1 : List Int) : Option (List Int) := (some (([] : List Int) : List Int)).bind fun y288 => (if y288.length + l1.length < 17592186044416 then (spec_AddToStage.l0 k l0 l1 (y288 ++ l1) 0) else (none))
theorem spec_AddToStage.mono_l : ∀ k, (∀ y0 y1 y2 y3, LeO (spec_AddToStage.l0 k y0 y1 y2 y3) (spec_AddToStage.l0 (k + 1) y0 y1 y2 y3)) ∧ (∀ y0 y1 y2 y3 y4, LeO (spec_AddToStage.j1 k y0 y1 y2 y3 y4) (spec_AddToStage.j1 (k + 1) y0 y1 y2 y3 y4))
 | 0 => ⟨fun _ _ _ _ r h => by simp [spec_AddToStage.l0] at h, fun _ _ _ _ _ r h => by simp [spec_AddToStage.j1] at h⟩
 | k + 1 => by
  obtain ⟨ih0, ih1⟩ := spec_AddToStage.mono_l k
  refine ⟨?_, ?_⟩
  ·
   intro y0 y1 y2 y3
   unfold spec_AddToStage.l0
   repeat' first | (with_reducible first | exact LeO.refl _ | exact LeO.none _ | refine LeO.ite ?_ ?_ | refine LeO.bind ?_ (fun _ => ?_) | exact ih0 _ _ _ _ | exact ih1 _ _ _ _ _ | exact spec_IsTogether.mono _ _ _ | exact spec_l6Put.mono _ _ _)
  ·
   intro y0 y1 y2 y3 y4
   unfold spec_AddToStage.j1
   repeat' first | (with_reducible first | exact LeO.refl _ | exact LeO.none _ | refine LeO.ite ?_ ?_ | refine LeO.bind ?_ (fun _ => ?_) | exact ih0 _ _ _ _ | exact ih1 _ _ _ _ _ | exact spec_IsTogether.mono _ _ _ | exact spec_l6Put.mono _ _ _)
theorem spec_AddToStage.mono : ∀ a0 a1 k, LeO (spec_AddToStage.f k a0 a1) (spec_AddToStage.f (k + 1) a0 a1) := by
 intro a0 a1 k
 obtain ⟨ih0, ih1⟩ := spec_AddToStage.mono_l k
 unfold spec_AddToStage.f
 repeat' first | (with_reducible first | exact LeO.refl _ | exact LeO.none _ | refine LeO.ite ?_ ?_ | refine LeO.bind ?_ (fun _ => ?_) | exact ih0 _ _ _ _ | exact ih1 _ _ _ _ _ | exact spec_IsTogether.mono _ _ _ | exact spec_l6Put.mono _ _ _)
set_option maxHeartbeats 8000000 in
set_option maxRecDepth 100000 in
theorem spec_AddToStage.calls (k : Nat) (A0 : Option Addr) (c0 : Nat) (l0 : List (S89)) (A1 : Option Addr) (c1 : Nat) (l1 : List Int) (r : List Int) (w : World) (hr0 : Kd.C k89 w A0 l0.length l0) (hc0 : l0.length ≤ c0) (hr1 : Kd.C (Kd.int .i64) w A1 l1.length l1) (hc1 : l1.length ≤ c1) (h : spec_AddToStage.f k l0 l1 = some r) :
  Calls Try.prog 94 #[.slice A0 l0.length c0, .slice A1 l1.length c1] w fun e w' => ∃ v0_ : Value, e = .returned (v0_) ∧ Kd.R (Kd.int .i64) 3 w' w.heap.size (fun _ => True) v0_ r ∧ Below w.heap.size w w' := by
 have HR0 := Aside0.mk hr0
 have HC0 := Aside0.mk hc0
 clear hr0 hc0
 have HR1 := Aside0.mk hr1
 have HC1 := Aside0.mk hc1
 clear hr1 hc1
 have HB := Aside0.mk (Below.refl w.heap.size w)
 have H : ((some (([] : List Int) : List Int)).bind fun y288 => (if y288.length + l1.length < 17592186044416 then (spec_AddToStage.l0 k l0 l1 (y288 ++ l1) 0) else (none))) = some r := h
 clear h
 obtain ⟨y288, hy288⟩ : ∃ y_ : List Int, y_ = (([] : List Int)) := ⟨_, rfl⟩
 replace H : (if y288.length + l1.length < 17592186044416 then (spec_AddToStage.l0 k l0 l1 (y288 ++ l1) 0) else (none)) = some r := by first | (rw [hy288]; with_reducible exact H) | (have H2_ := (Option.bind_some _ _).symm.trans H; rw [hy288]; with_reducible exact H2_) | (have H2_ := (Option.bind_some _ _).symm.trans H; with_reducible exact H2_) | with_reducible exact H | (rw [hy288]; exact H) | exact H
 have Ny288 := Aside0.mk hy288
 clear hy288
 have c3 : y288.length + l1.length < 17592186044416 := ifN H
 replace H := ifT H
 have LMc3 := Aside0.mk c3
 clear c3
 obtain ⟨y291, hy291⟩ : ∃ y_ : List Int, y_ = (y288 ++ l1) := ⟨_, rfl⟩
 replace H : (spec_AddToStage.l0 k l0 l1 y291 0) = some r := by first | (rw [hy291]; with_reducible exact H) | (have H2_ := (Option.bind_some _ _).symm.trans H; rw [hy291]; with_reducible exact H2_) | (have H2_ := (Option.bind_some _ _).symm.trans H; with_reducible exact H2_) | with_reducible exact H | (rw [hy291]; exact H) | exact H
 have Ny291 := Aside0.mk hy291
 clear hy291
 have H' := Aside0.mk H
 clear H
 go_enter Try.func94, Try.ntmps94
 go_wp2_with (first | ((with_reducible refine gate_dst (N := 8) rfl ?_); refine Kd.R_lit (Kd.int .i64) _ 3 ?hg (N := 8) ?hd (xs := ([] : List Int)) (inner := []) (ok := fun _ => True) (okp := fun _ => True) ?hr ?hp (fun _ hk => hk) trivial (Below.refl _ _) (Nat.le_refl _) (by simp) ?_; (case hd => rfl); (case hg => rfl); (case hr => first | (go_simp; done) | (go_simp; rfl)); (case hp => exact (Reps.none _ _)); intro v289 w4 ho5 hb hg_ hnew_; clear hg_ hnew_; (first | rw [← Ny288.out] at ho5 | (simp only [Int.reduceToNat] at ho5; rw [← Ny288.out] at ho5)); have HO290 := Aside0.mk (Kd.R_lower ho5 (below_size bA)); replace HB := Aside0.mk (below_step bA hb); clear hb ho5) | ((with_reducible refine gate_builtin (b := .append) (xs := #[.tmp 8, .tmp 9]) rfl ?_); at_builtin; refine Kd.R_append_rows (Kd.int .i64) (w0 := w) w.heap.size rfl (.tmp 8) (.tmp 9) 41 3 (.int .i64 0) 8 rfl Try.underlying41 info3 rfl (by decide) (by omega) v289 y288 l1 _ _ _ (fun _ => True) (fun _ => False) rfl rfl ?aO ?aR (fun _ _ h => h) (fun _ h => h.elim) ?aF ?aB ?aS ?aL ?_; (case aR => repeat (first | exact (Kd.C_below HR1.out HB.out) | (with_reducible refine Kd.C_alloc ?_ _) | (with_reducible refine Kd.C_drewN ?_ _) | (with_reducible refine Kd.C_drew ?_))); (case aB => exact bA); (case aF => exact (fun _ _ => trivial)); (case aO => exact (rK HO290)); (case aS => exact (below_size bA)); (case aL => have := LMc3.out; omega); intro v292 w6 ho hb hg hat; rw [← Ny291.out] at ho; have n0_ := Aside0.mk (hb); have n1_ := Aside0.mk (ho); clear HB; clear HO290; have HB := n0_; have HO293 := n1_; clear n0_ n1_; clear ho hb hg hat))
 go_loopg [5, 6] k (fun kq v5 v6 w' => ∃ (x5_1 : List Int) (x6_1 : Int), v6 = .int .i64 x6_1 ∧ Aside0 (spec_AddToStage.l0 kq l0 l1 x5_1 x6_1 = some r) ∧ Aside0 (kq ≤ k) ∧ Aside0 (Kd.R (Kd.int .i64) 3 w' w.heap.size (fun _ => True) v5 x5_1) ∧ Aside0 (Below w.heap.size w w'))
 case atStart => exact ⟨(y291), (0), rS, H', ⟨Nat.le_refl _⟩, ⟨rK HO293⟩, ⟨bA⟩⟩
 case round =>
  clear H'
  try clear c1
  try clear p2
  try clear c3
  obtain ⟨x5_1, x6_1, rfl, HA, HK1, HO_5, HB⟩ := hrel
  cases gk with
  | zero => exact absurd HA.out (by simp [spec_AddToStage.l0])
  | succ k1 =>
   have H := HA.out
   clear HA
   simp only [spec_AddToStage.l0] at H
   have HC7 := Aside0.mk H
   clear H
   go_upto_region 3 with (fail)
   go_cut [19] (fun v19 wc => ∃ (kq : Nat) (x19_6 : Bool), v19 = .bool x19_6 ∧ Aside0 (spec_AddToStage.j1 kq l0 l1 x5_1 x6_1 x19_6 = some r) ∧ Aside0 (kq ≤ k1) ∧ Aside0 (Kd.R (Kd.int .i64) 3 wc w.heap.size (fun _ => True) u5 x5_1) ∧ Aside0 (Below w.heap.size w wc))
   case first =>
    have H := HC7.out
    clear HC7
    by_cases c8 : x6_1 < (l0.length : Int)
    ·
     rw [if_pos c8] at H
     have c8b0 := decide_eq_true c8
     clear c8
     (first | rw [c8b0] | (simp only [i64_w, i32_w]; rw [c8b0]) | skip)
     obtain ⟨t294, A9, H⟩ := bindE H
     try dsimp only at H
     have H' := Aside0.mk H
     clear H
     go_wp2_with (first | (go_at_call 82; (with_reducible refine (spec_IsTogether.calls k1 _ _ l0 _ _ l1 t294 _ ?side1 ?side2 ?side3 ?side4 A9.out).mono ?_); (case side1 => exact cB HR0); (case side2 => exact HC0.out); (case side3 => exact cB HR1); (case side4 => exact HC1.out); rintro e w10 ⟨rfl, hb⟩; replace HO_5 := Aside0.mk (Kd.R_below (rK HO_5) hb); replace HB := Aside0.mk (below_step bA hb); (try clear hb)))
     go_meet
     case rel => exact ⟨_, (t294), rS, H', ⟨by have := HK1.out; first | omega | exact Nat.le_refl _⟩, ⟨rK HO_5⟩, ⟨bA⟩⟩
    ·
     rw [if_neg c8] at H
     have c8b0 := decide_eq_false c8
     clear c8
     (first | rw [c8b0] | (simp only [i64_w, i32_w]; rw [c8b0]) | skip)
     have H' := Aside0.mk H
     clear H
     go_wp2
     go_meet
     case rel => exact ⟨_, (false), rS, H', ⟨by have := HK1.out; first | omega | exact Nat.le_refl _⟩, ⟨rK HO_5⟩, ⟨bA⟩⟩
   case rest =>
    clear HC7
    try clear c1
    try clear p2
    try clear c3
    try clear c8
    try clear c8b0
    try clear c9
    try clear p2
    obtain ⟨kq, x19_6, rfl, HA, HJ6, HO_5, HB⟩ := hcut
    cases kq with
    | zero => exact absurd HA.out (by simp [spec_AddToStage.j1])
    | succ kj6 =>
     have H := HA.out
     clear HA
     simp only [spec_AddToStage.j1] at H
     by_cases c11 : x19_6 = true
     ·
      subst c11
      have H1 : (if 0 ≤ x6_1 then (if x6_1 < (l0.length : Int) then ((spec_l6Put.f kj6 x5_1 ((rd_T89 l0 x6_1).f0)).bind fun t296 => ((spec_IsTogether.f kj6 l0 t296).bind fun t299 => (if t299 = true then (spec_AddToStage.l0 kj6 l0 l1 t296 (wrap64 (x6_1 + 1))) else (spec_AddToStage.l0 kj6 l0 l1 x5_1 (wrap64 (x6_1 + 1)))))) else (none)) else (none)) = some r := by rw [if_pos rfl] at H; exact H
      clear H
      have H := H1
      clear H1
      have c12 : 0 ≤ x6_1 := ifN H
      replace H := ifT H
      have c12b0 := decide_eq_true c12
      clear c12
      have c13 : x6_1 < (l0.length : Int) := ifN H
      replace H := ifT H
      have c13b0 := decide_eq_true c13
      clear c13
      obtain ⟨t296, A14, H⟩ := bindE H
      try dsimp only at H
      obtain ⟨t299, A15, H⟩ := bindE H
      try dsimp only at H
      by_cases c16 : t299 = true
      ·
       subst c16
       have H1 : (spec_AddToStage.l0 kj6 l0 l1 t296 (wrap64 (x6_1 + 1))) = some r := by rw [if_pos rfl] at H; exact H
       clear H
       have H := H1
       clear H1
       have H' := Aside0.mk H
       clear H
       have p295 : 0 ≤ (x6_1 : Int) := dA
       have q295 : x6_1 < (l0.length : Int) := dA
       obtain ⟨ad295, e295, hx295_0, hx295_1, hx295_2, hx295_3⟩ := at_T89 HR0.out x6_1 p295 q295
       cases e295
       replace hx295_0 := hC HB hx295_0
       replace hx295_1 := hC HB hx295_1
       replace hx295_2 := hC HB hx295_2
       replace hx295_3 := hC HB hx295_3
       replace p295 := eq_true p295
       replace q295 := eq_true q295
       obtain ⟨Ao17, co17, eo17⟩ := Kd.R_slice HO_5.out
       subst eo17
       go_wp2_with (first | ((with_reducible refine gate_callee (f := 123) rfl ?_); refine gL (some 28) Try.func123 #[.slice Ao17 x5_1.length co17, .int .i64 ((rd_T89 l0 x6_1).f0)] ?_; (with_reducible refine (spec_l6Put.calls kj6 _ _ x5_1 ((rd_T89 l0 x6_1).f0) t296 _ ?side1 ?side2 A14.out).mono ?_); (case side1 => exact cO ⟨(Kd.R_reads' HO_5.out).2.2⟩); (case side2 => exact (Kd.R_reads' HO_5.out).2.1); rintro e w18 ⟨v297, rfl, ho0, hb⟩; refine ⟨_, rfl, ?_⟩; have HO298 := Aside0.mk (Kd.R_lower (Kd.R_new' ho0 (Kd.R_lt (rK HO_5))) (below_size bA)); replace HO_5 := Aside0.mk (Kd.R_elder' (rK HO_5) (Kd.R_base ho0) hb); replace HB := Aside0.mk (below_step bA hb); (try clear hb); (try clear ho0); obtain ⟨Ao19, co19, eo19⟩ := Kd.R_slice HO298.out; subst eo19) | ((with_reducible refine gate_callee (f := 82) rfl ?_); refine gL (some 31) Try.func82 #[.slice (some ad295) l0.length c0, .slice Ao19 t296.length co19] ?_; (with_reducible refine (spec_IsTogether.calls kj6 _ _ l0 _ _ t296 true _ ?side1 ?side2 ?side3 ?side4 A15.out).mono ?_); (case side1 => exact cB HR0); (case side2 => exact HC0.out); (case side3 => exact cO ⟨(Kd.R_reads' HO298.out).2.2⟩); (case side4 => exact (Kd.R_reads' HO298.out).2.1); rintro e w20 ⟨rfl, hb⟩; refine ⟨_, rfl, ?_⟩; replace HO_5 := Aside0.mk (Kd.R_below (rK HO_5) hb); replace HO298 := Aside0.mk (Kd.R_below (rK HO298) hb); replace HB := Aside0.mk (below_step bA hb); (try clear hb)))
       go_roundg kj6
       case measure => have := HK1.out; have := HJ6.out; omega
       case rel => exact ⟨(t296), (wrap64 (x6_1 + 1)), rS, H', ⟨by have := HK1.out; have := HJ6.out; omega⟩, ⟨by (with_reducible repeat (first | apply Kd.R_alloc | apply Kd.R_drewN | apply Kd.R_drew)); exact Kd.R_mono HO298.out (fun _ hk => trivial)⟩, ⟨bA⟩⟩
      ·
       replace c16 := Bool.eq_false_iff.mpr c16
       subst c16
       have H1 : (spec_AddToStage.l0 kj6 l0 l1 x5_1 (wrap64 (x6_1 + 1))) = some r := by rw [if_neg (show ¬ (false = true) by decide)] at H; exact H
       clear H
       have H := H1
       clear H1
       have H' := Aside0.mk H
       clear H
       have p295 : 0 ≤ (x6_1 : Int) := dA
       have q295 : x6_1 < (l0.length : Int) := dA
       obtain ⟨ad295, e295, hx295_0, hx295_1, hx295_2, hx295_3⟩ := at_T89 HR0.out x6_1 p295 q295
       cases e295
       replace hx295_0 := hC HB hx295_0
       replace hx295_1 := hC HB hx295_1
       replace hx295_2 := hC HB hx295_2
       replace hx295_3 := hC HB hx295_3
       replace p295 := eq_true p295
       replace q295 := eq_true q295
       obtain ⟨Ao21, co21, eo21⟩ := Kd.R_slice HO_5.out
       subst eo21
       go_wp2_with (first | ((with_reducible refine gate_callee (f := 123) rfl ?_); refine gL (some 28) Try.func123 #[.slice Ao21 x5_1.length co21, .int .i64 ((rd_T89 l0 x6_1).f0)] ?_; (with_reducible refine (spec_l6Put.calls kj6 _ _ x5_1 ((rd_T89 l0 x6_1).f0) t296 _ ?side1 ?side2 A14.out).mono ?_); (case side1 => exact cO ⟨(Kd.R_reads' HO_5.out).2.2⟩); (case side2 => exact (Kd.R_reads' HO_5.out).2.1); rintro e w22 ⟨v297, rfl, ho0, hb⟩; refine ⟨_, rfl, ?_⟩; have HO298 := Aside0.mk (Kd.R_lower (Kd.R_new' ho0 (Kd.R_lt (rK HO_5))) (below_size bA)); replace HO_5 := Aside0.mk (Kd.R_elder' (rK HO_5) (Kd.R_base ho0) hb); replace HB := Aside0.mk (below_step bA hb); (try clear hb); (try clear ho0); obtain ⟨Ao23, co23, eo23⟩ := Kd.R_slice HO298.out; subst eo23) | ((with_reducible refine gate_callee (f := 82) rfl ?_); refine gL (some 31) Try.func82 #[.slice (some ad295) l0.length c0, .slice Ao23 t296.length co23] ?_; (with_reducible refine (spec_IsTogether.calls kj6 _ _ l0 _ _ t296 false _ ?side1 ?side2 ?side3 ?side4 A15.out).mono ?_); (case side1 => exact cB HR0); (case side2 => exact HC0.out); (case side3 => exact cO ⟨(Kd.R_reads' HO298.out).2.2⟩); (case side4 => exact (Kd.R_reads' HO298.out).2.1); rintro e w24 ⟨rfl, hb⟩; refine ⟨_, rfl, ?_⟩; replace HO_5 := Aside0.mk (Kd.R_below (rK HO_5) hb); replace HO298 := Aside0.mk (Kd.R_below (rK HO298) hb); replace HB := Aside0.mk (below_step bA hb); (try clear hb)))
       go_roundg kj6
       case measure => have := HK1.out; have := HJ6.out; omega
       case rel => exact ⟨(x5_1), (wrap64 (x6_1 + 1)), rS, H', ⟨by have := HK1.out; have := HJ6.out; omega⟩, ⟨by (with_reducible repeat (first | apply Kd.R_alloc | apply Kd.R_drewN | apply Kd.R_drew)); exact Kd.R_mono HO_5.out (fun _ hk => trivial)⟩, ⟨bA⟩⟩
     ·
      replace c11 := Bool.eq_false_iff.mpr c11
      subst c11
      have H1 : (some x5_1) = some r := by rw [if_neg (show ¬ (false = true) by decide)] at H; exact H
      clear H
      have H := H1
      clear H1
      obtain rfl := Option.some.inj H
      go_wp2
      go_ret
      exact ⟨_, by first | rfl | (simp [errW_none, errW_some] <;> rfl) | (simp [*, errW_none, errW_some] <;> rfl), by (with_reducible repeat (first | apply Kd.R_alloc | apply Kd.R_drewN | apply Kd.R_drew)); exact HO_5.out, bA⟩

end Go.Proofs.Ytdkmmefmhfbgkaa.P
