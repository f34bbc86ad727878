/- Printed by myprint.py (wip/tools) over the kit's print: what Go's functions compute, and that they do. Lean checks it. -/
import Derived.Test.YtdkmmefmhfbgkaaF0
import Derived.Test.YtdkmmefmhfbgkaaFX00b
namespace Go.Proofs.Ytdkmmefmhfbgkaa.P
open Go.RowKit Go.Proofs.YtdkmmefmhfbgkaaW.PrintWords Go.Proofs.YtdkmmefmhfbgkaaW.PrintLast Go.Proofs.YtdkmmefmhfbgkaaW.PrintMore Go.Proofs.Ytdkmmefmhfbgkaa.Sq
attribute [local go_sem] max2_int min2_int max_two min_two max_three min_three max_four min_four
set_option linter.unusedVariables false
set_option linter.unusedSimpArgs false

/-! ### impl_Conflict: function 133 -/
def impl_Conflict.j0 : Nat → Bool → Int → Int → Int → Int → Int → Int → Int → Int → Option (Bool)
 | 0, _, _, _, _, _, _, _, _, _ => none
 | k + 1, x22, x292000, x292001, x292002, x292003, x293000, x293001, x293002, x293003 => if x22 = true then (some false) else (if x292001 = 2 then (if x293002 = x292002 then (some true) else (some (x293003 == x292002))) else (if x293001 = 2 then (if x292002 = x293002 then (some true) else (some (x292003 == x293002))) else (if x292002 = x293002 then ((impl_InPlace.f x292002).bind fun t295 => ((impl_OutPlace.f x292003).bind fun t296 => ((impl_InPlace.f x293002).bind fun t297 => ((impl_OutPlace.f x293003).bind fun t298 => ((impl_Interleave.f k t295 t296 t297 t298).bind fun t299 => (some t299)))))) else (if x292003 = x293003 then (some true) else ((impl_InPlace.f x292002).bind fun t300 => ((impl_OutPlace.f x292003).bind fun t301 => ((impl_InPlace.f x293002).bind fun t302 => ((impl_OutPlace.f x293003).bind fun t303 => ((impl_Interleave.f k t300 t301 t302 t303).bind fun t304 => (some t304))))))))))
def impl_Conflict.f (k : Nat) (a0_0 : Int) (a0_1 : Int) (a0_2 : Int) (a0_3 : Int) (a1_0 : Int) (a1_1 : Int) (a1_2 : Int) (a1_3 : Int) : Option (Bool) := (impl_IsPath.f a0_0 a0_1 a0_2 a0_3).bind fun t293 => (if t293 = true then ((impl_IsPath.f a1_0 a1_1 a1_2 a1_3).bind fun t294 => (if t294 = true then (if a0_1 = 2 then (impl_Conflict.j0 k (a1_1 == 2) a0_0 a0_1 a0_2 a0_3 a1_0 a1_1 a1_2 a1_3) else (impl_Conflict.j0 k false a0_0 a0_1 a0_2 a0_3 a1_0 a1_1 a1_2 a1_3)) else (impl_Conflict.j0 k true a0_0 a0_1 a0_2 a0_3 a1_0 a1_1 a1_2 a1_3))) else (impl_Conflict.j0 k true a0_0 a0_1 a0_2 a0_3 a1_0 a1_1 a1_2 a1_3))
theorem impl_Conflict.mono_l : ∀ k, (∀ y0 y1 y2 y3 y4 y5 y6 y7 y8, LeO (impl_Conflict.j0 k y0 y1 y2 y3 y4 y5 y6 y7 y8) (impl_Conflict.j0 (k + 1) y0 y1 y2 y3 y4 y5 y6 y7 y8))
 | 0 => fun _ _ _ _ _ _ _ _ _ r h => by simp [impl_Conflict.j0] at h
 | k + 1 => by
  have ih0 := impl_Conflict.mono_l k
  ·
   intro y0 y1 y2 y3 y4 y5 y6 y7 y8
   unfold impl_Conflict.j0
   repeat' first | (with_reducible first | exact LeO.refl _ | exact LeO.none _ | refine LeO.ite ?_ ?_ | refine LeO.bind ?_ (fun _ => ?_) | exact ih0 _ _ _ _ _ _ _ _ _ | exact impl_Interleave.mono _ _ _ _ _)
theorem impl_Conflict.mono : ∀ a0 a1 a2 a3 a4 a5 a6 a7 k, LeO (impl_Conflict.f k a0 a1 a2 a3 a4 a5 a6 a7) (impl_Conflict.f (k + 1) a0 a1 a2 a3 a4 a5 a6 a7) := by
 intro a0 a1 a2 a3 a4 a5 a6 a7 k
 have ih0 := impl_Conflict.mono_l k
 unfold impl_Conflict.f
 repeat' first | (with_reducible first | exact LeO.refl _ | exact LeO.none _ | refine LeO.ite ?_ ?_ | refine LeO.bind ?_ (fun _ => ?_) | exact ih0 _ _ _ _ _ _ _ _ _ | exact impl_Interleave.mono _ _ _ _ _)
def impl_Conflict.T7 : Bool × List (List Nat × List Nat) := (true, [([], []), ([0], [0]), ([], []), ([2], [2]), ([1, 3], [1, 3]), ([4], [4]), ([5], [5]), ([6, 5], [5, 6]), ([5], [5]), ([8, 5], [5, 8]), ([7, 9, 5], [5, 7, 9]), ([5, 10], [5, 10]), ([11, 5], [11]), ([12], [12]), ([13, 12], [12, 13]), ([14, 12, 12], [12, 14]), ([12], [12]), ([16, 12], [12, 16]), ([17, 15, 12], [12, 17]), ([12], [12]), ([19, 12], [12, 19]), ([20, 18, 12], [12, 20]), ([12], [12]), ([22, 12], [12, 22]), ([23, 21, 12], [12, 23]), ([15, 18, 21, 24, 24, 12], [12, 15, 18, 21, 24]), ([12, 25], [12, 25]), ([26, 25, 0, 1, 2, 3, 4, 5, 6, 7, 8, 9, 10, 11, 12, 13, 14, 15, 16, 17, 18, 19, 20, 21, 22, 23, 24, 25, 26], [26])])
def impl_Conflict.B7 : List Nat := [0, 1, 0, 4, 15, 31, 63, 127, 63, 319, 1023, 2047, 4095, 8191, 16383, 32767, 8191, 73727, 262143, 8191, 532479, 2097151, 8191, 4202495, 16777215, 33554431, 67108863, 134217727]
theorem impl_Conflict.tab7 : rtab .any (opsOf Try.f133 7) = impl_Conflict.T7 := by kernel_rfl
theorem impl_Conflict.bits7 : waitsOk impl_Conflict.T7.2 impl_Conflict.B7 = true := by kernel_rfl
set_option maxHeartbeats 8000000 in
set_option maxRecDepth 100000 in
theorem impl_Conflict.calls (k : Nat) (a0_0 : Int) (a0_1 : Int) (a0_2 : Int) (a0_3 : Int) (a1_0 : Int) (a1_1 : Int) (a1_2 : Int) (a1_3 : Int) (r : Bool) (w : World) (h : impl_Conflict.f k a0_0 a0_1 a0_2 a0_3 a1_0 a1_1 a1_2 a1_3 = some r) :
  Calls Try.prog 133 #[.agg #[.int .i64 a0_0, .int .i64 a0_1, .int .i64 a0_2, .int .i64 a0_3], .agg #[.int .i64 a1_0, .int .i64 a1_1, .int .i64 a1_2, .int .i64 a1_3]] w fun e w' => e = .returned (.bool r) ∧ Below w.heap.size w w' := by
 have hu89 := Try.underlying89
 have HB := Aside0.mk (Below.refl w.heap.size w)
 have H : ((impl_IsPath.f a0_0 a0_1 a0_2 a0_3).bind fun t293 => (if t293 = true then ((impl_IsPath.f a1_0 a1_1 a1_2 a1_3).bind fun t294 => (if t294 = true then (if a0_1 = 2 then (impl_Conflict.j0 k (a1_1 == 2) a0_0 a0_1 a0_2 a0_3 a1_0 a1_1 a1_2 a1_3) else (impl_Conflict.j0 k false a0_0 a0_1 a0_2 a0_3 a1_0 a1_1 a1_2 a1_3)) else (impl_Conflict.j0 k true a0_0 a0_1 a0_2 a0_3 a1_0 a1_1 a1_2 a1_3))) else (impl_Conflict.j0 k true a0_0 a0_1 a0_2 a0_3 a1_0 a1_1 a1_2 a1_3))) = some r := h
 clear h
 have HC3 := Aside0.mk H
 clear H
 go_enter Try.func133, Try.ntmps133
 go_upto_region 1 with (first | ((with_reducible refine gate_dst (N := 2) rfl ?_); refine bE (N := 2) (cs := #[.int .i64 a0_0, .int .i64 a0_1, .int .i64 a0_2, .int .i64 a0_3]) (t := 89) ?_; intro gb291 hg w4 hbox hb; have n0_ := Aside0.mk (below_step bA hb); have n1_ := Aside0.mk (hbox); have n2_ := Aside0.mk ((by rw [hg]; exact (below_size bA) : w.heap.size ≤ gb291)); have n3_ := Aside0.mk ((by rw [hg]; exact (below_size bA) : w.heap.size ≤ gb291)); clear HB; have HB := n0_; have BK291 := n1_; have GW291 := n2_; have GE291 := n3_; clear n0_ n1_ n2_ n3_; clear hb hbox hg) | ((with_reducible refine gate_dst (N := 3) rfl ?_); refine bE (N := 3) (cs := #[.int .i64 a1_0, .int .i64 a1_1, .int .i64 a1_2, .int .i64 a1_3]) (t := 89) ?_; intro gb292 hg w5 hbox hb; have n0_ := Aside0.mk (blk_below (g := gb291) (bK BK291) hb); have n1_ := Aside0.mk (below_step bG hb); have n2_ := Aside0.mk (hbox); have n3_ := Aside0.mk ((by rw [hg]; exact (below_size bG) : w.heap.size ≤ gb292)); have n4_ := Aside0.mk ((by rw [hg]; exact (below_size bG) : w.heap.size ≤ gb292)); have n5_ := Aside0.mk ((by rw [hg]; exact Nat.ne_of_lt (blk_lt (g := gb291) (o := .cells #[.int .i64 a0_0, .int .i64 a0_1, .int .i64 a0_2, .int .i64 a0_3] 89 (0, 0)) (bK BK291)) : gb291 ≠ gb292)); have n6_ := Aside0.mk ((by rw [hg]; exact Nat.ne_of_gt (blk_lt (g := gb291) (o := .cells #[.int .i64 a0_0, .int .i64 a0_1, .int .i64 a0_2, .int .i64 a0_3] 89 (0, 0)) (bK BK291)) : gb292 ≠ gb291)); clear BK291; clear HB; have BK291 := n0_; have HB := n1_; have BK292 := n2_; have GW292 := n3_; have GE292 := n4_; have NB291_292 := n5_; have NB292_291 := n6_; clear n0_ n1_ n2_ n3_ n4_ n5_ n6_; clear hb hbox hg))
 (try simp only [Act.put, List.setIfInBounds_toArray, List.set_cons_zero, List.set_cons_succ])
 go_cut [22] (fun v22 wc => ∃ (kq : Nat) (x22_2 : Bool), v22 = .bool x22_2 ∧ Aside0 (impl_Conflict.j0 kq x22_2 a0_0 a0_1 a0_2 a0_3 a1_0 a1_1 a1_2 a1_3 = some r) ∧ Aside0 (kq ≤ k) ∧ Aside0 (wc.heap[gb291]? = some (.cells #[.int .i64 a0_0, .int .i64 a0_1, .int .i64 a0_2, .int .i64 a0_3] 89 (0, 0))) ∧ Aside0 (wc.heap[gb292]? = some (.cells #[.int .i64 a1_0, .int .i64 a1_1, .int .i64 a1_2, .int .i64 a1_3] 89 (0, 0))) ∧ Aside0 (Below w.heap.size w wc))
 case first =>
  have H := HC3.out
  clear HC3
  obtain ⟨t293, A6, H⟩ := bindE H
  try dsimp only at H
  by_cases c7 : t293 = true
  ·
   subst c7
   have H1 : ((impl_IsPath.f a1_0 a1_1 a1_2 a1_3).bind fun t294 => (if t294 = true then (if a0_1 = 2 then (impl_Conflict.j0 k (a1_1 == 2) a0_0 a0_1 a0_2 a0_3 a1_0 a1_1 a1_2 a1_3) else (impl_Conflict.j0 k false a0_0 a0_1 a0_2 a0_3 a1_0 a1_1 a1_2 a1_3)) else (impl_Conflict.j0 k true a0_0 a0_1 a0_2 a0_3 a1_0 a1_1 a1_2 a1_3))) = some r := by rw [if_pos rfl] at H; exact H
   clear H
   have H := H1
   clear H1
   obtain ⟨t294, A8, H⟩ := bindE H
   try dsimp only at H
   by_cases c9 : t294 = true
   ·
    subst c9
    have H1 : (if a0_1 = 2 then (impl_Conflict.j0 k (a1_1 == 2) a0_0 a0_1 a0_2 a0_3 a1_0 a1_1 a1_2 a1_3) else (impl_Conflict.j0 k false a0_0 a0_1 a0_2 a0_3 a1_0 a1_1 a1_2 a1_3)) = some r := by rw [if_pos rfl] at H; exact H
    clear H
    have H := H1
    clear H1
    by_cases c10 : a0_1 = 2
    ·
     rw [if_pos c10] at H
     have c10b0 : (a0_1 == 2) = true := beq_iff_eq.mpr c10
     have c10b1 : (a0_1 != 2) = false := bne_eq_false_iff_eq.mpr c10
     clear c10
     (first | rw [c10b0] | (simp only [i64_w, i32_w]; rw [c10b0]) | skip)
     have H' := Aside0.mk H
     clear H
     have hnb11 := NB291_292.out
     have hnc11 := NB292_291.out
     obtain ⟨hcz12_0, hcz12_1, hcz12_2, hcz12_3, hfz12_0, hfz12_1, hfz12_2, hfz12_3⟩ := blkc4 BK291
     go_wp2_with (first | ((with_reducible refine gate_callee (f := 146) rfl ?_); refine gL (some 6) Try.func146 #[.agg #[.int .i64 a0_0, .int .i64 a0_1, .int .i64 a0_2, .int .i64 a0_3]] ?_; (with_reducible refine (impl_IsPath.calls a0_0 a0_1 a0_2 a0_3 true _ A6.out).mono ?_); rintro e w13 ⟨rfl, hb⟩; refine ⟨_, rfl, ?_⟩; replace BK291 := Aside0.mk (blk_below (g := gb291) (bK BK291) hb); replace BK292 := Aside0.mk (blk_below (g := gb292) (bK BK292) hb); replace HB := Aside0.mk (below_step bG hb); (try clear hb); have hcz14_0 : w13.cell? ⟨gb292, 0, none⟩ = some (.int .i64 a1_0) := bC BK292 0; have hcz14_1 : w13.cell? ⟨gb292, 1, none⟩ = some (.int .i64 a1_1) := bC BK292 1; have hcz14_2 : w13.cell? ⟨gb292, 2, none⟩ = some (.int .i64 a1_2) := bC BK292 2; have hcz14_3 : w13.cell? ⟨gb292, 3, none⟩ = some (.int .i64 a1_3) := bC BK292 3; have hfz14_0 := blk_frozen BK292.out 0; have hfz14_1 := blk_frozen BK292.out 1; have hfz14_2 := blk_frozen BK292.out 2; have hfz14_3 := blk_frozen BK292.out 3) | (go_at_call 146; (with_reducible refine (impl_IsPath.calls a1_0 a1_1 a1_2 a1_3 true _ A8.out).mono ?_); rintro e w15 ⟨rfl, hb⟩; replace BK291 := Aside0.mk (blk_below (g := gb291) (bK BK291) hb); replace BK292 := Aside0.mk (blk_below (g := gb292) (bK BK292) hb); replace HB := Aside0.mk (below_step bG hb); (try clear hb); obtain ⟨hcz16_0, hcz16_1, hcz16_2, hcz16_3, hfz16_0, hfz16_1, hfz16_2, hfz16_3⟩ := blkc4 BK291; obtain ⟨hcz17_0, hcz17_1, hcz17_2, hcz17_3, hfz17_0, hfz17_1, hfz17_2, hfz17_3⟩ := blkc4 BK292))
     go_meet
     case rel => exact ⟨_, ((a1_1 == 2)), rS, H', ⟨by first | omega | exact Nat.le_refl _⟩, ⟨bK BK291⟩, ⟨bK BK292⟩, ⟨bG⟩⟩
    ·
     rw [if_neg c10] at H
     have c10b0 : (a0_1 == 2) = false := beq_eq_false_iff_ne.mpr c10
     have c10b1 : (a0_1 != 2) = true := bne_iff_ne.mpr c10
     (first | rw [c10b0] | (simp only [i64_w, i32_w]; rw [c10b0]) | skip)
     have H' := Aside0.mk H
     clear H
     have hnb18 := NB291_292.out
     have hnc18 := NB292_291.out
     obtain ⟨hcz19_0, hcz19_1, hcz19_2, hcz19_3, hfz19_0, hfz19_1, hfz19_2, hfz19_3⟩ := blkc4 BK291
     go_wp2_with (first | ((with_reducible refine gate_callee (f := 146) rfl ?_); refine gL (some 6) Try.func146 #[.agg #[.int .i64 a0_0, .int .i64 a0_1, .int .i64 a0_2, .int .i64 a0_3]] ?_; (with_reducible refine (impl_IsPath.calls a0_0 a0_1 a0_2 a0_3 true _ A6.out).mono ?_); rintro e w20 ⟨rfl, hb⟩; refine ⟨_, rfl, ?_⟩; replace BK291 := Aside0.mk (blk_below (g := gb291) (bK BK291) hb); replace BK292 := Aside0.mk (blk_below (g := gb292) (bK BK292) hb); replace HB := Aside0.mk (below_step bG hb); (try clear hb); have hcz21_0 : w20.cell? ⟨gb292, 0, none⟩ = some (.int .i64 a1_0) := bC BK292 0; have hcz21_1 : w20.cell? ⟨gb292, 1, none⟩ = some (.int .i64 a1_1) := bC BK292 1; have hcz21_2 : w20.cell? ⟨gb292, 2, none⟩ = some (.int .i64 a1_2) := bC BK292 2; have hcz21_3 : w20.cell? ⟨gb292, 3, none⟩ = some (.int .i64 a1_3) := bC BK292 3; have hfz21_0 := blk_frozen BK292.out 0; have hfz21_1 := blk_frozen BK292.out 1; have hfz21_2 := blk_frozen BK292.out 2; have hfz21_3 := blk_frozen BK292.out 3) | (go_at_call 146; (with_reducible refine (impl_IsPath.calls a1_0 a1_1 a1_2 a1_3 true _ A8.out).mono ?_); rintro e w22 ⟨rfl, hb⟩; replace BK291 := Aside0.mk (blk_below (g := gb291) (bK BK291) hb); replace BK292 := Aside0.mk (blk_below (g := gb292) (bK BK292) hb); replace HB := Aside0.mk (below_step bG hb); (try clear hb); obtain ⟨hcz23_0, hcz23_1, hcz23_2, hcz23_3, hfz23_0, hfz23_1, hfz23_2, hfz23_3⟩ := blkc4 BK291))
     go_meet
     case rel => exact ⟨_, (false), rS, H', ⟨by first | omega | exact Nat.le_refl _⟩, ⟨bK BK291⟩, ⟨bK BK292⟩, ⟨bG⟩⟩
   ·
    replace c9 := Bool.eq_false_iff.mpr c9
    subst c9
    have H1 : (impl_Conflict.j0 k true a0_0 a0_1 a0_2 a0_3 a1_0 a1_1 a1_2 a1_3) = some r := by rw [if_neg (show ¬ (false = true) by decide)] at H; exact H
    clear H
    have H := H1
    clear H1
    have H' := Aside0.mk H
    clear H
    have hnb24 := NB291_292.out
    have hnc24 := NB292_291.out
    obtain ⟨hcz25_0, hcz25_1, hcz25_2, hcz25_3, hfz25_0, hfz25_1, hfz25_2, hfz25_3⟩ := blkc4 BK291
    go_wp2_with (first | ((with_reducible refine gate_callee (f := 146) rfl ?_); refine gL (some 6) Try.func146 #[.agg #[.int .i64 a0_0, .int .i64 a0_1, .int .i64 a0_2, .int .i64 a0_3]] ?_; (with_reducible refine (impl_IsPath.calls a0_0 a0_1 a0_2 a0_3 true _ A6.out).mono ?_); rintro e w26 ⟨rfl, hb⟩; refine ⟨_, rfl, ?_⟩; replace BK291 := Aside0.mk (blk_below (g := gb291) (bK BK291) hb); replace BK292 := Aside0.mk (blk_below (g := gb292) (bK BK292) hb); replace HB := Aside0.mk (below_step bG hb); (try clear hb); have hcz27_0 : w26.cell? ⟨gb292, 0, none⟩ = some (.int .i64 a1_0) := bC BK292 0; have hcz27_1 : w26.cell? ⟨gb292, 1, none⟩ = some (.int .i64 a1_1) := bC BK292 1; have hcz27_2 : w26.cell? ⟨gb292, 2, none⟩ = some (.int .i64 a1_2) := bC BK292 2; have hcz27_3 : w26.cell? ⟨gb292, 3, none⟩ = some (.int .i64 a1_3) := bC BK292 3; have hfz27_0 := blk_frozen BK292.out 0; have hfz27_1 := blk_frozen BK292.out 1; have hfz27_2 := blk_frozen BK292.out 2; have hfz27_3 := blk_frozen BK292.out 3) | (go_at_call 146; (with_reducible refine (impl_IsPath.calls a1_0 a1_1 a1_2 a1_3 false _ A8.out).mono ?_); rintro e w28 ⟨rfl, hb⟩; replace BK291 := Aside0.mk (blk_below (g := gb291) (bK BK291) hb); replace BK292 := Aside0.mk (blk_below (g := gb292) (bK BK292) hb); replace HB := Aside0.mk (below_step bG hb); (try clear hb)))
    go_meet
    case rel => exact ⟨_, (true), rS, H', ⟨by first | omega | exact Nat.le_refl _⟩, ⟨bK BK291⟩, ⟨bK BK292⟩, ⟨bG⟩⟩
  ·
   replace c7 := Bool.eq_false_iff.mpr c7
   subst c7
   have H1 : (impl_Conflict.j0 k true a0_0 a0_1 a0_2 a0_3 a1_0 a1_1 a1_2 a1_3) = some r := by rw [if_neg (show ¬ (false = true) by decide)] at H; exact H
   clear H
   have H := H1
   clear H1
   have H' := Aside0.mk H
   clear H
   have hnb29 := NB291_292.out
   have hnc29 := NB292_291.out
   obtain ⟨hcz30_0, hcz30_1, hcz30_2, hcz30_3, hfz30_0, hfz30_1, hfz30_2, hfz30_3⟩ := blkc4 BK291
   go_wp2_with (first | ((with_reducible refine gate_callee (f := 146) rfl ?_); refine gL (some 6) Try.func146 #[.agg #[.int .i64 a0_0, .int .i64 a0_1, .int .i64 a0_2, .int .i64 a0_3]] ?_; (with_reducible refine (impl_IsPath.calls a0_0 a0_1 a0_2 a0_3 false _ A6.out).mono ?_); rintro e w31 ⟨rfl, hb⟩; refine ⟨_, rfl, ?_⟩; replace BK291 := Aside0.mk (blk_below (g := gb291) (bK BK291) hb); replace BK292 := Aside0.mk (blk_below (g := gb292) (bK BK292) hb); replace HB := Aside0.mk (below_step bG hb); (try clear hb)))
   go_meet
   case rel => exact ⟨_, (true), rS, H', ⟨by first | omega | exact Nat.le_refl _⟩, ⟨bK BK291⟩, ⟨bK BK292⟩, ⟨bG⟩⟩
 case rest =>
  clear HC3
  try clear c1
  try clear c2
  try clear p2
  try clear c7
  try clear c9
  try clear c10
  try clear c10b0
  try clear c10b1
  try clear c11
  try clear c13
  try clear c14
  try clear c18
  try clear c24
  try clear c29
  try clear hcz12_0
  try clear hcz12_1
  try clear hcz12_2
  try clear hcz12_3
  try clear hcz14_0
  try clear hcz14_1
  try clear hcz14_2
  try clear hcz14_3
  try clear hcz16_0
  try clear hcz16_1
  try clear hcz16_2
  try clear hcz16_3
  try clear hcz17_0
  try clear hcz17_1
  try clear hcz17_2
  try clear hcz17_3
  try clear hcz19_0
  try clear hcz19_1
  try clear hcz19_2
  try clear hcz19_3
  try clear hcz21_0
  try clear hcz21_1
  try clear hcz21_2
  try clear hcz21_3
  try clear hcz23_0
  try clear hcz23_1
  try clear hcz23_2
  try clear hcz23_3
  try clear hcz25_0
  try clear hcz25_1
  try clear hcz25_2
  try clear hcz25_3
  try clear hcz27_0
  try clear hcz27_1
  try clear hcz27_2
  try clear hcz27_3
  try clear hcz30_0
  try clear hcz30_1
  try clear hcz30_2
  try clear hcz30_3
  try clear hfz12_0
  try clear hfz12_1
  try clear hfz12_2
  try clear hfz12_3
  try clear hfz14_0
  try clear hfz14_1
  try clear hfz14_2
  try clear hfz14_3
  try clear hfz16_0
  try clear hfz16_1
  try clear hfz16_2
  try clear hfz16_3
  try clear hfz17_0
  try clear hfz17_1
  try clear hfz17_2
  try clear hfz17_3
  try clear hfz19_0
  try clear hfz19_1
  try clear hfz19_2
  try clear hfz19_3
  try clear hfz21_0
  try clear hfz21_1
  try clear hfz21_2
  try clear hfz21_3
  try clear hfz23_0
  try clear hfz23_1
  try clear hfz23_2
  try clear hfz23_3
  try clear hfz25_0
  try clear hfz25_1
  try clear hfz25_2
  try clear hfz25_3
  try clear hfz27_0
  try clear hfz27_1
  try clear hfz27_2
  try clear hfz27_3
  try clear hfz30_0
  try clear hfz30_1
  try clear hfz30_2
  try clear hfz30_3
  obtain ⟨kq, x22_2, rfl, HA, HJ2, BK291, BK292, HB⟩ := hcut
  cases kq with
  | zero => exact absurd HA.out (by simp [impl_Conflict.j0])
  | succ kj2 =>
   have H := HA.out
   clear HA
   simp only [impl_Conflict.j0] at H
   by_cases c32 : x22_2 = true
   ·
    subst c32
    have H1 : (some false) = some r := by rw [if_pos rfl] at H; exact H
    clear H
    have H := H1
    clear H1
    obtain rfl := Option.some.inj H
    go_wp2
    go_ret
    exact ⟨rA, bG⟩
   ·
    replace c32 := Bool.eq_false_iff.mpr c32
    subst c32
    have H1 : (if a0_1 = 2 then (if a1_2 = a0_2 then (some true) else (some (a1_3 == a0_2))) else (if a1_1 = 2 then (if a0_2 = a1_2 then (some true) else (some (a0_3 == a1_2))) else (if a0_2 = a1_2 then ((impl_InPlace.f a0_2).bind fun t295 => ((impl_OutPlace.f a0_3).bind fun t296 => ((impl_InPlace.f a1_2).bind fun t297 => ((impl_OutPlace.f a1_3).bind fun t298 => ((impl_Interleave.f kj2 t295 t296 t297 t298).bind fun t299 => (some t299)))))) else (if a0_3 = a1_3 then (some true) else ((impl_InPlace.f a0_2).bind fun t300 => ((impl_OutPlace.f a0_3).bind fun t301 => ((impl_InPlace.f a1_2).bind fun t302 => ((impl_OutPlace.f a1_3).bind fun t303 => ((impl_Interleave.f kj2 t300 t301 t302 t303).bind fun t304 => (some t304)))))))))) = some r := by rw [if_neg (show ¬ (false = true) by decide)] at H; exact H
    clear H
    have H := H1
    clear H1
    by_cases c33 : a0_1 = 2
    ·
     rw [if_pos c33] at H
     have c33b0 : (a0_1 == 2) = true := beq_iff_eq.mpr c33
     have c33b1 : (a0_1 != 2) = false := bne_eq_false_iff_eq.mpr c33
     clear c33
     by_cases c34 : a1_2 = a0_2
     ·
      rw [if_pos c34] at H
      have c34b0 : (a1_2 == a0_2) = true := beq_iff_eq.mpr c34
      have c34b1 : (a1_2 != a0_2) = false := bne_eq_false_iff_eq.mpr c34
      clear c34
      obtain rfl := Option.some.inj H
      have hnb35 := NB291_292.out
      have hnc35 := NB292_291.out
      obtain ⟨hcz36_0, hcz36_1, hcz36_2, hcz36_3, hfz36_0, hfz36_1, hfz36_2, hfz36_3⟩ := blkc4 BK291
      obtain ⟨hcz37_0, hcz37_1, hcz37_2, hcz37_3, hfz37_0, hfz37_1, hfz37_2, hfz37_3⟩ := blkc4 BK292
      go_wp2
      go_ret
      exact ⟨rA, bG⟩
     ·
      rw [if_neg c34] at H
      have c34b0 : (a1_2 == a0_2) = false := beq_eq_false_iff_ne.mpr c34
      have c34b1 : (a1_2 != a0_2) = true := bne_iff_ne.mpr c34
      obtain rfl := Option.some.inj H
      have hnb38 := NB291_292.out
      have hnc38 := NB292_291.out
      obtain ⟨hcz39_0, hcz39_1, hcz39_2, hcz39_3, hfz39_0, hfz39_1, hfz39_2, hfz39_3⟩ := blkc4 BK291
      obtain ⟨hcz40_0, hcz40_1, hcz40_2, hcz40_3, hfz40_0, hfz40_1, hfz40_2, hfz40_3⟩ := blkc4 BK292
      go_wp2
      go_ret
      exact ⟨rA, bG⟩
    ·
     rw [if_neg c33] at H
     have c33b0 : (a0_1 == 2) = false := beq_eq_false_iff_ne.mpr c33
     have c33b1 : (a0_1 != 2) = true := bne_iff_ne.mpr c33
     by_cases c41 : a1_1 = 2
     ·
      rw [if_pos c41] at H
      have c41b0 : (a1_1 == 2) = true := beq_iff_eq.mpr c41
      have c41b1 : (a1_1 != 2) = false := bne_eq_false_iff_eq.mpr c41
      clear c41
      by_cases c42 : a0_2 = a1_2
      ·
       rw [if_pos c42] at H
       have c42b0 : (a0_2 == a1_2) = true := beq_iff_eq.mpr c42
       have c42b1 : (a0_2 != a1_2) = false := bne_eq_false_iff_eq.mpr c42
       clear c42
       obtain rfl := Option.some.inj H
       have hnb43 := NB291_292.out
       have hnc43 := NB292_291.out
       obtain ⟨hcz44_0, hcz44_1, hcz44_2, hcz44_3, hfz44_0, hfz44_1, hfz44_2, hfz44_3⟩ := blkc4 BK291
       obtain ⟨hcz45_0, hcz45_1, hcz45_2, hcz45_3, hfz45_0, hfz45_1, hfz45_2, hfz45_3⟩ := blkc4 BK292
       go_wp2
       go_ret
       exact ⟨rA, bG⟩
      ·
       rw [if_neg c42] at H
       have c42b0 : (a0_2 == a1_2) = false := beq_eq_false_iff_ne.mpr c42
       have c42b1 : (a0_2 != a1_2) = true := bne_iff_ne.mpr c42
       obtain rfl := Option.some.inj H
       have hnb46 := NB291_292.out
       have hnc46 := NB292_291.out
       obtain ⟨hcz47_0, hcz47_1, hcz47_2, hcz47_3, hfz47_0, hfz47_1, hfz47_2, hfz47_3⟩ := blkc4 BK291
       obtain ⟨hcz48_0, hcz48_1, hcz48_2, hcz48_3, hfz48_0, hfz48_1, hfz48_2, hfz48_3⟩ := blkc4 BK292
       go_wp2
       go_ret
       exact ⟨rA, bG⟩
     ·
      rw [if_neg c41] at H
      have c41b0 : (a1_1 == 2) = false := beq_eq_false_iff_ne.mpr c41
      have c41b1 : (a1_1 != 2) = true := bne_iff_ne.mpr c41
      by_cases c49 : a0_2 = a1_2
      ·
       rw [if_pos c49] at H
       have c49b0 : (a0_2 == a1_2) = true := beq_iff_eq.mpr c49
       have c49b1 : (a0_2 != a1_2) = false := bne_eq_false_iff_eq.mpr c49
       clear c49
       obtain ⟨t295, A50, H⟩ := bindE H
       try dsimp only at H
       obtain ⟨t296, A51, H⟩ := bindE H
       try dsimp only at H
       obtain ⟨t297, A52, H⟩ := bindE H
       try dsimp only at H
       obtain ⟨t298, A53, H⟩ := bindE H
       try dsimp only at H
       obtain ⟨t299, A54, H⟩ := bindE H
       try dsimp only at H
       obtain rfl := Option.some.inj H
       have hnb55 := NB291_292.out
       have hnc55 := NB292_291.out
       obtain ⟨hcz56_0, hcz56_1, hcz56_2, hcz56_3, hfz56_0, hfz56_1, hfz56_2, hfz56_3⟩ := blkc4 BK291
       obtain ⟨hcz57_0, hcz57_1, hcz57_2, hcz57_3, hfz57_0, hfz57_1, hfz57_2, hfz57_3⟩ := blkc4 BK292
       try go_wp2
       replace BK291 := Aside0.mk (blk_drew BK291.out)
       replace BK292 := Aside0.mk (blk_drew BK292.out)
       have HBo := HB
       replace HB := Aside0.mk (below_drew1 HB.out)
       refine start_ (n := 28) (S := fun w' => w'.cell? ⟨gb291, 0, none⟩ = some (.int .i64 a0_0) ∧ w'.cell? ⟨gb291, 1, none⟩ = some (.int .i64 a0_1) ∧ w'.cell? ⟨gb291, 2, none⟩ = some (.int .i64 a0_2) ∧ w'.cell? ⟨gb291, 3, none⟩ = some (.int .i64 a0_3) ∧ w'.cell? ⟨gb292, 0, none⟩ = some (.int .i64 a1_0) ∧ w'.cell? ⟨gb292, 1, none⟩ = some (.int .i64 a1_1) ∧ w'.cell? ⟨gb292, 2, none⟩ = some (.int .i64 a1_2) ∧ w'.cell? ⟨gb292, 3, none⟩ = some (.int .i64 a1_3)) (ds := []) (mb 28 0) (by kernel_rfl) rfl rfl ⟨bC BK291 0, bC BK291 1, bC BK291 2, bC BK291 3, bC BK292 0, bC BK292 1, bC BK292 2, bC BK292 3⟩ (fun hHeld => ?_); refine with_tabW impl_Conflict.tab7 impl_Conflict.bits7 (fun HT_ HW_ => ?_)
       generalize wc.drew = w58 at BK291 BK292 HB hHeld ⊢
       refine pA (i := 0) (N := some 53) (mb 28 1) HT_ ?_
       refine pA (i := 2) (N := some 55) (mb 28 5) HT_ ?_
       refine tA8 (i := 1) (N := some 54) (mb 28 7) HT_ HW_ hHeld ?_
       refine tA8 (i := 3) (N := some 56) (mb 28 15) HT_ HW_ hHeld ?_
       refine pA (i := 4) (N := some 57) (mb 28 31) HT_ ?_
       refine pA (i := 5) (N := some 58) (mb 28 63) HT_ ?_
       refine pU (i := 6) (N := some 59) (mb 28 127) HT_ ?_
       refine pU (i := 7) (N := some 60) (mb 28 255) HT_ ?_
       refine pU (i := 8) (N := some 61) (mb 28 511) HT_ ?_
       refine pU (i := 9) (N := some 62) (mb 28 1023) HT_ ?_
       refine pU (i := 10) (N := some 63) (mb 28 2047) HT_ ?_
       refine pA (i := 11) (N := some 64) (mb 28 4095) HT_ ?_
       refine pA (i := 12) (N := some 65) (mb 28 8191) HT_ ?_
       refine pA (i := 13) (N := some 66) (mb 28 16383) HT_ ?_
       refine pA (i := 16) (N := some 69) (mb 28 81919) HT_ ?_
       refine pA (i := 19) (N := some 72) (mb 28 606207) HT_ ?_
       refine pA (i := 22) (N := some 75) (mb 28 4800511) HT_ ?_
       refine tA8 (i := 14) (N := some 67) (mb 28 4816895) HT_ HW_ hHeld ?_
       refine tA8 (i := 17) (N := some 70) (mb 28 4947967) HT_ HW_ hHeld ?_
       refine tA8 (i := 20) (N := some 73) (mb 28 5996543) HT_ HW_ hHeld ?_
       refine tA8 (i := 23) (N := some 76) (mb 28 14385151) HT_ HW_ hHeld ?_
       refine oA (i := 15) (N := some 68) (mb 28 14417919) HT_ (fun K hK => ?_)
       refine gA Try.func153 #[.int .i64 a0_2] ?_
       with_reducible refine (impl_InPlace.calls a0_2 t295 _ A50.out).mono ?_
       rintro e w' ⟨rfl, ⟨nd, rfl⟩⟩
       refine ⟨_, rfl, ?_⟩
       refine hK.out _ _ ⟨bC BK291 0, bC BK291 1, bC BK291 2, bC BK291 3, bC BK292 0, bC BK292 1, bC BK292 2, bC BK292 3⟩ (fun hHeld => ?_)
       clear hK K
       refine nB ?_
       refine oA (i := 18) (N := some 71) (mb 28 14680063) HT_ (fun K hK => ?_)
       refine gA Try.func154 #[.int .i64 a0_3] ?_
       with_reducible refine (impl_OutPlace.calls a0_3 t296 _ A51.out).mono ?_
       rintro e w' ⟨rfl, ⟨nd, rfl⟩⟩
       refine ⟨_, rfl, ?_⟩
       refine hK.out _ _ ⟨bC BK291 0, bC BK291 1, bC BK291 2, bC BK291 3, bC BK292 0, bC BK292 1, bC BK292 2, bC BK292 3⟩ (fun hHeld => ?_)
       clear hK K
       refine nB ?_
       refine oA (i := 21) (N := some 74) (mb 28 16777215) HT_ (fun K hK => ?_)
       refine gA Try.func153 #[.int .i64 a1_2] ?_
       with_reducible refine (impl_InPlace.calls a1_2 t297 _ A52.out).mono ?_
       rintro e w' ⟨rfl, ⟨nd, rfl⟩⟩
       refine ⟨_, rfl, ?_⟩
       refine hK.out _ _ ⟨bC BK291 0, bC BK291 1, bC BK291 2, bC BK291 3, bC BK292 0, bC BK292 1, bC BK292 2, bC BK292 3⟩ (fun hHeld => ?_)
       clear hK K
       refine nB ?_
       refine oA (i := 24) (N := some 77) (mb 28 33554431) HT_ (fun K hK => ?_)
       refine gA Try.func154 #[.int .i64 a1_3] ?_
       with_reducible refine (impl_OutPlace.calls a1_3 t298 _ A53.out).mono ?_
       rintro e w' ⟨rfl, ⟨nd, rfl⟩⟩
       refine ⟨_, rfl, ?_⟩
       refine hK.out _ _ ⟨bC BK291 0, bC BK291 1, bC BK291 2, bC BK291 3, bC BK292 0, bC BK292 1, bC BK292 2, bC BK292 3⟩ (fun hHeld => ?_)
       clear hK K
       refine nB ?_
       refine oA (i := 25) (N := some 78) (mb 28 67108863) HT_ (fun K hK => ?_)
       refine gA Try.func152 #[.int .i64 t295, .int .i64 t296, .int .i64 t297, .int .i64 t298] ?_
       with_reducible refine (impl_Interleave.calls kj2 t295 t296 t297 t298 t299 _ A54.out).mono ?_
       rintro e w59 ⟨rfl, hb⟩
       refine ⟨_, rfl, ?_⟩
       replace BK291 := Aside0.mk (blk_below (g := gb291) (bK BK291) hb)
       replace BK292 := Aside0.mk (blk_below (g := gb292) (bK BK292) hb)
       replace HB := Aside0.mk (below_step bG hb)
       (try clear hb)
       (try clear hb2)
       (try clear hk)
       (try clear hi)
       refine hK.out _ _ ⟨bC BK291 0, bC BK291 1, bC BK291 2, bC BK291 3, bC BK292 0, bC BK292 1, bC BK292 2, bC BK292 3⟩ (fun hHeld => ?_)
       clear hK K
       refine nB ?_
       refine pA (i := 26) (N := some 79) (mb 28 134217727) HT_ ?_
       refine pA (i := 27) (N := some 4) (mb 28 268435455) HT_ ?_
       refine eA HT_ ?_
       try go_wp2
       go_ret
       exact ⟨rA, bG⟩
      ·
       rw [if_neg c49] at H
       have c49b0 : (a0_2 == a1_2) = false := beq_eq_false_iff_ne.mpr c49
       have c49b1 : (a0_2 != a1_2) = true := bne_iff_ne.mpr c49
       by_cases c60 : a0_3 = a1_3
       ·
        rw [if_pos c60] at H
        have c60b0 : (a0_3 == a1_3) = true := beq_iff_eq.mpr c60
        have c60b1 : (a0_3 != a1_3) = false := bne_eq_false_iff_eq.mpr c60
        clear c60
        obtain rfl := Option.some.inj H
        have hnb61 := NB291_292.out
        have hnc61 := NB292_291.out
        obtain ⟨hcz62_0, hcz62_1, hcz62_2, hcz62_3, hfz62_0, hfz62_1, hfz62_2, hfz62_3⟩ := blkc4 BK291
        obtain ⟨hcz63_0, hcz63_1, hcz63_2, hcz63_3, hfz63_0, hfz63_1, hfz63_2, hfz63_3⟩ := blkc4 BK292
        try go_wp2
        replace BK291 := Aside0.mk (blk_drew BK291.out)
        replace BK292 := Aside0.mk (blk_drew BK292.out)
        have HBo := HB
        replace HB := Aside0.mk (below_drew1 HB.out)
        refine start_ (n := 28) (S := fun w' => w'.cell? ⟨gb291, 0, none⟩ = some (.int .i64 a0_0) ∧ w'.cell? ⟨gb291, 1, none⟩ = some (.int .i64 a0_1) ∧ w'.cell? ⟨gb291, 2, none⟩ = some (.int .i64 a0_2) ∧ w'.cell? ⟨gb291, 3, none⟩ = some (.int .i64 a0_3) ∧ w'.cell? ⟨gb292, 0, none⟩ = some (.int .i64 a1_0) ∧ w'.cell? ⟨gb292, 1, none⟩ = some (.int .i64 a1_1) ∧ w'.cell? ⟨gb292, 2, none⟩ = some (.int .i64 a1_2) ∧ w'.cell? ⟨gb292, 3, none⟩ = some (.int .i64 a1_3)) (ds := []) (mb 28 0) (by kernel_rfl) rfl rfl ⟨bC BK291 0, bC BK291 1, bC BK291 2, bC BK291 3, bC BK292 0, bC BK292 1, bC BK292 2, bC BK292 3⟩ (fun hHeld => ?_); refine with_tabW impl_Conflict.tab7 impl_Conflict.bits7 (fun HT_ HW_ => ?_)
        generalize wc.drew = w64 at BK291 BK292 HB hHeld ⊢
        refine pA (i := 0) (N := some 53) (mb 28 1) HT_ ?_
        refine pA (i := 2) (N := some 55) (mb 28 5) HT_ ?_
        refine tA8 (i := 1) (N := some 54) (mb 28 7) HT_ HW_ hHeld ?_
        refine tA8 (i := 3) (N := some 56) (mb 28 15) HT_ HW_ hHeld ?_
        refine pA (i := 4) (N := some 57) (mb 28 31) HT_ ?_
        refine pA (i := 5) (N := some 58) (mb 28 63) HT_ ?_
        refine pA (i := 6) (N := some 59) (mb 28 127) HT_ ?_
        refine pA (i := 8) (N := some 61) (mb 28 383) HT_ ?_
        refine tA8 (i := 7) (N := some 60) (mb 28 511) HT_ HW_ hHeld ?_
        refine tA8 (i := 9) (N := some 62) (mb 28 1023) HT_ HW_ hHeld ?_
        refine pA (i := 10) (N := some 63) (mb 28 2047) HT_ ?_
        refine pA (i := 11) (N := some 64) (mb 28 4095) HT_ ?_
        refine pA (i := 12) (N := some 65) (mb 28 8191) HT_ ?_
        refine pU (i := 13) (N := some 66) (mb 28 16383) HT_ ?_
        refine pU (i := 14) (N := some 67) (mb 28 32767) HT_ ?_
        refine pU (i := 15) (N := some 68) (mb 28 65535) HT_ ?_
        refine pU (i := 16) (N := some 69) (mb 28 131071) HT_ ?_
        refine pU (i := 17) (N := some 70) (mb 28 262143) HT_ ?_
        refine pU (i := 18) (N := some 71) (mb 28 524287) HT_ ?_
        refine pU (i := 19) (N := some 72) (mb 28 1048575) HT_ ?_
        refine pU (i := 20) (N := some 73) (mb 28 2097151) HT_ ?_
        refine pU (i := 21) (N := some 74) (mb 28 4194303) HT_ ?_
        refine pU (i := 22) (N := some 75) (mb 28 8388607) HT_ ?_
        refine pU (i := 23) (N := some 76) (mb 28 16777215) HT_ ?_
        refine pU (i := 24) (N := some 77) (mb 28 33554431) HT_ ?_
        refine pU (i := 25) (N := some 78) (mb 28 67108863) HT_ ?_
        refine pA (i := 26) (N := some 79) (mb 28 134217727) HT_ ?_
        refine pA (i := 27) (N := some 4) (mb 28 268435455) HT_ ?_
        refine eA HT_ ?_
        try go_wp2
        go_ret
        exact ⟨rA, bG⟩
       ·
        rw [if_neg c60] at H
        have c60b0 : (a0_3 == a1_3) = false := beq_eq_false_iff_ne.mpr c60
        have c60b1 : (a0_3 != a1_3) = true := bne_iff_ne.mpr c60
        obtain ⟨t300, A65, H⟩ := bindE H
        try dsimp only at H
        obtain ⟨t301, A66, H⟩ := bindE H
        try dsimp only at H
        obtain ⟨t302, A67, H⟩ := bindE H
        try dsimp only at H
        obtain ⟨t303, A68, H⟩ := bindE H
        try dsimp only at H
        obtain ⟨t304, A69, H⟩ := bindE H
        try dsimp only at H
        obtain rfl := Option.some.inj H
        have hnb70 := NB291_292.out
        have hnc70 := NB292_291.out
        obtain ⟨hcz71_0, hcz71_1, hcz71_2, hcz71_3, hfz71_0, hfz71_1, hfz71_2, hfz71_3⟩ := blkc4 BK291
        obtain ⟨hcz72_0, hcz72_1, hcz72_2, hcz72_3, hfz72_0, hfz72_1, hfz72_2, hfz72_3⟩ := blkc4 BK292
        try go_wp2
        replace BK291 := Aside0.mk (blk_drew BK291.out)
        replace BK292 := Aside0.mk (blk_drew BK292.out)
        have HBo := HB
        replace HB := Aside0.mk (below_drew1 HB.out)
        refine start_ (n := 28) (S := fun w' => w'.cell? ⟨gb291, 0, none⟩ = some (.int .i64 a0_0) ∧ w'.cell? ⟨gb291, 1, none⟩ = some (.int .i64 a0_1) ∧ w'.cell? ⟨gb291, 2, none⟩ = some (.int .i64 a0_2) ∧ w'.cell? ⟨gb291, 3, none⟩ = some (.int .i64 a0_3) ∧ w'.cell? ⟨gb292, 0, none⟩ = some (.int .i64 a1_0) ∧ w'.cell? ⟨gb292, 1, none⟩ = some (.int .i64 a1_1) ∧ w'.cell? ⟨gb292, 2, none⟩ = some (.int .i64 a1_2) ∧ w'.cell? ⟨gb292, 3, none⟩ = some (.int .i64 a1_3)) (ds := []) (mb 28 0) (by kernel_rfl) rfl rfl ⟨bC BK291 0, bC BK291 1, bC BK291 2, bC BK291 3, bC BK292 0, bC BK292 1, bC BK292 2, bC BK292 3⟩ (fun hHeld => ?_); refine with_tabW impl_Conflict.tab7 impl_Conflict.bits7 (fun HT_ HW_ => ?_)
        generalize wc.drew = w73 at BK291 BK292 HB hHeld ⊢
        refine pA (i := 0) (N := some 53) (mb 28 1) HT_ ?_
        refine pA (i := 2) (N := some 55) (mb 28 5) HT_ ?_
        refine tA8 (i := 1) (N := some 54) (mb 28 7) HT_ HW_ hHeld ?_
        refine tA8 (i := 3) (N := some 56) (mb 28 15) HT_ HW_ hHeld ?_
        refine pA (i := 4) (N := some 57) (mb 28 31) HT_ ?_
        refine pA (i := 5) (N := some 58) (mb 28 63) HT_ ?_
        refine pA (i := 6) (N := some 59) (mb 28 127) HT_ ?_
        refine pA (i := 8) (N := some 61) (mb 28 383) HT_ ?_
        refine tA8 (i := 7) (N := some 60) (mb 28 511) HT_ HW_ hHeld ?_
        refine tA8 (i := 9) (N := some 62) (mb 28 1023) HT_ HW_ hHeld ?_
        refine pA (i := 10) (N := some 63) (mb 28 2047) HT_ ?_
        refine pA (i := 11) (N := some 64) (mb 28 4095) HT_ ?_
        refine pA (i := 12) (N := some 65) (mb 28 8191) HT_ ?_
        refine pA (i := 13) (N := some 66) (mb 28 16383) HT_ ?_
        refine pA (i := 16) (N := some 69) (mb 28 81919) HT_ ?_
        refine pA (i := 19) (N := some 72) (mb 28 606207) HT_ ?_
        refine pA (i := 22) (N := some 75) (mb 28 4800511) HT_ ?_
        refine tA8 (i := 14) (N := some 67) (mb 28 4816895) HT_ HW_ hHeld ?_
        refine tA8 (i := 17) (N := some 70) (mb 28 4947967) HT_ HW_ hHeld ?_
        refine tA8 (i := 20) (N := some 73) (mb 28 5996543) HT_ HW_ hHeld ?_
        refine tA8 (i := 23) (N := some 76) (mb 28 14385151) HT_ HW_ hHeld ?_
        refine oA (i := 15) (N := some 68) (mb 28 14417919) HT_ (fun K hK => ?_)
        refine gA Try.func153 #[.int .i64 a0_2] ?_
        with_reducible refine (impl_InPlace.calls a0_2 t300 _ A65.out).mono ?_
        rintro e w' ⟨rfl, ⟨nd, rfl⟩⟩
        refine ⟨_, rfl, ?_⟩
        refine hK.out _ _ ⟨bC BK291 0, bC BK291 1, bC BK291 2, bC BK291 3, bC BK292 0, bC BK292 1, bC BK292 2, bC BK292 3⟩ (fun hHeld => ?_)
        clear hK K
        refine nB ?_
        refine oA (i := 18) (N := some 71) (mb 28 14680063) HT_ (fun K hK => ?_)
        refine gA Try.func154 #[.int .i64 a0_3] ?_
        with_reducible refine (impl_OutPlace.calls a0_3 t301 _ A66.out).mono ?_
        rintro e w' ⟨rfl, ⟨nd, rfl⟩⟩
        refine ⟨_, rfl, ?_⟩
        refine hK.out _ _ ⟨bC BK291 0, bC BK291 1, bC BK291 2, bC BK291 3, bC BK292 0, bC BK292 1, bC BK292 2, bC BK292 3⟩ (fun hHeld => ?_)
        clear hK K
        refine nB ?_
        refine oA (i := 21) (N := some 74) (mb 28 16777215) HT_ (fun K hK => ?_)
        refine gA Try.func153 #[.int .i64 a1_2] ?_
        with_reducible refine (impl_InPlace.calls a1_2 t302 _ A67.out).mono ?_
        rintro e w' ⟨rfl, ⟨nd, rfl⟩⟩
        refine ⟨_, rfl, ?_⟩
        refine hK.out _ _ ⟨bC BK291 0, bC BK291 1, bC BK291 2, bC BK291 3, bC BK292 0, bC BK292 1, bC BK292 2, bC BK292 3⟩ (fun hHeld => ?_)
        clear hK K
        refine nB ?_
        refine oA (i := 24) (N := some 77) (mb 28 33554431) HT_ (fun K hK => ?_)
        refine gA Try.func154 #[.int .i64 a1_3] ?_
        with_reducible refine (impl_OutPlace.calls a1_3 t303 _ A68.out).mono ?_
        rintro e w' ⟨rfl, ⟨nd, rfl⟩⟩
        refine ⟨_, rfl, ?_⟩
        refine hK.out _ _ ⟨bC BK291 0, bC BK291 1, bC BK291 2, bC BK291 3, bC BK292 0, bC BK292 1, bC BK292 2, bC BK292 3⟩ (fun hHeld => ?_)
        clear hK K
        refine nB ?_
        refine oA (i := 25) (N := some 78) (mb 28 67108863) HT_ (fun K hK => ?_)
        refine gA Try.func152 #[.int .i64 t300, .int .i64 t301, .int .i64 t302, .int .i64 t303] ?_
        with_reducible refine (impl_Interleave.calls kj2 t300 t301 t302 t303 t304 _ A69.out).mono ?_
        rintro e w74 ⟨rfl, hb⟩
        refine ⟨_, rfl, ?_⟩
        replace BK291 := Aside0.mk (blk_below (g := gb291) (bK BK291) hb)
        replace BK292 := Aside0.mk (blk_below (g := gb292) (bK BK292) hb)
        replace HB := Aside0.mk (below_step bG hb)
        (try clear hb)
        (try clear hb2)
        (try clear hk)
        (try clear hi)
        refine hK.out _ _ ⟨bC BK291 0, bC BK291 1, bC BK291 2, bC BK291 3, bC BK292 0, bC BK292 1, bC BK292 2, bC BK292 3⟩ (fun hHeld => ?_)
        clear hK K
        refine nB ?_
        refine pA (i := 26) (N := some 79) (mb 28 134217727) HT_ ?_
        refine pA (i := 27) (N := some 4) (mb 28 268435455) HT_ ?_
        refine eA HT_ ?_
        try go_wp2
        go_ret
        exact ⟨rA, bG⟩

/-! ### impl_IsTogether: function 87 -/
mutual
def impl_IsTogether.l0 : Nat → List (S89) → List Int → List Int → Int → Int → Option (Bool)
 | 0, _, _, _, _, _ => none
 | k + 1, x0, x1, x13, x14, x15 => if x15 < x14 then (if 0 ≤ x15 then (if x15 < (x13.length : Int) then ((impl_FindPath.f x0 (rd x13 x15)).bind fun t307 => (if t307 < 0 then (impl_IsTogether.j1 k x0 x1 x15 t307 x13 x14 x15 true) else (if x15 > 0 then (if 0 ≤ (wrap64 (x15 - 1)) then (if (wrap64 (x15 - 1)) < (x1.length : Int) then (impl_IsTogether.j1 k x0 x1 x15 t307 x13 x14 x15 (decide ((rd x13 x15) ≤ (rd x1 (wrap64 (x15 - 1)))))) else (none)) else (none)) else (impl_IsTogether.j1 k x0 x1 x15 t307 x13 x14 x15 false)))) else (none)) else (none)) else (some true)
def impl_IsTogether.j1 : Nat → List (S89) → List Int → Int → Int → List Int → Int → Int → Bool → Option (Bool)
 | 0, _, _, _, _, _, _, _, _ => none
 | k + 1, x0, x1, x5, x7, x13, x14, x15, x37 => if x37 = true then (some false) else (if 0 ≤ x5 then (if x5 ≤ (x1.length : Int) then (impl_IsTogether.l1 k x0 x1 x7 x13 x14 x15 (x1.take (x5 : Int).toNat) ((x1.take (x5 : Int).toNat).length : Int) 0) else (none)) else (none))
def impl_IsTogether.l1 : Nat → List (S89) → List Int → Int → List Int → Int → Int → List Int → Int → Int → Option (Bool)
 | 0, _, _, _, _, _, _, _, _, _ => none
 | k + 1, x0, x1, x7, x13, x14, x15, x40, x41, x42 => if x42 < x41 then (if 0 ≤ x42 then (if x42 < (x40.length : Int) then (if 0 ≤ x7 then (if x7 < (x0.length : Int) then ((impl_FindPath.f x0 (rd x40 x42)).bind fun t312 => (if 0 ≤ t312 then (if t312 < (x0.length : Int) then ((impl_Conflict.f k ((rd_T89 x0 x7).f0) ((rd_T89 x0 x7).f1) ((rd_T89 x0 x7).f2) ((rd_T89 x0 x7).f3) ((rd_T89 x0 t312).f0) ((rd_T89 x0 t312).f1) ((rd_T89 x0 t312).f2) ((rd_T89 x0 t312).f3)).bind fun t314 => (if t314 = true then (some false) else (impl_IsTogether.l1 k x0 x1 x7 x13 x14 x15 x40 x41 (wrap64 (x42 + 1))))) else (none)) else (none))) else (none)) else (none)) else (none)) else (none)) else (impl_IsTogether.l0 k x0 x1 x13 x14 (wrap64 (x15 + 1)))
end
def impl_IsTogether.f (k : Nat) (l0 : List (S89)) (l1 : List Int) : Option (Bool) := (impl_ArePaths.f k l0).bind fun t305 => (if t305 = true then (impl_IsTogether.l0 k l0 l1 l1 (l1.length : Int) 0) else (some false))
theorem impl_IsTogether.mono_l : ∀ k, (∀ y0 y1 y2 y3 y4, LeO (impl_IsTogether.l0 k y0 y1 y2 y3 y4) (impl_IsTogether.l0 (k + 1) y0 y1 y2 y3 y4)) ∧ (∀ y0 y1 y2 y3 y4 y5 y6 y7, LeO (impl_IsTogether.j1 k y0 y1 y2 y3 y4 y5 y6 y7) (impl_IsTogether.j1 (k + 1) y0 y1 y2 y3 y4 y5 y6 y7)) ∧ (∀ y0 y1 y2 y3 y4 y5 y6 y7 y8, LeO (impl_IsTogether.l1 k y0 y1 y2 y3 y4 y5 y6 y7 y8) (impl_IsTogether.l1 (k + 1) y0 y1 y2 y3 y4 y5 y6 y7 y8))
 | 0 => ⟨fun _ _ _ _ _ r h => by simp [impl_IsTogether.l0] at h, fun _ _ _ _ _ _ _ _ r h => by simp [impl_IsTogether.j1] at h, fun _ _ _ _ _ _ _ _ _ r h => by simp [impl_IsTogether.l1] at h⟩
 | k + 1 => by
  obtain ⟨ih0, ih1, ih2⟩ := impl_IsTogether.mono_l k
  refine ⟨?_, ?_, ?_⟩
  ·
   intro y0 y1 y2 y3 y4
   unfold impl_IsTogether.l0
   repeat' first | (with_reducible first | exact LeO.refl _ | exact LeO.none _ | refine LeO.ite ?_ ?_ | refine LeO.bind ?_ (fun _ => ?_) | exact ih0 _ _ _ _ _ | exact ih1 _ _ _ _ _ _ _ _ | exact ih2 _ _ _ _ _ _ _ _ _ | exact impl_ArePaths.mono _ _ | exact impl_Conflict.mono _ _ _ _ _ _ _ _ _)
  ·
   intro y0 y1 y2 y3 y4 y5 y6 y7
   unfold impl_IsTogether.j1
   repeat' first | (with_reducible first | exact LeO.refl _ | exact LeO.none _ | refine LeO.ite ?_ ?_ | refine LeO.bind ?_ (fun _ => ?_) | exact ih0 _ _ _ _ _ | exact ih1 _ _ _ _ _ _ _ _ | exact ih2 _ _ _ _ _ _ _ _ _ | exact impl_ArePaths.mono _ _ | exact impl_Conflict.mono _ _ _ _ _ _ _ _ _)
  ·
   intro y0 y1 y2 y3 y4 y5 y6 y7 y8
   unfold impl_IsTogether.l1
   repeat' first | (with_reducible first | exact LeO.refl _ | exact LeO.none _ | refine LeO.ite ?_ ?_ | refine LeO.bind ?_ (fun _ => ?_) | exact ih0 _ _ _ _ _ | exact ih1 _ _ _ _ _ _ _ _ | exact ih2 _ _ _ _ _ _ _ _ _ | exact impl_ArePaths.mono _ _ | exact impl_Conflict.mono _ _ _ _ _ _ _ _ _)
theorem impl_IsTogether.mono : ∀ a0 a1 k, LeO (impl_IsTogether.f k a0 a1) (impl_IsTogether.f (k + 1) a0 a1) := by
 intro a0 a1 k
 obtain ⟨ih0, ih1, ih2⟩ := impl_IsTogether.mono_l k
 unfold impl_IsTogether.f
 repeat' first | (with_reducible first | exact LeO.refl _ | exact LeO.none _ | refine LeO.ite ?_ ?_ | refine LeO.bind ?_ (fun _ => ?_) | exact ih0 _ _ _ _ _ | exact ih1 _ _ _ _ _ _ _ _ | exact ih2 _ _ _ _ _ _ _ _ _ | exact impl_ArePaths.mono _ _ | exact impl_Conflict.mono _ _ _ _ _ _ _ _ _)
def impl_IsTogether.T12 : Bool × List (List Nat × List Nat) := (true, [([], []), ([], []), ([0, 1], [0, 1]), ([2], [2]), ([], []), ([], []), ([], []), ([5, 6], [5, 6]), ([4, 7], [4, 7]), ([8], [8]), ([3, 9, 7], [3, 9])])
def impl_IsTogether.B12 : List Nat := [0, 0, 3, 7, 0, 0, 0, 96, 240, 496, 1023]
theorem impl_IsTogether.tab12 : rtab .any (opsOf Try.f87 12) = impl_IsTogether.T12 := by kernel_rfl
theorem impl_IsTogether.bits12 : waitsOk impl_IsTogether.T12.2 impl_IsTogether.B12 = true := by kernel_rfl
set_option maxHeartbeats 8000000 in
set_option maxRecDepth 100000 in
theorem impl_IsTogether.calls (k : Nat) (A0 : Option Addr) (c0 : Nat) (l0 : List (S89)) (A1 : Option Addr) (c1 : Nat) (l1 : List Int) (r : Bool) (w : World) (hr0 : Kd.C k89 w A0 l0.length l0) (hc0 : l0.length ≤ c0) (hr1 : Kd.C (Kd.int .i64) w A1 l1.length l1) (hc1 : l1.length ≤ c1) (h : impl_IsTogether.f k l0 l1 = some r) :
  Calls Try.prog 87 #[.slice A0 l0.length c0, .slice A1 l1.length c1] w fun e w' => e = .returned (.bool r) ∧ Below w.heap.size w w' := by
 have hu89 := Try.underlying89
 have HR0 := Aside0.mk hr0
 have HC0 := Aside0.mk hc0
 clear hr0 hc0
 have HR1 := Aside0.mk hr1
 have HC1 := Aside0.mk hc1
 clear hr1 hc1
 have HB := Aside0.mk (Below.refl w.heap.size w)
 have H : ((impl_ArePaths.f k l0).bind fun t305 => (if t305 = true then (impl_IsTogether.l0 k l0 l1 l1 (l1.length : Int) 0) else (some false))) = some r := h
 clear h
 obtain ⟨t305, A3, H⟩ := bindE H
 try dsimp only at H
 by_cases c4 : t305 = true
 ·
  subst c4
  have H1 : (impl_IsTogether.l0 k l0 l1 l1 (l1.length : Int) 0) = some r := by rw [if_pos rfl] at H; exact H
  clear H
  have H := H1
  clear H1
  have H' := Aside0.mk H
  clear H
  go_enter Try.func87, Try.ntmps87
  go_wp2_with (first | ((with_reducible refine gate_callee (f := 126) rfl ?_); refine gL (some 11) Try.func126 #[.slice A0 l0.length c0] ?_; (with_reducible refine (impl_ArePaths.calls k _ _ l0 true _ ?side1 ?side2 A3.out).mono ?_); (case side1 => exact cO HR0); (case side2 => exact HC0.out); rintro e w5 ⟨rfl, hb⟩; refine ⟨_, rfl, ?_⟩; replace HB := Aside0.mk (below_step bA hb); (try clear hb)))
  go_loopg [15] k (fun kq v15 w' => ∃ (x15_1 : Int), v15 = .int .i64 x15_1 ∧ Aside0 (impl_IsTogether.l0 kq l0 l1 l1 (l1.length : Int) x15_1 = some r) ∧ Aside0 (kq ≤ k) ∧ Aside0 (Below w.heap.size w w'))
  case atStart => exact ⟨(0), rS, H', ⟨Nat.le_refl _⟩, ⟨bA⟩⟩
  case round =>
   clear H'
   try clear c1
   try clear p2
   try clear c4
   obtain ⟨x15_1, rfl, HA, HK1, HB⟩ := hrel
   cases gk with
   | zero => exact absurd HA.out (by simp [impl_IsTogether.l0])
   | succ k1 =>
    have H := HA.out
    clear HA
    simp only [impl_IsTogether.l0] at H
    by_cases c6 : x15_1 < (l1.length : Int)
    ·
     rw [if_pos c6] at H
     have c6b0 := decide_eq_true c6
     clear c6
     have c7 : 0 ≤ x15_1 := ifN H
     replace H := ifT H
     have c7b0 := decide_eq_true c7
     clear c7
     have c8 : x15_1 < (l1.length : Int) := ifN H
     replace H := ifT H
     have c8b0 := decide_eq_true c8
     clear c8
     obtain ⟨t307, A9, H⟩ := bindE H
     try dsimp only at H
     have HC10 := Aside0.mk H
     clear H
     have p306 : 0 ≤ (x15_1 : Int) := dA
     have q306 : x15_1 < (l1.length : Int) := dA
     obtain ⟨ad306, e306, hx306_0⟩ := Kd.at_int HR1.out x15_1 p306 q306
     cases e306
     replace hx306_0 := hC HB hx306_0
     replace p306 := eq_true p306
     replace q306 := eq_true q306
     go_upto_region 7 with (first | ((with_reducible refine gate_callee (f := 119) rfl ?_); refine gL (some 22) Try.func119 #[.slice A0 l0.length c0, .int .i64 (rd l1 x15_1)] ?_; (with_reducible refine (impl_FindPath.calls _ _ l0 (rd l1 x15_1) t307 _ ?side1 ?side2 A9.out).mono ?_); (case side1 => exact cB HR0); (case side2 => exact HC0.out); rintro e w11 ⟨rfl, hb⟩; refine ⟨_, rfl, ?_⟩; replace HB := Aside0.mk (below_step bA hb); (try clear hb)))
     (try simp only [Act.put, List.setIfInBounds_toArray, List.set_cons_zero, List.set_cons_succ])
     go_cut [37] (fun v37 wc => ∃ (kq : Nat) (x37_9 : Bool), v37 = .bool x37_9 ∧ Aside0 (impl_IsTogether.j1 kq l0 l1 x15_1 t307 l1 (l1.length : Int) x15_1 x37_9 = some r) ∧ Aside0 (kq ≤ k1) ∧ Aside0 (Below w.heap.size w wc))
     case first =>
      have H := HC10.out
      clear HC10
      by_cases c12 : t307 < 0
      ·
       rw [if_pos c12] at H
       have c12b0 := decide_eq_true c12
       clear c12
       (first | rw [c12b0] | (simp only [i64_w, i32_w]; rw [c12b0]) | skip)
       have H' := Aside0.mk H
       clear H
       go_wp2
       go_meet
       case rel => exact ⟨_, (true), rS, H', ⟨by have := HK1.out; first | omega | exact Nat.le_refl _⟩, ⟨bA⟩⟩
      ·
       rw [if_neg c12] at H
       have c12b0 := decide_eq_false c12
       clear c12
       (first | rw [c12b0] | (simp only [i64_w, i32_w]; rw [c12b0]) | skip)
       by_cases c13 : x15_1 > 0
       ·
        rw [if_pos c13] at H
        have c13b0 := decide_eq_true c13
        clear c13
        obtain ⟨ji14, hji14⟩ : ∃ j_ : Int, (wrap64 (x15_1 - 1)) = j_ := ⟨_, rfl⟩
        replace H : (if 0 ≤ (ji14) then (if (ji14) < (l1.length : Int) then (impl_IsTogether.j1 k1 l0 l1 x15_1 t307 l1 (l1.length : Int) x15_1 (decide ((rd l1 x15_1) ≤ (rd l1 (ji14))))) else (none)) else (none)) = some r := by first | (rw [hji14] at H; exact H) | (simp only [hji14] at H ⊢; exact H)
        have hji14w : (IntKind.i64.wrap (x15_1 - 1)) = ji14 := (i64_w _).trans hji14
        have c15 : 0 ≤ (ji14) := ifN H
        replace H := ifT H
        have c15b0 := decide_eq_true c15
        clear c15
        have c16 : (ji14) < (l1.length : Int) := ifN H
        replace H := ifT H
        have c16b0 := decide_eq_true c16
        clear c16
        have H' := Aside0.mk H
        clear H
        have p308 : 0 ≤ ((ji14) : Int) := dA
        have q308 : (ji14) < (l1.length : Int) := dA
        obtain ⟨ad308, e308, hx308_0⟩ := Kd.at_int HR1.out (ji14) p308 q308
        obtain rfl : ad306 = ad308 := (by injection e308)
        replace hx308_0 := hC HB hx308_0
        replace p308 := eq_true p308
        replace q308 := eq_true q308
        go_wp2
        go_meet
        case rel => exact ⟨_, (decide ((rd l1 x15_1) ≤ (rd l1 (ji14)))), (by first | rfl | (simp; done) | (simp only [← hji14] <;> (first | rfl | simp)) | (simp [*]; done)), H', ⟨by have := HK1.out; first | omega | exact Nat.le_refl _⟩, ⟨bA⟩⟩
       ·
        rw [if_neg c13] at H
        have c13b0 := decide_eq_false c13
        clear c13
        have H' := Aside0.mk H
        clear H
        go_wp2
        go_meet
        case rel => exact ⟨_, (false), rS, H', ⟨by have := HK1.out; first | omega | exact Nat.le_refl _⟩, ⟨bA⟩⟩
     case rest =>
      clear HC10
      try clear c1
      try clear p2
      try clear p3
      try clear q3
      try clear hx3
      try clear c4
      try clear c6
      try clear c6b0
      try clear p6
      try clear c7
      try clear c7b0
      try clear c8
      try clear c8b0
      try clear c11
      try clear c12
      try clear c12b0
      try clear c13
      try clear c13b0
      try clear c15
      try clear c15b0
      try clear c16
      try clear c16b0
      try clear hx306_0
      try clear hx308_0
      try clear p2
      try clear p306
      try clear p308
      try clear q306
      try clear q308
      obtain ⟨kq, x37_9, rfl, HA, HJ9, HB⟩ := hcut
      cases kq with
      | zero => exact absurd HA.out (by simp [impl_IsTogether.j1])
      | succ kj9 =>
       have H := HA.out
       clear HA
       simp only [impl_IsTogether.j1] at H
       by_cases c17 : x37_9 = true
       ·
        subst c17
        have H1 : (some false) = some r := by rw [if_pos rfl] at H; exact H
        clear H
        have H := H1
        clear H1
        obtain rfl := Option.some.inj H
        go_wp2
        go_ret
        exact ⟨rA, bA⟩
       ·
        replace c17 := Bool.eq_false_iff.mpr c17
        subst c17
        have H1 : (if 0 ≤ x15_1 then (if x15_1 ≤ (l1.length : Int) then (impl_IsTogether.l1 kj9 l0 l1 t307 l1 (l1.length : Int) x15_1 (l1.take (x15_1 : Int).toNat) ((l1.take (x15_1 : Int).toNat).length : Int) 0) else (none)) else (none)) = some r := by rw [if_neg (show ¬ (false = true) by decide)] at H; exact H
        clear H
        have H := H1
        clear H1
        have c18 : 0 ≤ x15_1 := ifN H
        replace H := ifT H
        have c18b0 := eq_true c18
        have c18b1 := decide_eq_true c18
        clear c18
        have c19 : x15_1 ≤ (l1.length : Int) := ifN H
        replace H := ifT H
        have c19b0 := eq_true c19
        have c19b1 := decide_eq_true c19
        clear c19
        have H' := Aside0.mk H
        clear H
        obtain ⟨i020, hi020, _, hsz20, _⟩ := info_parts info3
        obtain ⟨hcut20, hA20, hC20⟩ := print_take_of (P := Try.prog) (Value.int .i64) 0 41 3 .i64 Try.underlying41 hi020 hsz20 (some ad306) c1 l1 x15_1 (dA) (dA) HC1.out
        have HR309 := Aside0.mk (Kd.C_of_reads (h1 := fun _ => rfl) (hA20 _ (Kd.reads_of_C HR1.out)))
        have HC309 := Aside0.mk hC20
        clear hA20 hC20 hi020 hsz20
        have HL309 := Aside0.mk (show (x15_1 : Int) ≤ (l1.length : Int) from (dA))
        go_wp2
        go_loopg [42] kj9 (fun kq v42 w' => ∃ (x42_3 : Int), v42 = .int .i64 x42_3 ∧ Aside0 (impl_IsTogether.l1 kq l0 l1 t307 l1 (l1.length : Int) x15_1 (l1.take (x15_1 : Int).toNat) ((l1.take (x15_1 : Int).toNat).length : Int) x42_3 = some r) ∧ Aside0 (kq ≤ kj9) ∧ Aside0 (Below w.heap.size w w'))
        case atStart => exact ⟨(0), rS, H', ⟨Nat.le_refl _⟩, ⟨bA⟩⟩
        case round =>
         clear H'
         try clear c1
         try clear p2
         try clear p3
         try clear q3
         try clear hx3
         try clear c4
         try clear c6
         try clear c6b0
         try clear p6
         try clear c7
         try clear c7b0
         try clear c8
         try clear c8b0
         try clear c11
         try clear c12
         try clear c12b0
         try clear c13
         try clear c13b0
         try clear c15
         try clear c15b0
         try clear c16
         try clear c16b0
         try clear c17
         try clear c18
         try clear c18b0
         try clear c18b1
         try clear c19
         try clear c19b0
         try clear c19b1
         try clear hx306_0
         try clear hx308_0
         try clear p2
         try clear p3
         try clear p306
         try clear p308
         try clear p6
         try clear q3
         try clear q306
         try clear q308
         obtain ⟨x42_3, rfl, HA, HK3, HB⟩ := hrel
         cases gk with
         | zero => exact absurd HA.out (by simp [impl_IsTogether.l1])
         | succ k3 =>
          have H := HA.out
          clear HA
          simp only [impl_IsTogether.l1] at H
          by_cases c21 : x42_3 < ((l1.take (x15_1 : Int).toNat).length : Int)
          ·
           rw [if_pos c21] at H
           have c21b0 := decide_eq_true c21
           (try (have c21b1 : decide (x42_3 < max x15_1 0) = true := decide_eq_true (by rw [List.length_take] at c21; omega)))
           clear c21
           have c22 : 0 ≤ x42_3 := ifN H
           replace H := ifT H
           have c22b0 := decide_eq_true c22
           clear c22
           have c23 : x42_3 < ((l1.take (x15_1 : Int).toNat).length : Int) := ifN H
           replace H := ifT H
           have c23b0 := decide_eq_true c23
           (try (have c23b1 : decide (x42_3 < max x15_1 0) = true := decide_eq_true (by rw [List.length_take] at c23; omega)))
           clear c23
           have c24 : 0 ≤ t307 := ifN H
           replace H := ifT H
           have c24b0 := decide_eq_true c24
           clear c24
           have c25 : t307 < (l0.length : Int) := ifN H
           replace H := ifT H
           have c25b0 := decide_eq_true c25
           clear c25
           obtain ⟨t312, A26, H⟩ := bindE H
           try dsimp only at H
           have c27 : 0 ≤ t312 := ifN H
           replace H := ifT H
           have c27b0 := decide_eq_true c27
           clear c27
           have c28 : t312 < (l0.length : Int) := ifN H
           replace H := ifT H
           have c28b0 := decide_eq_true c28
           clear c28
           obtain ⟨t314, A29, H⟩ := bindE H
           try dsimp only at H
           by_cases c30 : t314 = true
           ·
            subst c30
            have H1 : (some false) = some r := by rw [if_pos rfl] at H; exact H
            clear H
            have H := H1
            clear H1
            obtain rfl := Option.some.inj H
            have p310 : 0 ≤ (x42_3 : Int) := dA
            have q310 : x42_3 < ((l1.take (x15_1 : Int).toNat).length : Int) := dA
            (try have q310m : (x42_3 < max x15_1 0) = True := eq_true (of_decide_eq_true (by assumption)))
            obtain ⟨ad310, e310, hx310_0⟩ := Kd.at_int HR309.out x42_3 p310 q310
            obtain rfl : ad306 = ad310 := (by injection e310)
            replace hx310_0 := hC HB hx310_0
            replace p310 := eq_true p310
            replace q310 := eq_true q310
            try go_wp2
            have HBo := HB
            replace HB := Aside0.mk (below_drew1 HB.out)
            have p311 : 0 ≤ (t307 : Int) := dA
            have q311 : t307 < (l0.length : Int) := dA
            obtain ⟨ad311, e311, hx311_0, hx311_1, hx311_2, hx311_3⟩ := at_T89 HR0.out t307 p311 q311
            have hw311_3 := hx311_3
            have hw311_2 := hx311_2
            have hw311_1 := hx311_1
            have hw311_0 := hx311_0
            cases e311
            replace hx311_0 := hC HB hx311_0
            replace hx311_1 := hC HB hx311_1
            replace hx311_2 := hC HB hx311_2
            replace hx311_3 := hC HB hx311_3
            replace p311 := eq_true p311
            replace q311 := eq_true q311
            have p313 : 0 ≤ (t312 : Int) := dA
            have q313 : t312 < (l0.length : Int) := dA
            obtain ⟨ad313, e313, hx313_0, hx313_1, hx313_2, hx313_3⟩ := at_T89 HR0.out t312 p313 q313
            have hw313_3 := hx313_3
            have hw313_2 := hx313_2
            have hw313_1 := hx313_1
            have hw313_0 := hx313_0
            obtain rfl : ad311 = ad313 := (by injection e313)
            replace hx313_0 := hC HB hx313_0
            replace hx313_1 := hC HB hx313_1
            replace hx313_2 := hC HB hx313_2
            replace hx313_3 := hC HB hx313_3
            replace p313 := eq_true p313
            replace q313 := eq_true q313
            refine start_ (n := 11) (S := fun w' => w'.cell? (ad311.add ((t307).toNat * 4)) = some (.int .i64 ((rd_T89 l0 t307).f0)) ∧ w'.cell? ⟨(ad311.add ((t307).toNat * 4)).block, (ad311.add ((t307).toNat * 4)).off + 1, none⟩ = some (.int .i64 ((rd_T89 l0 t307).f1)) ∧ w'.cell? ⟨(ad311.add ((t307).toNat * 4)).block, (ad311.add ((t307).toNat * 4)).off + 2, none⟩ = some (.int .i64 ((rd_T89 l0 t307).f2)) ∧ w'.cell? ⟨(ad311.add ((t307).toNat * 4)).block, (ad311.add ((t307).toNat * 4)).off + 3, none⟩ = some (.int .i64 ((rd_T89 l0 t307).f3)) ∧ w'.cell? (ad311.add ((t312).toNat * 4)) = some (.int .i64 ((rd_T89 l0 t312).f0)) ∧ w'.cell? ⟨(ad311.add ((t312).toNat * 4)).block, (ad311.add ((t312).toNat * 4)).off + 1, none⟩ = some (.int .i64 ((rd_T89 l0 t312).f1)) ∧ w'.cell? ⟨(ad311.add ((t312).toNat * 4)).block, (ad311.add ((t312).toNat * 4)).off + 2, none⟩ = some (.int .i64 ((rd_T89 l0 t312).f2)) ∧ w'.cell? ⟨(ad311.add ((t312).toNat * 4)).block, (ad311.add ((t312).toNat * 4)).off + 3, none⟩ = some (.int .i64 ((rd_T89 l0 t312).f3))) (ds := []) (mb 11 0) (by kernel_rfl) rfl rfl ⟨(hC HB hw311_0), (hC HB hw311_1), (hC HB hw311_2), (hC HB hw311_3), (hC HB hw313_0), (hC HB hw313_1), (hC HB hw313_2), (hC HB hw313_3)⟩ (fun hHeld => ?_); refine with_tabW impl_IsTogether.tab12 impl_IsTogether.bits12 (fun HT_ HW_ => ?_)
            generalize wr.drew = w31 at HB hx311_0 hx311_1 hx311_2 hx311_3 hx313_0 hx313_1 hx313_2 hx313_3 hHeld ⊢
            refine pA (i := 0) (N := some 46) (mb 11 1) HT_ ?_
            refine pA (i := 1) (N := some 47) (mb 11 3) HT_ ?_
            refine pA (i := 2) (N := some 48) (mb 11 7) HT_ ?_
            refine pA (i := 4) (N := some 50) (mb 11 23) HT_ ?_
            refine pA (i := 5) (N := some 51) (mb 11 55) HT_ ?_
            refine pA (i := 6) (N := some 52) (mb 11 119) HT_ ?_
            refine tA8 (i := 3) (N := some 49) (mb 11 127) HT_ HW_ hHeld ?_
            refine oA (i := 7) (N := some 53) (mb 11 255) HT_ (fun K hK => ?_)
            refine gA Try.func119 #[.slice (some ad311) l0.length c0, .int .i64 (rd (l1.take (x15_1 : Int).toNat) x42_3)] ?_
            with_reducible refine (impl_FindPath.calls _ _ l0 (rd (l1.take (x15_1 : Int).toNat) x42_3) t312 _ ?side1 ?side2 A26.out).mono ?_
            (case side1 => exact cB HR0)
            (case side2 => exact HC0.out)
            rintro e w32 ⟨rfl, hb⟩
            refine ⟨_, rfl, ?_⟩
            replace HB := Aside0.mk (below_step bA hb)
            (try clear hb)
            (try clear hb2)
            (try clear hk)
            (try clear hi)
            refine hK.out _ _ ⟨(hC HB hw311_0), (hC HB hw311_1), (hC HB hw311_2), (hC HB hw311_3), (hC HB hw313_0), (hC HB hw313_1), (hC HB hw313_2), (hC HB hw313_3)⟩ (fun hHeld => ?_)
            clear hK K
            refine nB ?_
            refine pA (i := 8) (N := some 54) (mb 11 511) HT_ ?_
            refine tA8 (i := 9) (N := some 55) (mb 11 1023) HT_ HW_ hHeld ?_
            refine oA (i := 10) (N := some 56) (mb 11 2047) HT_ (fun K hK => ?_)
            refine gA Try.func133 #[.agg #[.int .i64 ((rd_T89 l0 t307).f0), .int .i64 ((rd_T89 l0 t307).f1), .int .i64 ((rd_T89 l0 t307).f2), .int .i64 ((rd_T89 l0 t307).f3)], .agg #[.int .i64 ((rd_T89 l0 t312).f0), .int .i64 ((rd_T89 l0 t312).f1), .int .i64 ((rd_T89 l0 t312).f2), .int .i64 ((rd_T89 l0 t312).f3)]] ?_
            with_reducible refine (impl_Conflict.calls k3 ((rd_T89 l0 t307).f0) ((rd_T89 l0 t307).f1) ((rd_T89 l0 t307).f2) ((rd_T89 l0 t307).f3) ((rd_T89 l0 t312).f0) ((rd_T89 l0 t312).f1) ((rd_T89 l0 t312).f2) ((rd_T89 l0 t312).f3) true _ A29.out).mono ?_
            rintro e w33 ⟨rfl, hb⟩
            refine ⟨_, rfl, ?_⟩
            replace HB := Aside0.mk (below_step bA hb)
            (try clear hb)
            (try clear hb2)
            (try clear hk)
            (try clear hi)
            refine hK.out _ _ ⟨(hC HB hw311_0), (hC HB hw311_1), (hC HB hw311_2), (hC HB hw311_3), (hC HB hw313_0), (hC HB hw313_1), (hC HB hw313_2), (hC HB hw313_3)⟩ (fun hHeld => ?_)
            clear hK K
            refine nB ?_
            refine eA HT_ ?_
            try go_wp2
            go_ret
            exact ⟨rA, bA⟩
           ·
            replace c30 := Bool.eq_false_iff.mpr c30
            subst c30
            have H1 : (impl_IsTogether.l1 k3 l0 l1 t307 l1 (l1.length : Int) x15_1 (l1.take (x15_1 : Int).toNat) ((l1.take (x15_1 : Int).toNat).length : Int) (wrap64 (x42_3 + 1))) = some r := by rw [if_neg (show ¬ (false = true) by decide)] at H; exact H
            clear H
            have H := H1
            clear H1
            have H' := Aside0.mk H
            clear H
            have p310 : 0 ≤ (x42_3 : Int) := dA
            have q310 : x42_3 < ((l1.take (x15_1 : Int).toNat).length : Int) := dA
            (try have q310m : (x42_3 < max x15_1 0) = True := eq_true (of_decide_eq_true (by assumption)))
            obtain ⟨ad310, e310, hx310_0⟩ := Kd.at_int HR309.out x42_3 p310 q310
            obtain rfl : ad306 = ad310 := (by injection e310)
            replace hx310_0 := hC HB hx310_0
            replace p310 := eq_true p310
            replace q310 := eq_true q310
            try go_wp2
            have HBo := HB
            replace HB := Aside0.mk (below_drew1 HB.out)
            have p311 : 0 ≤ (t307 : Int) := dA
            have q311 : t307 < (l0.length : Int) := dA
            obtain ⟨ad311, e311, hx311_0, hx311_1, hx311_2, hx311_3⟩ := at_T89 HR0.out t307 p311 q311
            have hw311_3 := hx311_3
            have hw311_2 := hx311_2
            have hw311_1 := hx311_1
            have hw311_0 := hx311_0
            cases e311
            replace hx311_0 := hC HB hx311_0
            replace hx311_1 := hC HB hx311_1
            replace hx311_2 := hC HB hx311_2
            replace hx311_3 := hC HB hx311_3
            replace p311 := eq_true p311
            replace q311 := eq_true q311
            have p313 : 0 ≤ (t312 : Int) := dA
            have q313 : t312 < (l0.length : Int) := dA
            obtain ⟨ad313, e313, hx313_0, hx313_1, hx313_2, hx313_3⟩ := at_T89 HR0.out t312 p313 q313
            have hw313_3 := hx313_3
            have hw313_2 := hx313_2
            have hw313_1 := hx313_1
            have hw313_0 := hx313_0
            obtain rfl : ad311 = ad313 := (by injection e313)
            replace hx313_0 := hC HB hx313_0
            replace hx313_1 := hC HB hx313_1
            replace hx313_2 := hC HB hx313_2
            replace hx313_3 := hC HB hx313_3
            replace p313 := eq_true p313
            replace q313 := eq_true q313
            refine start_ (n := 11) (S := fun w' => w'.cell? (ad311.add ((t307).toNat * 4)) = some (.int .i64 ((rd_T89 l0 t307).f0)) ∧ w'.cell? ⟨(ad311.add ((t307).toNat * 4)).block, (ad311.add ((t307).toNat * 4)).off + 1, none⟩ = some (.int .i64 ((rd_T89 l0 t307).f1)) ∧ w'.cell? ⟨(ad311.add ((t307).toNat * 4)).block, (ad311.add ((t307).toNat * 4)).off + 2, none⟩ = some (.int .i64 ((rd_T89 l0 t307).f2)) ∧ w'.cell? ⟨(ad311.add ((t307).toNat * 4)).block, (ad311.add ((t307).toNat * 4)).off + 3, none⟩ = some (.int .i64 ((rd_T89 l0 t307).f3)) ∧ w'.cell? (ad311.add ((t312).toNat * 4)) = some (.int .i64 ((rd_T89 l0 t312).f0)) ∧ w'.cell? ⟨(ad311.add ((t312).toNat * 4)).block, (ad311.add ((t312).toNat * 4)).off + 1, none⟩ = some (.int .i64 ((rd_T89 l0 t312).f1)) ∧ w'.cell? ⟨(ad311.add ((t312).toNat * 4)).block, (ad311.add ((t312).toNat * 4)).off + 2, none⟩ = some (.int .i64 ((rd_T89 l0 t312).f2)) ∧ w'.cell? ⟨(ad311.add ((t312).toNat * 4)).block, (ad311.add ((t312).toNat * 4)).off + 3, none⟩ = some (.int .i64 ((rd_T89 l0 t312).f3))) (ds := []) (mb 11 0) (by kernel_rfl) rfl rfl ⟨(hC HB hw311_0), (hC HB hw311_1), (hC HB hw311_2), (hC HB hw311_3), (hC HB hw313_0), (hC HB hw313_1), (hC HB hw313_2), (hC HB hw313_3)⟩ (fun hHeld => ?_); refine with_tabW impl_IsTogether.tab12 impl_IsTogether.bits12 (fun HT_ HW_ => ?_)
            generalize wr.drew = w34 at HB hx311_0 hx311_1 hx311_2 hx311_3 hx313_0 hx313_1 hx313_2 hx313_3 hHeld ⊢
            refine pA (i := 0) (N := some 46) (mb 11 1) HT_ ?_
            refine pA (i := 1) (N := some 47) (mb 11 3) HT_ ?_
            refine pA (i := 2) (N := some 48) (mb 11 7) HT_ ?_
            refine pA (i := 4) (N := some 50) (mb 11 23) HT_ ?_
            refine pA (i := 5) (N := some 51) (mb 11 55) HT_ ?_
            refine pA (i := 6) (N := some 52) (mb 11 119) HT_ ?_
            refine tA8 (i := 3) (N := some 49) (mb 11 127) HT_ HW_ hHeld ?_
            refine oA (i := 7) (N := some 53) (mb 11 255) HT_ (fun K hK => ?_)
            refine gA Try.func119 #[.slice (some ad311) l0.length c0, .int .i64 (rd (l1.take (x15_1 : Int).toNat) x42_3)] ?_
            with_reducible refine (impl_FindPath.calls _ _ l0 (rd (l1.take (x15_1 : Int).toNat) x42_3) t312 _ ?side1 ?side2 A26.out).mono ?_
            (case side1 => exact cB HR0)
            (case side2 => exact HC0.out)
            rintro e w35 ⟨rfl, hb⟩
            refine ⟨_, rfl, ?_⟩
            replace HB := Aside0.mk (below_step bA hb)
            (try clear hb)
            (try clear hb2)
            (try clear hk)
            (try clear hi)
            refine hK.out _ _ ⟨(hC HB hw311_0), (hC HB hw311_1), (hC HB hw311_2), (hC HB hw311_3), (hC HB hw313_0), (hC HB hw313_1), (hC HB hw313_2), (hC HB hw313_3)⟩ (fun hHeld => ?_)
            clear hK K
            refine nB ?_
            refine pA (i := 8) (N := some 54) (mb 11 511) HT_ ?_
            refine tA8 (i := 9) (N := some 55) (mb 11 1023) HT_ HW_ hHeld ?_
            refine oA (i := 10) (N := some 56) (mb 11 2047) HT_ (fun K hK => ?_)
            refine gA Try.func133 #[.agg #[.int .i64 ((rd_T89 l0 t307).f0), .int .i64 ((rd_T89 l0 t307).f1), .int .i64 ((rd_T89 l0 t307).f2), .int .i64 ((rd_T89 l0 t307).f3)], .agg #[.int .i64 ((rd_T89 l0 t312).f0), .int .i64 ((rd_T89 l0 t312).f1), .int .i64 ((rd_T89 l0 t312).f2), .int .i64 ((rd_T89 l0 t312).f3)]] ?_
            with_reducible refine (impl_Conflict.calls k3 ((rd_T89 l0 t307).f0) ((rd_T89 l0 t307).f1) ((rd_T89 l0 t307).f2) ((rd_T89 l0 t307).f3) ((rd_T89 l0 t312).f0) ((rd_T89 l0 t312).f1) ((rd_T89 l0 t312).f2) ((rd_T89 l0 t312).f3) false _ A29.out).mono ?_
            rintro e w36 ⟨rfl, hb⟩
            refine ⟨_, rfl, ?_⟩
            replace HB := Aside0.mk (below_step bA hb)
            (try clear hb)
            (try clear hb2)
            (try clear hk)
            (try clear hi)
            refine hK.out _ _ ⟨(hC HB hw311_0), (hC HB hw311_1), (hC HB hw311_2), (hC HB hw311_3), (hC HB hw313_0), (hC HB hw313_1), (hC HB hw313_2), (hC HB hw313_3)⟩ (fun hHeld => ?_)
            clear hK K
            refine nB ?_
            refine eA HT_ ?_
            try go_wp2
            go_roundg k3
            case measure => have := HK1.out; have := HJ9.out; have := HK3.out; omega
            case rel => exact ⟨(wrap64 (x42_3 + 1)), rS, H', ⟨by have := HK1.out; have := HJ9.out; have := HK3.out; omega⟩, ⟨bA⟩⟩
          ·
           rw [if_neg c21] at H
           have c21b0 := decide_eq_false c21
           (try (have c21b1 : decide (x42_3 < max x15_1 0) = false := decide_eq_false (by have g_ : x15_1 ≤ (l1.length : Int) := (by first | exact dA | exact Int.le_of_lt dA | exact (show Aside0 (x15_1 ≤ (l1.length : Int)) by assumption).out); rw [List.length_take] at c21; omega)))
           clear c21
           have H' := Aside0.mk H
           clear H
           go_wp2
           go_roundg k3
           case measure => have := HK1.out; have := HJ9.out; have := HK3.out; omega
           case rel => exact ⟨(wrap64 (x15_1 + 1)), rS, H', ⟨by have := HK1.out; have := HJ9.out; have := HK3.out; omega⟩, ⟨bA⟩⟩
    ·
     rw [if_neg c6] at H
     have c6b0 := decide_eq_false c6
     clear c6
     obtain rfl := Option.some.inj H
     go_wp2
     go_ret
     exact ⟨rA, bA⟩
 ·
  replace c4 := Bool.eq_false_iff.mpr c4
  subst c4
  have H1 : (some false) = some r := by rw [if_neg (show ¬ (false = true) by decide)] at H; exact H
  clear H
  have H := H1
  clear H1
  obtain rfl := Option.some.inj H
  go_enter Try.func87, Try.ntmps87
  go_wp2_with (first | ((with_reducible refine gate_callee (f := 126) rfl ?_); refine gL (some 11) Try.func126 #[.slice A0 l0.length c0] ?_; (with_reducible refine (impl_ArePaths.calls k _ _ l0 false _ ?side1 ?side2 A3.out).mono ?_); (case side1 => exact cO HR0); (case side2 => exact HC0.out); rintro e w37 ⟨rfl, hb⟩; refine ⟨_, rfl, ?_⟩; replace HB := Aside0.mk (below_step bA hb); (try clear hb)))
  go_ret
  exact ⟨rA, bA⟩

/-! ### slices_Index_int_int: function 138 -/
def slices_Index_int_int.l0 : Nat → List Int → Int → Int → Int → Option (Int)
 | 0, _, _, _, _ => none
 | k + 1, x0, x1, x7, x8 => if x8 < x7 then (if 0 ≤ x8 then (if x8 < (x0.length : Int) then (if x1 = (rd x0 x8) then (some x8) else (slices_Index_int_int.l0 k x0 x1 x7 (wrap64 (x8 + 1)))) else (none)) else (none)) else (some (-1))
def slices_Index_int_int.f (k : Nat) (l0 : List Int) (a1 : Int) : Option (Int) := slices_Index_int_int.l0 k l0 a1 (l0.length : Int) 0
theorem slices_Index_int_int.mono_l : ∀ k, (∀ y0 y1 y2 y3, LeO (slices_Index_int_int.l0 k y0 y1 y2 y3) (slices_Index_int_int.l0 (k + 1) y0 y1 y2 y3))
 | 0 => fun _ _ _ _ r h => by simp [slices_Index_int_int.l0] at h
 | k + 1 => by
  have ih0 := slices_Index_int_int.mono_l k
  ·
   intro y0 y1 y2 y3
   unfold slices_Index_int_int.l0
   repeat' first | (with_reducible first | exact LeO.refl _ | exact LeO.none _ | refine LeO.ite ?_ ?_ | refine LeO.bind ?_ (fun _ => ?_) | exact ih0 _ _ _ _)
theorem slices_Index_int_int.mono : ∀ a0 a1 k, LeO (slices_Index_int_int.f k a0 a1) (slices_Index_int_int.f (k + 1) a0 a1) := by
 intro a0 a1 k
 have ih0 := slices_Index_int_int.mono_l k
 unfold slices_Index_int_int.f
 repeat' first | (with_reducible first | exact LeO.refl _ | exact LeO.none _ | refine LeO.ite ?_ ?_ | refine LeO.bind ?_ (fun _ => ?_) | exact ih0 _ _ _ _)
set_option maxHeartbeats 8000000 in
set_option maxRecDepth 100000 in
theorem slices_Index_int_int.calls (k : Nat) (A0 : Option Addr) (c0 : Nat) (l0 : List Int) (a1 : Int) (r : Int) (w : World) (hr0 : Kd.C (Kd.int .i64) w A0 l0.length l0) (hc0 : l0.length ≤ c0) (h : slices_Index_int_int.f k l0 a1 = some r) :
  Calls Try.prog 138 #[.slice A0 l0.length c0, .int .i64 a1] w fun e w' => e = .returned (.int .i64 r) ∧ Drawn0 w w' := by
 have HR0 := Aside0.mk hr0
 have HC0 := Aside0.mk hc0
 clear hr0 hc0
 have H : (slices_Index_int_int.l0 k l0 a1 (l0.length : Int) 0) = some r := h
 clear h
 have H' := Aside0.mk H
 clear H
 go_enter Try.func138, Try.ntmps138
 go_wp2
 go_loopg [8] k (fun kq v8 w' => ∃ (x8_1 : Int), v8 = .int .i64 x8_1 ∧ Aside0 (slices_Index_int_int.l0 kq l0 a1 (l0.length : Int) x8_1 = some r) ∧ Aside0 (kq ≤ k) ∧ Drawn0 w w')
 case atStart => exact ⟨(0), rS, H', ⟨Nat.le_refl _⟩, by repeat (first | exact Drawn0.refl _ | apply Drawn0.step)⟩
 case round =>
  clear H'
  try clear c1
  try clear p2
  obtain ⟨x8_1, rfl, HA, HK1, ⟨m1, rfl⟩⟩ := hrel
  cases gk with
  | zero => exact absurd HA.out (by simp [slices_Index_int_int.l0])
  | succ k1 =>
   have H := HA.out
   clear HA
   simp only [slices_Index_int_int.l0] at H
   by_cases c3 : x8_1 < (l0.length : Int)
   ·
    rw [if_pos c3] at H
    have c3b0 := decide_eq_true c3
    clear c3
    have c4 : 0 ≤ x8_1 := ifN H
    replace H := ifT H
    have c4b0 := decide_eq_true c4
    clear c4
    have c5 : x8_1 < (l0.length : Int) := ifN H
    replace H := ifT H
    have c5b0 := decide_eq_true c5
    clear c5
    by_cases c6 : a1 = (rd l0 x8_1)
    ·
     rw [if_pos c6] at H
     have c6b0 : (a1 == (rd l0 x8_1)) = true := beq_iff_eq.mpr c6
     have c6b1 : (a1 != (rd l0 x8_1)) = false := bne_eq_false_iff_eq.mpr c6
     clear c6
     obtain rfl := Option.some.inj H
     have p334 : 0 ≤ (x8_1 : Int) := dA
     have q334 : x8_1 < (l0.length : Int) := dA
     obtain ⟨ad334, e334, hx334_0⟩ := Kd.at_int HR0.out x8_1 p334 q334
     cases e334
     replace p334 := eq_true p334
     replace q334 := eq_true q334
     go_wp2
     go_ret
     exact ⟨by first | rfl | (simp; done) | (simp [*]; done), by repeat (first | exact Drawn0.refl _ | apply Drawn0.step)⟩
    ·
     rw [if_neg c6] at H
     have c6b0 : (a1 == (rd l0 x8_1)) = false := beq_eq_false_iff_ne.mpr c6
     have c6b1 : (a1 != (rd l0 x8_1)) = true := bne_iff_ne.mpr c6
     have H' := Aside0.mk H
     clear H
     have p334 : 0 ≤ (x8_1 : Int) := dA
     have q334 : x8_1 < (l0.length : Int) := dA
     obtain ⟨ad334, e334, hx334_0⟩ := Kd.at_int HR0.out x8_1 p334 q334
     cases e334
     replace p334 := eq_true p334
     replace q334 := eq_true q334
     go_wp2
     go_roundg k1
     case measure => have := HK1.out; omega
     case rel => exact ⟨(wrap64 (x8_1 + 1)), rS, H', ⟨by have := HK1.out; omega⟩, by repeat (first | exact Drawn0.refl _ | apply Drawn0.step)⟩
   ·
    rw [if_neg c3] at H
    have c3b0 := decide_eq_false c3
    clear c3
    obtain rfl := Option.some.inj H
    go_wp2
    go_ret
    exact ⟨by first | rfl | (simp; done) | (simp [*]; done), by repeat (first | exact Drawn0.refl _ | apply Drawn0.step)⟩

/-! ### slices_Contains_int_int: function 104 -/
def slices_Contains_int_int.f (k : Nat) (l0 : List Int) (a1 : Int) : Option (Bool) := (slices_Index_int_int.f k l0 a1).bind fun t335 => (some (decide (t335 ≥ 0)))
theorem slices_Contains_int_int.mono : ∀ a0 a1 k, LeO (slices_Contains_int_int.f k a0 a1) (slices_Contains_int_int.f (k + 1) a0 a1) := by
 intro a0 a1 k
 unfold slices_Contains_int_int.f
 repeat' first | (with_reducible first | exact LeO.refl _ | exact LeO.none _ | refine LeO.ite ?_ ?_ | refine LeO.bind ?_ (fun _ => ?_) | exact slices_Index_int_int.mono _ _ _)
set_option maxHeartbeats 8000000 in
set_option maxRecDepth 100000 in
theorem slices_Contains_int_int.calls (k : Nat) (A0 : Option Addr) (c0 : Nat) (l0 : List Int) (a1 : Int) (r : Bool) (w : World) (hr0 : Kd.C (Kd.int .i64) w A0 l0.length l0) (hc0 : l0.length ≤ c0) (h : slices_Contains_int_int.f k l0 a1 = some r) :
  Calls Try.prog 104 #[.slice A0 l0.length c0, .int .i64 a1] w fun e w' => e = .returned (.bool r) ∧ Drawn0 w w' := by
 have HR0 := Aside0.mk hr0
 have HC0 := Aside0.mk hc0
 clear hr0 hc0
 have H : ((slices_Index_int_int.f k l0 a1).bind fun t335 => (some (decide (t335 ≥ 0)))) = some r := h
 clear h
 obtain ⟨t335, A3, H⟩ := bindE H
 try dsimp only at H
 obtain rfl := Option.some.inj H
 go_enter Try.func104, Try.ntmps104
 go_wp2_with (first | ((with_reducible refine gate_callee (f := 138) rfl ?_); refine gL (some 7) Try.func138 #[.slice A0 l0.length c0, .int .i64 a1] ?_; (with_reducible refine (slices_Index_int_int.calls k _ _ l0 a1 t335 _ ?side1 ?side2 A3.out).mono ?_); (case side1 => exact cO HR0); (case side2 => exact HC0.out); rintro e w' ⟨rfl, ⟨nd, rfl⟩⟩; refine ⟨_, rfl, ?_⟩))
 go_ret
 exact ⟨by first | rfl | (simp; done) | (simp [*]; done), by repeat (first | exact Drawn0.refl _ | apply Drawn0.step)⟩

/-! ### impl_isCovered: function 127 -/
theorem impl_isCovered.has_loop (l : List Int) (x : Int) (hl : l.length ≤ 9223372036854775807) : ∀ d i, i + d = l.length → ∃ r : Int, slices_Index_int_int.l0 (d + 1) l x (l.length : Int) (i : Int) = some r ∧ (0 ≤ r ↔ x ∈ l.drop i)
 | 0, i, h => by
  refine ⟨-1, ?_, ?_⟩
  ·
   rw [slices_Index_int_int.l0, if_neg (by omega)]
  ·
   rw [List.drop_of_length_le (by omega)]; simp
 | d + 1, i, h => by
  have hi : i < l.length := by omega
  have e : rd l (i : Int) = l[i] := by unfold rd; simp [List.getD_eq_getElem?_getD, List.getElem?_eq_getElem hi]
  rw [slices_Index_int_int.l0, if_pos (by omega), if_pos (by omega), if_pos (by omega), e, List.drop_eq_getElem_cons hi]
  by_cases c : x = l[i]
  ·
   exact ⟨i, if_pos c, ⟨fun _ => by rw [c]; exact List.mem_cons_self .., fun _ => by omega⟩⟩
  ·
   obtain ⟨r, h1, h2⟩ := impl_isCovered.has_loop l x hl d (i + 1) (by omega)
   refine ⟨r, ?_, h2.trans ⟨fun hh => List.mem_cons_of_mem _ hh, fun hh => (List.mem_cons.1 hh).resolve_left c⟩⟩
   rw [if_neg c, show wrap64 ((i : Int) + 1) = ((i + 1 : Nat) : Int) by unfold wrap64; omega]
   exact h1
theorem impl_isCovered.has (l : List Int) (x : Int) (hl : l.length ≤ 9223372036854775807) : slices_Contains_int_int.f (l.length + 1) l x = some (decide (x ∈ l)) := by
 obtain ⟨r, h1, h2⟩ := impl_isCovered.has_loop l x hl l.length 0 (by omega)
 unfold slices_Contains_int_int.f slices_Index_int_int.f
 have h1 : slices_Index_int_int.l0 (l.length + 1) l x (l.length : Int) 0 = some r := h1
 rw [h1, Option.bind_some]
 congr 1
 exact decide_eq_decide.2 (by rw [List.drop_zero] at h2; exact h2)
def impl_isCovered.q (id : Int) (x : List Int) : Bool := decide (id ∈ x)
set_option maxHeartbeats 400000 in
set_option maxRecDepth 100000 in
theorem impl_isCovered.clo (id : Int) (g : Nat) (A0 : Option Addr) (c0 : Nat) (x : List Int) (w : World) (hc : w.cell? ⟨g, 0, none⟩ = some (.int .i64 id)) (hr : Kd.C (Kd.int .i64) w A0 x.length x) (hk : x.length ≤ c0) :
  Calls Try.prog 148 #[.slice A0 x.length c0, .pointer (some ⟨g, 0, none⟩)] w fun e w' => e = .returned (.bool (impl_isCovered.q id x)) ∧ Below w.heap.size w w' := by
 have hg : g < w.heap.size := World.block_lt_of_cell? w _ hc
 have HI := Aside0.mk (impl_isCovered.has x id hr.2.1)
 have HR := Aside0.mk hr
 have HK := Aside0.mk hk
 clear hr hk
 go_enter Try.func148, Try.ntmps148
 go_wp2_with (go_at_call 104; refine (slices_Contains_int_int.calls _ _ _ x id _ _ ?s1 HK.out HI.out).mono ?_; (case s1 => first | exact HR.out | exact Kd.C_drew HR.out | exact Kd.C_alloc HR.out _); rintro e w1 ⟨rfl, hb1⟩)
 go_ret
 exact ⟨rfl, hb1.below⟩
def impl_isCovered.ix (id : Int) : List (List Int) → Int → Int
 | [], _ => -1
 | x :: l, i => if impl_isCovered.q id x = true then i else impl_isCovered.ix id l (i + 1)
theorem impl_isCovered.ix_hit (id : Int) : ∀ (l : List (List Int)) (i : Int) (m : Nat) (hm : m < l.length), (∀ j (hj : j < m), impl_isCovered.q id (l[j]'(by omega)) = false) → impl_isCovered.q id l[m] = true → impl_isCovered.ix id l i = i + m
 | [], i, m, hm, _, _ => absurd hm (by simp)
 | p :: l, i, 0, hm, _, h => by
  unfold impl_isCovered.ix
  rw [if_pos (show impl_isCovered.q id p = true from h)]
  simp
 | p :: l, i, m + 1, hm, hne, h => by
  unfold impl_isCovered.ix
  have h2 : impl_isCovered.q id p = false := hne 0 (by omega)
  rw [if_neg (by rw [h2]; decide), impl_isCovered.ix_hit id l (i + 1) m (by simpa using hm) (fun j hj => hne (j + 1) (by omega)) h]
  omega
theorem impl_isCovered.ix_miss (id : Int) : ∀ (l : List (List Int)) (i : Int), (∀ j (hj : j < l.length), impl_isCovered.q id l[j] = false) → impl_isCovered.ix id l i = -1
 | [], i, _ => rfl
 | p :: l, i, h => by
  unfold impl_isCovered.ix
  have h2 : impl_isCovered.q id p = false := h 0 (by simp)
  rw [if_neg (by rw [h2]; decide), impl_isCovered.ix_miss id l (i + 1) (fun j hj => h (j + 1) (by simpa using hj))]
theorem impl_isCovered.rd_ (l : List (List Int)) (j : Nat) (hj : j < l.length) : rd_L2 l (j : Int) = l[j] := by
 unfold rd_L2; simp [List.getD_eq_getElem?_getD, List.getElem?_eq_getElem hj]
set_option maxHeartbeats 4000000 in
set_option maxRecDepth 100000 in
theorem impl_isCovered.idx (id : Int) (g : Nat) (A0 : Option Addr) (c0 : Nat) (l0 : List (List Int)) (w : World) (hr0 : Kd.C (Kd.slice 3 (Kd.int .i64)) w A0 l0.length l0) (hc0 : l0.length ≤ c0) (hc : w.cell? ⟨g, 0, none⟩ = some (.int .i64 id)) :
  Calls Try.prog 162 #[.slice A0 l0.length c0, .func (.func 148) #[] #[.pointer (some ⟨g, 0, none⟩)]] w fun e w' => e = .returned (.int .i64 (impl_isCovered.ix id l0 0)) ∧ Below w.heap.size w w' := by
 have HC := Aside0.mk hc
 clear hc
 have HR0 := Aside0.mk hr0
 have HC0 := Aside0.mk hc0
 have hlen : l0.length ≤ 9223372036854775807 := hr0.2.1
 clear hr0 hc0
 have HB := Aside0.mk (Below.refl w.heap.size w)
 go_enter Try.func162, Try.ntmps162
 go_wp2
 go_loopg [5, 8] l0.length (fun gg v5 v8 w' => ∃ kk : Nat, v8 = .int .i64 kk ∧ Aside0 (kk ≤ l0.length) ∧ Aside0 (l0.length - kk ≤ gg) ∧ Aside0 (Below w.heap.size w w') ∧ Aside0 (∀ j (hj : j < kk) (hl : j < l0.length), impl_isCovered.q id l0[j] = false))
 case atStart => exact ⟨0, rfl, ⟨Nat.zero_le _⟩, ⟨by omega⟩, HB, ⟨fun j hj => absurd hj (Nat.not_lt_zero _)⟩⟩
 case round =>
  clear HB
  obtain ⟨kk, rfl, hk, hg, HB, HA⟩ := hrel
  by_cases hlt : kk < l0.length
  ·
   have hltz : decide ((kk : Int) < (l0.length : Int)) = true := decide_eq_true (by omega)
   have hltn : decide (kk < l0.length) = true := decide_eq_true hlt
   have p0 : (0 : Int) ≤ (kk : Int) := by omega
   have q0 : (kk : Int) < (l0.length : Int) := by omega
   have HE := Aside0.mk (impl_isCovered.rd_ l0 kk hlt)
   obtain ⟨ad, A1, c1, e1, hx0, hk1, hr1⟩ := at_L2 HR0.out (kk : Int) p0 q0
   cases e1
   rw [Int.toNat_natCast] at hx0
   replace hx0 := hC HB hx0
   replace p0 := eq_true p0
   replace q0 := eq_true q0
   have hcl := fun (w' : World) (hb : Below w.heap.size w w') => impl_isCovered.clo id g A1 c1 (rd_L2 l0 (kk : Int)) w' ((hb.cell (World.block_lt_of_cell? w _ HC.out)).trans HC.out) (Kd.C_below hr1 hb) hk1
   clear hr1
   have HK1 := Aside0.mk hk1
   clear hk1
   cases hq : impl_isCovered.q id (rd_L2 l0 (kk : Int)) with
   | true =>
    rw [hq] at hcl
    have HCL := Aside0.mk hcl
    have HQ := Aside0.mk hq
    clear hcl hq
    go_wp2_with (go_at_call 148; refine (HCL.out _ HB.out).mono ?_; rintro e w1 ⟨rfl, hb1⟩)
    go_ret
    refine ⟨?_, below_step HB.out hb1⟩
    have hq := HQ.out
    rw [HE.out] at hq
    rw [impl_isCovered.ix_hit id l0 0 kk hlt (fun j hj => HA.out j hj (by omega)) hq, Int.zero_add]
    rfl
   | false =>
    rw [hq] at hcl
    have HCL := Aside0.mk hcl
    have HQ := Aside0.mk hq
    clear hcl hq
    go_wp2_with (go_at_call 148; refine (HCL.out _ HB.out).mono ?_; rintro e w1 ⟨rfl, hb1⟩)
    go_roundg (l0.length - (kk + 1))
    case measure => have := hg.out; omega
    case rel =>
     refine ⟨kk + 1, by go_num, ⟨by omega⟩, ⟨by omega⟩, ⟨below_step HB.out hb1⟩, ⟨fun j hj hl => ?_⟩⟩
     rcases Nat.lt_or_ge j kk with h3 | h3
     ·
      exact HA.out j h3 hl
     ·
      have h4 : j = kk := by omega
      subst h4
      rw [← HE.out]
      exact HQ.out
  ·
   have hge : decide ((kk : Int) < (l0.length : Int)) = false := decide_eq_false (by omega)
   have hgen : decide (kk < l0.length) = false := decide_eq_false hlt
   go_wp2
   go_ret
   refine ⟨?_, HB.out⟩
   rw [impl_isCovered.ix_miss id l0 0 (fun j hj => HA.out j (by omega) hj)]
   rfl
def impl_isCovered.f (l0 : List (List Int)) (a1 : Int) : Option Bool := some (decide (impl_isCovered.ix a1 l0 0 ≥ 0))
set_option maxHeartbeats 400000 in
set_option maxRecDepth 100000 in
theorem impl_isCovered.con (id : Int) (g : Nat) (A0 : Option Addr) (c0 : Nat) (l0 : List (List Int)) (w : World) (hr0 : Kd.C (Kd.slice 3 (Kd.int .i64)) w A0 l0.length l0) (hc0 : l0.length ≤ c0) (hc : w.cell? ⟨g, 0, none⟩ = some (.int .i64 id)) :
  Calls Try.prog 147 #[.slice A0 l0.length c0, .func (.func 148) #[] #[.pointer (some ⟨g, 0, none⟩)]] w fun e w' => e = .returned (.bool (decide (impl_isCovered.ix id l0 0 ≥ 0))) ∧ Below w.heap.size w w' := by
 have HC := Aside0.mk hc
 have HR0 := Aside0.mk hr0
 have HC0 := Aside0.mk hc0
 clear hr0 hc0 hc
 go_enter Try.func147, Try.ntmps147
 go_wp2_with (go_at_call 162; refine (impl_isCovered.idx id g A0 c0 l0 _ HR0.out HC0.out HC.out).mono ?_; rintro e w1 ⟨rfl, hb1⟩)
 go_ret
 exact ⟨rfl, hb1⟩
set_option maxHeartbeats 400000 in
set_option maxRecDepth 100000 in
theorem impl_isCovered.calls (A0 : Option Addr) (c0 : Nat) (l0 : List (List Int)) (a1 : Int) (r : Bool) (w : World) (hr0 : Kd.C (Kd.slice 3 (Kd.int .i64)) w A0 l0.length l0) (hc0 : l0.length ≤ c0) (h : impl_isCovered.f l0 a1 = some r) :
  Calls Try.prog 127 #[.slice A0 l0.length c0, .int .i64 a1] w fun e w' => e = .returned (.bool r) ∧ Below w.heap.size w w' := by
 obtain rfl := Option.some.inj h
 have HR0 := Aside0.mk hr0
 have HC0 := Aside0.mk hc0
 clear hr0 hc0 h
 go_enter Try.func127, Try.ntmps127
 go_wp2_with (go_at_call 147; refine (impl_isCovered.con a1 w.heap.size A0 c0 l0 _ ?s1 HC0.out ?s2).mono ?_; (case s1 => exact Kd.C_alloc HR0.out _); (case s2 => simp); rintro e w1 ⟨rfl, hb1⟩)
 go_ret
 exact ⟨rfl, below_step (below_alloc (Below.refl _ _) _) hb1⟩

/-! ### impl_Covers: function 128 -/
mutual
def impl_Covers.l0 : Nat → List (S89) → List (List Int) → List (List Int) → Int → Int → Option (Bool)
 | 0, _, _, _, _, _ => none
 | k + 1, x0, x1, x12, x13, x14 => if x14 < x13 then (if 0 ≤ x14 then (if x14 < (x12.length : Int) then ((impl_IsTogether.f k x0 (rd_L2 x12 x14)).bind fun t317 => (if t317 = true then (impl_Covers.l0 k x0 x1 x12 x13 (wrap64 (x14 + 1))) else (some false))) else (none)) else (none)) else (impl_Covers.l1 k x1 x0 (x0.length : Int) 0)
def impl_Covers.l1 : Nat → List (List Int) → List (S89) → Int → Int → Option (Bool)
 | 0, _, _, _, _ => none
 | k + 1, x1, x23, x24, x25 => if x25 < x24 then (if 0 ≤ x25 then (if x25 < (x23.length : Int) then ((impl_isCovered.f x1 ((rd_T89 x23 x25).f0)).bind fun t320 => (if t320 = true then (impl_Covers.l1 k x1 x23 x24 (wrap64 (x25 + 1))) else (some false))) else (none)) else (none)) else (some true)
end
def impl_Covers.f (k : Nat) (l0 : List (S89)) (l1 : List (List Int)) : Option (Bool) := (impl_ArePaths.f k l0).bind fun t315 => (if t315 = true then (impl_Covers.l0 k l0 l1 l1 (l1.length : Int) 0) else (some false))
theorem impl_Covers.mono_l : ∀ k, (∀ y0 y1 y2 y3 y4, LeO (impl_Covers.l0 k y0 y1 y2 y3 y4) (impl_Covers.l0 (k + 1) y0 y1 y2 y3 y4)) ∧ (∀ y0 y1 y2 y3, LeO (impl_Covers.l1 k y0 y1 y2 y3) (impl_Covers.l1 (k + 1) y0 y1 y2 y3))
 | 0 => ⟨fun _ _ _ _ _ r h => by simp [impl_Covers.l0] at h, fun _ _ _ _ r h => by simp [impl_Covers.l1] at h⟩
 | k + 1 => by
  obtain ⟨ih0, ih1⟩ := impl_Covers.mono_l k
  refine ⟨?_, ?_⟩
  ·
   intro y0 y1 y2 y3 y4
   unfold impl_Covers.l0
   repeat' first | (with_reducible first | exact LeO.refl _ | exact LeO.none _ | refine LeO.ite ?_ ?_ | refine LeO.bind ?_ (fun _ => ?_) | exact ih0 _ _ _ _ _ | exact ih1 _ _ _ _ | exact impl_ArePaths.mono _ _ | exact impl_IsTogether.mono _ _ _)
  ·
   intro y0 y1 y2 y3
   unfold impl_Covers.l1
   repeat' first | (with_reducible first | exact LeO.refl _ | exact LeO.none _ | refine LeO.ite ?_ ?_ | refine LeO.bind ?_ (fun _ => ?_) | exact ih0 _ _ _ _ _ | exact ih1 _ _ _ _ | exact impl_ArePaths.mono _ _ | exact impl_IsTogether.mono _ _ _)
theorem impl_Covers.mono : ∀ a0 a1 k, LeO (impl_Covers.f k a0 a1) (impl_Covers.f (k + 1) a0 a1) := by
 intro a0 a1 k
 obtain ⟨ih0, ih1⟩ := impl_Covers.mono_l k
 unfold impl_Covers.f
 repeat' first | (with_reducible first | exact LeO.refl _ | exact LeO.none _ | refine LeO.ite ?_ ?_ | refine LeO.bind ?_ (fun _ => ?_) | exact ih0 _ _ _ _ _ | exact ih1 _ _ _ _ | exact impl_ArePaths.mono _ _ | exact impl_IsTogether.mono _ _ _)
set_option maxHeartbeats 8000000 in
set_option maxRecDepth 100000 in
theorem impl_Covers.calls (k : Nat) (A0 : Option Addr) (c0 : Nat) (l0 : List (S89)) (A1 : Option Addr) (c1 : Nat) (l1 : List (List Int)) (r : Bool) (w : World) (hr0 : Kd.C k89 w A0 l0.length l0) (hc0 : l0.length ≤ c0) (hr1 : Kd.C (Kd.slice 3 (Kd.int .i64)) w A1 l1.length l1) (hc1 : l1.length ≤ c1) (h : impl_Covers.f k l0 l1 = some r) :
  Calls Try.prog 128 #[.slice A0 l0.length c0, .slice A1 l1.length c1] w fun e w' => e = .returned (.bool r) ∧ Below w.heap.size w w' := by
 have hu89 := Try.underlying89
 have HR0 := Aside0.mk hr0
 have HC0 := Aside0.mk hc0
 clear hr0 hc0
 have HR1 := Aside0.mk hr1
 have HC1 := Aside0.mk hc1
 clear hr1 hc1
 have HB := Aside0.mk (Below.refl w.heap.size w)
 have H : ((impl_ArePaths.f k l0).bind fun t315 => (if t315 = true then (impl_Covers.l0 k l0 l1 l1 (l1.length : Int) 0) else (some false))) = some r := h
 clear h
 obtain ⟨t315, A3, H⟩ := bindE H
 try dsimp only at H
 by_cases c4 : t315 = true
 ·
  subst c4
  have H1 : (impl_Covers.l0 k l0 l1 l1 (l1.length : Int) 0) = some r := by rw [if_pos rfl] at H; exact H
  clear H
  have H := H1
  clear H1
  have H' := Aside0.mk H
  clear H
  go_enter Try.func128, Try.ntmps128
  go_wp2_with (first | ((with_reducible refine gate_callee (f := 126) rfl ?_); refine gL (some 10) Try.func126 #[.slice A0 l0.length c0] ?_; (with_reducible refine (impl_ArePaths.calls k _ _ l0 true _ ?side1 ?side2 A3.out).mono ?_); (case side1 => exact cO HR0); (case side2 => exact HC0.out); rintro e w5 ⟨rfl, hb⟩; refine ⟨_, rfl, ?_⟩; replace HB := Aside0.mk (below_step bA hb); (try clear hb)))
  go_loopg [14] k (fun kq v14 w' => ∃ (x14_1 : Int), v14 = .int .i64 x14_1 ∧ Aside0 (impl_Covers.l0 kq l0 l1 l1 (l1.length : Int) x14_1 = some r) ∧ Aside0 (kq ≤ k) ∧ Aside0 (Below w.heap.size w w'))
  case atStart => exact ⟨(0), rS, H', ⟨Nat.le_refl _⟩, ⟨bA⟩⟩
  case round =>
   clear H'
   try clear c1
   try clear p2
   try clear c4
   obtain ⟨x14_1, rfl, HA, HK1, HB⟩ := hrel
   cases gk with
   | zero => exact absurd HA.out (by simp [impl_Covers.l0])
   | succ k1 =>
    have H := HA.out
    clear HA
    simp only [impl_Covers.l0] at H
    by_cases c6 : x14_1 < (l1.length : Int)
    ·
     rw [if_pos c6] at H
     have c6b0 := decide_eq_true c6
     clear c6
     have c7 : 0 ≤ x14_1 := ifN H
     replace H := ifT H
     have c7b0 := decide_eq_true c7
     clear c7
     have c8 : x14_1 < (l1.length : Int) := ifN H
     replace H := ifT H
     have c8b0 := decide_eq_true c8
     clear c8
     obtain ⟨t317, A9, H⟩ := bindE H
     try dsimp only at H
     by_cases c10 : t317 = true
     ·
      subst c10
      have H1 : (impl_Covers.l0 k1 l0 l1 l1 (l1.length : Int) (wrap64 (x14_1 + 1))) = some r := by rw [if_pos rfl] at H; exact H
      clear H
      have H := H1
      clear H1
      have H' := Aside0.mk H
      clear H
      have p316 : 0 ≤ (x14_1 : Int) := dA
      have q316 : x14_1 < (l1.length : Int) := dA
      obtain ⟨ad316, A316_0, c316_0, e316, hx316_0, hl316_0, hi316_0⟩ := at_L2 HR1.out x14_1 p316 q316
      cases e316
      replace hx316_0 := hC HB hx316_0
      have HR316_0 := Aside0.mk hi316_0
      have HC316_0 := Aside0.mk hl316_0
      clear hi316_0 hl316_0
      replace p316 := eq_true p316
      replace q316 := eq_true q316
      go_wp2_with (first | ((with_reducible refine gate_callee (f := 87) rfl ?_); refine gL (some 20) Try.func87 #[.slice A0 l0.length c0, .slice A316_0 (rd_L2 l1 x14_1).length c316_0] ?_; (with_reducible refine (impl_IsTogether.calls k1 _ _ l0 _ _ (rd_L2 l1 x14_1) true _ ?side1 ?side2 ?side3 ?side4 A9.out).mono ?_); (case side1 => exact cB HR0); (case side2 => exact HC0.out); (case side3 => exact cB HR316_0); (case side4 => exact HC316_0.out); rintro e w11 ⟨rfl, hb⟩; refine ⟨_, rfl, ?_⟩; replace HB := Aside0.mk (below_step bA hb); (try clear hb)))
      go_roundg k1
      case measure => have := HK1.out; omega
      case rel => exact ⟨(wrap64 (x14_1 + 1)), rS, H', ⟨by have := HK1.out; omega⟩, ⟨bA⟩⟩
     ·
      replace c10 := Bool.eq_false_iff.mpr c10
      subst c10
      have H1 : (some false) = some r := by rw [if_neg (show ¬ (false = true) by decide)] at H; exact H
      clear H
      have H := H1
      clear H1
      obtain rfl := Option.some.inj H
      have p316 : 0 ≤ (x14_1 : Int) := dA
      have q316 : x14_1 < (l1.length : Int) := dA
      obtain ⟨ad316, A316_0, c316_0, e316, hx316_0, hl316_0, hi316_0⟩ := at_L2 HR1.out x14_1 p316 q316
      cases e316
      replace hx316_0 := hC HB hx316_0
      have HR316_0 := Aside0.mk hi316_0
      have HC316_0 := Aside0.mk hl316_0
      clear hi316_0 hl316_0
      replace p316 := eq_true p316
      replace q316 := eq_true q316
      go_wp2_with (first | ((with_reducible refine gate_callee (f := 87) rfl ?_); refine gL (some 20) Try.func87 #[.slice A0 l0.length c0, .slice A316_0 (rd_L2 l1 x14_1).length c316_0] ?_; (with_reducible refine (impl_IsTogether.calls k1 _ _ l0 _ _ (rd_L2 l1 x14_1) false _ ?side1 ?side2 ?side3 ?side4 A9.out).mono ?_); (case side1 => exact cB HR0); (case side2 => exact HC0.out); (case side3 => exact cB HR316_0); (case side4 => exact HC316_0.out); rintro e w12 ⟨rfl, hb⟩; refine ⟨_, rfl, ?_⟩; replace HB := Aside0.mk (below_step bA hb); (try clear hb)))
      go_ret
      exact ⟨rA, bA⟩
    ·
     rw [if_neg c6] at H
     have c6b0 := decide_eq_false c6
     clear c6
     have H' := Aside0.mk H
     clear H
     go_wp2
     go_loopg [25] k1 (fun kq v25 w' => ∃ (x25_2 : Int), v25 = .int .i64 x25_2 ∧ Aside0 (impl_Covers.l1 kq l1 l0 (l0.length : Int) x25_2 = some r) ∧ Aside0 (kq ≤ k1) ∧ Aside0 (Below w.heap.size w w'))
     case atStart => exact ⟨(0), rS, H', ⟨Nat.le_refl _⟩, ⟨bA⟩⟩
     case round =>
      clear H'
      try clear c1
      try clear p2
      try clear c3
      try clear p3
      try clear q3
      try clear hx3
      try clear c4
      try clear c6
      try clear c6b0
      try clear p6
      try clear c7
      try clear c7b0
      try clear c8
      try clear c8b0
      try clear c10
      try clear c12
      try clear hx316_0
      try clear p2
      try clear p316
      try clear q316
      obtain ⟨x25_2, rfl, HA, HK2, HB⟩ := hrel
      cases gk with
      | zero => exact absurd HA.out (by simp [impl_Covers.l1])
      | succ k2 =>
       have H := HA.out
       clear HA
       simp only [impl_Covers.l1] at H
       by_cases c13 : x25_2 < (l0.length : Int)
       ·
        rw [if_pos c13] at H
        have c13b0 := decide_eq_true c13
        clear c13
        have c14 : 0 ≤ x25_2 := ifN H
        replace H := ifT H
        have c14b0 := decide_eq_true c14
        clear c14
        have c15 : x25_2 < (l0.length : Int) := ifN H
        replace H := ifT H
        have c15b0 := decide_eq_true c15
        clear c15
        obtain ⟨t320, A16, H⟩ := bindE H
        try dsimp only at H
        by_cases c17 : t320 = true
        ·
         subst c17
         have H1 : (impl_Covers.l1 k2 l1 l0 (l0.length : Int) (wrap64 (x25_2 + 1))) = some r := by rw [if_pos rfl] at H; exact H
         clear H
         have H := H1
         clear H1
         have H' := Aside0.mk H
         clear H
         have p318 : 0 ≤ (x25_2 : Int) := dA
         have q318 : x25_2 < (l0.length : Int) := dA
         obtain ⟨ad318, e318, hx318_0, hx318_1, hx318_2, hx318_3⟩ := at_T89 HR0.out x25_2 p318 q318
         cases e318
         replace hx318_0 := hC HB hx318_0
         replace hx318_1 := hC HB hx318_1
         replace hx318_2 := hC HB hx318_2
         replace hx318_3 := hC HB hx318_3
         replace p318 := eq_true p318
         replace q318 := eq_true q318
         go_wp2_with (first | ((with_reducible refine gate_dst (N := 8) rfl ?_); refine bE (N := 8) (cs := #[.int .i64 0, .int .i64 0, .int .i64 0, .int .i64 0]) (t := 89) ?_; intro gb319 hg w18 hbox hb; have n0_ := Aside0.mk (below_step bA hb); have n1_ := Aside0.mk (hbox); have n2_ := Aside0.mk ((by rw [hg]; exact (below_size bA) : w.heap.size ≤ gb319)); have n3_ := Aside0.mk ((by rw [hg]; exact (below_size bA) : w.heap.size ≤ gb319)); clear HB; have HB := n0_; have BK319 := n1_; have GW319 := n2_; have GE319 := n3_; clear n0_ n1_ n2_ n3_; clear hb hbox hg; have hcz19_0 : w18.cell? ⟨gb319, 0, none⟩ = some (.int .i64 0) := bC BK319 0; have hcz19_1 : w18.cell? ⟨gb319, 1, none⟩ = some (.int .i64 0) := bC BK319 1; have hcz19_2 : w18.cell? ⟨gb319, 2, none⟩ = some (.int .i64 0) := bC BK319 2; have hcz19_3 : w18.cell? ⟨gb319, 3, none⟩ = some (.int .i64 0) := bC BK319 3; have hfz19_0 := blk_frozen BK319.out 0; have hfz19_1 := blk_frozen BK319.out 1; have hfz19_2 := blk_frozen BK319.out 2; have hfz19_3 := blk_frozen BK319.out 3) | ((with_reducible refine gate_callee (f := 127) rfl ?_); refine gL (some 32) Try.func127 #[.slice A1 l1.length c1, .int .i64 ((rd_T89 l0 x25_2).f0)] ?_; (with_reducible refine (impl_isCovered.calls _ _ l1 ((rd_T89 l0 x25_2).f0) true _ ?side1 ?side2 A16.out).mono ?_); (case side1 => exact Kd.C_below HR1.out bG); (case side2 => exact HC1.out); rintro e w20 ⟨rfl, hb⟩; refine ⟨_, rfl, ?_⟩; have n0_ := Aside0.mk (blk_below (g := gb319) (o := .cells #[.int .i64 ((rd_T89 l0 x25_2).f0), .int .i64 ((rd_T89 l0 x25_2).f1), .int .i64 ((rd_T89 l0 x25_2).f2), .int .i64 ((rd_T89 l0 x25_2).f3)] 89 (0, 0)) (by (with_reducible repeat (first | refine blk_drewN ?_ _ | refine blk_drew ?_ | refine blk_alloc ?_ _)); refine blk_put (cs := #[.int .i64 ((rd_T89 l0 x25_2).f0), .int .i64 ((rd_T89 l0 x25_2).f1), .int .i64 ((rd_T89 l0 x25_2).f2), .int .i64 0]) ?_ 3 _ rfl; (with_reducible repeat (first | refine blk_drewN ?_ _ | refine blk_drew ?_ | refine blk_alloc ?_ _)); refine blk_put (cs := #[.int .i64 ((rd_T89 l0 x25_2).f0), .int .i64 ((rd_T89 l0 x25_2).f1), .int .i64 0, .int .i64 0]) ?_ 2 _ rfl; (with_reducible repeat (first | refine blk_drewN ?_ _ | refine blk_drew ?_ | refine blk_alloc ?_ _)); refine blk_put (cs := #[.int .i64 ((rd_T89 l0 x25_2).f0), .int .i64 0, .int .i64 0, .int .i64 0]) ?_ 1 _ rfl; (with_reducible repeat (first | refine blk_drewN ?_ _ | refine blk_drew ?_ | refine blk_alloc ?_ _)); refine blk_put (cs := #[.int .i64 0, .int .i64 0, .int .i64 0, .int .i64 0]) ?_ 0 _ rfl; (with_reducible repeat (first | refine blk_drewN ?_ _ | refine blk_drew ?_ | refine blk_alloc ?_ _)); exact BK319.out) hb); have n1_ := Aside0.mk (below_step bG hb); clear BK319; clear HB; have BK319 := n0_; have HB := n1_; clear n0_ n1_; (try clear hb)))
         go_roundg k2
         case measure => have := HK1.out; have := HK2.out; omega
         case rel => exact ⟨(wrap64 (x25_2 + 1)), rS, H', ⟨by have := HK1.out; have := HK2.out; omega⟩, ⟨bG⟩⟩
        ·
         replace c17 := Bool.eq_false_iff.mpr c17
         subst c17
         have H1 : (some false) = some r := by rw [if_neg (show ¬ (false = true) by decide)] at H; exact H
         clear H
         have H := H1
         clear H1
         obtain rfl := Option.some.inj H
         have p318 : 0 ≤ (x25_2 : Int) := dA
         have q318 : x25_2 < (l0.length : Int) := dA
         obtain ⟨ad318, e318, hx318_0, hx318_1, hx318_2, hx318_3⟩ := at_T89 HR0.out x25_2 p318 q318
         cases e318
         replace hx318_0 := hC HB hx318_0
         replace hx318_1 := hC HB hx318_1
         replace hx318_2 := hC HB hx318_2
         replace hx318_3 := hC HB hx318_3
         replace p318 := eq_true p318
         replace q318 := eq_true q318
         go_wp2_with (first | ((with_reducible refine gate_dst (N := 8) rfl ?_); refine bE (N := 8) (cs := #[.int .i64 0, .int .i64 0, .int .i64 0, .int .i64 0]) (t := 89) ?_; intro gb319 hg w21 hbox hb; have n0_ := Aside0.mk (below_step bA hb); have n1_ := Aside0.mk (hbox); have n2_ := Aside0.mk ((by rw [hg]; exact (below_size bA) : w.heap.size ≤ gb319)); have n3_ := Aside0.mk ((by rw [hg]; exact (below_size bA) : w.heap.size ≤ gb319)); clear HB; have HB := n0_; have BK319 := n1_; have GW319 := n2_; have GE319 := n3_; clear n0_ n1_ n2_ n3_; clear hb hbox hg; have hcz22_0 : w21.cell? ⟨gb319, 0, none⟩ = some (.int .i64 0) := bC BK319 0; have hcz22_1 : w21.cell? ⟨gb319, 1, none⟩ = some (.int .i64 0) := bC BK319 1; have hcz22_2 : w21.cell? ⟨gb319, 2, none⟩ = some (.int .i64 0) := bC BK319 2; have hcz22_3 : w21.cell? ⟨gb319, 3, none⟩ = some (.int .i64 0) := bC BK319 3; have hfz22_0 := blk_frozen BK319.out 0; have hfz22_1 := blk_frozen BK319.out 1; have hfz22_2 := blk_frozen BK319.out 2; have hfz22_3 := blk_frozen BK319.out 3) | ((with_reducible refine gate_callee (f := 127) rfl ?_); refine gL (some 32) Try.func127 #[.slice A1 l1.length c1, .int .i64 ((rd_T89 l0 x25_2).f0)] ?_; (with_reducible refine (impl_isCovered.calls _ _ l1 ((rd_T89 l0 x25_2).f0) false _ ?side1 ?side2 A16.out).mono ?_); (case side1 => exact Kd.C_below HR1.out bG); (case side2 => exact HC1.out); rintro e w23 ⟨rfl, hb⟩; refine ⟨_, rfl, ?_⟩; have n0_ := Aside0.mk (blk_below (g := gb319) (o := .cells #[.int .i64 ((rd_T89 l0 x25_2).f0), .int .i64 ((rd_T89 l0 x25_2).f1), .int .i64 ((rd_T89 l0 x25_2).f2), .int .i64 ((rd_T89 l0 x25_2).f3)] 89 (0, 0)) (by (with_reducible repeat (first | refine blk_drewN ?_ _ | refine blk_drew ?_ | refine blk_alloc ?_ _)); refine blk_put (cs := #[.int .i64 ((rd_T89 l0 x25_2).f0), .int .i64 ((rd_T89 l0 x25_2).f1), .int .i64 ((rd_T89 l0 x25_2).f2), .int .i64 0]) ?_ 3 _ rfl; (with_reducible repeat (first | refine blk_drewN ?_ _ | refine blk_drew ?_ | refine blk_alloc ?_ _)); refine blk_put (cs := #[.int .i64 ((rd_T89 l0 x25_2).f0), .int .i64 ((rd_T89 l0 x25_2).f1), .int .i64 0, .int .i64 0]) ?_ 2 _ rfl; (with_reducible repeat (first | refine blk_drewN ?_ _ | refine blk_drew ?_ | refine blk_alloc ?_ _)); refine blk_put (cs := #[.int .i64 ((rd_T89 l0 x25_2).f0), .int .i64 0, .int .i64 0, .int .i64 0]) ?_ 1 _ rfl; (with_reducible repeat (first | refine blk_drewN ?_ _ | refine blk_drew ?_ | refine blk_alloc ?_ _)); refine blk_put (cs := #[.int .i64 0, .int .i64 0, .int .i64 0, .int .i64 0]) ?_ 0 _ rfl; (with_reducible repeat (first | refine blk_drewN ?_ _ | refine blk_drew ?_ | refine blk_alloc ?_ _)); exact BK319.out) hb); have n1_ := Aside0.mk (below_step bG hb); clear BK319; clear HB; have BK319 := n0_; have HB := n1_; clear n0_ n1_; (try clear hb)))
         go_ret
         exact ⟨rA, bG⟩
       ·
        rw [if_neg c13] at H
        have c13b0 := decide_eq_false c13
        clear c13
        obtain rfl := Option.some.inj H
        go_wp2
        go_ret
        exact ⟨rA, bA⟩
 ·
  replace c4 := Bool.eq_false_iff.mpr c4
  subst c4
  have H1 : (some false) = some r := by rw [if_neg (show ¬ (false = true) by decide)] at H; exact H
  clear H
  have H := H1
  clear H1
  obtain rfl := Option.some.inj H
  go_enter Try.func128, Try.ntmps128
  go_wp2_with (first | ((with_reducible refine gate_callee (f := 126) rfl ?_); refine gL (some 10) Try.func126 #[.slice A0 l0.length c0] ?_; (with_reducible refine (impl_ArePaths.calls k _ _ l0 false _ ?side1 ?side2 A3.out).mono ?_); (case side1 => exact cO HR0); (case side2 => exact HC0.out); rintro e w24 ⟨rfl, hb⟩; refine ⟨_, rfl, ?_⟩; replace HB := Aside0.mk (below_step bA hb); (try clear hb)))
  go_ret
  exact ⟨rA, bA⟩

/-! ### impl_IsPlan: function 78 -/
def impl_IsPlan.l0 : Nat → List (S89) → List (List Int) → List (S92) → Int → Int → Option (Bool)
 | 0, _, _, _, _, _ => none
 | k + 1, x0, x5, x13, x14, x15 => if x15 < x14 then (if 0 ≤ x15 then (if x15 < (x13.length : Int) then (if (((rd_T92 x13 x15).f0).length : Int) = 0 then (some false) else ((impl_IsTogether.f k x0 ((rd_T92 x13 x15).f0)).bind fun t328 => (if t328 = true then ((impl_LeastGreen.f k x0 ((rd_T92 x13 x15).f0)).bind fun t329 => ((impl_InRange.f ((rd_T92 x13 x15).f1) t329 60).bind fun t330 => (if t330 = true then (if x5.length < 5864062014805 then (impl_IsPlan.l0 k x0 (x5 ++ [(rd_T92 x13 x15).f0]) x13 x14 (wrap64 (x15 + 1))) else (none)) else (some false)))) else (some false)))) else (none)) else (none)) else ((impl_Covers.f k x0 x5).bind fun t325 => (some t325))
def impl_IsPlan.f (k : Nat) (l0 : List (S89)) (l1 : List (S92)) : Option (Bool) := (impl_InRange.f (l1.length : Int) 1 6).bind fun t321 => (if t321 = true then (impl_IsPlan.l0 k l0 (([] : List (List Int))) l1 (l1.length : Int) 0) else (some false))
theorem impl_IsPlan.mono_l : ∀ k, (∀ y0 y1 y2 y3 y4, LeO (impl_IsPlan.l0 k y0 y1 y2 y3 y4) (impl_IsPlan.l0 (k + 1) y0 y1 y2 y3 y4))
 | 0 => fun _ _ _ _ _ r h => by simp [impl_IsPlan.l0] at h
 | k + 1 => by
  have ih0 := impl_IsPlan.mono_l k
  ·
   intro y0 y1 y2 y3 y4
   unfold impl_IsPlan.l0
   repeat' first | (with_reducible first | exact LeO.refl _ | exact LeO.none _ | refine LeO.ite ?_ ?_ | refine LeO.bind ?_ (fun _ => ?_) | exact ih0 _ _ _ _ _ | exact impl_Covers.mono _ _ _ | exact impl_IsTogether.mono _ _ _ | exact impl_LeastGreen.mono _ _ _)
theorem impl_IsPlan.mono : ∀ a0 a1 k, LeO (impl_IsPlan.f k a0 a1) (impl_IsPlan.f (k + 1) a0 a1) := by
 intro a0 a1 k
 have ih0 := impl_IsPlan.mono_l k
 unfold impl_IsPlan.f
 repeat' first | (with_reducible first | exact LeO.refl _ | exact LeO.none _ | refine LeO.ite ?_ ?_ | refine LeO.bind ?_ (fun _ => ?_) | exact ih0 _ _ _ _ _ | exact impl_Covers.mono _ _ _ | exact impl_IsTogether.mono _ _ _ | exact impl_LeastGreen.mono _ _ _)
def impl_IsPlan.T7 : Bool × List (List Nat × List Nat) := (true, [([], []), ([0], [0]), ([1], [1]), ([2], [2]), ([3], [3]), ([4], [4]), ([4], [4]), ([6, 4], [4, 6]), ([5, 7, 4, 4], [4, 5, 7]), ([8, 4], [4, 8]), ([4, 9], [4, 9]), ([10, 8], [10]), ([11], [11]), ([12, 11], [11, 12]), ([11], [11]), ([11], [11]), ([15, 11], [11, 15]), ([14, 16, 11, 11], [11, 14, 16]), ([13, 17, 17, 11], [11, 13, 17]), ([18, 11], [11, 18]), ([11, 19], [11, 19])])
def impl_IsPlan.B7 : List Nat := [0, 1, 3, 7, 15, 31, 31, 95, 255, 511, 1023, 2047, 4095, 8191, 4095, 4095, 36863, 118783, 262143, 524287, 1048575]
theorem impl_IsPlan.tab7 : rtab .any (opsOf Try.f78 7) = impl_IsPlan.T7 := by kernel_rfl
theorem impl_IsPlan.bits7 : waitsOk impl_IsPlan.T7.2 impl_IsPlan.B7 = true := by kernel_rfl
set_option maxHeartbeats 8000000 in
set_option maxRecDepth 100000 in
theorem impl_IsPlan.calls (k : Nat) (A0 : Option Addr) (c0 : Nat) (l0 : List (S89)) (P1_ : Nat → Prop) (A1 : Option Addr) (c1 : Nat) (l1 : List (S92)) (r : Bool) (w : World) (hr0 : Kd.C k89 w A0 l0.length l0) (hc0 : l0.length ≤ c0) (hs1 : Kd.V k92 92 w w.heap.size (fun k_ => P1_ k_) (.slice A1 l1.length c1) l1) (h : impl_IsPlan.f k l0 l1 = some r) :
  Calls Try.prog 78 #[.slice A0 l0.length c0, .slice A1 l1.length c1] w fun e w' => e = .returned (.bool r) ∧ Below w.heap.size w w' := by
 have hu92 := Try.underlying92
 have HR0 := Aside0.mk hr0
 have HC0 := Aside0.mk hc0
 clear hr0 hc0
 have HO1 := Aside0.mk (show Kd.V k92 92 w w.heap.size (fun k_ => (P1_ k_ ∨ w.heap.size ≤ k_)) (.slice A1 l1.length c1) l1 from Kd.V_mono hs1 (fun k_ hk => .inl hk))
 have HB := Aside0.mk (Below.refl w.heap.size w)
 have H : ((impl_InRange.f (l1.length : Int) 1 6).bind fun t321 => (if t321 = true then (impl_IsPlan.l0 k l0 (([] : List (List Int))) l1 (l1.length : Int) 0) else (some false))) = some r := h
 clear h
 obtain ⟨t321, A3, H⟩ := bindE H
 try dsimp only at H
 by_cases c4 : t321 = true
 ·
  subst c4
  have H1 : (impl_IsPlan.l0 k l0 (([] : List (List Int))) l1 (l1.length : Int) 0) = some r := by rw [if_pos rfl] at H; exact H
  clear H
  have H := H1
  clear H1
  obtain ⟨y322, hy322⟩ : ∃ y_ : List (List Int), y_ = (([] : List (List Int))) := ⟨_, rfl⟩
  replace H : (impl_IsPlan.l0 k l0 y322 l1 (l1.length : Int) 0) = some r := by first | (rw [hy322]; with_reducible exact H) | (have H2_ := (Option.bind_some _ _).symm.trans H; rw [hy322]; with_reducible exact H2_) | (have H2_ := (Option.bind_some _ _).symm.trans H; with_reducible exact H2_) | with_reducible exact H | (rw [hy322]; exact H) | exact H
  have Ny322 := Aside0.mk hy322
  clear hy322
  have H' := Aside0.mk H
  clear H
  go_enter Try.func78, Try.ntmps78
  go_wp2_with (first | ((with_reducible refine gate_callee (f := 66) rfl ?_); refine gL (some 10) Try.func66 #[.int .i64 (l1.length : Int), .int .i64 1, .int .i64 6] ?_; (with_reducible refine (impl_InRange.calls (l1.length : Int) 1 6 true _ A3.out).mono ?_); rintro e w' ⟨rfl, ⟨nd, rfl⟩⟩; refine ⟨_, rfl, ?_⟩) | ((with_reducible refine gate_dst (N := 12) rfl ?_); refine Kd.N_lit (Kd.slice 3 (Kd.int .i64)) _ 41 ?hg (N' := 12) ?hd (xs := ([] : List (List Int))) (inner := []) (ok := (fun k_ => (P1_ k_ ∨ w.heap.size ≤ k_))) (okp := (fun k_ => (P1_ k_ ∨ w.heap.size ≤ k_))) ?hr ?hp (fun _ hk => hk) ((show ∀ k_, w.heap.size ≤ k_ → (fun k_ => (P1_ k_ ∨ w.heap.size ≤ k_)) k_ from fun k_ hk => (.inr (Nat.le_trans (below_size bA) hk))) _ (Nat.le_refl _)) (Below.refl _ _) (Nat.le_refl _) (by simp) ?_; (case hd => rfl); (case hg => rfl); (case hr => first | (go_simp; done) | (go_simp; rfl)); (case hp => exact (Reps.none _ _)); intro v323 w5 ho6 hb hg_ hnew_; clear hg_ hnew_; (first | rw [← Ny322.out] at ho6 | (simp only [Int.reduceToNat] at ho6; rw [← Ny322.out] at ho6)); have n0_ := Aside0.mk (Kd.V_elder' (by (with_reducible repeat (first | apply Kd.V_alloc | apply Kd.V_drewN | apply Kd.V_drew)); exact HO1.out) (Kd.N_base ho6) hb); have n1_ := Aside0.mk (Kd.N_lower ho6 (below_size bA)); have n2_ := Aside0.mk (below_step bA hb); clear HO1; clear HB; have HO1 := n0_; have HO324 := n1_; have HB := n2_; clear n0_ n1_ n2_; clear hb ho6))
  go_loopg [5, 15] k (fun kq v5 v15 w' => ∃ (x5_1 : List (List Int)) (x15_1 : Int), v15 = .int .i64 x15_1 ∧ Aside0 (impl_IsPlan.l0 kq l0 x5_1 l1 (l1.length : Int) x15_1 = some r) ∧ Aside0 (kq ≤ k) ∧ Aside0 (Kd.N (Kd.slice 3 (Kd.int .i64)) 41 w' w.heap.size (fun k_ => (P1_ k_ ∨ w.heap.size ≤ k_)) v5 x5_1) ∧ Aside0 (Kd.V k92 92 w' w.heap.size (fun k_ => (P1_ k_ ∨ w.heap.size ≤ k_) ∧ some k_ ≠ (v5 : Value).ownBlock) (.slice A1 l1.length c1) l1) ∧ Aside0 (Below w.heap.size w w'))
  case atStart => exact ⟨(y322), (0), rS, H', ⟨Nat.le_refl _⟩, ⟨by (with_reducible repeat (first | apply Kd.N_alloc | apply Kd.N_drewN | apply Kd.N_drew)); exact HO324.out⟩, ⟨by (with_reducible repeat (first | apply Kd.V_alloc | apply Kd.V_drewN | apply Kd.V_drew)); exact HO1.out⟩, ⟨bA⟩⟩
  case round =>
   clear H'
   try clear c1
   try clear p2
   try clear c4
   try clear c6
   obtain ⟨x5_1, x15_1, rfl, HA, HK1, HO_5, HO_13, HB⟩ := hrel
   cases gk with
   | zero => exact absurd HA.out (by simp [impl_IsPlan.l0])
   | succ k1 =>
    have H := HA.out
    clear HA
    simp only [impl_IsPlan.l0] at H
    by_cases c7 : x15_1 < (l1.length : Int)
    ·
     rw [if_pos c7] at H
     have c7b0 := decide_eq_true c7
     clear c7
     have c8 : 0 ≤ x15_1 := ifN H
     replace H := ifT H
     have c8b0 := decide_eq_true c8
     clear c8
     have c9 : x15_1 < (l1.length : Int) := ifN H
     replace H := ifT H
     have c9b0 := decide_eq_true c9
     clear c9
     by_cases c10 : (((rd_T92 l1 x15_1).f0).length : Int) = 0
     ·
      rw [if_pos c10] at H
      have c10b0 : ((((rd_T92 l1 x15_1).f0).length : Int) == 0) = true := beq_iff_eq.mpr c10
      have c10b1 : ((((rd_T92 l1 x15_1).f0).length : Int) != 0) = false := bne_eq_false_iff_eq.mpr c10
      clear c10
      obtain rfl := Option.some.inj H
      have p326 : 0 ≤ (x15_1 : Int) := dA
      have q326 : x15_1 < (l1.length : Int) := dA
      obtain ⟨ad326, A326_0, c326_0, e326, hx326_0, hx326_1, hl326_0, hi326_0⟩ := at_T92 (Kd.V_reads' HO_13.out).2.2 x15_1 p326 q326
      cases e326
      obtain ⟨ce326, hce326, hMe326, hcc326⟩ := Kd.V_get HO_13.out z92 x15_1 p326 (by first | exact q326 | exact dA | (have e_ := (Kd.V_reads' HO_13.out).1; omega))
      obtain ⟨ua326_0, uc326_0, rfl, ul326_0, ge326_0⟩ := k92_openF hMe326
      have hv326_0 := hcc326 0 _ rfl
      rw [Nat.add_zero] at hv326_0
      replace hv326_0 := Option.some.inj (hv326_0.symm.trans hx326_0)
      injection hv326_0 with hva_ hvn_ hvc_
      rw [hva_] at ge326_0
      rw [hvc_] at ul326_0
      have HL326_0 := Aside0.mk (show Kd.V (Kd.int .i64) 3 _ w.heap.size _ _ ((rd_T92 l1 x15_1).f0) from Kd.V_mk ul326_0 ge326_0)
      clear hva_ hvn_ hvc_ ge326_0 ul326_0
      clear hcc326 hce326
      have HR326_0 := Aside0.mk hi326_0
      have HC326_0 := Aside0.mk hl326_0
      clear hi326_0 hl326_0
      replace p326 := eq_true p326
      replace q326 := eq_true q326
      try go_wp2_with (first | ((with_reducible refine gate_dst (N := 7) rfl ?_); refine bE (N := 7) (cs := #[.slice none 0 0, .int .i64 0]) (t := 92) ?_; intro gb327 hg w11 hbox hb; have n0_ := Aside0.mk (Kd.N_below (Kd.N_elderB (by (with_reducible repeat (first | apply Kd.N_alloc | apply Kd.N_drewN | apply Kd.N_drew)); exact HO_5.out) gb327 (Nat.le_of_eq hg.symm)) hb); have n1_ := Aside0.mk (Kd.V_below (Kd.V_elderB (by (with_reducible repeat (first | apply Kd.V_alloc | apply Kd.V_drewN | apply Kd.V_drew)); exact HO_13.out) gb327 (Nat.le_of_eq hg.symm)) hb); have n2_ := Aside0.mk (Kd.V_below (Kd.V_elderB (by (with_reducible repeat (first | apply Kd.V_alloc | apply Kd.V_drewN | apply Kd.V_drew)); exact HL326_0.out) gb327 (Nat.le_of_eq hg.symm)) hb); have n3_ := Aside0.mk (Kd.C_below (by repeat (first | (with_reducible exact HR326_0.out) | (with_reducible refine Kd.C_alloc ?_ _) | (with_reducible refine Kd.C_drewN ?_ _) | (with_reducible refine Kd.C_drew ?_) | exact HR326_0.out)) hb); have n4_ := Aside0.mk (below_step bA hb); have n5_ := Aside0.mk (hbox); have n6_ := Aside0.mk ((by rw [hg]; exact (below_size bA) : w.heap.size ≤ gb327)); have n7_ := Aside0.mk ((by rw [hg]; exact (below_size bA) : w.heap.size ≤ gb327)); clear HO_5; clear HO_13; clear HL326_0; clear HR326_0; clear HB; have HO_5 := n0_; have HO_13 := n1_; have HL326_0 := n2_; have HR326_0 := n3_; have HB := n4_; have BK327 := n5_; have GW327 := n6_; have GE327 := n7_; clear n0_ n1_ n2_ n3_ n4_ n5_ n6_ n7_; clear hb hbox hg; obtain ⟨hcz12_0, hcz12_1, hfz12_0, hfz12_1⟩ := blkc2 BK327))
      have n0_ : Aside0 (Kd.N (Kd.slice 3 (Kd.int .i64)) 41 ((w11.setCell ⟨gb327, 0, none⟩ (.slice A326_0 ((rd_T92 l1 x15_1).f0).length c326_0)).setCell ⟨gb327, 1, none⟩ (.int .i64 ((rd_T92 l1 x15_1).f1))) w.heap.size (fun k_ => (P1_ k_ ∨ w.heap.size ≤ k_) ∧ k_ ≠ gb327) u5 x5_1) := ⟨by (with_reducible repeat (first | apply Kd.N_alloc | apply Kd.N_drewN | apply Kd.N_drew)); exact Kd.N_mono (Kd.N_far (p := ⟨gb327, 1, none⟩) (Kd.N_far (p := ⟨gb327, 0, none⟩) (Kd.N_mono HO_5.out (fun k_ hk => (⟨hk, hk.2⟩ : _ ∧ k_ ≠ gb327))) (fun _ hk => hk.2) (.slice A326_0 ((rd_T92 l1 x15_1).f0).length c326_0)) (fun _ hk => hk.2) (.int .i64 ((rd_T92 l1 x15_1).f1))) (fun _ hk => ⟨hk.1.1, hk.1.2⟩)⟩
      have n1_ : Aside0 (Kd.V k92 92 ((w11.setCell ⟨gb327, 0, none⟩ (.slice A326_0 ((rd_T92 l1 x15_1).f0).length c326_0)).setCell ⟨gb327, 1, none⟩ (.int .i64 ((rd_T92 l1 x15_1).f1))) w.heap.size (fun k_ => (P1_ k_ ∨ w.heap.size ≤ k_) ∧ some k_ ≠ (u5 : Value).ownBlock ∧ k_ ≠ gb327) (.slice (some ad326) l1.length c1) l1) := ⟨by (with_reducible repeat (first | apply Kd.V_alloc | apply Kd.V_drewN | apply Kd.V_drew)); exact Kd.V_mono (Kd.V_far (p := ⟨gb327, 1, none⟩) (Kd.V_far (p := ⟨gb327, 0, none⟩) (Kd.V_mono HO_13.out (fun k_ hk => (⟨hk, hk.2⟩ : _ ∧ k_ ≠ gb327))) (fun _ hk => hk.2) (.slice A326_0 ((rd_T92 l1 x15_1).f0).length c326_0)) (fun _ hk => hk.2) (.int .i64 ((rd_T92 l1 x15_1).f1))) (fun _ hk => ⟨hk.1.1.1, ⟨hk.1.1.2, hk.1.2⟩⟩)⟩
      have n2_ : Aside0 (Kd.V (Kd.int .i64) 3 ((w11.setCell ⟨gb327, 0, none⟩ (.slice A326_0 ((rd_T92 l1 x15_1).f0).length c326_0)).setCell ⟨gb327, 1, none⟩ (.int .i64 ((rd_T92 l1 x15_1).f1))) w.heap.size (fun k_ => (P1_ k_ ∨ w.heap.size ≤ k_) ∧ some k_ ≠ (u5 : Value).ownBlock ∧ k_ ≠ gb327) (.slice A326_0 ((rd_T92 l1 x15_1).f0).length c326_0) ((rd_T92 l1 x15_1).f0)) := ⟨by (with_reducible repeat (first | apply Kd.V_alloc | apply Kd.V_drewN | apply Kd.V_drew)); exact Kd.V_mono (Kd.V_far (p := ⟨gb327, 1, none⟩) (Kd.V_far (p := ⟨gb327, 0, none⟩) (Kd.V_mono HL326_0.out (fun k_ hk => (⟨hk, hk.2⟩ : _ ∧ k_ ≠ gb327))) (fun _ hk => hk.2) (.slice A326_0 ((rd_T92 l1 x15_1).f0).length c326_0)) (fun _ hk => hk.2) (.int .i64 ((rd_T92 l1 x15_1).f1))) (fun _ hk => ⟨hk.1.1.1, ⟨hk.1.1.2, hk.1.2⟩⟩)⟩
      have n3_ : Aside0 (((w11.setCell ⟨gb327, 0, none⟩ (.slice A326_0 ((rd_T92 l1 x15_1).f0).length c326_0)).setCell ⟨gb327, 1, none⟩ (.int .i64 ((rd_T92 l1 x15_1).f1))).heap[gb327]? = some (.cells #[.slice A326_0 ((rd_T92 l1 x15_1).f0).length c326_0, .int .i64 ((rd_T92 l1 x15_1).f1)] 92 (0, 0))) := ⟨by (with_reducible repeat (first | refine blk_drewN ?_ _ | refine blk_drew ?_ | refine blk_alloc ?_ _)); refine blk_put (cs := #[.slice A326_0 ((rd_T92 l1 x15_1).f0).length c326_0, .int .i64 0]) ?_ 1 _ rfl; (with_reducible repeat (first | refine blk_drewN ?_ _ | refine blk_drew ?_ | refine blk_alloc ?_ _)); refine blk_put (cs := #[.slice none 0 0, .int .i64 0]) ?_ 0 _ rfl; (with_reducible repeat (first | refine blk_drewN ?_ _ | refine blk_drew ?_ | refine blk_alloc ?_ _)); exact BK327.out⟩
      have n4_ : Aside0 (Below w.heap.size w ((w11.setCell ⟨gb327, 0, none⟩ (.slice A326_0 ((rd_T92 l1 x15_1).f0).length c326_0)).setCell ⟨gb327, 1, none⟩ (.int .i64 ((rd_T92 l1 x15_1).f1)))) := ⟨bG⟩
      (try clear HO_5)
      (try clear HO_13)
      (try clear HL326_0)
      (try clear BK327)
      (try clear HB)
      generalize ((w11.setCell ⟨gb327, 0, none⟩ (.slice A326_0 ((rd_T92 l1 x15_1).f0).length c326_0)).setCell ⟨gb327, 1, none⟩ (.int .i64 ((rd_T92 l1 x15_1).f1))) = w13 at n0_ n1_ n2_ n3_ n4_ ⊢
      have HO_5 := n0_
      have HO_13 := n1_
      have HL326_0 := n2_
      have BK327 := n3_
      have HB := n4_
      clear n0_ n1_ n2_ n3_ n4_
      replace HO_5 := Aside0.mk (Kd.N_drew HO_5.out)
      replace HO_13 := Aside0.mk (Kd.V_drew HO_13.out)
      replace HL326_0 := Aside0.mk (Kd.V_drew HL326_0.out)
      replace BK327 := Aside0.mk (blk_drew BK327.out)
      have HBo := HB
      replace HB := Aside0.mk (below_drew1 HB.out)
      refine start_ (n := 21) (S := fun w' => w'.cell? ⟨gb327, 0, none⟩ = some (.slice A326_0 ((rd_T92 l1 x15_1).f0).length c326_0) ∧ w'.cell? ⟨gb327, 1, none⟩ = some (.int .i64 ((rd_T92 l1 x15_1).f1))) (ds := []) (mb 21 0) (by kernel_rfl) rfl rfl ⟨bC BK327 0, bC BK327 1⟩ (fun hHeld => ?_); refine with_tabW impl_IsPlan.tab7 impl_IsPlan.bits7 (fun HT_ HW_ => ?_)
      generalize w13.drew = w14 at HO_5 HO_13 HL326_0 BK327 HB hHeld ⊢
      refine pA (i := 0) (N := some 19) (mb 21 1) HT_ ?_
      refine tA2 (i := 1) (N := some 20) (mb 21 3) HT_ HW_ hHeld ?_
      refine pA (i := 2) (N := some 21) (mb 21 7) HT_ ?_
      refine pA (i := 3) (N := some 22) (mb 21 15) HT_ ?_
      refine pA (i := 4) (N := some 23) (mb 21 31) HT_ ?_
      refine pU (i := 5) (N := some 24) (mb 21 63) HT_ ?_
      refine pU (i := 6) (N := some 25) (mb 21 127) HT_ ?_
      refine pU (i := 7) (N := some 26) (mb 21 255) HT_ ?_
      refine pU (i := 8) (N := some 27) (mb 21 511) HT_ ?_
      refine pU (i := 9) (N := some 28) (mb 21 1023) HT_ ?_
      refine pA (i := 10) (N := some 29) (mb 21 2047) HT_ ?_
      refine pA (i := 11) (N := some 30) (mb 21 4095) HT_ ?_
      refine pU (i := 12) (N := some 31) (mb 21 8191) HT_ ?_
      refine pU (i := 13) (N := some 32) (mb 21 16383) HT_ ?_
      refine pU (i := 14) (N := some 33) (mb 21 32767) HT_ ?_
      refine pU (i := 15) (N := some 34) (mb 21 65535) HT_ ?_
      refine pU (i := 16) (N := some 35) (mb 21 131071) HT_ ?_
      refine pU (i := 17) (N := some 36) (mb 21 262143) HT_ ?_
      refine pU (i := 18) (N := some 37) (mb 21 524287) HT_ ?_
      refine pU (i := 19) (N := some 38) (mb 21 1048575) HT_ ?_
      refine pA (i := 20) (N := some 39) (mb 21 2097151) HT_ ?_
      refine eA HT_ ?_
      try go_wp2
      go_ret
      exact ⟨rA, bG⟩
     ·
      rw [if_neg c10] at H
      have c10b0 : ((((rd_T92 l1 x15_1).f0).length : Int) == 0) = false := beq_eq_false_iff_ne.mpr c10
      have c10b1 : ((((rd_T92 l1 x15_1).f0).length : Int) != 0) = true := bne_iff_ne.mpr c10
      have c10b2 : ¬ (((rd_T92 l1 x15_1).f0) = []) := fun h_ => c10 (by rw [h_]; rfl)
      obtain ⟨t328, A15, H⟩ := bindE H
      try dsimp only at H
      by_cases c16 : t328 = true
      ·
       subst c16
       have H1 : ((impl_LeastGreen.f k1 l0 ((rd_T92 l1 x15_1).f0)).bind fun t329 => ((impl_InRange.f ((rd_T92 l1 x15_1).f1) t329 60).bind fun t330 => (if t330 = true then (if x5_1.length < 5864062014805 then (impl_IsPlan.l0 k1 l0 (x5_1 ++ [(rd_T92 l1 x15_1).f0]) l1 (l1.length : Int) (wrap64 (x15_1 + 1))) else (none)) else (some false)))) = some r := by rw [if_pos rfl] at H; exact H
       clear H
       have H := H1
       clear H1
       obtain ⟨t329, A17, H⟩ := bindE H
       try dsimp only at H
       obtain ⟨t330, A18, H⟩ := bindE H
       try dsimp only at H
       by_cases c19 : t330 = true
       ·
        subst c19
        have H1 : (if x5_1.length < 5864062014805 then (impl_IsPlan.l0 k1 l0 (x5_1 ++ [(rd_T92 l1 x15_1).f0]) l1 (l1.length : Int) (wrap64 (x15_1 + 1))) else (none)) = some r := by rw [if_pos rfl] at H; exact H
        clear H
        have H := H1
        clear H1
        have c20 : x5_1.length < 5864062014805 := ifN H
        replace H := ifT H
        have LMc20 := Aside0.mk c20
        clear c20
        obtain ⟨y331, hy331⟩ : ∃ y_ : List (List Int), y_ = (x5_1 ++ [(rd_T92 l1 x15_1).f0]) := ⟨_, rfl⟩
        replace H : (impl_IsPlan.l0 k1 l0 y331 l1 (l1.length : Int) (wrap64 (x15_1 + 1))) = some r := by first | (rw [hy331]; with_reducible exact H) | (have H2_ := (Option.bind_some _ _).symm.trans H; rw [hy331]; with_reducible exact H2_) | (have H2_ := (Option.bind_some _ _).symm.trans H; with_reducible exact H2_) | with_reducible exact H | (rw [hy331]; exact H) | exact H
        have Ny331 := Aside0.mk hy331
        clear hy331
        have H' := Aside0.mk H
        clear H
        have p326 : 0 ≤ (x15_1 : Int) := dA
        have q326 : x15_1 < (l1.length : Int) := dA
        obtain ⟨ad326, A326_0, c326_0, e326, hx326_0, hx326_1, hl326_0, hi326_0⟩ := at_T92 (Kd.V_reads' HO_13.out).2.2 x15_1 p326 q326
        cases e326
        obtain ⟨ce326, hce326, hMe326, hcc326⟩ := Kd.V_get HO_13.out z92 x15_1 p326 (by first | exact q326 | exact dA | (have e_ := (Kd.V_reads' HO_13.out).1; omega))
        obtain ⟨ua326_0, uc326_0, rfl, ul326_0, ge326_0⟩ := k92_openF hMe326
        have hv326_0 := hcc326 0 _ rfl
        rw [Nat.add_zero] at hv326_0
        replace hv326_0 := Option.some.inj (hv326_0.symm.trans hx326_0)
        injection hv326_0 with hva_ hvn_ hvc_
        rw [hva_] at ge326_0
        rw [hvc_] at ul326_0
        have HL326_0 := Aside0.mk (show Kd.V (Kd.int .i64) 3 _ w.heap.size _ _ ((rd_T92 l1 x15_1).f0) from Kd.V_mk ul326_0 ge326_0)
        clear hva_ hvn_ hvc_ ge326_0 ul326_0
        clear hcc326 hce326
        have HR326_0 := Aside0.mk hi326_0
        have HC326_0 := Aside0.mk hl326_0
        clear hi326_0 hl326_0
        replace p326 := eq_true p326
        replace q326 := eq_true q326
        try go_wp2_with (first | ((with_reducible refine gate_dst (N := 7) rfl ?_); refine bE (N := 7) (cs := #[.slice none 0 0, .int .i64 0]) (t := 92) ?_; intro gb327 hg w21 hbox hb; have n0_ := Aside0.mk (Kd.N_below (Kd.N_elderB (by (with_reducible repeat (first | apply Kd.N_alloc | apply Kd.N_drewN | apply Kd.N_drew)); exact HO_5.out) gb327 (Nat.le_of_eq hg.symm)) hb); have n1_ := Aside0.mk (Kd.V_below (Kd.V_elderB (by (with_reducible repeat (first | apply Kd.V_alloc | apply Kd.V_drewN | apply Kd.V_drew)); exact HO_13.out) gb327 (Nat.le_of_eq hg.symm)) hb); have n2_ := Aside0.mk (Kd.V_below (Kd.V_elderB (by (with_reducible repeat (first | apply Kd.V_alloc | apply Kd.V_drewN | apply Kd.V_drew)); exact HL326_0.out) gb327 (Nat.le_of_eq hg.symm)) hb); have n3_ := Aside0.mk (Kd.C_below (by repeat (first | (with_reducible exact HR326_0.out) | (with_reducible refine Kd.C_alloc ?_ _) | (with_reducible refine Kd.C_drewN ?_ _) | (with_reducible refine Kd.C_drew ?_) | exact HR326_0.out)) hb); have n4_ := Aside0.mk (below_step bA hb); have n5_ := Aside0.mk (hbox); have n6_ := Aside0.mk ((by rw [hg]; exact (below_size bA) : w.heap.size ≤ gb327)); have n7_ := Aside0.mk ((by rw [hg]; exact (below_size bA) : w.heap.size ≤ gb327)); clear HO_5; clear HO_13; clear HL326_0; clear HR326_0; clear HB; have HO_5 := n0_; have HO_13 := n1_; have HL326_0 := n2_; have HR326_0 := n3_; have HB := n4_; have BK327 := n5_; have GW327 := n6_; have GE327 := n7_; clear n0_ n1_ n2_ n3_ n4_ n5_ n6_ n7_; clear hb hbox hg; obtain ⟨hcz22_0, hcz22_1, hfz22_0, hfz22_1⟩ := blkc2 BK327))
        have n0_ : Aside0 (Kd.N (Kd.slice 3 (Kd.int .i64)) 41 ((w21.setCell ⟨gb327, 0, none⟩ (.slice A326_0 ((rd_T92 l1 x15_1).f0).length c326_0)).setCell ⟨gb327, 1, none⟩ (.int .i64 ((rd_T92 l1 x15_1).f1))) w.heap.size (fun k_ => (P1_ k_ ∨ w.heap.size ≤ k_) ∧ k_ ≠ gb327) u5 x5_1) := ⟨by (with_reducible repeat (first | apply Kd.N_alloc | apply Kd.N_drewN | apply Kd.N_drew)); exact Kd.N_mono (Kd.N_far (p := ⟨gb327, 1, none⟩) (Kd.N_far (p := ⟨gb327, 0, none⟩) (Kd.N_mono HO_5.out (fun k_ hk => (⟨hk, hk.2⟩ : _ ∧ k_ ≠ gb327))) (fun _ hk => hk.2) (.slice A326_0 ((rd_T92 l1 x15_1).f0).length c326_0)) (fun _ hk => hk.2) (.int .i64 ((rd_T92 l1 x15_1).f1))) (fun _ hk => ⟨hk.1.1, hk.1.2⟩)⟩
        have n1_ : Aside0 (Kd.V k92 92 ((w21.setCell ⟨gb327, 0, none⟩ (.slice A326_0 ((rd_T92 l1 x15_1).f0).length c326_0)).setCell ⟨gb327, 1, none⟩ (.int .i64 ((rd_T92 l1 x15_1).f1))) w.heap.size (fun k_ => (P1_ k_ ∨ w.heap.size ≤ k_) ∧ some k_ ≠ (u5 : Value).ownBlock ∧ k_ ≠ gb327) (.slice (some ad326) l1.length c1) l1) := ⟨by (with_reducible repeat (first | apply Kd.V_alloc | apply Kd.V_drewN | apply Kd.V_drew)); exact Kd.V_mono (Kd.V_far (p := ⟨gb327, 1, none⟩) (Kd.V_far (p := ⟨gb327, 0, none⟩) (Kd.V_mono HO_13.out (fun k_ hk => (⟨hk, hk.2⟩ : _ ∧ k_ ≠ gb327))) (fun _ hk => hk.2) (.slice A326_0 ((rd_T92 l1 x15_1).f0).length c326_0)) (fun _ hk => hk.2) (.int .i64 ((rd_T92 l1 x15_1).f1))) (fun _ hk => ⟨hk.1.1.1, ⟨hk.1.1.2, hk.1.2⟩⟩)⟩
        have n2_ : Aside0 (Kd.V (Kd.int .i64) 3 ((w21.setCell ⟨gb327, 0, none⟩ (.slice A326_0 ((rd_T92 l1 x15_1).f0).length c326_0)).setCell ⟨gb327, 1, none⟩ (.int .i64 ((rd_T92 l1 x15_1).f1))) w.heap.size (fun k_ => (P1_ k_ ∨ w.heap.size ≤ k_) ∧ some k_ ≠ (u5 : Value).ownBlock ∧ k_ ≠ gb327) (.slice A326_0 ((rd_T92 l1 x15_1).f0).length c326_0) ((rd_T92 l1 x15_1).f0)) := ⟨by (with_reducible repeat (first | apply Kd.V_alloc | apply Kd.V_drewN | apply Kd.V_drew)); exact Kd.V_mono (Kd.V_far (p := ⟨gb327, 1, none⟩) (Kd.V_far (p := ⟨gb327, 0, none⟩) (Kd.V_mono HL326_0.out (fun k_ hk => (⟨hk, hk.2⟩ : _ ∧ k_ ≠ gb327))) (fun _ hk => hk.2) (.slice A326_0 ((rd_T92 l1 x15_1).f0).length c326_0)) (fun _ hk => hk.2) (.int .i64 ((rd_T92 l1 x15_1).f1))) (fun _ hk => ⟨hk.1.1.1, ⟨hk.1.1.2, hk.1.2⟩⟩)⟩
        have n3_ : Aside0 (((w21.setCell ⟨gb327, 0, none⟩ (.slice A326_0 ((rd_T92 l1 x15_1).f0).length c326_0)).setCell ⟨gb327, 1, none⟩ (.int .i64 ((rd_T92 l1 x15_1).f1))).heap[gb327]? = some (.cells #[.slice A326_0 ((rd_T92 l1 x15_1).f0).length c326_0, .int .i64 ((rd_T92 l1 x15_1).f1)] 92 (0, 0))) := ⟨by (with_reducible repeat (first | refine blk_drewN ?_ _ | refine blk_drew ?_ | refine blk_alloc ?_ _)); refine blk_put (cs := #[.slice A326_0 ((rd_T92 l1 x15_1).f0).length c326_0, .int .i64 0]) ?_ 1 _ rfl; (with_reducible repeat (first | refine blk_drewN ?_ _ | refine blk_drew ?_ | refine blk_alloc ?_ _)); refine blk_put (cs := #[.slice none 0 0, .int .i64 0]) ?_ 0 _ rfl; (with_reducible repeat (first | refine blk_drewN ?_ _ | refine blk_drew ?_ | refine blk_alloc ?_ _)); exact BK327.out⟩
        have n4_ : Aside0 (Below w.heap.size w ((w21.setCell ⟨gb327, 0, none⟩ (.slice A326_0 ((rd_T92 l1 x15_1).f0).length c326_0)).setCell ⟨gb327, 1, none⟩ (.int .i64 ((rd_T92 l1 x15_1).f1)))) := ⟨bG⟩
        (try clear HO_5)
        (try clear HO_13)
        (try clear HL326_0)
        (try clear BK327)
        (try clear HB)
        generalize ((w21.setCell ⟨gb327, 0, none⟩ (.slice A326_0 ((rd_T92 l1 x15_1).f0).length c326_0)).setCell ⟨gb327, 1, none⟩ (.int .i64 ((rd_T92 l1 x15_1).f1))) = w23 at n0_ n1_ n2_ n3_ n4_ ⊢
        have HO_5 := n0_
        have HO_13 := n1_
        have HL326_0 := n2_
        have BK327 := n3_
        have HB := n4_
        clear n0_ n1_ n2_ n3_ n4_
        replace HO_5 := Aside0.mk (Kd.N_drew HO_5.out)
        replace HO_13 := Aside0.mk (Kd.V_drew HO_13.out)
        replace HL326_0 := Aside0.mk (Kd.V_drew HL326_0.out)
        replace BK327 := Aside0.mk (blk_drew BK327.out)
        have HBo := HB
        replace HB := Aside0.mk (below_drew1 HB.out)
        refine start_ (n := 21) (S := fun w' => w'.cell? ⟨gb327, 0, none⟩ = some (.slice A326_0 ((rd_T92 l1 x15_1).f0).length c326_0) ∧ w'.cell? ⟨gb327, 1, none⟩ = some (.int .i64 ((rd_T92 l1 x15_1).f1))) (ds := []) (mb 21 0) (by kernel_rfl) rfl rfl ⟨bC BK327 0, bC BK327 1⟩ (fun hHeld => ?_); refine with_tabW impl_IsPlan.tab7 impl_IsPlan.bits7 (fun HT_ HW_ => ?_)
        generalize w23.drew = w24 at HO_5 HO_13 HL326_0 BK327 HB hHeld ⊢
        refine pA (i := 0) (N := some 19) (mb 21 1) HT_ ?_
        refine tA2 (i := 1) (N := some 20) (mb 21 3) HT_ HW_ hHeld ?_
        refine pA (i := 2) (N := some 21) (mb 21 7) HT_ ?_
        refine pA (i := 3) (N := some 22) (mb 21 15) HT_ ?_
        refine pA (i := 4) (N := some 23) (mb 21 31) HT_ ?_
        refine pA (i := 5) (N := some 24) (mb 21 63) HT_ ?_
        refine pA (i := 6) (N := some 25) (mb 21 127) HT_ ?_
        refine tA2 (i := 7) (N := some 26) (mb 21 255) HT_ HW_ hHeld ?_
        refine oA (i := 8) (N := some 27) (mb 21 511) HT_ (fun K hK => ?_)
        refine gA Try.func87 #[.slice A0 l0.length c0, .slice A326_0 ((rd_T92 l1 x15_1).f0).length c326_0] ?_
        with_reducible refine (impl_IsTogether.calls k1 _ _ l0 _ _ ((rd_T92 l1 x15_1).f0) true _ ?side1 ?side2 ?side3 ?side4 A15.out).mono ?_
        (case side1 => exact cB HR0)
        (case side2 => exact HC0.out)
        (case side3 => repeat (first | exact ((Kd.V_reads' (by (with_reducible repeat (first | apply Kd.V_alloc | apply Kd.V_drewN | apply Kd.V_drew)); exact HL326_0.out)).2.2) | (with_reducible refine Kd.C_alloc ?_ _) | (with_reducible refine Kd.C_drewN ?_ _) | (with_reducible refine Kd.C_drew ?_)))
        (case side4 => exact HC326_0.out)
        rintro e w25 ⟨rfl, hb⟩
        refine ⟨_, rfl, ?_⟩
        replace HO_5 := Aside0.mk (Kd.N_below (by (with_reducible repeat (first | apply Kd.N_alloc | apply Kd.N_drewN | apply Kd.N_drew)); exact HO_5.out) hb)
        replace HO_13 := Aside0.mk (Kd.V_below (by (with_reducible repeat (first | apply Kd.V_alloc | apply Kd.V_drewN | apply Kd.V_drew)); exact HO_13.out) hb)
        replace HL326_0 := Aside0.mk (Kd.V_below (by (with_reducible repeat (first | apply Kd.V_alloc | apply Kd.V_drewN | apply Kd.V_drew)); exact HL326_0.out) hb)
        replace BK327 := Aside0.mk (blk_below (g := gb327) (bK BK327) hb)
        replace HB := Aside0.mk (below_step bG hb)
        (try clear hb)
        (try clear hb2)
        (try clear hk)
        (try clear hi)
        refine hK.out _ _ ⟨bC BK327 0, bC BK327 1⟩ (fun hHeld => ?_)
        clear hK K
        refine nB ?_
        refine pA (i := 9) (N := some 28) (mb 21 1023) HT_ ?_
        refine pA (i := 10) (N := some 29) (mb 21 2047) HT_ ?_
        refine pA (i := 11) (N := some 30) (mb 21 4095) HT_ ?_
        refine pA (i := 12) (N := some 31) (mb 21 8191) HT_ ?_
        refine pA (i := 14) (N := some 33) (mb 21 24575) HT_ ?_
        refine pA (i := 15) (N := some 34) (mb 21 57343) HT_ ?_
        refine tA2 (i := 13) (N := some 32) (mb 21 65535) HT_ HW_ hHeld ?_
        refine tA2 (i := 16) (N := some 35) (mb 21 131071) HT_ HW_ hHeld ?_
        refine oA (i := 17) (N := some 36) (mb 21 262143) HT_ (fun K hK => ?_)
        refine gA Try.func77 #[.slice A0 l0.length c0, .slice A326_0 ((rd_T92 l1 x15_1).f0).length c326_0] ?_
        with_reducible refine (impl_LeastGreen.calls k1 _ _ l0 _ _ ((rd_T92 l1 x15_1).f0) t329 _ ?side1 ?side2 ?side3 ?side4 A17.out).mono ?_
        (case side1 => exact cB HR0)
        (case side2 => exact HC0.out)
        (case side3 => repeat (first | exact ((Kd.V_reads' (by (with_reducible repeat (first | apply Kd.V_alloc | apply Kd.V_drewN | apply Kd.V_drew)); exact HL326_0.out)).2.2) | (with_reducible refine Kd.C_alloc ?_ _) | (with_reducible refine Kd.C_drewN ?_ _) | (with_reducible refine Kd.C_drew ?_)))
        (case side4 => exact HC326_0.out)
        rintro e w26 ⟨rfl, hb⟩
        refine ⟨_, rfl, ?_⟩
        replace HO_5 := Aside0.mk (Kd.N_below (by (with_reducible repeat (first | apply Kd.N_alloc | apply Kd.N_drewN | apply Kd.N_drew)); exact HO_5.out) hb)
        replace HO_13 := Aside0.mk (Kd.V_below (by (with_reducible repeat (first | apply Kd.V_alloc | apply Kd.V_drewN | apply Kd.V_drew)); exact HO_13.out) hb)
        replace HL326_0 := Aside0.mk (Kd.V_below (by (with_reducible repeat (first | apply Kd.V_alloc | apply Kd.V_drewN | apply Kd.V_drew)); exact HL326_0.out) hb)
        replace BK327 := Aside0.mk (blk_below (g := gb327) (bK BK327) hb)
        replace HB := Aside0.mk (below_step bG hb)
        (try clear hb)
        (try clear hb2)
        (try clear hk)
        (try clear hi)
        refine hK.out _ _ ⟨bC BK327 0, bC BK327 1⟩ (fun hHeld => ?_)
        clear hK K
        refine nB ?_
        refine oA (i := 18) (N := some 37) (mb 21 524287) HT_ (fun K hK => ?_)
        refine gA Try.func66 #[.int .i64 ((rd_T92 l1 x15_1).f1), .int .i64 t329, .int .i64 60] ?_
        with_reducible refine (impl_InRange.calls ((rd_T92 l1 x15_1).f1) t329 60 true _ A18.out).mono ?_
        rintro e w' ⟨rfl, ⟨nd, rfl⟩⟩
        refine ⟨_, rfl, ?_⟩
        refine hK.out _ _ ⟨bC BK327 0, bC BK327 1⟩ (fun hHeld => ?_)
        clear hK K
        refine nB ?_
        refine pA (i := 19) (N := some 38) (mb 21 1048575) HT_ ?_
        refine pA (i := 20) (N := some 39) (mb 21 2097151) HT_ ?_
        refine eA HT_ ?_
        obtain ⟨hcz27_0, hcz27_1, hfz27_0, hfz27_1⟩ := blkc2 BK327
        try go_wp2_with (first | ((with_reducible refine gate_builtin (b := .append) (xs := #[.tmp 40, .tmp 43]) rfl ?_); at_builtin; refine Kd.N_append (Kd.slice 3 (Kd.int .i64)) (w0 := w) w.heap.size rfl (.tmp 40) (.tmp 43) 103 41 (.slice none 0 0) 24 rfl Try.underlying103 info41 rfl (by decide) (by omega) u5 x5_1 ((rd_T92 l1 x15_1).f0) [.slice A326_0 ((rd_T92 l1 x15_1).f0).length c326_0] (fun k_ => (P1_ k_ ∨ w.heap.size ≤ k_) ∧ k_ ≠ gb327) (fun k_ => ((fun k_ => (P1_ k_ ∨ w.heap.size ≤ k_) ∧ k_ ≠ gb327)) k_ ∧ some k_ ≠ (u5 : Value).ownBlock) rfl rfl ?aP (fun _ hk => hk) ?aF ?aO ?aB ?aS ?aL ?_; (case aP => first | exact (Kd.FK_slice_mk (Kd.V_reads' (Kd.V_mono (ok' := (fun k_ => ((fun k_ => (P1_ k_ ∨ w.heap.size ≤ k_) ∧ k_ ≠ gb327)) k_ ∧ some k_ ≠ (u5 : Value).ownBlock)) (HL326_0.out) (fun k_ hk => ⟨⟨hk.1, hk.2.2⟩, hk.2.1⟩))).2.1 (Kd.V_F (Kd.V_mono (ok' := (fun k_ => ((fun k_ => (P1_ k_ ∨ w.heap.size ≤ k_) ∧ k_ ≠ gb327)) k_ ∧ some k_ ≠ (u5 : Value).ownBlock)) (HL326_0.out) (fun k_ hk => ⟨⟨hk.1, hk.2.2⟩, hk.2.1⟩)))) | exact (Kd.FK_slice_mk (Kd.V_reads' (Kd.V_mono (ok' := (fun k_ => ((fun k_ => (P1_ k_ ∨ w.heap.size ≤ k_) ∧ k_ ≠ gb327)) k_ ∧ some k_ ≠ (u5 : Value).ownBlock)) (HL326_0.out) (fun k_ hk => by first | exact ⟨⟨hk.1, hk.2.2⟩, hk.2.1⟩ | exact ⟨⟨hk.1.1, hk.2⟩, hk.1.2⟩ | exact ⟨⟨hk.1.1, hk.1.2⟩, hk.2⟩ | exact ⟨hk.1.1, hk.2, hk.1.2⟩ | exact hk.1 | simp_all))).2.1 (Kd.V_F (Kd.V_mono (ok' := (fun k_ => ((fun k_ => (P1_ k_ ∨ w.heap.size ≤ k_) ∧ k_ ≠ gb327)) k_ ∧ some k_ ≠ (u5 : Value).ownBlock)) (by (with_reducible repeat (first | apply Kd.V_alloc | apply Kd.V_drewN | apply Kd.V_drew)); exact HL326_0.out) (fun k_ hk => by first | exact ⟨⟨hk.1, hk.2.2⟩, hk.2.1⟩ | exact ⟨⟨hk.1.1, hk.2⟩, hk.1.2⟩ | exact ⟨⟨hk.1.1, hk.1.2⟩, hk.2⟩ | exact ⟨hk.1.1, hk.2, hk.1.2⟩ | exact hk.1 | simp_all))))); (case aB => exact bG); (case aF => exact (fun k_ hk => ⟨(.inr (Nat.le_trans (below_size bG) hk)), Kd.freshB (g := gb327) (o := .cells #[.slice A326_0 ((rd_T92 l1 x15_1).f0).length c326_0, .int .i64 ((rd_T92 l1 x15_1).f1)] 92 (0, 0)) (bK BK327) k_ hk⟩)); (case aO => exact (by (with_reducible repeat (first | apply Kd.N_alloc | apply Kd.N_drewN | apply Kd.N_drew)); exact HO_5.out)); (case aS => exact (below_size bG)); (case aL => have := LMc20.out; omega); intro v332 w28 ho hb hg hat; rw [← Ny331.out] at ho; have n0_ := Aside0.mk (Kd.V_afterv (ok := (fun k_ => (P1_ k_ ∨ w.heap.size ≤ k_) ∧ k_ ≠ gb327)) (by (with_reducible repeat (first | apply Kd.V_alloc | apply Kd.V_drewN | apply Kd.V_drew)); exact Kd.V_mono HO_13.out (fun _ hk => ⟨⟨hk.1, hk.2.2⟩, hk.2.1⟩)) hg hat); have n1_ := Aside0.mk (Kd.V_afterv (ok := (fun k_ => (P1_ k_ ∨ w.heap.size ≤ k_) ∧ k_ ≠ gb327)) (by (with_reducible repeat (first | apply Kd.V_alloc | apply Kd.V_drewN | apply Kd.V_drew)); exact Kd.V_mono HL326_0.out (fun _ hk => ⟨⟨hk.1, hk.2.2⟩, hk.2.1⟩)) hg hat); have n2_ := Aside0.mk (blk_grown (g := gb327) (o := .cells #[.slice A326_0 ((rd_T92 l1 x15_1).f0).length c326_0, .int .i64 ((rd_T92 l1 x15_1).f1)] 92 (0, 0)) (bK BK327) hg (Kd.N_ne HO_5.out BK327.out (by decide))); have n3_ := Aside0.mk (hb); have n4_ := Aside0.mk (ho); clear HO_13; clear HL326_0; clear BK327; clear HB; clear HO_5; have HO_13 := n0_; have HL326_0 := n1_; have BK327 := n2_; have HB := n3_; have HO333 := n4_; clear n0_ n1_ n2_ n3_ n4_; clear ho hb hg hat))
        go_roundg k1
        case measure => have := HK1.out; omega
        case rel => exact ⟨(y331), (wrap64 (x15_1 + 1)), rS, H', ⟨by have := HK1.out; omega⟩, ⟨by (with_reducible repeat (first | apply Kd.N_alloc | apply Kd.N_drewN | apply Kd.N_drew)); exact Kd.N_mono HO333.out (fun _ hk => hk.1)⟩, ⟨by (with_reducible repeat (first | apply Kd.V_alloc | apply Kd.V_drewN | apply Kd.V_drew)); exact Kd.V_mono HO_13.out (fun _ hk => ⟨hk.1.1, hk.2⟩)⟩, ⟨bG⟩⟩
       ·
        replace c19 := Bool.eq_false_iff.mpr c19
        subst c19
        have H1 : (some false) = some r := by rw [if_neg (show ¬ (false = true) by decide)] at H; exact H
        clear H
        have H := H1
        clear H1
        obtain rfl := Option.some.inj H
        have p326 : 0 ≤ (x15_1 : Int) := dA
        have q326 : x15_1 < (l1.length : Int) := dA
        obtain ⟨ad326, A326_0, c326_0, e326, hx326_0, hx326_1, hl326_0, hi326_0⟩ := at_T92 (Kd.V_reads' HO_13.out).2.2 x15_1 p326 q326
        cases e326
        obtain ⟨ce326, hce326, hMe326, hcc326⟩ := Kd.V_get HO_13.out z92 x15_1 p326 (by first | exact q326 | exact dA | (have e_ := (Kd.V_reads' HO_13.out).1; omega))
        obtain ⟨ua326_0, uc326_0, rfl, ul326_0, ge326_0⟩ := k92_openF hMe326
        have hv326_0 := hcc326 0 _ rfl
        rw [Nat.add_zero] at hv326_0
        replace hv326_0 := Option.some.inj (hv326_0.symm.trans hx326_0)
        injection hv326_0 with hva_ hvn_ hvc_
        rw [hva_] at ge326_0
        rw [hvc_] at ul326_0
        have HL326_0 := Aside0.mk (show Kd.V (Kd.int .i64) 3 _ w.heap.size _ _ ((rd_T92 l1 x15_1).f0) from Kd.V_mk ul326_0 ge326_0)
        clear hva_ hvn_ hvc_ ge326_0 ul326_0
        clear hcc326 hce326
        have HR326_0 := Aside0.mk hi326_0
        have HC326_0 := Aside0.mk hl326_0
        clear hi326_0 hl326_0
        replace p326 := eq_true p326
        replace q326 := eq_true q326
        try go_wp2_with (first | ((with_reducible refine gate_dst (N := 7) rfl ?_); refine bE (N := 7) (cs := #[.slice none 0 0, .int .i64 0]) (t := 92) ?_; intro gb327 hg w29 hbox hb; have n0_ := Aside0.mk (Kd.N_below (Kd.N_elderB (by (with_reducible repeat (first | apply Kd.N_alloc | apply Kd.N_drewN | apply Kd.N_drew)); exact HO_5.out) gb327 (Nat.le_of_eq hg.symm)) hb); have n1_ := Aside0.mk (Kd.V_below (Kd.V_elderB (by (with_reducible repeat (first | apply Kd.V_alloc | apply Kd.V_drewN | apply Kd.V_drew)); exact HO_13.out) gb327 (Nat.le_of_eq hg.symm)) hb); have n2_ := Aside0.mk (Kd.V_below (Kd.V_elderB (by (with_reducible repeat (first | apply Kd.V_alloc | apply Kd.V_drewN | apply Kd.V_drew)); exact HL326_0.out) gb327 (Nat.le_of_eq hg.symm)) hb); have n3_ := Aside0.mk (Kd.C_below (by repeat (first | (with_reducible exact HR326_0.out) | (with_reducible refine Kd.C_alloc ?_ _) | (with_reducible refine Kd.C_drewN ?_ _) | (with_reducible refine Kd.C_drew ?_) | exact HR326_0.out)) hb); have n4_ := Aside0.mk (below_step bA hb); have n5_ := Aside0.mk (hbox); have n6_ := Aside0.mk ((by rw [hg]; exact (below_size bA) : w.heap.size ≤ gb327)); have n7_ := Aside0.mk ((by rw [hg]; exact (below_size bA) : w.heap.size ≤ gb327)); clear HO_5; clear HO_13; clear HL326_0; clear HR326_0; clear HB; have HO_5 := n0_; have HO_13 := n1_; have HL326_0 := n2_; have HR326_0 := n3_; have HB := n4_; have BK327 := n5_; have GW327 := n6_; have GE327 := n7_; clear n0_ n1_ n2_ n3_ n4_ n5_ n6_ n7_; clear hb hbox hg; obtain ⟨hcz30_0, hcz30_1, hfz30_0, hfz30_1⟩ := blkc2 BK327))
        have n0_ : Aside0 (Kd.N (Kd.slice 3 (Kd.int .i64)) 41 ((w29.setCell ⟨gb327, 0, none⟩ (.slice A326_0 ((rd_T92 l1 x15_1).f0).length c326_0)).setCell ⟨gb327, 1, none⟩ (.int .i64 ((rd_T92 l1 x15_1).f1))) w.heap.size (fun k_ => (P1_ k_ ∨ w.heap.size ≤ k_) ∧ k_ ≠ gb327) u5 x5_1) := ⟨by (with_reducible repeat (first | apply Kd.N_alloc | apply Kd.N_drewN | apply Kd.N_drew)); exact Kd.N_mono (Kd.N_far (p := ⟨gb327, 1, none⟩) (Kd.N_far (p := ⟨gb327, 0, none⟩) (Kd.N_mono HO_5.out (fun k_ hk => (⟨hk, hk.2⟩ : _ ∧ k_ ≠ gb327))) (fun _ hk => hk.2) (.slice A326_0 ((rd_T92 l1 x15_1).f0).length c326_0)) (fun _ hk => hk.2) (.int .i64 ((rd_T92 l1 x15_1).f1))) (fun _ hk => ⟨hk.1.1, hk.1.2⟩)⟩
        have n1_ : Aside0 (Kd.V k92 92 ((w29.setCell ⟨gb327, 0, none⟩ (.slice A326_0 ((rd_T92 l1 x15_1).f0).length c326_0)).setCell ⟨gb327, 1, none⟩ (.int .i64 ((rd_T92 l1 x15_1).f1))) w.heap.size (fun k_ => (P1_ k_ ∨ w.heap.size ≤ k_) ∧ some k_ ≠ (u5 : Value).ownBlock ∧ k_ ≠ gb327) (.slice (some ad326) l1.length c1) l1) := ⟨by (with_reducible repeat (first | apply Kd.V_alloc | apply Kd.V_drewN | apply Kd.V_drew)); exact Kd.V_mono (Kd.V_far (p := ⟨gb327, 1, none⟩) (Kd.V_far (p := ⟨gb327, 0, none⟩) (Kd.V_mono HO_13.out (fun k_ hk => (⟨hk, hk.2⟩ : _ ∧ k_ ≠ gb327))) (fun _ hk => hk.2) (.slice A326_0 ((rd_T92 l1 x15_1).f0).length c326_0)) (fun _ hk => hk.2) (.int .i64 ((rd_T92 l1 x15_1).f1))) (fun _ hk => ⟨hk.1.1.1, ⟨hk.1.1.2, hk.1.2⟩⟩)⟩
        have n2_ : Aside0 (Kd.V (Kd.int .i64) 3 ((w29.setCell ⟨gb327, 0, none⟩ (.slice A326_0 ((rd_T92 l1 x15_1).f0).length c326_0)).setCell ⟨gb327, 1, none⟩ (.int .i64 ((rd_T92 l1 x15_1).f1))) w.heap.size (fun k_ => (P1_ k_ ∨ w.heap.size ≤ k_) ∧ some k_ ≠ (u5 : Value).ownBlock ∧ k_ ≠ gb327) (.slice A326_0 ((rd_T92 l1 x15_1).f0).length c326_0) ((rd_T92 l1 x15_1).f0)) := ⟨by (with_reducible repeat (first | apply Kd.V_alloc | apply Kd.V_drewN | apply Kd.V_drew)); exact Kd.V_mono (Kd.V_far (p := ⟨gb327, 1, none⟩) (Kd.V_far (p := ⟨gb327, 0, none⟩) (Kd.V_mono HL326_0.out (fun k_ hk => (⟨hk, hk.2⟩ : _ ∧ k_ ≠ gb327))) (fun _ hk => hk.2) (.slice A326_0 ((rd_T92 l1 x15_1).f0).length c326_0)) (fun _ hk => hk.2) (.int .i64 ((rd_T92 l1 x15_1).f1))) (fun _ hk => ⟨hk.1.1.1, ⟨hk.1.1.2, hk.1.2⟩⟩)⟩
        have n3_ : Aside0 (((w29.setCell ⟨gb327, 0, none⟩ (.slice A326_0 ((rd_T92 l1 x15_1).f0).length c326_0)).setCell ⟨gb327, 1, none⟩ (.int .i64 ((rd_T92 l1 x15_1).f1))).heap[gb327]? = some (.cells #[.slice A326_0 ((rd_T92 l1 x15_1).f0).length c326_0, .int .i64 ((rd_T92 l1 x15_1).f1)] 92 (0, 0))) := ⟨by (with_reducible repeat (first | refine blk_drewN ?_ _ | refine blk_drew ?_ | refine blk_alloc ?_ _)); refine blk_put (cs := #[.slice A326_0 ((rd_T92 l1 x15_1).f0).length c326_0, .int .i64 0]) ?_ 1 _ rfl; (with_reducible repeat (first | refine blk_drewN ?_ _ | refine blk_drew ?_ | refine blk_alloc ?_ _)); refine blk_put (cs := #[.slice none 0 0, .int .i64 0]) ?_ 0 _ rfl; (with_reducible repeat (first | refine blk_drewN ?_ _ | refine blk_drew ?_ | refine blk_alloc ?_ _)); exact BK327.out⟩
        have n4_ : Aside0 (Below w.heap.size w ((w29.setCell ⟨gb327, 0, none⟩ (.slice A326_0 ((rd_T92 l1 x15_1).f0).length c326_0)).setCell ⟨gb327, 1, none⟩ (.int .i64 ((rd_T92 l1 x15_1).f1)))) := ⟨bG⟩
        (try clear HO_5)
        (try clear HO_13)
        (try clear HL326_0)
        (try clear BK327)
        (try clear HB)
        generalize ((w29.setCell ⟨gb327, 0, none⟩ (.slice A326_0 ((rd_T92 l1 x15_1).f0).length c326_0)).setCell ⟨gb327, 1, none⟩ (.int .i64 ((rd_T92 l1 x15_1).f1))) = w31 at n0_ n1_ n2_ n3_ n4_ ⊢
        have HO_5 := n0_
        have HO_13 := n1_
        have HL326_0 := n2_
        have BK327 := n3_
        have HB := n4_
        clear n0_ n1_ n2_ n3_ n4_
        replace HO_5 := Aside0.mk (Kd.N_drew HO_5.out)
        replace HO_13 := Aside0.mk (Kd.V_drew HO_13.out)
        replace HL326_0 := Aside0.mk (Kd.V_drew HL326_0.out)
        replace BK327 := Aside0.mk (blk_drew BK327.out)
        have HBo := HB
        replace HB := Aside0.mk (below_drew1 HB.out)
        refine start_ (n := 21) (S := fun w' => w'.cell? ⟨gb327, 0, none⟩ = some (.slice A326_0 ((rd_T92 l1 x15_1).f0).length c326_0) ∧ w'.cell? ⟨gb327, 1, none⟩ = some (.int .i64 ((rd_T92 l1 x15_1).f1))) (ds := []) (mb 21 0) (by kernel_rfl) rfl rfl ⟨bC BK327 0, bC BK327 1⟩ (fun hHeld => ?_); refine with_tabW impl_IsPlan.tab7 impl_IsPlan.bits7 (fun HT_ HW_ => ?_)
        generalize w31.drew = w32 at HO_5 HO_13 HL326_0 BK327 HB hHeld ⊢
        refine pA (i := 0) (N := some 19) (mb 21 1) HT_ ?_
        refine tA2 (i := 1) (N := some 20) (mb 21 3) HT_ HW_ hHeld ?_
        refine pA (i := 2) (N := some 21) (mb 21 7) HT_ ?_
        refine pA (i := 3) (N := some 22) (mb 21 15) HT_ ?_
        refine pA (i := 4) (N := some 23) (mb 21 31) HT_ ?_
        refine pA (i := 5) (N := some 24) (mb 21 63) HT_ ?_
        refine pA (i := 6) (N := some 25) (mb 21 127) HT_ ?_
        refine tA2 (i := 7) (N := some 26) (mb 21 255) HT_ HW_ hHeld ?_
        refine oA (i := 8) (N := some 27) (mb 21 511) HT_ (fun K hK => ?_)
        refine gA Try.func87 #[.slice A0 l0.length c0, .slice A326_0 ((rd_T92 l1 x15_1).f0).length c326_0] ?_
        with_reducible refine (impl_IsTogether.calls k1 _ _ l0 _ _ ((rd_T92 l1 x15_1).f0) true _ ?side1 ?side2 ?side3 ?side4 A15.out).mono ?_
        (case side1 => exact cB HR0)
        (case side2 => exact HC0.out)
        (case side3 => repeat (first | exact ((Kd.V_reads' (by (with_reducible repeat (first | apply Kd.V_alloc | apply Kd.V_drewN | apply Kd.V_drew)); exact HL326_0.out)).2.2) | (with_reducible refine Kd.C_alloc ?_ _) | (with_reducible refine Kd.C_drewN ?_ _) | (with_reducible refine Kd.C_drew ?_)))
        (case side4 => exact HC326_0.out)
        rintro e w33 ⟨rfl, hb⟩
        refine ⟨_, rfl, ?_⟩
        replace HO_5 := Aside0.mk (Kd.N_below (by (with_reducible repeat (first | apply Kd.N_alloc | apply Kd.N_drewN | apply Kd.N_drew)); exact HO_5.out) hb)
        replace HO_13 := Aside0.mk (Kd.V_below (by (with_reducible repeat (first | apply Kd.V_alloc | apply Kd.V_drewN | apply Kd.V_drew)); exact HO_13.out) hb)
        replace HL326_0 := Aside0.mk (Kd.V_below (by (with_reducible repeat (first | apply Kd.V_alloc | apply Kd.V_drewN | apply Kd.V_drew)); exact HL326_0.out) hb)
        replace BK327 := Aside0.mk (blk_below (g := gb327) (bK BK327) hb)
        replace HB := Aside0.mk (below_step bG hb)
        (try clear hb)
        (try clear hb2)
        (try clear hk)
        (try clear hi)
        refine hK.out _ _ ⟨bC BK327 0, bC BK327 1⟩ (fun hHeld => ?_)
        clear hK K
        refine nB ?_
        refine pA (i := 9) (N := some 28) (mb 21 1023) HT_ ?_
        refine pA (i := 10) (N := some 29) (mb 21 2047) HT_ ?_
        refine pA (i := 11) (N := some 30) (mb 21 4095) HT_ ?_
        refine pA (i := 12) (N := some 31) (mb 21 8191) HT_ ?_
        refine pA (i := 14) (N := some 33) (mb 21 24575) HT_ ?_
        refine pA (i := 15) (N := some 34) (mb 21 57343) HT_ ?_
        refine tA2 (i := 13) (N := some 32) (mb 21 65535) HT_ HW_ hHeld ?_
        refine tA2 (i := 16) (N := some 35) (mb 21 131071) HT_ HW_ hHeld ?_
        refine oA (i := 17) (N := some 36) (mb 21 262143) HT_ (fun K hK => ?_)
        refine gA Try.func77 #[.slice A0 l0.length c0, .slice A326_0 ((rd_T92 l1 x15_1).f0).length c326_0] ?_
        with_reducible refine (impl_LeastGreen.calls k1 _ _ l0 _ _ ((rd_T92 l1 x15_1).f0) t329 _ ?side1 ?side2 ?side3 ?side4 A17.out).mono ?_
        (case side1 => exact cB HR0)
        (case side2 => exact HC0.out)
        (case side3 => repeat (first | exact ((Kd.V_reads' (by (with_reducible repeat (first | apply Kd.V_alloc | apply Kd.V_drewN | apply Kd.V_drew)); exact HL326_0.out)).2.2) | (with_reducible refine Kd.C_alloc ?_ _) | (with_reducible refine Kd.C_drewN ?_ _) | (with_reducible refine Kd.C_drew ?_)))
        (case side4 => exact HC326_0.out)
        rintro e w34 ⟨rfl, hb⟩
        refine ⟨_, rfl, ?_⟩
        replace HO_5 := Aside0.mk (Kd.N_below (by (with_reducible repeat (first | apply Kd.N_alloc | apply Kd.N_drewN | apply Kd.N_drew)); exact HO_5.out) hb)
        replace HO_13 := Aside0.mk (Kd.V_below (by (with_reducible repeat (first | apply Kd.V_alloc | apply Kd.V_drewN | apply Kd.V_drew)); exact HO_13.out) hb)
        replace HL326_0 := Aside0.mk (Kd.V_below (by (with_reducible repeat (first | apply Kd.V_alloc | apply Kd.V_drewN | apply Kd.V_drew)); exact HL326_0.out) hb)
        replace BK327 := Aside0.mk (blk_below (g := gb327) (bK BK327) hb)
        replace HB := Aside0.mk (below_step bG hb)
        (try clear hb)
        (try clear hb2)
        (try clear hk)
        (try clear hi)
        refine hK.out _ _ ⟨bC BK327 0, bC BK327 1⟩ (fun hHeld => ?_)
        clear hK K
        refine nB ?_
        refine oA (i := 18) (N := some 37) (mb 21 524287) HT_ (fun K hK => ?_)
        refine gA Try.func66 #[.int .i64 ((rd_T92 l1 x15_1).f1), .int .i64 t329, .int .i64 60] ?_
        with_reducible refine (impl_InRange.calls ((rd_T92 l1 x15_1).f1) t329 60 false _ A18.out).mono ?_
        rintro e w' ⟨rfl, ⟨nd, rfl⟩⟩
        refine ⟨_, rfl, ?_⟩
        refine hK.out _ _ ⟨bC BK327 0, bC BK327 1⟩ (fun hHeld => ?_)
        clear hK K
        refine nB ?_
        refine pA (i := 19) (N := some 38) (mb 21 1048575) HT_ ?_
        refine pA (i := 20) (N := some 39) (mb 21 2097151) HT_ ?_
        refine eA HT_ ?_
        try go_wp2
        go_ret
        exact ⟨rA, bG⟩
      ·
       replace c16 := Bool.eq_false_iff.mpr c16
       subst c16
       have H1 : (some false) = some r := by rw [if_neg (show ¬ (false = true) by decide)] at H; exact H
       clear H
       have H := H1
       clear H1
       obtain rfl := Option.some.inj H
       have p326 : 0 ≤ (x15_1 : Int) := dA
       have q326 : x15_1 < (l1.length : Int) := dA
       obtain ⟨ad326, A326_0, c326_0, e326, hx326_0, hx326_1, hl326_0, hi326_0⟩ := at_T92 (Kd.V_reads' HO_13.out).2.2 x15_1 p326 q326
       cases e326
       obtain ⟨ce326, hce326, hMe326, hcc326⟩ := Kd.V_get HO_13.out z92 x15_1 p326 (by first | exact q326 | exact dA | (have e_ := (Kd.V_reads' HO_13.out).1; omega))
       obtain ⟨ua326_0, uc326_0, rfl, ul326_0, ge326_0⟩ := k92_openF hMe326
       have hv326_0 := hcc326 0 _ rfl
       rw [Nat.add_zero] at hv326_0
       replace hv326_0 := Option.some.inj (hv326_0.symm.trans hx326_0)
       injection hv326_0 with hva_ hvn_ hvc_
       rw [hva_] at ge326_0
       rw [hvc_] at ul326_0
       have HL326_0 := Aside0.mk (show Kd.V (Kd.int .i64) 3 _ w.heap.size _ _ ((rd_T92 l1 x15_1).f0) from Kd.V_mk ul326_0 ge326_0)
       clear hva_ hvn_ hvc_ ge326_0 ul326_0
       clear hcc326 hce326
       have HR326_0 := Aside0.mk hi326_0
       have HC326_0 := Aside0.mk hl326_0
       clear hi326_0 hl326_0
       replace p326 := eq_true p326
       replace q326 := eq_true q326
       try go_wp2_with (first | ((with_reducible refine gate_dst (N := 7) rfl ?_); refine bE (N := 7) (cs := #[.slice none 0 0, .int .i64 0]) (t := 92) ?_; intro gb327 hg w35 hbox hb; have n0_ := Aside0.mk (Kd.N_below (Kd.N_elderB (by (with_reducible repeat (first | apply Kd.N_alloc | apply Kd.N_drewN | apply Kd.N_drew)); exact HO_5.out) gb327 (Nat.le_of_eq hg.symm)) hb); have n1_ := Aside0.mk (Kd.V_below (Kd.V_elderB (by (with_reducible repeat (first | apply Kd.V_alloc | apply Kd.V_drewN | apply Kd.V_drew)); exact HO_13.out) gb327 (Nat.le_of_eq hg.symm)) hb); have n2_ := Aside0.mk (Kd.V_below (Kd.V_elderB (by (with_reducible repeat (first | apply Kd.V_alloc | apply Kd.V_drewN | apply Kd.V_drew)); exact HL326_0.out) gb327 (Nat.le_of_eq hg.symm)) hb); have n3_ := Aside0.mk (Kd.C_below (by repeat (first | (with_reducible exact HR326_0.out) | (with_reducible refine Kd.C_alloc ?_ _) | (with_reducible refine Kd.C_drewN ?_ _) | (with_reducible refine Kd.C_drew ?_) | exact HR326_0.out)) hb); have n4_ := Aside0.mk (below_step bA hb); have n5_ := Aside0.mk (hbox); have n6_ := Aside0.mk ((by rw [hg]; exact (below_size bA) : w.heap.size ≤ gb327)); have n7_ := Aside0.mk ((by rw [hg]; exact (below_size bA) : w.heap.size ≤ gb327)); clear HO_5; clear HO_13; clear HL326_0; clear HR326_0; clear HB; have HO_5 := n0_; have HO_13 := n1_; have HL326_0 := n2_; have HR326_0 := n3_; have HB := n4_; have BK327 := n5_; have GW327 := n6_; have GE327 := n7_; clear n0_ n1_ n2_ n3_ n4_ n5_ n6_ n7_; clear hb hbox hg; obtain ⟨hcz36_0, hcz36_1, hfz36_0, hfz36_1⟩ := blkc2 BK327))
       have n0_ : Aside0 (Kd.N (Kd.slice 3 (Kd.int .i64)) 41 ((w35.setCell ⟨gb327, 0, none⟩ (.slice A326_0 ((rd_T92 l1 x15_1).f0).length c326_0)).setCell ⟨gb327, 1, none⟩ (.int .i64 ((rd_T92 l1 x15_1).f1))) w.heap.size (fun k_ => (P1_ k_ ∨ w.heap.size ≤ k_) ∧ k_ ≠ gb327) u5 x5_1) := ⟨by (with_reducible repeat (first | apply Kd.N_alloc | apply Kd.N_drewN | apply Kd.N_drew)); exact Kd.N_mono (Kd.N_far (p := ⟨gb327, 1, none⟩) (Kd.N_far (p := ⟨gb327, 0, none⟩) (Kd.N_mono HO_5.out (fun k_ hk => (⟨hk, hk.2⟩ : _ ∧ k_ ≠ gb327))) (fun _ hk => hk.2) (.slice A326_0 ((rd_T92 l1 x15_1).f0).length c326_0)) (fun _ hk => hk.2) (.int .i64 ((rd_T92 l1 x15_1).f1))) (fun _ hk => ⟨hk.1.1, hk.1.2⟩)⟩
       have n1_ : Aside0 (Kd.V k92 92 ((w35.setCell ⟨gb327, 0, none⟩ (.slice A326_0 ((rd_T92 l1 x15_1).f0).length c326_0)).setCell ⟨gb327, 1, none⟩ (.int .i64 ((rd_T92 l1 x15_1).f1))) w.heap.size (fun k_ => (P1_ k_ ∨ w.heap.size ≤ k_) ∧ some k_ ≠ (u5 : Value).ownBlock ∧ k_ ≠ gb327) (.slice (some ad326) l1.length c1) l1) := ⟨by (with_reducible repeat (first | apply Kd.V_alloc | apply Kd.V_drewN | apply Kd.V_drew)); exact Kd.V_mono (Kd.V_far (p := ⟨gb327, 1, none⟩) (Kd.V_far (p := ⟨gb327, 0, none⟩) (Kd.V_mono HO_13.out (fun k_ hk => (⟨hk, hk.2⟩ : _ ∧ k_ ≠ gb327))) (fun _ hk => hk.2) (.slice A326_0 ((rd_T92 l1 x15_1).f0).length c326_0)) (fun _ hk => hk.2) (.int .i64 ((rd_T92 l1 x15_1).f1))) (fun _ hk => ⟨hk.1.1.1, ⟨hk.1.1.2, hk.1.2⟩⟩)⟩
       have n2_ : Aside0 (Kd.V (Kd.int .i64) 3 ((w35.setCell ⟨gb327, 0, none⟩ (.slice A326_0 ((rd_T92 l1 x15_1).f0).length c326_0)).setCell ⟨gb327, 1, none⟩ (.int .i64 ((rd_T92 l1 x15_1).f1))) w.heap.size (fun k_ => (P1_ k_ ∨ w.heap.size ≤ k_) ∧ some k_ ≠ (u5 : Value).ownBlock ∧ k_ ≠ gb327) (.slice A326_0 ((rd_T92 l1 x15_1).f0).length c326_0) ((rd_T92 l1 x15_1).f0)) := ⟨by (with_reducible repeat (first | apply Kd.V_alloc | apply Kd.V_drewN | apply Kd.V_drew)); exact Kd.V_mono (Kd.V_far (p := ⟨gb327, 1, none⟩) (Kd.V_far (p := ⟨gb327, 0, none⟩) (Kd.V_mono HL326_0.out (fun k_ hk => (⟨hk, hk.2⟩ : _ ∧ k_ ≠ gb327))) (fun _ hk => hk.2) (.slice A326_0 ((rd_T92 l1 x15_1).f0).length c326_0)) (fun _ hk => hk.2) (.int .i64 ((rd_T92 l1 x15_1).f1))) (fun _ hk => ⟨hk.1.1.1, ⟨hk.1.1.2, hk.1.2⟩⟩)⟩
       have n3_ : Aside0 (((w35.setCell ⟨gb327, 0, none⟩ (.slice A326_0 ((rd_T92 l1 x15_1).f0).length c326_0)).setCell ⟨gb327, 1, none⟩ (.int .i64 ((rd_T92 l1 x15_1).f1))).heap[gb327]? = some (.cells #[.slice A326_0 ((rd_T92 l1 x15_1).f0).length c326_0, .int .i64 ((rd_T92 l1 x15_1).f1)] 92 (0, 0))) := ⟨by (with_reducible repeat (first | refine blk_drewN ?_ _ | refine blk_drew ?_ | refine blk_alloc ?_ _)); refine blk_put (cs := #[.slice A326_0 ((rd_T92 l1 x15_1).f0).length c326_0, .int .i64 0]) ?_ 1 _ rfl; (with_reducible repeat (first | refine blk_drewN ?_ _ | refine blk_drew ?_ | refine blk_alloc ?_ _)); refine blk_put (cs := #[.slice none 0 0, .int .i64 0]) ?_ 0 _ rfl; (with_reducible repeat (first | refine blk_drewN ?_ _ | refine blk_drew ?_ | refine blk_alloc ?_ _)); exact BK327.out⟩
       have n4_ : Aside0 (Below w.heap.size w ((w35.setCell ⟨gb327, 0, none⟩ (.slice A326_0 ((rd_T92 l1 x15_1).f0).length c326_0)).setCell ⟨gb327, 1, none⟩ (.int .i64 ((rd_T92 l1 x15_1).f1)))) := ⟨bG⟩
       (try clear HO_5)
       (try clear HO_13)
       (try clear HL326_0)
       (try clear BK327)
       (try clear HB)
       generalize ((w35.setCell ⟨gb327, 0, none⟩ (.slice A326_0 ((rd_T92 l1 x15_1).f0).length c326_0)).setCell ⟨gb327, 1, none⟩ (.int .i64 ((rd_T92 l1 x15_1).f1))) = w37 at n0_ n1_ n2_ n3_ n4_ ⊢
       have HO_5 := n0_
       have HO_13 := n1_
       have HL326_0 := n2_
       have BK327 := n3_
       have HB := n4_
       clear n0_ n1_ n2_ n3_ n4_
       replace HO_5 := Aside0.mk (Kd.N_drew HO_5.out)
       replace HO_13 := Aside0.mk (Kd.V_drew HO_13.out)
       replace HL326_0 := Aside0.mk (Kd.V_drew HL326_0.out)
       replace BK327 := Aside0.mk (blk_drew BK327.out)
       have HBo := HB
       replace HB := Aside0.mk (below_drew1 HB.out)
       refine start_ (n := 21) (S := fun w' => w'.cell? ⟨gb327, 0, none⟩ = some (.slice A326_0 ((rd_T92 l1 x15_1).f0).length c326_0) ∧ w'.cell? ⟨gb327, 1, none⟩ = some (.int .i64 ((rd_T92 l1 x15_1).f1))) (ds := []) (mb 21 0) (by kernel_rfl) rfl rfl ⟨bC BK327 0, bC BK327 1⟩ (fun hHeld => ?_); refine with_tabW impl_IsPlan.tab7 impl_IsPlan.bits7 (fun HT_ HW_ => ?_)
       generalize w37.drew = w38 at HO_5 HO_13 HL326_0 BK327 HB hHeld ⊢
       refine pA (i := 0) (N := some 19) (mb 21 1) HT_ ?_
       refine tA2 (i := 1) (N := some 20) (mb 21 3) HT_ HW_ hHeld ?_
       refine pA (i := 2) (N := some 21) (mb 21 7) HT_ ?_
       refine pA (i := 3) (N := some 22) (mb 21 15) HT_ ?_
       refine pA (i := 4) (N := some 23) (mb 21 31) HT_ ?_
       refine pA (i := 5) (N := some 24) (mb 21 63) HT_ ?_
       refine pA (i := 6) (N := some 25) (mb 21 127) HT_ ?_
       refine tA2 (i := 7) (N := some 26) (mb 21 255) HT_ HW_ hHeld ?_
       refine oA (i := 8) (N := some 27) (mb 21 511) HT_ (fun K hK => ?_)
       refine gA Try.func87 #[.slice A0 l0.length c0, .slice A326_0 ((rd_T92 l1 x15_1).f0).length c326_0] ?_
       with_reducible refine (impl_IsTogether.calls k1 _ _ l0 _ _ ((rd_T92 l1 x15_1).f0) false _ ?side1 ?side2 ?side3 ?side4 A15.out).mono ?_
       (case side1 => exact cB HR0)
       (case side2 => exact HC0.out)
       (case side3 => repeat (first | exact ((Kd.V_reads' (by (with_reducible repeat (first | apply Kd.V_alloc | apply Kd.V_drewN | apply Kd.V_drew)); exact HL326_0.out)).2.2) | (with_reducible refine Kd.C_alloc ?_ _) | (with_reducible refine Kd.C_drewN ?_ _) | (with_reducible refine Kd.C_drew ?_)))
       (case side4 => exact HC326_0.out)
       rintro e w39 ⟨rfl, hb⟩
       refine ⟨_, rfl, ?_⟩
       replace HO_5 := Aside0.mk (Kd.N_below (by (with_reducible repeat (first | apply Kd.N_alloc | apply Kd.N_drewN | apply Kd.N_drew)); exact HO_5.out) hb)
       replace HO_13 := Aside0.mk (Kd.V_below (by (with_reducible repeat (first | apply Kd.V_alloc | apply Kd.V_drewN | apply Kd.V_drew)); exact HO_13.out) hb)
       replace HL326_0 := Aside0.mk (Kd.V_below (by (with_reducible repeat (first | apply Kd.V_alloc | apply Kd.V_drewN | apply Kd.V_drew)); exact HL326_0.out) hb)
       replace BK327 := Aside0.mk (blk_below (g := gb327) (bK BK327) hb)
       replace HB := Aside0.mk (below_step bG hb)
       (try clear hb)
       (try clear hb2)
       (try clear hk)
       (try clear hi)
       refine hK.out _ _ ⟨bC BK327 0, bC BK327 1⟩ (fun hHeld => ?_)
       clear hK K
       refine nB ?_
       refine pA (i := 9) (N := some 28) (mb 21 1023) HT_ ?_
       refine pA (i := 10) (N := some 29) (mb 21 2047) HT_ ?_
       refine pA (i := 11) (N := some 30) (mb 21 4095) HT_ ?_
       refine pU (i := 12) (N := some 31) (mb 21 8191) HT_ ?_
       refine pU (i := 13) (N := some 32) (mb 21 16383) HT_ ?_
       refine pU (i := 14) (N := some 33) (mb 21 32767) HT_ ?_
       refine pU (i := 15) (N := some 34) (mb 21 65535) HT_ ?_
       refine pU (i := 16) (N := some 35) (mb 21 131071) HT_ ?_
       refine pU (i := 17) (N := some 36) (mb 21 262143) HT_ ?_
       refine pU (i := 18) (N := some 37) (mb 21 524287) HT_ ?_
       refine pU (i := 19) (N := some 38) (mb 21 1048575) HT_ ?_
       refine pA (i := 20) (N := some 39) (mb 21 2097151) HT_ ?_
       refine eA HT_ ?_
       try go_wp2
       go_ret
       exact ⟨rA, bG⟩
    ·
     rw [if_neg c7] at H
     have c7b0 := decide_eq_false c7
     clear c7
     obtain ⟨t325, A40, H⟩ := bindE H
     try dsimp only at H
     obtain rfl := Option.some.inj H
     obtain ⟨Ao41, co41, eo41⟩ := Kd.N_slice HO_5.out
     subst eo41
     go_wp2_with (first | ((with_reducible refine gate_callee (f := 128) rfl ?_); refine gL (some 48) Try.func128 #[.slice A0 l0.length c0, .slice Ao41 x5_1.length co41] ?_; (with_reducible refine (impl_Covers.calls k1 _ _ l0 _ _ x5_1 t325 _ ?side1 ?side2 ?side3 ?side4 A40.out).mono ?_); (case side1 => exact cB HR0); (case side2 => exact HC0.out); (case side3 => repeat (first | exact (Kd.N_reads' HO_5.out).2.2 | (with_reducible refine Kd.C_alloc ?_ _) | (with_reducible refine Kd.C_drewN ?_ _) | (with_reducible refine Kd.C_drew ?_))); (case side4 => exact (Kd.N_reads' HO_5.out).2.1); rintro e w42 ⟨rfl, hb⟩; refine ⟨_, rfl, ?_⟩; have n0_ := Aside0.mk (Kd.N_below (by (with_reducible repeat (first | apply Kd.N_alloc | apply Kd.N_drewN | apply Kd.N_drew)); exact HO_5.out) hb); have n1_ := Aside0.mk (Kd.V_below (by (with_reducible repeat (first | apply Kd.V_alloc | apply Kd.V_drewN | apply Kd.V_drew)); exact HO_13.out) hb); have n2_ := Aside0.mk (below_step bA hb); clear HO_5; clear HO_13; clear HB; have HO_5 := n0_; have HO_13 := n1_; have HB := n2_; clear n0_ n1_ n2_; (try clear hb)))
     go_ret
     exact ⟨rA, bA⟩
 ·
  replace c4 := Bool.eq_false_iff.mpr c4
  subst c4
  have H1 : (some false) = some r := by rw [if_neg (show ¬ (false = true) by decide)] at H; exact H
  clear H
  have H := H1
  clear H1
  obtain rfl := Option.some.inj H
  go_enter Try.func78, Try.ntmps78
  go_wp2_with (first | ((with_reducible refine gate_callee (f := 66) rfl ?_); refine gL (some 10) Try.func66 #[.int .i64 (l1.length : Int), .int .i64 1, .int .i64 6] ?_; (with_reducible refine (impl_InRange.calls (l1.length : Int) 1 6 false _ A3.out).mono ?_); rintro e w' ⟨rfl, ⟨nd, rfl⟩⟩; refine ⟨_, rfl, ?_⟩))
  go_ret
  exact ⟨rA, bA⟩

/-! ### impl_sieve: function 155 -/
def impl_sieve.l0 : Nat → List Int → Bool → List Int → List Int → Int → Int → Option (List Int)
 | 0, _, _, _, _, _, _ => none
 | k + 1, x1, x2, x7, x11, x12, x13 => if x13 < x12 then (if 0 ≤ x13 then (if x13 < (x11.length : Int) then ((slices_Contains_int_int.f k x1 (rd x11 x13)).bind fun t340 => (if (t340 == x2) = true then (if x7.length < 17592186044416 then (impl_sieve.l0 k x1 x2 (x7 ++ [rd x11 x13]) x11 x12 (wrap64 (x13 + 1))) else (none)) else (impl_sieve.l0 k x1 x2 x7 x11 x12 (wrap64 (x13 + 1))))) else (none)) else (none)) else (some x7)
def impl_sieve.f (k : Nat) (l0 : List Int) (l1 : List Int) (a2 : Bool) : Option (List Int) := impl_sieve.l0 k l1 a2 (([] : List Int)) l0 (l0.length : Int) 0
theorem impl_sieve.mono_l : ∀ k, (∀ y0 y1 y2 y3 y4 y5, LeO (impl_sieve.l0 k y0 y1 y2 y3 y4 y5) (impl_sieve.l0 (k + 1) y0 y1 y2 y3 y4 y5))
 | 0 => fun _ _ _ _ _ _ r h => by simp [impl_sieve.l0] at h
 | k + 1 => by
  have ih0 := impl_sieve.mono_l k
  ·
   intro y0 y1 y2 y3 y4 y5
   unfold impl_sieve.l0
   repeat' first | (with_reducible first | exact LeO.refl _ | exact LeO.none _ | refine LeO.ite ?_ ?_ | refine LeO.bind ?_ (fun _ => ?_) | exact ih0 _ _ _ _ _ _ | exact slices_Contains_int_int.mono _ _ _)
theorem impl_sieve.mono : ∀ a0 a1 a2 k, LeO (impl_sieve.f k a0 a1 a2) (impl_sieve.f (k + 1) a0 a1 a2) := by
 intro a0 a1 a2 k
 have ih0 := impl_sieve.mono_l k
 unfold impl_sieve.f
 repeat' first | (with_reducible first | exact LeO.refl _ | exact LeO.none _ | refine LeO.ite ?_ ?_ | refine LeO.bind ?_ (fun _ => ?_) | exact ih0 _ _ _ _ _ _ | exact slices_Contains_int_int.mono _ _ _)
set_option maxHeartbeats 8000000 in
set_option maxRecDepth 100000 in
theorem impl_sieve.calls (k : Nat) (A0 : Option Addr) (c0 : Nat) (l0 : List Int) (A1 : Option Addr) (c1 : Nat) (l1 : List Int) (a2 : Bool) (r : List Int) (w : World) (hr0 : Kd.C (Kd.int .i64) w A0 l0.length l0) (hc0 : l0.length ≤ c0) (hr1 : Kd.C (Kd.int .i64) w A1 l1.length l1) (hc1 : l1.length ≤ c1) (h : impl_sieve.f k l0 l1 a2 = some r) :
  Calls Try.prog 155 #[.slice A0 l0.length c0, .slice A1 l1.length c1, .bool a2] w fun e w' => ∃ v0_ : Value, e = .returned (v0_) ∧ Kd.R (Kd.int .i64) 3 w' w.heap.size (fun _ => True) v0_ r ∧ Below w.heap.size w w' := by
 have HR0 := Aside0.mk hr0
 have HC0 := Aside0.mk hc0
 clear hr0 hc0
 have HR1 := Aside0.mk hr1
 have HC1 := Aside0.mk hc1
 clear hr1 hc1
 have HB := Aside0.mk (Below.refl w.heap.size w)
 have H : (impl_sieve.l0 k l1 a2 (([] : List Int)) l0 (l0.length : Int) 0) = some r := h
 clear h
 obtain ⟨y336, hy336⟩ : ∃ y_ : List Int, y_ = (([] : List Int)) := ⟨_, rfl⟩
 replace H : (impl_sieve.l0 k l1 a2 y336 l0 (l0.length : Int) 0) = some r := by first | (rw [hy336]; with_reducible exact H) | (have H2_ := (Option.bind_some _ _).symm.trans H; rw [hy336]; with_reducible exact H2_) | (have H2_ := (Option.bind_some _ _).symm.trans H; with_reducible exact H2_) | with_reducible exact H | (rw [hy336]; exact H) | exact H
 have Ny336 := Aside0.mk hy336
 clear hy336
 have H' := Aside0.mk H
 clear H
 go_enter Try.func155, Try.ntmps155
 go_wp2_with (first | ((with_reducible refine gate_dst (N := 10) rfl ?_); refine Kd.R_lit (Kd.int .i64) _ 3 ?hg (N := 10) ?hd (xs := ([] : List Int)) (inner := []) (ok := fun _ => True) (okp := fun _ => True) ?hr ?hp (fun _ hk => hk) trivial (Below.refl _ _) (Nat.le_refl _) (by simp) ?_; (case hd => rfl); (case hg => rfl); (case hr => first | (go_simp; done) | (go_simp; rfl)); (case hp => exact (Reps.none _ _)); intro v337 w4 ho5 hb hg_ hnew_; clear hg_ hnew_; (first | rw [← Ny336.out] at ho5 | (simp only [Int.reduceToNat] at ho5; rw [← Ny336.out] at ho5)); have HO338 := Aside0.mk (Kd.R_lower ho5 (below_size bA)); replace HB := Aside0.mk (below_step bA hb); clear hb ho5))
 go_loopg [7, 13] k (fun kq v7 v13 w' => ∃ (x7_1 : List Int) (x13_1 : Int), v13 = .int .i64 x13_1 ∧ Aside0 (impl_sieve.l0 kq l1 a2 x7_1 l0 (l0.length : Int) x13_1 = some r) ∧ Aside0 (kq ≤ k) ∧ Aside0 (Kd.R (Kd.int .i64) 3 w' w.heap.size (fun _ => True) v7 x7_1) ∧ Aside0 (Below w.heap.size w w'))
 case atStart => exact ⟨(y336), (0), rS, H', ⟨Nat.le_refl _⟩, ⟨rK HO338⟩, ⟨bA⟩⟩
 case round =>
  clear H'
  try clear c1
  try clear p2
  obtain ⟨x7_1, x13_1, rfl, HA, HK1, HO_7, HB⟩ := hrel
  cases gk with
  | zero => exact absurd HA.out (by simp [impl_sieve.l0])
  | succ k1 =>
   have H := HA.out
   clear HA
   simp only [impl_sieve.l0] at H
   by_cases c6 : x13_1 < (l0.length : Int)
   ·
    rw [if_pos c6] at H
    have c6b0 := decide_eq_true c6
    clear c6
    have c7 : 0 ≤ x13_1 := ifN H
    replace H := ifT H
    have c7b0 := decide_eq_true c7
    clear c7
    have c8 : x13_1 < (l0.length : Int) := ifN H
    replace H := ifT H
    have c8b0 := decide_eq_true c8
    clear c8
    obtain ⟨t340, A9, H⟩ := bindE H
    try dsimp only at H
    by_cases c10 : (t340 == a2) = true
    ·
     rw [if_pos c10] at H
     have c10b0 : (t340 == a2) = true := c10
     (try (have c10b1 : decide (t340 = a2) = true := by simpa using c10))
     (try (have c10b2 : (t340 == a2) = true := by simpa using c10))
     clear c10
     have c11 : x7_1.length < 17592186044416 := ifN H
     replace H := ifT H
     have LMc11 := Aside0.mk c11
     clear c11
     obtain ⟨y341, hy341⟩ : ∃ y_ : List Int, y_ = (x7_1 ++ [rd l0 x13_1]) := ⟨_, rfl⟩
     replace H : (impl_sieve.l0 k1 l1 a2 y341 l0 (l0.length : Int) (wrap64 (x13_1 + 1))) = some r := by first | (rw [hy341]; with_reducible exact H) | (have H2_ := (Option.bind_some _ _).symm.trans H; rw [hy341]; with_reducible exact H2_) | (have H2_ := (Option.bind_some _ _).symm.trans H; with_reducible exact H2_) | with_reducible exact H | (rw [hy341]; exact H) | exact H
     have Ny341 := Aside0.mk hy341
     clear hy341
     have H' := Aside0.mk H
     clear H
     have p339 : 0 ≤ (x13_1 : Int) := dA
     have q339 : x13_1 < (l0.length : Int) := dA
     obtain ⟨ad339, e339, hx339_0⟩ := Kd.at_int HR0.out x13_1 p339 q339
     cases e339
     replace hx339_0 := hC HB hx339_0
     replace p339 := eq_true p339
     replace q339 := eq_true q339
     go_wp2_with (first | ((with_reducible refine gate_callee (f := 104) rfl ?_); refine gL (some 19) Try.func104 #[.slice A1 l1.length c1, .int .i64 (rd l0 x13_1)] ?_; (with_reducible refine (slices_Contains_int_int.calls k1 _ _ l1 (rd l0 x13_1) t340 _ ?side1 ?side2 A9.out).mono ?_); (case side1 => exact cB HR1); (case side2 => exact HC1.out); rintro e w' ⟨rfl, ⟨nd, rfl⟩⟩; refine ⟨_, rfl, ?_⟩) | ((with_reducible refine gate_builtin (b := .append) (xs := #[.tmp 22, .tmp 24]) rfl ?_); at_builtin; refine Kd.R_append (Kd.int .i64) (w0 := w) w.heap.size rfl (.tmp 22) (.tmp 24) 41 3 (.int .i64 0) 8 rfl Try.underlying41 info3 rfl (by decide) (by omega) u7 x7_1 (rd l0 x13_1) [.int .i64 (rd l0 x13_1)] (fun _ => True) (fun _ => False) rfl rfl ?aP (fun _ hk => hk.elim) ?aF ?aO ?aB ?aS ?aL ?_; (case aP => exact rfl); (case aB => exact bA); (case aF => exact (fun _ _ => trivial)); (case aO => exact (rK HO_7)); (case aS => exact (below_size bA)); (case aL => have := LMc11.out; omega); intro v342 w12 ho hb hg hat; rw [← Ny341.out] at ho; have n0_ := Aside0.mk (hb); have n1_ := Aside0.mk (ho); clear HB; clear HO_7; have HB := n0_; have HO343 := n1_; clear n0_ n1_; clear ho hb hg hat))
     go_roundg k1
     case measure => have := HK1.out; omega
     case rel => exact ⟨(y341), (wrap64 (x13_1 + 1)), rS, H', ⟨by have := HK1.out; omega⟩, ⟨rK HO343⟩, ⟨bA⟩⟩
    ·
     rw [if_neg c10] at H
     have c10b0 : (t340 == a2) = false := by simpa using c10
     (try (have c10b1 : decide (t340 = a2) = false := by simpa using c10))
     (try (have c10b2 : (t340 == a2) = false := by simpa using c10))
     (try (have c10b3 : ¬ (t340 = a2) := by simpa using c10))
     clear c10
     have H' := Aside0.mk H
     clear H
     have p339 : 0 ≤ (x13_1 : Int) := dA
     have q339 : x13_1 < (l0.length : Int) := dA
     obtain ⟨ad339, e339, hx339_0⟩ := Kd.at_int HR0.out x13_1 p339 q339
     cases e339
     replace hx339_0 := hC HB hx339_0
     replace p339 := eq_true p339
     replace q339 := eq_true q339
     go_wp2_with (first | ((with_reducible refine gate_callee (f := 104) rfl ?_); refine gL (some 19) Try.func104 #[.slice A1 l1.length c1, .int .i64 (rd l0 x13_1)] ?_; (with_reducible refine (slices_Contains_int_int.calls k1 _ _ l1 (rd l0 x13_1) t340 _ ?side1 ?side2 A9.out).mono ?_); (case side1 => exact cB HR1); (case side2 => exact HC1.out); rintro e w' ⟨rfl, ⟨nd, rfl⟩⟩; refine ⟨_, rfl, ?_⟩))
     go_roundg k1
     case measure => have := HK1.out; omega
     case rel => exact ⟨(x7_1), (wrap64 (x13_1 + 1)), rS, H', ⟨by have := HK1.out; omega⟩, ⟨rK HO_7⟩, ⟨bA⟩⟩
   ·
    rw [if_neg c6] at H
    have c6b0 := decide_eq_false c6
    clear c6
    obtain rfl := Option.some.inj H
    go_wp2
    go_ret
    exact ⟨_, by first | rfl | (simp [errW_none, errW_some] <;> rfl) | (simp [*, errW_none, errW_some] <;> rfl), by (with_reducible repeat (first | apply Kd.R_alloc | apply Kd.R_drewN | apply Kd.R_drew)); exact HO_7.out, bA⟩

/-! ### impl_Closes: function 134 -/
def impl_Closes.f (k : Nat) (l0 : List Int) (l1 : List Int) : Option (List Int) := (impl_sieve.f k l0 l1 false).bind fun t344 => (some t344)
theorem impl_Closes.mono : ∀ a0 a1 k, LeO (impl_Closes.f k a0 a1) (impl_Closes.f (k + 1) a0 a1) := by
 intro a0 a1 k
 unfold impl_Closes.f
 repeat' first | (with_reducible first | exact LeO.refl _ | exact LeO.none _ | refine LeO.ite ?_ ?_ | refine LeO.bind ?_ (fun _ => ?_) | exact impl_sieve.mono _ _ _ _)
set_option maxHeartbeats 8000000 in
set_option maxRecDepth 100000 in
theorem impl_Closes.calls (k : Nat) (A0 : Option Addr) (c0 : Nat) (l0 : List Int) (A1 : Option Addr) (c1 : Nat) (l1 : List Int) (r : List Int) (w : World) (hr0 : Kd.C (Kd.int .i64) w A0 l0.length l0) (hc0 : l0.length ≤ c0) (hr1 : Kd.C (Kd.int .i64) w A1 l1.length l1) (hc1 : l1.length ≤ c1) (h : impl_Closes.f k l0 l1 = some r) :
  Calls Try.prog 134 #[.slice A0 l0.length c0, .slice A1 l1.length c1] w fun e w' => ∃ v0_ : Value, e = .returned (v0_) ∧ Kd.R (Kd.int .i64) 3 w' w.heap.size (fun _ => True) v0_ r ∧ Below w.heap.size w w' := by
 have HR0 := Aside0.mk hr0
 have HC0 := Aside0.mk hc0
 clear hr0 hc0
 have HR1 := Aside0.mk hr1
 have HC1 := Aside0.mk hc1
 clear hr1 hc1
 have HB := Aside0.mk (Below.refl w.heap.size w)
 have H : ((impl_sieve.f k l0 l1 false).bind fun t344 => (some t344)) = some r := h
 clear h
 obtain ⟨t344, A3, H⟩ := bindE H
 try dsimp only at H
 obtain rfl := Option.some.inj H
 go_enter Try.func134, Try.ntmps134
 go_wp2_with (first | ((with_reducible refine gate_callee (f := 155) rfl ?_); refine gL (some 7) Try.func155 #[.slice A0 l0.length c0, .slice A1 l1.length c1, .bool false] ?_; (with_reducible refine (impl_sieve.calls k _ _ l0 _ _ l1 false t344 _ ?side1 ?side2 ?side3 ?side4 A3.out).mono ?_); (case side1 => exact cO HR0); (case side2 => exact HC0.out); (case side3 => exact cO HR1); (case side4 => exact HC1.out); rintro e w4 ⟨v345, rfl, ho0, hb⟩; refine ⟨_, rfl, ?_⟩; have HO346 := Aside0.mk (Kd.R_lower ho0 (below_size bA)); replace HB := Aside0.mk (below_step bA hb); (try clear hb); (try clear ho0)))
 go_ret
 exact ⟨_, by first | rfl | (simp [errW_none, errW_some] <;> rfl) | (simp [*, errW_none, errW_some] <;> rfl), by (with_reducible repeat (first | apply Kd.R_alloc | apply Kd.R_drewN | apply Kd.R_drew)); exact HO346.out, bA⟩

/-! ### impl_ClearOf: function 135 -/
def impl_ClearOf.f (a0_0 : Int) (a0_1 : Int) (a0_2 : Int) (a0_3 : Int) : Option (Int) := (impl_IsPath.f a0_0 a0_1 a0_2 a0_3).bind fun t348 => (if t348 = true then (if a0_1 = 1 then (some 2) else (if a0_1 = 3 then (some 3) else (some 5))) else (some 0))
set_option maxHeartbeats 8000000 in
set_option maxRecDepth 100000 in
theorem impl_ClearOf.calls (a0_0 : Int) (a0_1 : Int) (a0_2 : Int) (a0_3 : Int) (r : Int) (w : World) (h : impl_ClearOf.f a0_0 a0_1 a0_2 a0_3 = some r) :
  Calls Try.prog 135 #[.agg #[.int .i64 a0_0, .int .i64 a0_1, .int .i64 a0_2, .int .i64 a0_3]] w fun e w' => e = .returned (.int .i64 r) ∧ Below w.heap.size w w' := by
 have hu89 := Try.underlying89
 have HB := Aside0.mk (Below.refl w.heap.size w)
 have H : ((impl_IsPath.f a0_0 a0_1 a0_2 a0_3).bind fun t348 => (if t348 = true then (if a0_1 = 1 then (some 2) else (if a0_1 = 3 then (some 3) else (some 5))) else (some 0))) = some r := h
 clear h
 obtain ⟨t348, A2, H⟩ := bindE H
 try dsimp only at H
 by_cases c3 : t348 = true
 ·
  subst c3
  have H1 : (if a0_1 = 1 then (some 2) else (if a0_1 = 3 then (some 3) else (some 5))) = some r := by rw [if_pos rfl] at H; exact H
  clear H
  have H := H1
  clear H1
  by_cases c4 : a0_1 = 1
  ·
   rw [if_pos c4] at H
   have c4b0 : (a0_1 == 1) = true := beq_iff_eq.mpr c4
   have c4b1 : (a0_1 != 1) = false := bne_eq_false_iff_eq.mpr c4
   clear c4
   obtain rfl := Option.some.inj H
   go_enter Try.func135, Try.ntmps135
   go_wp2_with (first | ((with_reducible refine gate_dst (N := 1) rfl ?_); refine bE (N := 1) (cs := #[.int .i64 a0_0, .int .i64 a0_1, .int .i64 a0_2, .int .i64 a0_3]) (t := 89) ?_; intro gb347 hg w5 hbox hb; have n0_ := Aside0.mk (below_step bA hb); have n1_ := Aside0.mk (hbox); have n2_ := Aside0.mk ((by rw [hg]; exact (below_size bA) : w.heap.size ≤ gb347)); have n3_ := Aside0.mk ((by rw [hg]; exact (below_size bA) : w.heap.size ≤ gb347)); clear HB; have HB := n0_; have BK347 := n1_; have GW347 := n2_; have GE347 := n3_; clear n0_ n1_ n2_ n3_; clear hb hbox hg; have hcz6_0 : w5.cell? ⟨gb347, 0, none⟩ = some (.int .i64 a0_0) := bC BK347 0; have hcz6_1 : w5.cell? ⟨gb347, 1, none⟩ = some (.int .i64 a0_1) := bC BK347 1; have hcz6_2 : w5.cell? ⟨gb347, 2, none⟩ = some (.int .i64 a0_2) := bC BK347 2; have hcz6_3 : w5.cell? ⟨gb347, 3, none⟩ = some (.int .i64 a0_3) := bC BK347 3; have hfz6_0 := blk_frozen BK347.out 0; have hfz6_1 := blk_frozen BK347.out 1; have hfz6_2 := blk_frozen BK347.out 2; have hfz6_3 := blk_frozen BK347.out 3) | ((with_reducible refine gate_callee (f := 146) rfl ?_); refine gL (some 4) Try.func146 #[.agg #[.int .i64 a0_0, .int .i64 a0_1, .int .i64 a0_2, .int .i64 a0_3]] ?_; (with_reducible refine (impl_IsPath.calls a0_0 a0_1 a0_2 a0_3 true _ A2.out).mono ?_); rintro e w7 ⟨rfl, hb⟩; refine ⟨_, rfl, ?_⟩; replace BK347 := Aside0.mk (blk_below (g := gb347) (bK BK347) hb); replace HB := Aside0.mk (below_step bG hb); (try clear hb); obtain ⟨hcz8_0, hcz8_1, hcz8_2, hcz8_3, hfz8_0, hfz8_1, hfz8_2, hfz8_3⟩ := blkc4 BK347))
   go_ret
   exact ⟨rA, bG⟩
  ·
   rw [if_neg c4] at H
   have c4b0 : (a0_1 == 1) = false := beq_eq_false_iff_ne.mpr c4
   have c4b1 : (a0_1 != 1) = true := bne_iff_ne.mpr c4
   by_cases c9 : a0_1 = 3
   ·
    rw [if_pos c9] at H
    have c9b0 : (a0_1 == 3) = true := beq_iff_eq.mpr c9
    have c9b1 : (a0_1 != 3) = false := bne_eq_false_iff_eq.mpr c9
    clear c9
    obtain rfl := Option.some.inj H
    go_enter Try.func135, Try.ntmps135
    go_wp2_with (first | ((with_reducible refine gate_dst (N := 1) rfl ?_); refine bE (N := 1) (cs := #[.int .i64 a0_0, .int .i64 a0_1, .int .i64 a0_2, .int .i64 a0_3]) (t := 89) ?_; intro gb347 hg w10 hbox hb; have n0_ := Aside0.mk (below_step bA hb); have n1_ := Aside0.mk (hbox); have n2_ := Aside0.mk ((by rw [hg]; exact (below_size bA) : w.heap.size ≤ gb347)); have n3_ := Aside0.mk ((by rw [hg]; exact (below_size bA) : w.heap.size ≤ gb347)); clear HB; have HB := n0_; have BK347 := n1_; have GW347 := n2_; have GE347 := n3_; clear n0_ n1_ n2_ n3_; clear hb hbox hg; have hcz11_0 : w10.cell? ⟨gb347, 0, none⟩ = some (.int .i64 a0_0) := bC BK347 0; have hcz11_1 : w10.cell? ⟨gb347, 1, none⟩ = some (.int .i64 a0_1) := bC BK347 1; have hcz11_2 : w10.cell? ⟨gb347, 2, none⟩ = some (.int .i64 a0_2) := bC BK347 2; have hcz11_3 : w10.cell? ⟨gb347, 3, none⟩ = some (.int .i64 a0_3) := bC BK347 3; have hfz11_0 := blk_frozen BK347.out 0; have hfz11_1 := blk_frozen BK347.out 1; have hfz11_2 := blk_frozen BK347.out 2; have hfz11_3 := blk_frozen BK347.out 3) | ((with_reducible refine gate_callee (f := 146) rfl ?_); refine gL (some 4) Try.func146 #[.agg #[.int .i64 a0_0, .int .i64 a0_1, .int .i64 a0_2, .int .i64 a0_3]] ?_; (with_reducible refine (impl_IsPath.calls a0_0 a0_1 a0_2 a0_3 true _ A2.out).mono ?_); rintro e w12 ⟨rfl, hb⟩; refine ⟨_, rfl, ?_⟩; replace BK347 := Aside0.mk (blk_below (g := gb347) (bK BK347) hb); replace HB := Aside0.mk (below_step bG hb); (try clear hb); obtain ⟨hcz13_0, hcz13_1, hcz13_2, hcz13_3, hfz13_0, hfz13_1, hfz13_2, hfz13_3⟩ := blkc4 BK347))
    go_ret
    exact ⟨rA, bG⟩
   ·
    rw [if_neg c9] at H
    have c9b0 : (a0_1 == 3) = false := beq_eq_false_iff_ne.mpr c9
    have c9b1 : (a0_1 != 3) = true := bne_iff_ne.mpr c9
    obtain rfl := Option.some.inj H
    go_enter Try.func135, Try.ntmps135
    go_wp2_with (first | ((with_reducible refine gate_dst (N := 1) rfl ?_); refine bE (N := 1) (cs := #[.int .i64 a0_0, .int .i64 a0_1, .int .i64 a0_2, .int .i64 a0_3]) (t := 89) ?_; intro gb347 hg w14 hbox hb; have n0_ := Aside0.mk (below_step bA hb); have n1_ := Aside0.mk (hbox); have n2_ := Aside0.mk ((by rw [hg]; exact (below_size bA) : w.heap.size ≤ gb347)); have n3_ := Aside0.mk ((by rw [hg]; exact (below_size bA) : w.heap.size ≤ gb347)); clear HB; have HB := n0_; have BK347 := n1_; have GW347 := n2_; have GE347 := n3_; clear n0_ n1_ n2_ n3_; clear hb hbox hg; have hcz15_0 : w14.cell? ⟨gb347, 0, none⟩ = some (.int .i64 a0_0) := bC BK347 0; have hcz15_1 : w14.cell? ⟨gb347, 1, none⟩ = some (.int .i64 a0_1) := bC BK347 1; have hcz15_2 : w14.cell? ⟨gb347, 2, none⟩ = some (.int .i64 a0_2) := bC BK347 2; have hcz15_3 : w14.cell? ⟨gb347, 3, none⟩ = some (.int .i64 a0_3) := bC BK347 3; have hfz15_0 := blk_frozen BK347.out 0; have hfz15_1 := blk_frozen BK347.out 1; have hfz15_2 := blk_frozen BK347.out 2; have hfz15_3 := blk_frozen BK347.out 3) | ((with_reducible refine gate_callee (f := 146) rfl ?_); refine gL (some 4) Try.func146 #[.agg #[.int .i64 a0_0, .int .i64 a0_1, .int .i64 a0_2, .int .i64 a0_3]] ?_; (with_reducible refine (impl_IsPath.calls a0_0 a0_1 a0_2 a0_3 true _ A2.out).mono ?_); rintro e w16 ⟨rfl, hb⟩; refine ⟨_, rfl, ?_⟩; replace BK347 := Aside0.mk (blk_below (g := gb347) (bK BK347) hb); replace HB := Aside0.mk (below_step bG hb); (try clear hb); obtain ⟨hcz17_0, hcz17_1, hcz17_2, hcz17_3, hfz17_0, hfz17_1, hfz17_2, hfz17_3⟩ := blkc4 BK347))
    go_ret
    exact ⟨rA, bG⟩
 ·
  replace c3 := Bool.eq_false_iff.mpr c3
  subst c3
  have H1 : (some 0) = some r := by rw [if_neg (show ¬ (false = true) by decide)] at H; exact H
  clear H
  have H := H1
  clear H1
  obtain rfl := Option.some.inj H
  go_enter Try.func135, Try.ntmps135
  go_wp2_with (first | ((with_reducible refine gate_dst (N := 1) rfl ?_); refine bE (N := 1) (cs := #[.int .i64 a0_0, .int .i64 a0_1, .int .i64 a0_2, .int .i64 a0_3]) (t := 89) ?_; intro gb347 hg w18 hbox hb; have n0_ := Aside0.mk (below_step bA hb); have n1_ := Aside0.mk (hbox); have n2_ := Aside0.mk ((by rw [hg]; exact (below_size bA) : w.heap.size ≤ gb347)); have n3_ := Aside0.mk ((by rw [hg]; exact (below_size bA) : w.heap.size ≤ gb347)); clear HB; have HB := n0_; have BK347 := n1_; have GW347 := n2_; have GE347 := n3_; clear n0_ n1_ n2_ n3_; clear hb hbox hg; have hcz19_0 : w18.cell? ⟨gb347, 0, none⟩ = some (.int .i64 a0_0) := bC BK347 0; have hcz19_1 : w18.cell? ⟨gb347, 1, none⟩ = some (.int .i64 a0_1) := bC BK347 1; have hcz19_2 : w18.cell? ⟨gb347, 2, none⟩ = some (.int .i64 a0_2) := bC BK347 2; have hcz19_3 : w18.cell? ⟨gb347, 3, none⟩ = some (.int .i64 a0_3) := bC BK347 3; have hfz19_0 := blk_frozen BK347.out 0; have hfz19_1 := blk_frozen BK347.out 1; have hfz19_2 := blk_frozen BK347.out 2; have hfz19_3 := blk_frozen BK347.out 3) | ((with_reducible refine gate_callee (f := 146) rfl ?_); refine gL (some 4) Try.func146 #[.agg #[.int .i64 a0_0, .int .i64 a0_1, .int .i64 a0_2, .int .i64 a0_3]] ?_; (with_reducible refine (impl_IsPath.calls a0_0 a0_1 a0_2 a0_3 false _ A2.out).mono ?_); rintro e w20 ⟨rfl, hb⟩; refine ⟨_, rfl, ?_⟩; replace BK347 := Aside0.mk (blk_below (g := gb347) (bK BK347) hb); replace HB := Aside0.mk (below_step bG hb); (try clear hb)))
  go_ret
  exact ⟨rA, bG⟩

/-! ### impl_ClearBetween: function 89 -/
mutual
def impl_ClearBetween.j0 : Nat → List (S89) → List Int → List Int → Int → Bool → Option (Int)
 | 0, _, _, _, _, _ => none
 | k + 1, x0, x1, x2, x7, x22 => if x22 = true then (some x7) else ((impl_Closes.f k x1 x2).bind fun t351 => (impl_ClearBetween.l0 k x0 x1 x2 x7 t351 (t351.length : Int) 0))
def impl_ClearBetween.l0 : Nat → List (S89) → List Int → List Int → Int → List Int → Int → Int → Option (Int)
 | 0, _, _, _, _, _, _, _ => none
 | k + 1, x0, x1, x2, x7, x26, x27, x28 => if x28 < x27 then (if 0 ≤ x28 then (if x28 < (x26.length : Int) then ((impl_Closes.f k x2 x1).bind fun t355 => (impl_ClearBetween.l1 k x0 x1 x2 x7 (rd x26 x28) x26 x27 x28 t355 (t355.length : Int) 0)) else (none)) else (none)) else (some x7)
def impl_ClearBetween.l1 : Nat → List (S89) → List Int → List Int → Int → Int → List Int → Int → Int → List Int → Int → Int → Option (Int)
 | 0, _, _, _, _, _, _, _, _, _, _, _ => none
 | k + 1, x0, x1, x2, x7, x9, x26, x27, x28, x34, x35, x36 => if x36 < x35 then (if 0 ≤ x36 then (if x36 < (x34.length : Int) then ((impl_FindPath.f x0 x9).bind fun t359 => (if 0 ≤ t359 then (if t359 < (x0.length : Int) then ((impl_FindPath.f x0 (rd x34 x36)).bind fun t362 => (if 0 ≤ t362 then (if t362 < (x0.length : Int) then ((impl_Conflict.f k ((rd_T89 x0 t359).f0) ((rd_T89 x0 t359).f1) ((rd_T89 x0 t359).f2) ((rd_T89 x0 t359).f3) ((rd_T89 x0 t362).f0) ((rd_T89 x0 t362).f1) ((rd_T89 x0 t362).f2) ((rd_T89 x0 t362).f3)).bind fun t364 => (if t364 = true then ((impl_ClearOf.f ((rd_T89 x0 t359).f0) ((rd_T89 x0 t359).f1) ((rd_T89 x0 t359).f2) ((rd_T89 x0 t359).f3)).bind fun t365 => (impl_ClearBetween.l1 k x0 x1 x2 (mx x7 t365) x9 x26 x27 x28 x34 x35 (wrap64 (x36 + 1)))) else (impl_ClearBetween.l1 k x0 x1 x2 x7 x9 x26 x27 x28 x34 x35 (wrap64 (x36 + 1))))) else (none)) else (none))) else (none)) else (none))) else (none)) else (none)) else (impl_ClearBetween.l0 k x0 x1 x2 x7 x26 x27 (wrap64 (x28 + 1)))
end
def impl_ClearBetween.f (k : Nat) (l0 : List (S89)) (l1 : List Int) (l2 : List Int) : Option (Int) := (impl_IsTogether.f k l0 l1).bind fun t349 => (if t349 = true then ((impl_IsTogether.f k l0 l2).bind fun t350 => (impl_ClearBetween.j0 k l0 l1 l2 0 (!t350))) else (impl_ClearBetween.j0 k l0 l1 l2 0 true))
theorem impl_ClearBetween.mono_l : ∀ k, (∀ y0 y1 y2 y3 y4, LeO (impl_ClearBetween.j0 k y0 y1 y2 y3 y4) (impl_ClearBetween.j0 (k + 1) y0 y1 y2 y3 y4)) ∧ (∀ y0 y1 y2 y3 y4 y5 y6, LeO (impl_ClearBetween.l0 k y0 y1 y2 y3 y4 y5 y6) (impl_ClearBetween.l0 (k + 1) y0 y1 y2 y3 y4 y5 y6)) ∧ (∀ y0 y1 y2 y3 y4 y5 y6 y7 y8 y9 y10, LeO (impl_ClearBetween.l1 k y0 y1 y2 y3 y4 y5 y6 y7 y8 y9 y10) (impl_ClearBetween.l1 (k + 1) y0 y1 y2 y3 y4 y5 y6 y7 y8 y9 y10))
 | 0 => ⟨fun _ _ _ _ _ r h => by simp [impl_ClearBetween.j0] at h, fun _ _ _ _ _ _ _ r h => by simp [impl_ClearBetween.l0] at h, fun _ _ _ _ _ _ _ _ _ _ _ r h => by simp [impl_ClearBetween.l1] at h⟩
 | k + 1 => by
  obtain ⟨ih0, ih1, ih2⟩ := impl_ClearBetween.mono_l k
  refine ⟨?_, ?_, ?_⟩
  ·
   intro y0 y1 y2 y3 y4
   unfold impl_ClearBetween.j0
   repeat' first | (with_reducible first | exact LeO.refl _ | exact LeO.none _ | refine LeO.ite ?_ ?_ | refine LeO.bind ?_ (fun _ => ?_) | exact ih0 _ _ _ _ _ | exact ih1 _ _ _ _ _ _ _ | exact ih2 _ _ _ _ _ _ _ _ _ _ _ | exact impl_Closes.mono _ _ _ | exact impl_Conflict.mono _ _ _ _ _ _ _ _ _ | exact impl_IsTogether.mono _ _ _)
  ·
   intro y0 y1 y2 y3 y4 y5 y6
   unfold impl_ClearBetween.l0
   repeat' first | (with_reducible first | exact LeO.refl _ | exact LeO.none _ | refine LeO.ite ?_ ?_ | refine LeO.bind ?_ (fun _ => ?_) | exact ih0 _ _ _ _ _ | exact ih1 _ _ _ _ _ _ _ | exact ih2 _ _ _ _ _ _ _ _ _ _ _ | exact impl_Closes.mono _ _ _ | exact impl_Conflict.mono _ _ _ _ _ _ _ _ _ | exact impl_IsTogether.mono _ _ _)
  ·
   intro y0 y1 y2 y3 y4 y5 y6 y7 y8 y9 y10
   unfold impl_ClearBetween.l1
   repeat' first | (with_reducible first | exact LeO.refl _ | exact LeO.none _ | refine LeO.ite ?_ ?_ | refine LeO.bind ?_ (fun _ => ?_) | exact ih0 _ _ _ _ _ | exact ih1 _ _ _ _ _ _ _ | exact ih2 _ _ _ _ _ _ _ _ _ _ _ | exact impl_Closes.mono _ _ _ | exact impl_Conflict.mono _ _ _ _ _ _ _ _ _ | exact impl_IsTogether.mono _ _ _)
theorem impl_ClearBetween.mono : ∀ a0 a1 a2 k, LeO (impl_ClearBetween.f k a0 a1 a2) (impl_ClearBetween.f (k + 1) a0 a1 a2) := by
 intro a0 a1 a2 k
 obtain ⟨ih0, ih1, ih2⟩ := impl_ClearBetween.mono_l k
 unfold impl_ClearBetween.f
 repeat' first | (with_reducible first | exact LeO.refl _ | exact LeO.none _ | refine LeO.ite ?_ ?_ | refine LeO.bind ?_ (fun _ => ?_) | exact ih0 _ _ _ _ _ | exact ih1 _ _ _ _ _ _ _ | exact ih2 _ _ _ _ _ _ _ _ _ _ _ | exact impl_Closes.mono _ _ _ | exact impl_Conflict.mono _ _ _ _ _ _ _ _ _ | exact impl_IsTogether.mono _ _ _)
def impl_ClearBetween.T11 : Bool × List (List Nat × List Nat) := (true, [([], []), ([], []), ([], []), ([], []), ([2, 3], [2, 3]), ([1, 4], [1, 4]), ([5], [5]), ([0, 6, 4], [0, 6])])
def impl_ClearBetween.B11 : List Nat := [0, 0, 0, 0, 12, 30, 62, 127]
theorem impl_ClearBetween.tab11 : rtab .any (opsOf Try.f89 11) = impl_ClearBetween.T11 := by kernel_rfl
theorem impl_ClearBetween.bits11 : waitsOk impl_ClearBetween.T11.2 impl_ClearBetween.B11 = true := by kernel_rfl
set_option maxHeartbeats 8000000 in
set_option maxRecDepth 100000 in
theorem impl_ClearBetween.calls (k : Nat) (A0 : Option Addr) (c0 : Nat) (l0 : List (S89)) (A1 : Option Addr) (c1 : Nat) (l1 : List Int) (A2 : Option Addr) (c2 : Nat) (l2 : List Int) (r : Int) (w : World) (hr0 : Kd.C k89 w A0 l0.length l0) (hc0 : l0.length ≤ c0) (hr1 : Kd.C (Kd.int .i64) w A1 l1.length l1) (hc1 : l1.length ≤ c1) (hr2 : Kd.C (Kd.int .i64) w A2 l2.length l2) (hc2 : l2.length ≤ c2) (h : impl_ClearBetween.f k l0 l1 l2 = some r) :
  Calls Try.prog 89 #[.slice A0 l0.length c0, .slice A1 l1.length c1, .slice A2 l2.length c2] w fun e w' => e = .returned (.int .i64 r) ∧ Below w.heap.size w w' := by
 have hu89 := Try.underlying89
 have HR0 := Aside0.mk hr0
 have HC0 := Aside0.mk hc0
 clear hr0 hc0
 have HR1 := Aside0.mk hr1
 have HC1 := Aside0.mk hc1
 clear hr1 hc1
 have HR2 := Aside0.mk hr2
 have HC2 := Aside0.mk hc2
 clear hr2 hc2
 have HB := Aside0.mk (Below.refl w.heap.size w)
 have H : ((impl_IsTogether.f k l0 l1).bind fun t349 => (if t349 = true then ((impl_IsTogether.f k l0 l2).bind fun t350 => (impl_ClearBetween.j0 k l0 l1 l2 0 (!t350))) else (impl_ClearBetween.j0 k l0 l1 l2 0 true))) = some r := h
 clear h
 have HC4 := Aside0.mk H
 clear H
 go_enter Try.func89, Try.ntmps89
 go_upto_region 2 with (fail)
 go_cut [22] (fun v22 wc => ∃ (kq : Nat) (x22_3 : Bool), v22 = .bool x22_3 ∧ Aside0 (impl_ClearBetween.j0 kq l0 l1 l2 0 x22_3 = some r) ∧ Aside0 (kq ≤ k) ∧ Aside0 (Below w.heap.size w wc))
 case first =>
  have H := HC4.out
  clear HC4
  obtain ⟨t349, A5, H⟩ := bindE H
  try dsimp only at H
  by_cases c6 : t349 = true
  ·
   subst c6
   have H1 : ((impl_IsTogether.f k l0 l2).bind fun t350 => (impl_ClearBetween.j0 k l0 l1 l2 0 (!t350))) = some r := by rw [if_pos rfl] at H; exact H
   clear H
   have H := H1
   clear H1
   obtain ⟨t350, A7, H⟩ := bindE H
   try dsimp only at H
   have H' := Aside0.mk H
   clear H
   go_wp2_with (first | ((with_reducible refine gate_callee (f := 87) rfl ?_); refine gL (some 15) Try.func87 #[.slice A0 l0.length c0, .slice A1 l1.length c1] ?_; (with_reducible refine (impl_IsTogether.calls k _ _ l0 _ _ l1 true _ ?side1 ?side2 ?side3 ?side4 A5.out).mono ?_); (case side1 => exact cB HR0); (case side2 => exact HC0.out); (case side3 => exact cB HR1); (case side4 => exact HC1.out); rintro e w8 ⟨rfl, hb⟩; refine ⟨_, rfl, ?_⟩; replace HB := Aside0.mk (below_step bA hb); (try clear hb)) | (go_at_call 87; (with_reducible refine (impl_IsTogether.calls k _ _ l0 _ _ l2 t350 _ ?side1 ?side2 ?side3 ?side4 A7.out).mono ?_); (case side1 => exact cB HR0); (case side2 => exact HC0.out); (case side3 => exact cB HR2); (case side4 => exact HC2.out); rintro e w9 ⟨rfl, hb⟩; replace HB := Aside0.mk (below_step bA hb); (try clear hb)))
   go_meet
   case rel => exact ⟨_, (!t350), rS, H', ⟨by first | omega | exact Nat.le_refl _⟩, ⟨bA⟩⟩
  ·
   replace c6 := Bool.eq_false_iff.mpr c6
   subst c6
   have H1 : (impl_ClearBetween.j0 k l0 l1 l2 0 true) = some r := by rw [if_neg (show ¬ (false = true) by decide)] at H; exact H
   clear H
   have H := H1
   clear H1
   have H' := Aside0.mk H
   clear H
   go_wp2_with (first | ((with_reducible refine gate_callee (f := 87) rfl ?_); refine gL (some 15) Try.func87 #[.slice A0 l0.length c0, .slice A1 l1.length c1] ?_; (with_reducible refine (impl_IsTogether.calls k _ _ l0 _ _ l1 false _ ?side1 ?side2 ?side3 ?side4 A5.out).mono ?_); (case side1 => exact cB HR0); (case side2 => exact HC0.out); (case side3 => exact cB HR1); (case side4 => exact HC1.out); rintro e w10 ⟨rfl, hb⟩; refine ⟨_, rfl, ?_⟩; replace HB := Aside0.mk (below_step bA hb); (try clear hb)))
   go_meet
   case rel => exact ⟨_, (true), rS, H', ⟨by first | omega | exact Nat.le_refl _⟩, ⟨bA⟩⟩
 case rest =>
  clear HC4
  try clear c1
  try clear c2
  try clear p2
  try clear c6
  try clear c8
  obtain ⟨kq, x22_3, rfl, HA, HJ3, HB⟩ := hcut
  cases kq with
  | zero => exact absurd HA.out (by simp [impl_ClearBetween.j0])
  | succ kj3 =>
   have H := HA.out
   clear HA
   simp only [impl_ClearBetween.j0] at H
   by_cases c11 : x22_3 = true
   ·
    subst c11
    have H1 : (some 0) = some r := by rw [if_pos rfl] at H; exact H
    clear H
    have H := H1
    clear H1
    obtain rfl := Option.some.inj H
    go_wp2
    go_ret
    exact ⟨rA, bA⟩
   ·
    replace c11 := Bool.eq_false_iff.mpr c11
    subst c11
    have H1 : ((impl_Closes.f kj3 l1 l2).bind fun t351 => (impl_ClearBetween.l0 kj3 l0 l1 l2 0 t351 (t351.length : Int) 0)) = some r := by rw [if_neg (show ¬ (false = true) by decide)] at H; exact H
    clear H
    have H := H1
    clear H1
    obtain ⟨t351, A12, H⟩ := bindE H
    try dsimp only at H
    have H' := Aside0.mk H
    clear H
    go_wp2_with (first | ((with_reducible refine gate_callee (f := 134) rfl ?_); refine gL (some 26) Try.func134 #[.slice A1 l1.length c1, .slice A2 l2.length c2] ?_; (with_reducible refine (impl_Closes.calls kj3 _ _ l1 _ _ l2 t351 _ ?side1 ?side2 ?side3 ?side4 A12.out).mono ?_); (case side1 => exact cB HR1); (case side2 => exact HC1.out); (case side3 => exact cB HR2); (case side4 => exact HC2.out); rintro e w13 ⟨v352, rfl, ho0, hb⟩; refine ⟨_, rfl, ?_⟩; have HO353 := Aside0.mk (Kd.R_lower ho0 (below_size bA)); replace HB := Aside0.mk (below_step bA hb); (try clear hb); (try clear ho0); obtain ⟨Ao14, co14, eo14⟩ := Kd.R_slice HO353.out; subst eo14))
    go_loopg [7, 28] kj3 (fun kq v7 v28 w' => ∃ (x7_2 : Int) (x28_2 : Int), v7 = .int .i64 x7_2 ∧ v28 = .int .i64 x28_2 ∧ Aside0 (impl_ClearBetween.l0 kq l0 l1 l2 x7_2 t351 (t351.length : Int) x28_2 = some r) ∧ Aside0 (kq ≤ kj3) ∧ Aside0 (Kd.R (Kd.int .i64) 3 w' w.heap.size (fun _ => True) (.slice Ao14 t351.length co14) t351) ∧ Aside0 (Below w.heap.size w w'))
    case atStart => exact ⟨(0), (0), rS, rS, H', ⟨Nat.le_refl _⟩, ⟨rK HO353⟩, ⟨bA⟩⟩
    case round =>
     clear H'
     try clear c1
     try clear c2
     try clear p2
     try clear c6
     try clear c8
     try clear c11
     try clear c13
     try clear p2
     obtain ⟨x7_2, x28_2, rfl, rfl, HA, HK2, HO_26, HB⟩ := hrel
     cases gk with
     | zero => exact absurd HA.out (by simp [impl_ClearBetween.l0])
     | succ k2 =>
      have H := HA.out
      clear HA
      simp only [impl_ClearBetween.l0] at H
      by_cases c15 : x28_2 < (t351.length : Int)
      ·
       rw [if_pos c15] at H
       have c15b0 := decide_eq_true c15
       clear c15
       have c16 : 0 ≤ x28_2 := ifN H
       replace H := ifT H
       have c16b0 := decide_eq_true c16
       clear c16
       have c17 : x28_2 < (t351.length : Int) := ifN H
       replace H := ifT H
       have c17b0 := decide_eq_true c17
       clear c17
       obtain ⟨t355, A18, H⟩ := bindE H
       try dsimp only at H
       have H' := Aside0.mk H
       clear H
       have p354 : 0 ≤ (x28_2 : Int) := dA
       have q354 : x28_2 < (t351.length : Int) := dA
       obtain ⟨ad354, e354, hx354_0⟩ := Kd.at_int (Kd.R_reads' HO_26.out).2.2 x28_2 p354 q354
       cases e354
       replace p354 := eq_true p354
       replace q354 := eq_true q354
       go_wp2_with (first | ((with_reducible refine gate_callee (f := 134) rfl ?_); refine gL (some 34) Try.func134 #[.slice A2 l2.length c2, .slice A1 l1.length c1] ?_; (with_reducible refine (impl_Closes.calls k2 _ _ l2 _ _ l1 t355 _ ?side1 ?side2 ?side3 ?side4 A18.out).mono ?_); (case side1 => exact cB HR2); (case side2 => exact HC2.out); (case side3 => exact cB HR1); (case side4 => exact HC1.out); rintro e w19 ⟨v356, rfl, ho0, hb⟩; refine ⟨_, rfl, ?_⟩; have HO357 := Aside0.mk (Kd.R_lower (Kd.R_new' ho0 (Kd.R_lt (rK HO_26))) (below_size bA)); replace HO_26 := Aside0.mk (Kd.R_elder' (rK HO_26) (Kd.R_base ho0) hb); replace HB := Aside0.mk (below_step bA hb); (try clear hb); (try clear ho0); obtain ⟨Ao20, co20, eo20⟩ := Kd.R_slice HO357.out; subst eo20))
       go_loopg [7, 36] k2 (fun kq v7 v36 w' => ∃ (x7_3 : Int) (x36_3 : Int), v7 = .int .i64 x7_3 ∧ v36 = .int .i64 x36_3 ∧ Aside0 (impl_ClearBetween.l1 kq l0 l1 l2 x7_3 (rd t351 x28_2) t351 (t351.length : Int) x28_2 t355 (t355.length : Int) x36_3 = some r) ∧ Aside0 (kq ≤ k2) ∧ Aside0 (Kd.R (Kd.int .i64) 3 w' w.heap.size (fun k_ => some k_ ≠ ((.slice Ao20 t355.length co20) : Value).ownBlock) (.slice (some ad354) t351.length co14) t351) ∧ Aside0 (Kd.R (Kd.int .i64) 3 w' w.heap.size (fun k_ => some k_ ≠ ((.slice (some ad354) t351.length co14) : Value).ownBlock) (.slice Ao20 t355.length co20) t355) ∧ Aside0 (Below w.heap.size w w'))
       case atStart => exact ⟨(x7_2), (0), rS, rS, H', ⟨Nat.le_refl _⟩, ⟨by (with_reducible repeat (first | apply Kd.R_alloc | apply Kd.R_drewN | apply Kd.R_drew)); exact Kd.R_mono HO_26.out (fun _ hk => hk.2)⟩, ⟨by (with_reducible repeat (first | apply Kd.R_alloc | apply Kd.R_drewN | apply Kd.R_drew)); exact Kd.R_mono HO357.out (fun _ hk => hk.2)⟩, ⟨bA⟩⟩
       case round =>
        clear H'
        try clear c1
        try clear c2
        try clear p2
        try clear p3
        try clear q3
        try clear hx3
        try clear c6
        try clear c8
        try clear c11
        try clear c13
        try clear c15
        try clear c15b0
        try clear c16
        try clear c16b0
        try clear c17
        try clear c17b0
        try clear hx354_0
        try clear p2
        try clear p354
        try clear q354
        obtain ⟨x7_3, x36_3, rfl, rfl, HA, HK3, HO_26, HO_34, HB⟩ := hrel
        cases gk with
        | zero => exact absurd HA.out (by simp [impl_ClearBetween.l1])
        | succ k3 =>
         have H := HA.out
         clear HA
         simp only [impl_ClearBetween.l1] at H
         by_cases c21 : x36_3 < (t355.length : Int)
         ·
          rw [if_pos c21] at H
          have c21b0 := decide_eq_true c21
          clear c21
          have c22 : 0 ≤ x36_3 := ifN H
          replace H := ifT H
          have c22b0 := decide_eq_true c22
          clear c22
          have c23 : x36_3 < (t355.length : Int) := ifN H
          replace H := ifT H
          have c23b0 := decide_eq_true c23
          clear c23
          obtain ⟨t359, A24, H⟩ := bindE H
          try dsimp only at H
          have c25 : 0 ≤ t359 := ifN H
          replace H := ifT H
          have c25b0 := decide_eq_true c25
          clear c25
          have c26 : t359 < (l0.length : Int) := ifN H
          replace H := ifT H
          have c26b0 := decide_eq_true c26
          clear c26
          obtain ⟨t362, A27, H⟩ := bindE H
          try dsimp only at H
          have c28 : 0 ≤ t362 := ifN H
          replace H := ifT H
          have c28b0 := decide_eq_true c28
          clear c28
          have c29 : t362 < (l0.length : Int) := ifN H
          replace H := ifT H
          have c29b0 := decide_eq_true c29
          clear c29
          obtain ⟨t364, A30, H⟩ := bindE H
          try dsimp only at H
          by_cases c31 : t364 = true
          ·
           subst c31
           have H1 : ((impl_ClearOf.f ((rd_T89 l0 t359).f0) ((rd_T89 l0 t359).f1) ((rd_T89 l0 t359).f2) ((rd_T89 l0 t359).f3)).bind fun t365 => (impl_ClearBetween.l1 k3 l0 l1 l2 (mx x7_3 t365) (rd t351 x28_2) t351 (t351.length : Int) x28_2 t355 (t355.length : Int) (wrap64 (x36_3 + 1)))) = some r := by rw [if_pos rfl] at H; exact H
           clear H
           have H := H1
           clear H1
           obtain ⟨t365, A32, H⟩ := bindE H
           try dsimp only at H
           obtain ⟨ji33, hji33⟩ : ∃ j_ : Int, (mx x7_3 t365) = j_ := ⟨_, rfl⟩
           replace H : (impl_ClearBetween.l1 k3 l0 l1 l2 ji33 (rd t351 x28_2) t351 (t351.length : Int) x28_2 t355 (t355.length : Int) (wrap64 (x36_3 + 1))) = some r := by first | (rw [hji33] at H; exact H) | (simp only [hji33] at H ⊢; exact H)
           (try rw [hji33] at A24)
           (try rw [hji33] at A27)
           (try rw [hji33] at A30)
           (try rw [hji33] at A32)
           have hji33_ : (if x7_3 < t365 then t365 else x7_3) = ji33 := hji33
           have H' := Aside0.mk H
           clear H
           have p358 : 0 ≤ (x36_3 : Int) := dA
           have q358 : x36_3 < (t355.length : Int) := dA
           obtain ⟨ad358, e358, hx358_0⟩ := Kd.at_int (Kd.R_reads' HO_34.out).2.2 x36_3 p358 q358
           cases e358
           replace p358 := eq_true p358
           replace q358 := eq_true q358
           try go_wp2_with (first | ((with_reducible refine gate_callee (f := 119) rfl ?_); refine gL (some 43) Try.func119 #[.slice A0 l0.length c0, .int .i64 (rd t351 x28_2)] ?_; (with_reducible refine (impl_FindPath.calls _ _ l0 (rd t351 x28_2) t359 _ ?side1 ?side2 A24.out).mono ?_); (case side1 => exact cB HR0); (case side2 => exact HC0.out); rintro e w34 ⟨rfl, hb⟩; refine ⟨_, rfl, ?_⟩; replace HO_26 := Aside0.mk (Kd.R_below (rK HO_26) hb); replace HO_34 := Aside0.mk (Kd.R_below (rK HO_34) hb); replace HB := Aside0.mk (below_step bA hb); (try clear hb); have p360 : 0 ≤ (t359 : Int) := dA; have q360 : t359 < (l0.length : Int) := dA; obtain ⟨ad360, e360, hx360_0, hx360_1, hx360_2, hx360_3⟩ := at_T89 HR0.out t359 p360 q360; cases e360; replace hx360_0 := hC HB hx360_0; replace hx360_1 := hC HB hx360_1; replace hx360_2 := hC HB hx360_2; replace hx360_3 := hC HB hx360_3; replace p360 := eq_true p360; replace q360 := eq_true q360) | ((with_reducible refine gate_dst (N := 12) rfl ?_); refine bE (N := 12) (cs := #[.int .i64 0, .int .i64 0, .int .i64 0, .int .i64 0]) (t := 89) ?_; intro gb361 hg w35 hbox hb; have n0_ := Aside0.mk (Kd.R_below (rK HO_26) hb); have n1_ := Aside0.mk (Kd.R_below (rK HO_34) hb); have n2_ := Aside0.mk (below_step bA hb); have n3_ := Aside0.mk (hbox); have n4_ := Aside0.mk ((by rw [hg]; exact (below_size bA) : w.heap.size ≤ gb361)); have n5_ := Aside0.mk ((by rw [hg]; exact (below_size bA) : w.heap.size ≤ gb361)); clear HO_26; clear HO_34; clear HB; have HO_26 := n0_; have HO_34 := n1_; have HB := n2_; have BK361 := n3_; have GW361 := n4_; have GE361 := n5_; clear n0_ n1_ n2_ n3_ n4_ n5_; clear hb hbox hg; obtain ⟨hcz36_0, hcz36_1, hcz36_2, hcz36_3, hfz36_0, hfz36_1, hfz36_2, hfz36_3⟩ := blkc4 BK361))
           have n0_ : Aside0 (Kd.R (Kd.int .i64) 3 ((((w35.setCell ⟨gb361, 0, none⟩ (.int .i64 ((rd_T89 l0 t359).f0))).setCell ⟨gb361, 1, none⟩ (.int .i64 ((rd_T89 l0 t359).f1))).setCell ⟨gb361, 2, none⟩ (.int .i64 ((rd_T89 l0 t359).f2))).setCell ⟨gb361, 3, none⟩ (.int .i64 ((rd_T89 l0 t359).f3))) w.heap.size (fun k_ => some k_ ≠ (.slice (some ad358) t355.length co20 : Value).ownBlock) (.slice (some ad354) t351.length co14) t351) := ⟨by (with_reducible repeat (first | apply Kd.R_alloc | apply Kd.R_drewN | apply Kd.R_drew)); exact Kd.R_mono (Kd.R_far (p := ⟨gb361, 3, none⟩) (Kd.R_far (p := ⟨gb361, 2, none⟩) (Kd.R_far (p := ⟨gb361, 1, none⟩) (Kd.R_far (p := ⟨gb361, 0, none⟩) (Kd.R_types HO_26.out BK361.out (by decide)) (fun _ hk => hk.2) (.int .i64 ((rd_T89 l0 t359).f0))) (fun _ hk => hk.2) (.int .i64 ((rd_T89 l0 t359).f1))) (fun _ hk => hk.2) (.int .i64 ((rd_T89 l0 t359).f2))) (fun _ hk => hk.2) (.int .i64 ((rd_T89 l0 t359).f3))) (fun _ hk => hk.1)⟩
           have n1_ : Aside0 (Kd.R (Kd.int .i64) 3 ((((w35.setCell ⟨gb361, 0, none⟩ (.int .i64 ((rd_T89 l0 t359).f0))).setCell ⟨gb361, 1, none⟩ (.int .i64 ((rd_T89 l0 t359).f1))).setCell ⟨gb361, 2, none⟩ (.int .i64 ((rd_T89 l0 t359).f2))).setCell ⟨gb361, 3, none⟩ (.int .i64 ((rd_T89 l0 t359).f3))) w.heap.size (fun k_ => some k_ ≠ (.slice (some ad354) t351.length co14 : Value).ownBlock) (.slice (some ad358) t355.length co20) t355) := ⟨by (with_reducible repeat (first | apply Kd.R_alloc | apply Kd.R_drewN | apply Kd.R_drew)); exact Kd.R_mono (Kd.R_far (p := ⟨gb361, 3, none⟩) (Kd.R_far (p := ⟨gb361, 2, none⟩) (Kd.R_far (p := ⟨gb361, 1, none⟩) (Kd.R_far (p := ⟨gb361, 0, none⟩) (Kd.R_types HO_34.out BK361.out (by decide)) (fun _ hk => hk.2) (.int .i64 ((rd_T89 l0 t359).f0))) (fun _ hk => hk.2) (.int .i64 ((rd_T89 l0 t359).f1))) (fun _ hk => hk.2) (.int .i64 ((rd_T89 l0 t359).f2))) (fun _ hk => hk.2) (.int .i64 ((rd_T89 l0 t359).f3))) (fun _ hk => hk.1)⟩
           have n2_ : Aside0 (((((w35.setCell ⟨gb361, 0, none⟩ (.int .i64 ((rd_T89 l0 t359).f0))).setCell ⟨gb361, 1, none⟩ (.int .i64 ((rd_T89 l0 t359).f1))).setCell ⟨gb361, 2, none⟩ (.int .i64 ((rd_T89 l0 t359).f2))).setCell ⟨gb361, 3, none⟩ (.int .i64 ((rd_T89 l0 t359).f3))).heap[gb361]? = some (.cells #[.int .i64 ((rd_T89 l0 t359).f0), .int .i64 ((rd_T89 l0 t359).f1), .int .i64 ((rd_T89 l0 t359).f2), .int .i64 ((rd_T89 l0 t359).f3)] 89 (0, 0))) := ⟨by (with_reducible repeat (first | refine blk_drewN ?_ _ | refine blk_drew ?_ | refine blk_alloc ?_ _)); refine blk_put (cs := #[.int .i64 ((rd_T89 l0 t359).f0), .int .i64 ((rd_T89 l0 t359).f1), .int .i64 ((rd_T89 l0 t359).f2), .int .i64 0]) ?_ 3 _ rfl; (with_reducible repeat (first | refine blk_drewN ?_ _ | refine blk_drew ?_ | refine blk_alloc ?_ _)); refine blk_put (cs := #[.int .i64 ((rd_T89 l0 t359).f0), .int .i64 ((rd_T89 l0 t359).f1), .int .i64 0, .int .i64 0]) ?_ 2 _ rfl; (with_reducible repeat (first | refine blk_drewN ?_ _ | refine blk_drew ?_ | refine blk_alloc ?_ _)); refine blk_put (cs := #[.int .i64 ((rd_T89 l0 t359).f0), .int .i64 0, .int .i64 0, .int .i64 0]) ?_ 1 _ rfl; (with_reducible repeat (first | refine blk_drewN ?_ _ | refine blk_drew ?_ | refine blk_alloc ?_ _)); refine blk_put (cs := #[.int .i64 0, .int .i64 0, .int .i64 0, .int .i64 0]) ?_ 0 _ rfl; (with_reducible repeat (first | refine blk_drewN ?_ _ | refine blk_drew ?_ | refine blk_alloc ?_ _)); exact BK361.out⟩
           have n3_ : Aside0 (Below w.heap.size w ((((w35.setCell ⟨gb361, 0, none⟩ (.int .i64 ((rd_T89 l0 t359).f0))).setCell ⟨gb361, 1, none⟩ (.int .i64 ((rd_T89 l0 t359).f1))).setCell ⟨gb361, 2, none⟩ (.int .i64 ((rd_T89 l0 t359).f2))).setCell ⟨gb361, 3, none⟩ (.int .i64 ((rd_T89 l0 t359).f3)))) := ⟨bG⟩
           (try clear HO_26)
           (try clear HO_34)
           (try clear BK361)
           (try clear HB)
           generalize ((((w35.setCell ⟨gb361, 0, none⟩ (.int .i64 ((rd_T89 l0 t359).f0))).setCell ⟨gb361, 1, none⟩ (.int .i64 ((rd_T89 l0 t359).f1))).setCell ⟨gb361, 2, none⟩ (.int .i64 ((rd_T89 l0 t359).f2))).setCell ⟨gb361, 3, none⟩ (.int .i64 ((rd_T89 l0 t359).f3))) = w37 at n0_ n1_ n2_ n3_ ⊢
           have HO_26 := n0_
           have HO_34 := n1_
           have BK361 := n2_
           have HB := n3_
           clear n0_ n1_ n2_ n3_
           replace HO_26 := Aside0.mk (Kd.R_drew HO_26.out)
           replace HO_34 := Aside0.mk (Kd.R_drew HO_34.out)
           replace BK361 := Aside0.mk (blk_drew BK361.out)
           have HBo := HB
           replace HB := Aside0.mk (below_drew1 HB.out)
           have p363 : 0 ≤ (t362 : Int) := dA
           have q363 : t362 < (l0.length : Int) := dA
           obtain ⟨ad363, e363, hx363_0, hx363_1, hx363_2, hx363_3⟩ := at_T89 HR0.out t362 p363 q363
           have hw363_3 := hx363_3
           have hw363_2 := hx363_2
           have hw363_1 := hx363_1
           have hw363_0 := hx363_0
           obtain rfl : ad360 = ad363 := (by injection e363)
           replace hx363_0 := hC HB hx363_0
           replace hx363_1 := hC HB hx363_1
           replace hx363_2 := hC HB hx363_2
           replace hx363_3 := hC HB hx363_3
           replace p363 := eq_true p363
           replace q363 := eq_true q363
           refine start_ (n := 8) (S := fun w' => w'.cell? ⟨gb361, 0, none⟩ = some (.int .i64 ((rd_T89 l0 t359).f0)) ∧ w'.cell? ⟨gb361, 1, none⟩ = some (.int .i64 ((rd_T89 l0 t359).f1)) ∧ w'.cell? ⟨gb361, 2, none⟩ = some (.int .i64 ((rd_T89 l0 t359).f2)) ∧ w'.cell? ⟨gb361, 3, none⟩ = some (.int .i64 ((rd_T89 l0 t359).f3)) ∧ w'.cell? (ad360.add ((t362).toNat * 4)) = some (.int .i64 ((rd_T89 l0 t362).f0)) ∧ w'.cell? ⟨(ad360.add ((t362).toNat * 4)).block, (ad360.add ((t362).toNat * 4)).off + 1, none⟩ = some (.int .i64 ((rd_T89 l0 t362).f1)) ∧ w'.cell? ⟨(ad360.add ((t362).toNat * 4)).block, (ad360.add ((t362).toNat * 4)).off + 2, none⟩ = some (.int .i64 ((rd_T89 l0 t362).f2)) ∧ w'.cell? ⟨(ad360.add ((t362).toNat * 4)).block, (ad360.add ((t362).toNat * 4)).off + 3, none⟩ = some (.int .i64 ((rd_T89 l0 t362).f3))) (ds := []) (mb 8 0) (by kernel_rfl) rfl rfl ⟨bC BK361 0, bC BK361 1, bC BK361 2, bC BK361 3, (hC HB hw363_0), (hC HB hw363_1), (hC HB hw363_2), (hC HB hw363_3)⟩ (fun hHeld => ?_); refine with_tabW impl_ClearBetween.tab11 impl_ClearBetween.bits11 (fun HT_ HW_ => ?_)
           generalize w37.drew = w38 at HO_26 HO_34 BK361 HB hx363_0 hx363_1 hx363_2 hx363_3 hHeld ⊢
           refine pA (i := 1) (N := some 47) (mb 8 2) HT_ ?_
           refine pA (i := 2) (N := some 48) (mb 8 6) HT_ ?_
           refine pA (i := 3) (N := some 49) (mb 8 14) HT_ ?_
           refine tA8 (i := 0) (N := some 46) (mb 8 15) HT_ HW_ hHeld ?_
           refine oA (i := 4) (N := some 50) (mb 8 31) HT_ (fun K hK => ?_)
           refine gA Try.func119 #[.slice (some ad360) l0.length c0, .int .i64 (rd t355 x36_3)] ?_
           with_reducible refine (impl_FindPath.calls _ _ l0 (rd t355 x36_3) t362 _ ?side1 ?side2 A27.out).mono ?_
           (case side1 => exact cB HR0)
           (case side2 => exact HC0.out)
           rintro e w39 ⟨rfl, hb⟩
           refine ⟨_, rfl, ?_⟩
           replace HO_26 := Aside0.mk (Kd.R_below (rK HO_26) hb)
           replace HO_34 := Aside0.mk (Kd.R_below (rK HO_34) hb)
           replace BK361 := Aside0.mk (blk_below (g := gb361) (bK BK361) hb)
           replace HB := Aside0.mk (below_step bG hb)
           (try clear hb)
           (try clear hb2)
           (try clear hk)
           (try clear hi)
           refine hK.out _ _ ⟨bC BK361 0, bC BK361 1, bC BK361 2, bC BK361 3, (hC HB hw363_0), (hC HB hw363_1), (hC HB hw363_2), (hC HB hw363_3)⟩ (fun hHeld => ?_)
           clear hK K
           refine nB ?_
           refine pA (i := 5) (N := some 51) (mb 8 63) HT_ ?_
           refine tA8 (i := 6) (N := some 52) (mb 8 127) HT_ HW_ hHeld ?_
           refine oA (i := 7) (N := some 53) (mb 8 255) HT_ (fun K hK => ?_)
           refine gA Try.func133 #[.agg #[.int .i64 ((rd_T89 l0 t359).f0), .int .i64 ((rd_T89 l0 t359).f1), .int .i64 ((rd_T89 l0 t359).f2), .int .i64 ((rd_T89 l0 t359).f3)], .agg #[.int .i64 ((rd_T89 l0 t362).f0), .int .i64 ((rd_T89 l0 t362).f1), .int .i64 ((rd_T89 l0 t362).f2), .int .i64 ((rd_T89 l0 t362).f3)]] ?_
           with_reducible refine (impl_Conflict.calls k3 ((rd_T89 l0 t359).f0) ((rd_T89 l0 t359).f1) ((rd_T89 l0 t359).f2) ((rd_T89 l0 t359).f3) ((rd_T89 l0 t362).f0) ((rd_T89 l0 t362).f1) ((rd_T89 l0 t362).f2) ((rd_T89 l0 t362).f3) true _ A30.out).mono ?_
           rintro e w40 ⟨rfl, hb⟩
           refine ⟨_, rfl, ?_⟩
           replace HO_26 := Aside0.mk (Kd.R_below (rK HO_26) hb)
           replace HO_34 := Aside0.mk (Kd.R_below (rK HO_34) hb)
           replace BK361 := Aside0.mk (blk_below (g := gb361) (bK BK361) hb)
           replace HB := Aside0.mk (below_step bG hb)
           (try clear hb)
           (try clear hb2)
           (try clear hk)
           (try clear hi)
           refine hK.out _ _ ⟨bC BK361 0, bC BK361 1, bC BK361 2, bC BK361 3, (hC HB hw363_0), (hC HB hw363_1), (hC HB hw363_2), (hC HB hw363_3)⟩ (fun hHeld => ?_)
           clear hK K
           refine nB ?_
           refine eA HT_ ?_
           obtain ⟨hcz41_0, hcz41_1, hcz41_2, hcz41_3, hfz41_0, hfz41_1, hfz41_2, hfz41_3⟩ := blkc4 BK361
           try go_wp2_with (first | ((with_reducible refine gate_callee (f := 135) rfl ?_); refine gL (some 56) Try.func135 #[.agg #[.int .i64 ((rd_T89 l0 t359).f0), .int .i64 ((rd_T89 l0 t359).f1), .int .i64 ((rd_T89 l0 t359).f2), .int .i64 ((rd_T89 l0 t359).f3)]] ?_; (with_reducible refine (impl_ClearOf.calls ((rd_T89 l0 t359).f0) ((rd_T89 l0 t359).f1) ((rd_T89 l0 t359).f2) ((rd_T89 l0 t359).f3) t365 _ A32.out).mono ?_); rintro e w42 ⟨rfl, hb⟩; refine ⟨_, rfl, ?_⟩; replace HO_26 := Aside0.mk (Kd.R_below (rK HO_26) hb); replace HO_34 := Aside0.mk (Kd.R_below (rK HO_34) hb); replace BK361 := Aside0.mk (blk_below (g := gb361) (bK BK361) hb); replace HB := Aside0.mk (below_step bG hb); (try clear hb)))
           go_roundg k3
           case measure => have := HJ3.out; have := HK2.out; have := HK3.out; omega
           case rel => exact ⟨(ji33), (wrap64 (x36_3 + 1)), (by first | rfl | (simp; done) | (simp only [← hji33] <;> (first | rfl | simp)) | (simp [*]; done)), rS, H', ⟨by have := HJ3.out; have := HK2.out; have := HK3.out; omega⟩, ⟨rK HO_26⟩, ⟨rK HO_34⟩, ⟨bG⟩⟩
          ·
           replace c31 := Bool.eq_false_iff.mpr c31
           subst c31
           have H1 : (impl_ClearBetween.l1 k3 l0 l1 l2 x7_3 (rd t351 x28_2) t351 (t351.length : Int) x28_2 t355 (t355.length : Int) (wrap64 (x36_3 + 1))) = some r := by rw [if_neg (show ¬ (false = true) by decide)] at H; exact H
           clear H
           have H := H1
           clear H1
           have H' := Aside0.mk H
           clear H
           have p358 : 0 ≤ (x36_3 : Int) := dA
           have q358 : x36_3 < (t355.length : Int) := dA
           obtain ⟨ad358, e358, hx358_0⟩ := Kd.at_int (Kd.R_reads' HO_34.out).2.2 x36_3 p358 q358
           cases e358
           replace p358 := eq_true p358
           replace q358 := eq_true q358
           try go_wp2_with (first | ((with_reducible refine gate_callee (f := 119) rfl ?_); refine gL (some 43) Try.func119 #[.slice A0 l0.length c0, .int .i64 (rd t351 x28_2)] ?_; (with_reducible refine (impl_FindPath.calls _ _ l0 (rd t351 x28_2) t359 _ ?side1 ?side2 A24.out).mono ?_); (case side1 => exact cB HR0); (case side2 => exact HC0.out); rintro e w43 ⟨rfl, hb⟩; refine ⟨_, rfl, ?_⟩; replace HO_26 := Aside0.mk (Kd.R_below (rK HO_26) hb); replace HO_34 := Aside0.mk (Kd.R_below (rK HO_34) hb); replace HB := Aside0.mk (below_step bA hb); (try clear hb); have p360 : 0 ≤ (t359 : Int) := dA; have q360 : t359 < (l0.length : Int) := dA; obtain ⟨ad360, e360, hx360_0, hx360_1, hx360_2, hx360_3⟩ := at_T89 HR0.out t359 p360 q360; cases e360; replace hx360_0 := hC HB hx360_0; replace hx360_1 := hC HB hx360_1; replace hx360_2 := hC HB hx360_2; replace hx360_3 := hC HB hx360_3; replace p360 := eq_true p360; replace q360 := eq_true q360) | ((with_reducible refine gate_dst (N := 12) rfl ?_); refine bE (N := 12) (cs := #[.int .i64 0, .int .i64 0, .int .i64 0, .int .i64 0]) (t := 89) ?_; intro gb361 hg w44 hbox hb; have n0_ := Aside0.mk (Kd.R_below (rK HO_26) hb); have n1_ := Aside0.mk (Kd.R_below (rK HO_34) hb); have n2_ := Aside0.mk (below_step bA hb); have n3_ := Aside0.mk (hbox); have n4_ := Aside0.mk ((by rw [hg]; exact (below_size bA) : w.heap.size ≤ gb361)); have n5_ := Aside0.mk ((by rw [hg]; exact (below_size bA) : w.heap.size ≤ gb361)); clear HO_26; clear HO_34; clear HB; have HO_26 := n0_; have HO_34 := n1_; have HB := n2_; have BK361 := n3_; have GW361 := n4_; have GE361 := n5_; clear n0_ n1_ n2_ n3_ n4_ n5_; clear hb hbox hg; obtain ⟨hcz45_0, hcz45_1, hcz45_2, hcz45_3, hfz45_0, hfz45_1, hfz45_2, hfz45_3⟩ := blkc4 BK361))
           have n0_ : Aside0 (Kd.R (Kd.int .i64) 3 ((((w44.setCell ⟨gb361, 0, none⟩ (.int .i64 ((rd_T89 l0 t359).f0))).setCell ⟨gb361, 1, none⟩ (.int .i64 ((rd_T89 l0 t359).f1))).setCell ⟨gb361, 2, none⟩ (.int .i64 ((rd_T89 l0 t359).f2))).setCell ⟨gb361, 3, none⟩ (.int .i64 ((rd_T89 l0 t359).f3))) w.heap.size (fun k_ => some k_ ≠ (.slice (some ad358) t355.length co20 : Value).ownBlock) (.slice (some ad354) t351.length co14) t351) := ⟨by (with_reducible repeat (first | apply Kd.R_alloc | apply Kd.R_drewN | apply Kd.R_drew)); exact Kd.R_mono (Kd.R_far (p := ⟨gb361, 3, none⟩) (Kd.R_far (p := ⟨gb361, 2, none⟩) (Kd.R_far (p := ⟨gb361, 1, none⟩) (Kd.R_far (p := ⟨gb361, 0, none⟩) (Kd.R_types HO_26.out BK361.out (by decide)) (fun _ hk => hk.2) (.int .i64 ((rd_T89 l0 t359).f0))) (fun _ hk => hk.2) (.int .i64 ((rd_T89 l0 t359).f1))) (fun _ hk => hk.2) (.int .i64 ((rd_T89 l0 t359).f2))) (fun _ hk => hk.2) (.int .i64 ((rd_T89 l0 t359).f3))) (fun _ hk => hk.1)⟩
           have n1_ : Aside0 (Kd.R (Kd.int .i64) 3 ((((w44.setCell ⟨gb361, 0, none⟩ (.int .i64 ((rd_T89 l0 t359).f0))).setCell ⟨gb361, 1, none⟩ (.int .i64 ((rd_T89 l0 t359).f1))).setCell ⟨gb361, 2, none⟩ (.int .i64 ((rd_T89 l0 t359).f2))).setCell ⟨gb361, 3, none⟩ (.int .i64 ((rd_T89 l0 t359).f3))) w.heap.size (fun k_ => some k_ ≠ (.slice (some ad354) t351.length co14 : Value).ownBlock) (.slice (some ad358) t355.length co20) t355) := ⟨by (with_reducible repeat (first | apply Kd.R_alloc | apply Kd.R_drewN | apply Kd.R_drew)); exact Kd.R_mono (Kd.R_far (p := ⟨gb361, 3, none⟩) (Kd.R_far (p := ⟨gb361, 2, none⟩) (Kd.R_far (p := ⟨gb361, 1, none⟩) (Kd.R_far (p := ⟨gb361, 0, none⟩) (Kd.R_types HO_34.out BK361.out (by decide)) (fun _ hk => hk.2) (.int .i64 ((rd_T89 l0 t359).f0))) (fun _ hk => hk.2) (.int .i64 ((rd_T89 l0 t359).f1))) (fun _ hk => hk.2) (.int .i64 ((rd_T89 l0 t359).f2))) (fun _ hk => hk.2) (.int .i64 ((rd_T89 l0 t359).f3))) (fun _ hk => hk.1)⟩
           have n2_ : Aside0 (((((w44.setCell ⟨gb361, 0, none⟩ (.int .i64 ((rd_T89 l0 t359).f0))).setCell ⟨gb361, 1, none⟩ (.int .i64 ((rd_T89 l0 t359).f1))).setCell ⟨gb361, 2, none⟩ (.int .i64 ((rd_T89 l0 t359).f2))).setCell ⟨gb361, 3, none⟩ (.int .i64 ((rd_T89 l0 t359).f3))).heap[gb361]? = some (.cells #[.int .i64 ((rd_T89 l0 t359).f0), .int .i64 ((rd_T89 l0 t359).f1), .int .i64 ((rd_T89 l0 t359).f2), .int .i64 ((rd_T89 l0 t359).f3)] 89 (0, 0))) := ⟨by (with_reducible repeat (first | refine blk_drewN ?_ _ | refine blk_drew ?_ | refine blk_alloc ?_ _)); refine blk_put (cs := #[.int .i64 ((rd_T89 l0 t359).f0), .int .i64 ((rd_T89 l0 t359).f1), .int .i64 ((rd_T89 l0 t359).f2), .int .i64 0]) ?_ 3 _ rfl; (with_reducible repeat (first | refine blk_drewN ?_ _ | refine blk_drew ?_ | refine blk_alloc ?_ _)); refine blk_put (cs := #[.int .i64 ((rd_T89 l0 t359).f0), .int .i64 ((rd_T89 l0 t359).f1), .int .i64 0, .int .i64 0]) ?_ 2 _ rfl; (with_reducible repeat (first | refine blk_drewN ?_ _ | refine blk_drew ?_ | refine blk_alloc ?_ _)); refine blk_put (cs := #[.int .i64 ((rd_T89 l0 t359).f0), .int .i64 0, .int .i64 0, .int .i64 0]) ?_ 1 _ rfl; (with_reducible repeat (first | refine blk_drewN ?_ _ | refine blk_drew ?_ | refine blk_alloc ?_ _)); refine blk_put (cs := #[.int .i64 0, .int .i64 0, .int .i64 0, .int .i64 0]) ?_ 0 _ rfl; (with_reducible repeat (first | refine blk_drewN ?_ _ | refine blk_drew ?_ | refine blk_alloc ?_ _)); exact BK361.out⟩
           have n3_ : Aside0 (Below w.heap.size w ((((w44.setCell ⟨gb361, 0, none⟩ (.int .i64 ((rd_T89 l0 t359).f0))).setCell ⟨gb361, 1, none⟩ (.int .i64 ((rd_T89 l0 t359).f1))).setCell ⟨gb361, 2, none⟩ (.int .i64 ((rd_T89 l0 t359).f2))).setCell ⟨gb361, 3, none⟩ (.int .i64 ((rd_T89 l0 t359).f3)))) := ⟨bG⟩
           (try clear HO_26)
           (try clear HO_34)
           (try clear BK361)
           (try clear HB)
           generalize ((((w44.setCell ⟨gb361, 0, none⟩ (.int .i64 ((rd_T89 l0 t359).f0))).setCell ⟨gb361, 1, none⟩ (.int .i64 ((rd_T89 l0 t359).f1))).setCell ⟨gb361, 2, none⟩ (.int .i64 ((rd_T89 l0 t359).f2))).setCell ⟨gb361, 3, none⟩ (.int .i64 ((rd_T89 l0 t359).f3))) = w46 at n0_ n1_ n2_ n3_ ⊢
           have HO_26 := n0_
           have HO_34 := n1_
           have BK361 := n2_
           have HB := n3_
           clear n0_ n1_ n2_ n3_
           replace HO_26 := Aside0.mk (Kd.R_drew HO_26.out)
           replace HO_34 := Aside0.mk (Kd.R_drew HO_34.out)
           replace BK361 := Aside0.mk (blk_drew BK361.out)
           have HBo := HB
           replace HB := Aside0.mk (below_drew1 HB.out)
           have p363 : 0 ≤ (t362 : Int) := dA
           have q363 : t362 < (l0.length : Int) := dA
           obtain ⟨ad363, e363, hx363_0, hx363_1, hx363_2, hx363_3⟩ := at_T89 HR0.out t362 p363 q363
           have hw363_3 := hx363_3
           have hw363_2 := hx363_2
           have hw363_1 := hx363_1
           have hw363_0 := hx363_0
           obtain rfl : ad360 = ad363 := (by injection e363)
           replace hx363_0 := hC HB hx363_0
           replace hx363_1 := hC HB hx363_1
           replace hx363_2 := hC HB hx363_2
           replace hx363_3 := hC HB hx363_3
           replace p363 := eq_true p363
           replace q363 := eq_true q363
           refine start_ (n := 8) (S := fun w' => w'.cell? ⟨gb361, 0, none⟩ = some (.int .i64 ((rd_T89 l0 t359).f0)) ∧ w'.cell? ⟨gb361, 1, none⟩ = some (.int .i64 ((rd_T89 l0 t359).f1)) ∧ w'.cell? ⟨gb361, 2, none⟩ = some (.int .i64 ((rd_T89 l0 t359).f2)) ∧ w'.cell? ⟨gb361, 3, none⟩ = some (.int .i64 ((rd_T89 l0 t359).f3)) ∧ w'.cell? (ad360.add ((t362).toNat * 4)) = some (.int .i64 ((rd_T89 l0 t362).f0)) ∧ w'.cell? ⟨(ad360.add ((t362).toNat * 4)).block, (ad360.add ((t362).toNat * 4)).off + 1, none⟩ = some (.int .i64 ((rd_T89 l0 t362).f1)) ∧ w'.cell? ⟨(ad360.add ((t362).toNat * 4)).block, (ad360.add ((t362).toNat * 4)).off + 2, none⟩ = some (.int .i64 ((rd_T89 l0 t362).f2)) ∧ w'.cell? ⟨(ad360.add ((t362).toNat * 4)).block, (ad360.add ((t362).toNat * 4)).off + 3, none⟩ = some (.int .i64 ((rd_T89 l0 t362).f3))) (ds := []) (mb 8 0) (by kernel_rfl) rfl rfl ⟨bC BK361 0, bC BK361 1, bC BK361 2, bC BK361 3, (hC HB hw363_0), (hC HB hw363_1), (hC HB hw363_2), (hC HB hw363_3)⟩ (fun hHeld => ?_); refine with_tabW impl_ClearBetween.tab11 impl_ClearBetween.bits11 (fun HT_ HW_ => ?_)
           generalize w46.drew = w47 at HO_26 HO_34 BK361 HB hx363_0 hx363_1 hx363_2 hx363_3 hHeld ⊢
           refine pA (i := 1) (N := some 47) (mb 8 2) HT_ ?_
           refine pA (i := 2) (N := some 48) (mb 8 6) HT_ ?_
           refine pA (i := 3) (N := some 49) (mb 8 14) HT_ ?_
           refine tA8 (i := 0) (N := some 46) (mb 8 15) HT_ HW_ hHeld ?_
           refine oA (i := 4) (N := some 50) (mb 8 31) HT_ (fun K hK => ?_)
           refine gA Try.func119 #[.slice (some ad360) l0.length c0, .int .i64 (rd t355 x36_3)] ?_
           with_reducible refine (impl_FindPath.calls _ _ l0 (rd t355 x36_3) t362 _ ?side1 ?side2 A27.out).mono ?_
           (case side1 => exact cB HR0)
           (case side2 => exact HC0.out)
           rintro e w48 ⟨rfl, hb⟩
           refine ⟨_, rfl, ?_⟩
           replace HO_26 := Aside0.mk (Kd.R_below (rK HO_26) hb)
           replace HO_34 := Aside0.mk (Kd.R_below (rK HO_34) hb)
           replace BK361 := Aside0.mk (blk_below (g := gb361) (bK BK361) hb)
           replace HB := Aside0.mk (below_step bG hb)
           (try clear hb)
           (try clear hb2)
           (try clear hk)
           (try clear hi)
           refine hK.out _ _ ⟨bC BK361 0, bC BK361 1, bC BK361 2, bC BK361 3, (hC HB hw363_0), (hC HB hw363_1), (hC HB hw363_2), (hC HB hw363_3)⟩ (fun hHeld => ?_)
           clear hK K
           refine nB ?_
           refine pA (i := 5) (N := some 51) (mb 8 63) HT_ ?_
           refine tA8 (i := 6) (N := some 52) (mb 8 127) HT_ HW_ hHeld ?_
           refine oA (i := 7) (N := some 53) (mb 8 255) HT_ (fun K hK => ?_)
           refine gA Try.func133 #[.agg #[.int .i64 ((rd_T89 l0 t359).f0), .int .i64 ((rd_T89 l0 t359).f1), .int .i64 ((rd_T89 l0 t359).f2), .int .i64 ((rd_T89 l0 t359).f3)], .agg #[.int .i64 ((rd_T89 l0 t362).f0), .int .i64 ((rd_T89 l0 t362).f1), .int .i64 ((rd_T89 l0 t362).f2), .int .i64 ((rd_T89 l0 t362).f3)]] ?_
           with_reducible refine (impl_Conflict.calls k3 ((rd_T89 l0 t359).f0) ((rd_T89 l0 t359).f1) ((rd_T89 l0 t359).f2) ((rd_T89 l0 t359).f3) ((rd_T89 l0 t362).f0) ((rd_T89 l0 t362).f1) ((rd_T89 l0 t362).f2) ((rd_T89 l0 t362).f3) false _ A30.out).mono ?_
           rintro e w49 ⟨rfl, hb⟩
           refine ⟨_, rfl, ?_⟩
           replace HO_26 := Aside0.mk (Kd.R_below (rK HO_26) hb)
           replace HO_34 := Aside0.mk (Kd.R_below (rK HO_34) hb)
           replace BK361 := Aside0.mk (blk_below (g := gb361) (bK BK361) hb)
           replace HB := Aside0.mk (below_step bG hb)
           (try clear hb)
           (try clear hb2)
           (try clear hk)
           (try clear hi)
           refine hK.out _ _ ⟨bC BK361 0, bC BK361 1, bC BK361 2, bC BK361 3, (hC HB hw363_0), (hC HB hw363_1), (hC HB hw363_2), (hC HB hw363_3)⟩ (fun hHeld => ?_)
           clear hK K
           refine nB ?_
           refine eA HT_ ?_
           try go_wp2
           go_roundg k3
           case measure => have := HJ3.out; have := HK2.out; have := HK3.out; omega
           case rel => exact ⟨(x7_3), (wrap64 (x36_3 + 1)), rS, rS, H', ⟨by have := HJ3.out; have := HK2.out; have := HK3.out; omega⟩, ⟨rK HO_26⟩, ⟨rK HO_34⟩, ⟨bG⟩⟩
         ·
          rw [if_neg c21] at H
          have c21b0 := decide_eq_false c21
          clear c21
          have H' := Aside0.mk H
          clear H
          go_wp2
          go_roundg k3
          case measure => have := HJ3.out; have := HK2.out; have := HK3.out; omega
          case rel => exact ⟨(x7_3), (wrap64 (x28_2 + 1)), rS, rS, H', ⟨by have := HJ3.out; have := HK2.out; have := HK3.out; omega⟩, ⟨by (with_reducible repeat (first | apply Kd.R_alloc | apply Kd.R_drewN | apply Kd.R_drew)); exact Kd.R_mono HO_26.out (fun _ hk => trivial)⟩, ⟨bA⟩⟩
      ·
       rw [if_neg c15] at H
       have c15b0 := decide_eq_false c15
       clear c15
       obtain rfl := Option.some.inj H
       go_wp2
       go_ret
       exact ⟨rA, bA⟩

/-! ### impl_nextStage: function 159 -/
def impl_nextStage.f (l0 : List (S92)) (a1 : Int) : Option (List Int) := if (l0.length : Int) = 0 then (none) else (if 0 ≤ (Int.tmod (wrap64 (a1 + 1)) (l0.length : Int)) then (if (Int.tmod (wrap64 (a1 + 1)) (l0.length : Int)) < (l0.length : Int) then (some ((rd_T92 l0 (Int.tmod (wrap64 (a1 + 1)) (l0.length : Int))).f0)) else (none)) else (none))
set_option maxHeartbeats 8000000 in
set_option maxRecDepth 100000 in
theorem impl_nextStage.calls (P0_ : Nat → Prop) (A0 : Option Addr) (c0 : Nat) (l0 : List (S92)) (a1 : Int) (r : List Int) (w : World) (hs0 : Kd.V k92 92 w w.heap.size (fun k_ => P0_ k_) (.slice A0 l0.length c0) l0) (h : impl_nextStage.f l0 a1 = some r) :
  Calls Try.prog 159 #[.slice A0 l0.length c0, .int .i64 a1] w fun e w' => ∃ v0_ : Value, e = .returned (v0_) ∧ Kd.V (Kd.int .i64) 3 w' w.heap.size (fun k_ => (P0_ k_ ∨ w.heap.size ≤ k_)) v0_ r ∧ Below w.heap.size w w' := by
 have HO0 := Aside0.mk (show Kd.V k92 92 w w.heap.size (fun k_ => (P0_ k_ ∨ w.heap.size ≤ k_)) (.slice A0 l0.length c0) l0 from Kd.V_mono hs0 (fun k_ hk => .inl hk))
 have HB := Aside0.mk (Below.refl w.heap.size w)
 have H : (if (l0.length : Int) = 0 then (none) else (if 0 ≤ (Int.tmod (wrap64 (a1 + 1)) (l0.length : Int)) then (if (Int.tmod (wrap64 (a1 + 1)) (l0.length : Int)) < (l0.length : Int) then (some ((rd_T92 l0 (Int.tmod (wrap64 (a1 + 1)) (l0.length : Int))).f0)) else (none)) else (none))) = some r := h
 clear h
 have c3 : ¬ ((l0.length : Int) = 0) := ifN' H
 replace H := ifT' H
 have c3b0 : ((l0.length : Int) == 0) = false := beq_eq_false_iff_ne.mpr c3
 have c3b1 : ((l0.length : Int) != 0) = true := bne_iff_ne.mpr c3
 have c3b2 : ¬ (l0 = []) := fun h_ => c3 (by rw [h_]; rfl)
 obtain ⟨ji4, hji4⟩ : ∃ j_ : Int, (Int.tmod (wrap64 (a1 + 1)) (l0.length : Int)) = j_ := ⟨_, rfl⟩
 replace H : (if 0 ≤ (ji4) then (if (ji4) < (l0.length : Int) then (some ((rd_T92 l0 (ji4)).f0)) else (none)) else (none)) = some r := by first | (rw [hji4] at H; exact H) | (simp only [hji4] at H ⊢; exact H)
 have c5 : 0 ≤ (ji4) := ifN H
 replace H := ifT H
 have c5b0 := decide_eq_true c5
 clear c5
 have c6 : (ji4) < (l0.length : Int) := ifN H
 replace H := ifT H
 have c6b0 := decide_eq_true c6
 clear c6
 obtain rfl := Option.some.inj H
 have p366 : 0 ≤ ((ji4) : Int) := dA
 have q366 : (ji4) < (l0.length : Int) := dA
 obtain ⟨ad366, A366_0, c366_0, e366, hx366_0, hx366_1, hl366_0, hi366_0⟩ := at_T92 (Kd.V_reads' HO0.out).2.2 (ji4) p366 q366
 cases e366
 obtain ⟨ce366, hce366, hMe366, hcc366⟩ := Kd.V_get HO0.out z92 (ji4) p366 (by first | exact q366 | exact dA | (have e_ := (Kd.V_reads' HO0.out).1; omega))
 obtain ⟨ua366_0, uc366_0, rfl, ul366_0, ge366_0⟩ := k92_openF hMe366
 have hv366_0 := hcc366 0 _ rfl
 rw [Nat.add_zero] at hv366_0
 replace hv366_0 := Option.some.inj (hv366_0.symm.trans hx366_0)
 injection hv366_0 with hva_ hvn_ hvc_
 rw [hva_] at ge366_0
 rw [hvc_] at ul366_0
 have HL366_0 := Aside0.mk (show Kd.V (Kd.int .i64) 3 _ w.heap.size _ _ ((rd_T92 l0 (ji4)).f0) from Kd.V_mk ul366_0 ge366_0)
 clear hva_ hvn_ hvc_ ge366_0 ul366_0
 clear hcc366 hce366
 have HR366_0 := Aside0.mk hi366_0
 have HC366_0 := Aside0.mk hl366_0
 clear hi366_0 hl366_0
 replace p366 := eq_true p366
 replace q366 := eq_true q366
 go_enter Try.func159, Try.ntmps159
 go_wp2
 go_ret
 exact ⟨_, by first | rfl | (simp [errW_none, errW_some] <;> rfl) | (simp only [← hji4]; first | rfl | (simp [errW_none, errW_some] <;> rfl)) | (simp [*, errW_none, errW_some] <;> rfl), by (with_reducible repeat (first | apply Kd.V_alloc | apply Kd.V_drewN | apply Kd.V_drew)); exact HL366_0.out, bA⟩

/-! ### impl_longOf: function 140 -/
def impl_longOf.f (k : Nat) (l0 : List (S89)) (l1 : List (S92)) (a2 : Int) : Option (Int) := if 0 ≤ a2 then (if a2 < (l1.length : Int) then ((impl_nextStage.f l1 a2).bind fun t369 => ((impl_ClearBetween.f k l0 ((rd_T92 l1 a2).f0) t369).bind fun t372 => (some (wrap64 (((rd_T92 l1 a2).f1) + t372))))) else (none)) else (none)
theorem impl_longOf.mono : ∀ a0 a1 a2 k, LeO (impl_longOf.f k a0 a1 a2) (impl_longOf.f (k + 1) a0 a1 a2) := by
 intro a0 a1 a2 k
 unfold impl_longOf.f
 repeat' first | (with_reducible first | exact LeO.refl _ | exact LeO.none _ | refine LeO.ite ?_ ?_ | refine LeO.bind ?_ (fun _ => ?_) | exact impl_ClearBetween.mono _ _ _ _)
def impl_longOf.T1 : Bool × List (List Nat × List Nat) := (true, [([], []), ([], []), ([0, 1], [0, 1]), ([2], [2]), ([3], [3]), ([], []), ([], []), ([], []), ([6, 7], [6, 7]), ([8], [8]), ([9], [9]), ([], []), ([], []), ([11, 12], [11, 12]), ([5, 10, 13, 13], [5, 10, 13]), ([4, 14], [4, 14]), ([15, 14, 0, 1, 2, 3, 4, 5, 6, 7, 8, 9, 10, 11, 12, 13, 14, 15], [15])])
def impl_longOf.B1 : List Nat := [0, 0, 3, 7, 15, 0, 0, 0, 192, 448, 960, 0, 0, 6144, 16352, 32767, 65535]
theorem impl_longOf.tab1 : rtab .any (opsOf Try.f140 1) = impl_longOf.T1 := by kernel_rfl
theorem impl_longOf.bits1 : waitsOk impl_longOf.T1.2 impl_longOf.B1 = true := by kernel_rfl
set_option maxHeartbeats 8000000 in
set_option maxRecDepth 100000 in
theorem impl_longOf.calls (k : Nat) (A0 : Option Addr) (c0 : Nat) (l0 : List (S89)) (A1 : Option Addr) (c1 : Nat) (l1 : List (S92)) (a2 : Int) (r : Int) (w : World) (hr0 : Kd.C k89 w A0 l0.length l0) (hc0 : l0.length ≤ c0) (hr1 : Kd.C k92 w A1 l1.length l1) (hc1 : l1.length ≤ c1) (h : impl_longOf.f k l0 l1 a2 = some r) :
  Calls Try.prog 140 #[.slice A0 l0.length c0, .slice A1 l1.length c1, .int .i64 a2] w fun e w' => e = .returned (.int .i64 r) ∧ Below w.heap.size w w' := by
 have HR0 := Aside0.mk hr0
 have HC0 := Aside0.mk hc0
 clear hr0 hc0
 have HR1 := Aside0.mk hr1
 have HC1 := Aside0.mk hc1
 clear hr1 hc1
 have HB := Aside0.mk (Below.refl w.heap.size w)
 have H : (if 0 ≤ a2 then (if a2 < (l1.length : Int) then ((impl_nextStage.f l1 a2).bind fun t369 => ((impl_ClearBetween.f k l0 ((rd_T92 l1 a2).f0) t369).bind fun t372 => (some (wrap64 (((rd_T92 l1 a2).f1) + t372))))) else (none)) else (none)) = some r := h
 clear h
 have c4 : 0 ≤ a2 := ifN H
 replace H := ifT H
 have c4b0 := decide_eq_true c4
 clear c4
 have c5 : a2 < (l1.length : Int) := ifN H
 replace H := ifT H
 have c5b0 := decide_eq_true c5
 clear c5
 obtain ⟨t369, A6, H⟩ := bindE H
 try dsimp only at H
 obtain ⟨t372, A7, H⟩ := bindE H
 try dsimp only at H
 obtain rfl := Option.some.inj H
 go_enter Try.func140, Try.ntmps140
 try go_wp2
 have HBo := HB
 replace HB := Aside0.mk (below_drew1 HB.out)
 have p367 : 0 ≤ (a2 : Int) := dA
 have q367 : a2 < (l1.length : Int) := dA
 obtain ⟨ad367, A367_0, c367_0, e367, hx367_0, hx367_1, hl367_0, hi367_0⟩ := at_T92 HR1.out a2 p367 q367
 have hw367_1 := hx367_1
 have hw367_0 := hx367_0
 cases e367
 replace hx367_0 := hC HB hx367_0
 replace hx367_1 := hC HB hx367_1
 have HR367_0 := Aside0.mk hi367_0
 have HC367_0 := Aside0.mk hl367_0
 clear hi367_0 hl367_0
 replace p367 := eq_true p367
 replace q367 := eq_true q367
 have p368 : 0 ≤ (a2 : Int) := dA
 have q368 : a2 < (l1.length : Int) := dA
 obtain ⟨ad368, A368_0, c368_0, e368, hx368_0, hx368_1, hl368_0, hi368_0⟩ := at_T92 HR1.out a2 p368 q368
 have hw368_1 := hx368_1
 have hw368_0 := hx368_0
 obtain rfl : ad367 = ad368 := (by injection e368)
 replace hx368_0 := hC HB hx368_0
 replace hx368_1 := hC HB hx368_1
 have HR368_0 := Aside0.mk hi368_0
 have HC368_0 := Aside0.mk hl368_0
 clear hi368_0 hl368_0
 replace p368 := eq_true p368
 replace q368 := eq_true q368
 have ea_ := Option.some.inj (hx367_0.symm.trans hx368_0)
 injection ea_ with ea_ en_ ec_
 subst ea_
 subst ec_
 clear en_
 refine start_ (n := 17) (S := fun w' => w'.cell? (ad367.add ((a2).toNat * 2)) = some (.slice A367_0 ((rd_T92 l1 a2).f0).length c367_0) ∧ w'.cell? ⟨(ad367.add ((a2).toNat * 2)).block, (ad367.add ((a2).toNat * 2)).off + 1, none⟩ = some (.int .i64 ((rd_T92 l1 a2).f1)) ∧ w'.cell? (ad367.add ((a2).toNat * 2)) = some (.slice A367_0 ((rd_T92 l1 a2).f0).length c367_0) ∧ w'.cell? ⟨(ad367.add ((a2).toNat * 2)).block, (ad367.add ((a2).toNat * 2)).off + 1, none⟩ = some (.int .i64 ((rd_T92 l1 a2).f1))) (ds := []) (mb 17 0) (by kernel_rfl) rfl rfl ⟨(hC HB hw367_0), (hC HB hw367_1), (hC HB hw368_0), (hC HB hw368_1)⟩ (fun hHeld => ?_); refine with_tabW impl_longOf.tab1 impl_longOf.bits1 (fun HT_ HW_ => ?_)
 generalize w.drew = w8 at HB HR367_0 HR368_0 hx367_0 hx367_1 hx368_0 hx368_1 hHeld ⊢
 refine pA (i := 0) (N := some 7) (mb 17 1) HT_ ?_
 refine pA (i := 1) (N := some 8) (mb 17 3) HT_ ?_
 refine pA (i := 2) (N := some 9) (mb 17 7) HT_ ?_
 refine pA (i := 3) (N := some 10) (mb 17 15) HT_ ?_
 refine pA (i := 5) (N := some 12) (mb 17 47) HT_ ?_
 refine pA (i := 6) (N := some 13) (mb 17 111) HT_ ?_
 refine pA (i := 7) (N := some 14) (mb 17 239) HT_ ?_
 refine pA (i := 8) (N := some 15) (mb 17 495) HT_ ?_
 refine pA (i := 9) (N := some 16) (mb 17 1007) HT_ ?_
 refine pA (i := 11) (N := some 18) (mb 17 3055) HT_ ?_
 refine pA (i := 12) (N := some 19) (mb 17 7151) HT_ ?_
 refine tA4 (i := 4) (N := some 11) (mb 17 7167) HT_ HW_ hHeld ?_
 refine tA4 (i := 10) (N := some 17) (mb 17 8191) HT_ HW_ hHeld ?_
 refine oA (i := 13) (N := some 20) (mb 17 16383) HT_ (fun K hK => ?_)
 refine gA Try.func159 #[.slice (some ad367) l1.length c1, .int .i64 a2] ?_
 with_reducible refine (impl_nextStage.calls (fun k_ => k_ < w.heap.size) _ _ l1 a2 t369 _ ?side1 A6.out).mono ?_
 (case side1 => exact Kd.V_mk HC1.out (Kd.F_below (Kd.C_F k92_heap HR1.out) bA))
 rintro e w9 ⟨v370, rfl, ho0, hb⟩
 refine ⟨_, rfl, ?_⟩
 have HO371 := Aside0.mk (Kd.V_lower (Kd.V_mono (ok' := fun k_ => True) ho0 (fun k_ hk_ => trivial)) (below_size bA))
 replace HB := Aside0.mk (below_step bA hb)
 (try clear hb)
 (try clear hb2)
 (try clear hk)
 (try clear hi)
 (try clear ho0)
 obtain ⟨Ao10, co10, eo10⟩ := Kd.V_slice HO371.out
 (first | subst eo10 | (injection eo10 with f1_ f2_ f3_; have f4_ := f1_.symm; have f5_ := f3_.symm; clear f1_ f2_ f3_; subst f4_; subst f5_))
 refine hK.out _ _ ⟨(hC HB hw367_0), (hC HB hw367_1), (hC HB hw368_0), (hC HB hw368_1)⟩ (fun hHeld => ?_)
 clear hK K
 refine nB ?_
 refine oA (i := 14) (N := some 21) (mb 17 32767) HT_ (fun K hK => ?_)
 refine gA Try.func89 #[.slice A0 l0.length c0, .slice A367_0 ((rd_T92 l1 a2).f0).length c367_0, .slice Ao10 t369.length co10] ?_
 with_reducible refine (impl_ClearBetween.calls k _ _ l0 _ _ ((rd_T92 l1 a2).f0) _ _ t369 t372 _ ?side1 ?side2 ?side3 ?side4 ?side5 ?side6 A7.out).mono ?_
 (case side1 => exact cB HR0)
 (case side2 => exact HC0.out)
 (case side3 => exact cB HR368_0)
 (case side4 => exact HC368_0.out)
 (case side5 => repeat (first | exact (Kd.V_reads' HO371.out).2.2 | (with_reducible refine Kd.C_alloc ?_ _) | (with_reducible refine Kd.C_drewN ?_ _) | (with_reducible refine Kd.C_drew ?_)))
 (case side6 => exact (Kd.V_reads' HO371.out).2.1)
 rintro e w11 ⟨rfl, hb⟩
 refine ⟨_, rfl, ?_⟩
 replace HO371 := Aside0.mk (Kd.V_below (by (with_reducible repeat (first | apply Kd.V_alloc | apply Kd.V_drewN | apply Kd.V_drew)); exact HO371.out) hb)
 replace HB := Aside0.mk (below_step bA hb)
 (try clear hb)
 (try clear hb2)
 (try clear hk)
 (try clear hi)
 refine hK.out _ _ ⟨(hC HB hw367_0), (hC HB hw367_1), (hC HB hw368_0), (hC HB hw368_1)⟩ (fun hHeld => ?_)
 clear hK K
 refine nB ?_
 refine pA (i := 15) (N := some 22) (mb 17 65535) HT_ ?_
 refine pA (i := 16) (N := some 6) (mb 17 131071) HT_ ?_
 refine eA HT_ ?_
 try go_wp2
 go_ret
 exact ⟨rA, bA⟩

/-! ### impl_Cycle: function 120 -/
def impl_Cycle.l0 : Nat → List (S89) → List (S92) → Int → Int → Int → Option (Int)
 | 0, _, _, _, _, _ => none
 | k + 1, x0, x1, x5, x12, x13 => if x13 < x12 then ((impl_longOf.f k x0 x1 x13).bind fun t374 => (impl_Cycle.l0 k x0 x1 (wrap64 (x5 + t374)) x12 (wrap64 (x13 + 1)))) else (some x5)
def impl_Cycle.f (k : Nat) (l0 : List (S89)) (l1 : List (S92)) : Option (Int) := (impl_IsPlan.f k l0 l1).bind fun t373 => (if t373 = true then (impl_Cycle.l0 k l0 l1 0 (l1.length : Int) 0) else (some 0))
theorem impl_Cycle.mono_l : ∀ k, (∀ y0 y1 y2 y3 y4, LeO (impl_Cycle.l0 k y0 y1 y2 y3 y4) (impl_Cycle.l0 (k + 1) y0 y1 y2 y3 y4))
 | 0 => fun _ _ _ _ _ r h => by simp [impl_Cycle.l0] at h
 | k + 1 => by
  have ih0 := impl_Cycle.mono_l k
  ·
   intro y0 y1 y2 y3 y4
   unfold impl_Cycle.l0
   repeat' first | (with_reducible first | exact LeO.refl _ | exact LeO.none _ | refine LeO.ite ?_ ?_ | refine LeO.bind ?_ (fun _ => ?_) | exact ih0 _ _ _ _ _ | exact impl_IsPlan.mono _ _ _ | exact impl_longOf.mono _ _ _ _)
theorem impl_Cycle.mono : ∀ a0 a1 k, LeO (impl_Cycle.f k a0 a1) (impl_Cycle.f (k + 1) a0 a1) := by
 intro a0 a1 k
 have ih0 := impl_Cycle.mono_l k
 unfold impl_Cycle.f
 repeat' first | (with_reducible first | exact LeO.refl _ | exact LeO.none _ | refine LeO.ite ?_ ?_ | refine LeO.bind ?_ (fun _ => ?_) | exact ih0 _ _ _ _ _ | exact impl_IsPlan.mono _ _ _ | exact impl_longOf.mono _ _ _ _)
set_option maxHeartbeats 8000000 in
set_option maxRecDepth 100000 in
theorem impl_Cycle.calls (k : Nat) (A0 : Option Addr) (c0 : Nat) (l0 : List (S89)) (A1 : Option Addr) (c1 : Nat) (l1 : List (S92)) (r : Int) (w : World) (hr0 : Kd.C k89 w A0 l0.length l0) (hc0 : l0.length ≤ c0) (hr1 : Kd.C k92 w A1 l1.length l1) (hc1 : l1.length ≤ c1) (h : impl_Cycle.f k l0 l1 = some r) :
  Calls Try.prog 120 #[.slice A0 l0.length c0, .slice A1 l1.length c1] w fun e w' => e = .returned (.int .i64 r) ∧ Below w.heap.size w w' := by
 have HR0 := Aside0.mk hr0
 have HC0 := Aside0.mk hc0
 clear hr0 hc0
 have HR1 := Aside0.mk hr1
 have HC1 := Aside0.mk hc1
 clear hr1 hc1
 have HB := Aside0.mk (Below.refl w.heap.size w)
 have H : ((impl_IsPlan.f k l0 l1).bind fun t373 => (if t373 = true then (impl_Cycle.l0 k l0 l1 0 (l1.length : Int) 0) else (some 0))) = some r := h
 clear h
 obtain ⟨t373, A3, H⟩ := bindE H
 try dsimp only at H
 by_cases c4 : t373 = true
 ·
  subst c4
  have H1 : (impl_Cycle.l0 k l0 l1 0 (l1.length : Int) 0) = some r := by rw [if_pos rfl] at H; exact H
  clear H
  have H := H1
  clear H1
  have H' := Aside0.mk H
  clear H
  go_enter Try.func120, Try.ntmps120
  go_wp2_with (first | ((with_reducible refine gate_callee (f := 78) rfl ?_); refine gL (some 9) Try.func78 #[.slice A0 l0.length c0, .slice A1 l1.length c1] ?_; (with_reducible refine (impl_IsPlan.calls k _ _ l0 (fun k_ => k_ < w.heap.size) _ _ l1 true _ ?side1 ?side2 ?side3 A3.out).mono ?_); (case side1 => exact cO HR0); (case side2 => exact HC0.out); (case side3 => exact Kd.V_mk HC1.out (Kd.F_below (Kd.C_F k92_heap HR1.out) bA)); rintro e w5 ⟨rfl, hb⟩; refine ⟨_, rfl, ?_⟩; replace HB := Aside0.mk (below_step bA hb); (try clear hb)))
  go_loopg [5, 13] k (fun kq v5 v13 w' => ∃ (x5_1 : Int) (x13_1 : Int), v5 = .int .i64 x5_1 ∧ v13 = .int .i64 x13_1 ∧ Aside0 (impl_Cycle.l0 kq l0 l1 x5_1 (l1.length : Int) x13_1 = some r) ∧ Aside0 (kq ≤ k) ∧ Aside0 (Below w.heap.size w w'))
  case atStart => exact ⟨(0), (0), rS, rS, H', ⟨Nat.le_refl _⟩, ⟨bA⟩⟩
  case round =>
   clear H'
   try clear c1
   try clear p2
   try clear c4
   obtain ⟨x5_1, x13_1, rfl, rfl, HA, HK1, HB⟩ := hrel
   cases gk with
   | zero => exact absurd HA.out (by simp [impl_Cycle.l0])
   | succ k1 =>
    have H := HA.out
    clear HA
    simp only [impl_Cycle.l0] at H
    by_cases c6 : x13_1 < (l1.length : Int)
    ·
     rw [if_pos c6] at H
     have c6b0 := decide_eq_true c6
     clear c6
     obtain ⟨t374, A7, H⟩ := bindE H
     try dsimp only at H
     have H' := Aside0.mk H
     clear H
     go_wp2_with (first | ((with_reducible refine gate_callee (f := 140) rfl ?_); refine gL (some 20) Try.func140 #[.slice A0 l0.length c0, .slice A1 l1.length c1, .int .i64 x13_1] ?_; (with_reducible refine (impl_longOf.calls k1 _ _ l0 _ _ l1 x13_1 t374 _ ?side1 ?side2 ?side3 ?side4 A7.out).mono ?_); (case side1 => exact cB HR0); (case side2 => exact HC0.out); (case side3 => exact cB HR1); (case side4 => exact HC1.out); rintro e w8 ⟨rfl, hb⟩; refine ⟨_, rfl, ?_⟩; replace HB := Aside0.mk (below_step bA hb); (try clear hb)))
     go_roundg k1
     case measure => have := HK1.out; omega
     case rel => exact ⟨(wrap64 (x5_1 + t374)), (wrap64 (x13_1 + 1)), rS, rS, H', ⟨by have := HK1.out; omega⟩, ⟨bA⟩⟩
    ·
     rw [if_neg c6] at H
     have c6b0 := decide_eq_false c6
     clear c6
     obtain rfl := Option.some.inj H
     go_wp2
     go_ret
     exact ⟨rA, bA⟩
 ·
  replace c4 := Bool.eq_false_iff.mpr c4
  subst c4
  have H1 : (some 0) = some r := by rw [if_neg (show ¬ (false = true) by decide)] at H; exact H
  clear H
  have H := H1
  clear H1
  obtain rfl := Option.some.inj H
  go_enter Try.func120, Try.ntmps120
  go_wp2_with (first | ((with_reducible refine gate_callee (f := 78) rfl ?_); refine gL (some 9) Try.func78 #[.slice A0 l0.length c0, .slice A1 l1.length c1] ?_; (with_reducible refine (impl_IsPlan.calls k _ _ l0 (fun k_ => k_ < w.heap.size) _ _ l1 false _ ?side1 ?side2 ?side3 A3.out).mono ?_); (case side1 => exact cO HR0); (case side2 => exact HC0.out); (case side3 => exact Kd.V_mk HC1.out (Kd.F_below (Kd.C_F k92_heap HR1.out) bA)); rintro e w9 ⟨rfl, hb⟩; refine ⟨_, rfl, ?_⟩; replace HB := Aside0.mk (below_step bA hb); (try clear hb)))
  go_ret
  exact ⟨rA, bA⟩

end Go.Proofs.Ytdkmmefmhfbgkaa.P
