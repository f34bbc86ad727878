/- Printed by myprint.py (wip/tools) over the kit's print: what Go's functions compute, and that they do. Lean checks it. -/
import Derived.Test.YtdkmmefmhfbgkaaF0
import Derived.Test.YtdkmmefmhfbgkaaFX00b
import Derived.Shelf.RegionOpenPlain
import Derived.Lib.Overlaps
import Derived.Laws.Externs
namespace Go.Proofs.Ytdkmmefmhfbgkaa.P
open Go.RowKit Go.Proofs.YtdkmmefmhfbgkaaW.PrintWords Go.Proofs.YtdkmmefmhfbgkaaW.PrintLast Go.Proofs.YtdkmmefmhfbgkaaW.PrintMore Go.Proofs.Ytdkmmefmhfbgkaa.Sq
attribute [local go_sem] max2_int min2_int max_two min_two max_three min_three max_four min_four
set_option linter.unusedVariables false
set_option linter.unusedSimpArgs false

/-! ### impl_Conflict: function 133 -/
def impl_Conflict.j0 : Nat → Bool → Int → Int → Int → Int → Int → Int → Int → Int → Option (Bool)
 | 0, _, _, _, _, _, _, _, _, _ => none
 | k + 1, x22, x308000, x308001, x308002, x308003, x309000, x309001, x309002, x309003 => if x22 = true then (some false) else (if x308001 = 2 then (if x309002 = x308002 then (some true) else (some (x309003 == x308002))) else (if x309001 = 2 then (if x308002 = x309002 then (some true) else (some (x308003 == x309002))) else (if x308002 = x309002 then ((impl_InPlace.f x308002).bind fun t311 => ((impl_OutPlace.f x308003).bind fun t312 => ((impl_InPlace.f x309002).bind fun t313 => ((impl_OutPlace.f x309003).bind fun t314 => ((impl_Interleave.f k t311 t312 t313 t314).bind fun t315 => (some t315)))))) else (if x308003 = x309003 then (some true) else ((impl_InPlace.f x308002).bind fun t316 => ((impl_OutPlace.f x308003).bind fun t317 => ((impl_InPlace.f x309002).bind fun t318 => ((impl_OutPlace.f x309003).bind fun t319 => ((impl_Interleave.f k t316 t317 t318 t319).bind fun t320 => (some t320))))))))))
def impl_Conflict.f (k : Nat) (a0_0 : Int) (a0_1 : Int) (a0_2 : Int) (a0_3 : Int) (a1_0 : Int) (a1_1 : Int) (a1_2 : Int) (a1_3 : Int) : Option (Bool) := (impl_IsPath.f a0_0 a0_1 a0_2 a0_3).bind fun t309 => (if t309 = true then ((impl_IsPath.f a1_0 a1_1 a1_2 a1_3).bind fun t310 => (if t310 = true then (if a0_1 = 2 then (impl_Conflict.j0 k (a1_1 == 2) a0_0 a0_1 a0_2 a0_3 a1_0 a1_1 a1_2 a1_3) else (impl_Conflict.j0 k false a0_0 a0_1 a0_2 a0_3 a1_0 a1_1 a1_2 a1_3)) else (impl_Conflict.j0 k true a0_0 a0_1 a0_2 a0_3 a1_0 a1_1 a1_2 a1_3))) else (impl_Conflict.j0 k true a0_0 a0_1 a0_2 a0_3 a1_0 a1_1 a1_2 a1_3))
theorem impl_Conflict.mono_l : ∀ k, (∀ y0 y1 y2 y3 y4 y5 y6 y7 y8, LeO (impl_Conflict.j0 k y0 y1 y2 y3 y4 y5 y6 y7 y8) (impl_Conflict.j0 (k + 1) y0 y1 y2 y3 y4 y5 y6 y7 y8))
 | 0 => fun _ _ _ _ _ _ _ _ _ r h => by simp [impl_Conflict.j0] at h
 | k + 1 => by
  have ih0 := impl_Conflict.mono_l k
  ·
   intro y0 y1 y2 y3 y4 y5 y6 y7 y8
   unfold impl_Conflict.j0
   repeat' first | (with_reducible first | exact LeO.refl _ | exact LeO.none _ | refine LeO.ite ?_ ?_ | refine LeO.bind ?_ (fun _ => ?_) | exact ih0 _ _ _ _ _ _ _ _ _ | exact impl_Interleave.mono _ _ _ _ _)
theorem impl_Conflict.mono : ∀ a0 a1 a2 a3 a4 a5 a6 a7 k, LeO (impl_Conflict.f k a0 a1 a2 a3 a4 a5 a6 a7) (impl_Conflict.f (k + 1) a0 a1 a2 a3 a4 a5 a6 a7) := by
 intro a0 a1 a2 a3 a4 a5 a6 a7 k
 have ih0 := impl_Conflict.mono_l k
 unfold impl_Conflict.f
 repeat' first | (with_reducible first | exact LeO.refl _ | exact LeO.none _ | refine LeO.ite ?_ ?_ | refine LeO.bind ?_ (fun _ => ?_) | exact ih0 _ _ _ _ _ _ _ _ _ | exact impl_Interleave.mono _ _ _ _ _)
def impl_Conflict.T7 : Bool × List (List Nat × List Nat) := (true, [([], []), ([0], [0]), ([], []), ([2], [2]), ([1, 3], [1, 3]), ([4], [4]), ([5], [5]), ([6, 5], [5, 6]), ([5], [5]), ([8, 5], [5, 8]), ([7, 9, 5], [5, 7, 9]), ([5, 10], [5, 10]), ([11, 5], [11]), ([12], [12]), ([13, 12], [12, 13]), ([14, 12, 12], [12, 14]), ([12], [12]), ([16, 12], [12, 16]), ([17, 15, 12], [12, 17]), ([12], [12]), ([19, 12], [12, 19]), ([20, 18, 12], [12, 20]), ([12], [12]), ([22, 12], [12, 22]), ([23, 21, 12], [12, 23]), ([15, 18, 21, 24, 24, 12], [12, 15, 18, 21, 24]), ([12, 25], [12, 25]), ([26, 25, 0, 1, 2, 3, 4, 5, 6, 7, 8, 9, 10, 11, 12, 13, 14, 15, 16, 17, 18, 19, 20, 21, 22, 23, 24, 25, 26], [26])])
def impl_Conflict.B7 : List Nat := [0, 1, 0, 4, 15, 31, 63, 127, 63, 319, 1023, 2047, 4095, 8191, 16383, 32767, 8191, 73727, 262143, 8191, 532479, 2097151, 8191, 4202495, 16777215, 33554431, 67108863, 134217727]
theorem impl_Conflict.tab7 : rtab .any (opsOf Try.f133 7) = impl_Conflict.T7 := by kernel_rfl
theorem impl_Conflict.bits7 : waitsOk impl_Conflict.T7.2 impl_Conflict.B7 = true := by kernel_rfl
set_option maxHeartbeats 8000000 in
set_option maxRecDepth 100000 in
theorem impl_Conflict.calls (k : Nat) (a0_0 : Int) (a0_1 : Int) (a0_2 : Int) (a0_3 : Int) (a1_0 : Int) (a1_1 : Int) (a1_2 : Int) (a1_3 : Int) (r : Bool) (w : World) (h : impl_Conflict.f k a0_0 a0_1 a0_2 a0_3 a1_0 a1_1 a1_2 a1_3 = some r) :
  Calls Try.prog 133 #[.agg #[.int .i64 a0_0, .int .i64 a0_1, .int .i64 a0_2, .int .i64 a0_3], .agg #[.int .i64 a1_0, .int .i64 a1_1, .int .i64 a1_2, .int .i64 a1_3]] w fun e w' => e = .returned (.bool r) ∧ Below w.heap.size w w' := by
 have hu89 := Try.underlying89
 have HB := Aside0.mk (Below.refl w.heap.size w)
 have H : ((impl_IsPath.f a0_0 a0_1 a0_2 a0_3).bind fun t309 => (if t309 = true then ((impl_IsPath.f a1_0 a1_1 a1_2 a1_3).bind fun t310 => (if t310 = true then (if a0_1 = 2 then (impl_Conflict.j0 k (a1_1 == 2) a0_0 a0_1 a0_2 a0_3 a1_0 a1_1 a1_2 a1_3) else (impl_Conflict.j0 k false a0_0 a0_1 a0_2 a0_3 a1_0 a1_1 a1_2 a1_3)) else (impl_Conflict.j0 k true a0_0 a0_1 a0_2 a0_3 a1_0 a1_1 a1_2 a1_3))) else (impl_Conflict.j0 k true a0_0 a0_1 a0_2 a0_3 a1_0 a1_1 a1_2 a1_3))) = some r := h
 clear h
 have HC3 := Aside0.mk H
 clear H
 go_enter Try.func133, Try.ntmps133
 go_upto_region 1 with (first | ((with_reducible refine gate_dst (N := 2) rfl ?_); refine bE (N := 2) (cs := #[.int .i64 a0_0, .int .i64 a0_1, .int .i64 a0_2, .int .i64 a0_3]) (t := 89) ?_; intro gb307 hg w4 hbox hb; have n0_ := Aside0.mk (below_step bA hb); have n1_ := Aside0.mk (hbox); have n2_ := Aside0.mk ((by rw [hg]; exact (below_size bA) : w.heap.size ≤ gb307)); have n3_ := Aside0.mk ((by rw [hg]; exact (below_size bA) : w.heap.size ≤ gb307)); clear HB; have HB := n0_; have BK307 := n1_; have GW307 := n2_; have GE307 := n3_; clear n0_ n1_ n2_ n3_; clear hb hbox hg) | ((with_reducible refine gate_dst (N := 3) rfl ?_); refine bE (N := 3) (cs := #[.int .i64 a1_0, .int .i64 a1_1, .int .i64 a1_2, .int .i64 a1_3]) (t := 89) ?_; intro gb308 hg w5 hbox hb; have n0_ := Aside0.mk (blk_below (g := gb307) (bK BK307) hb); have n1_ := Aside0.mk (below_step bG hb); have n2_ := Aside0.mk (hbox); have n3_ := Aside0.mk ((by rw [hg]; exact (below_size bG) : w.heap.size ≤ gb308)); have n4_ := Aside0.mk ((by rw [hg]; exact (below_size bG) : w.heap.size ≤ gb308)); have n5_ := Aside0.mk ((by rw [hg]; exact Nat.ne_of_lt (blk_lt (g := gb307) (o := .cells #[.int .i64 a0_0, .int .i64 a0_1, .int .i64 a0_2, .int .i64 a0_3] 89 (0, 0)) (bK BK307)) : gb307 ≠ gb308)); have n6_ := Aside0.mk ((by rw [hg]; exact Nat.ne_of_gt (blk_lt (g := gb307) (o := .cells #[.int .i64 a0_0, .int .i64 a0_1, .int .i64 a0_2, .int .i64 a0_3] 89 (0, 0)) (bK BK307)) : gb308 ≠ gb307)); clear BK307; clear HB; have BK307 := n0_; have HB := n1_; have BK308 := n2_; have GW308 := n3_; have GE308 := n4_; have NB307_308 := n5_; have NB308_307 := n6_; clear n0_ n1_ n2_ n3_ n4_ n5_ n6_; clear hb hbox hg))
 (try simp only [Act.put, List.setIfInBounds_toArray, List.set_cons_zero, List.set_cons_succ])
 go_cut [22] (fun v22 wc => ∃ (kq : Nat) (x22_2 : Bool), v22 = .bool x22_2 ∧ Aside0 (impl_Conflict.j0 kq x22_2 a0_0 a0_1 a0_2 a0_3 a1_0 a1_1 a1_2 a1_3 = some r) ∧ Aside0 (kq ≤ k) ∧ Aside0 (wc.heap[gb307]? = some (.cells #[.int .i64 a0_0, .int .i64 a0_1, .int .i64 a0_2, .int .i64 a0_3] 89 (0, 0))) ∧ Aside0 (wc.heap[gb308]? = some (.cells #[.int .i64 a1_0, .int .i64 a1_1, .int .i64 a1_2, .int .i64 a1_3] 89 (0, 0))) ∧ Aside0 (Below w.heap.size w wc))
 case first =>
  have H := HC3.out
  clear HC3
  obtain ⟨t309, A6, H⟩ := bindE H
  try dsimp only at H
  by_cases c7 : t309 = true
  ·
   subst c7
   have H1 : ((impl_IsPath.f a1_0 a1_1 a1_2 a1_3).bind fun t310 => (if t310 = true then (if a0_1 = 2 then (impl_Conflict.j0 k (a1_1 == 2) a0_0 a0_1 a0_2 a0_3 a1_0 a1_1 a1_2 a1_3) else (impl_Conflict.j0 k false a0_0 a0_1 a0_2 a0_3 a1_0 a1_1 a1_2 a1_3)) else (impl_Conflict.j0 k true a0_0 a0_1 a0_2 a0_3 a1_0 a1_1 a1_2 a1_3))) = some r := by rw [if_pos rfl] at H; exact H
   clear H
   have H := H1
   clear H1
   obtain ⟨t310, A8, H⟩ := bindE H
   try dsimp only at H
   by_cases c9 : t310 = true
   ·
    subst c9
    have H1 : (if a0_1 = 2 then (impl_Conflict.j0 k (a1_1 == 2) a0_0 a0_1 a0_2 a0_3 a1_0 a1_1 a1_2 a1_3) else (impl_Conflict.j0 k false a0_0 a0_1 a0_2 a0_3 a1_0 a1_1 a1_2 a1_3)) = some r := by rw [if_pos rfl] at H; exact H
    clear H
    have H := H1
    clear H1
    by_cases c10 : a0_1 = 2
    ·
     rw [if_pos c10] at H
     have c10b0 : (a0_1 == 2) = true := beq_iff_eq.mpr c10
     have c10b1 : (a0_1 != 2) = false := bne_eq_false_iff_eq.mpr c10
     clear c10
     (first | rw [c10b0] | (simp only [i64_w, i32_w]; rw [c10b0]) | skip)
     have H' := Aside0.mk H
     clear H
     have hnb11 := NB307_308.out
     have hnc11 := NB308_307.out
     obtain ⟨hcz12_0, hcz12_1, hcz12_2, hcz12_3, hfz12_0, hfz12_1, hfz12_2, hfz12_3⟩ := blkc4 BK307
     go_wp2_with (first | ((with_reducible refine gate_callee (f := 146) rfl ?_); refine gL (some 6) Try.func146 #[.agg #[.int .i64 a0_0, .int .i64 a0_1, .int .i64 a0_2, .int .i64 a0_3]] ?_; (with_reducible refine (impl_IsPath.calls a0_0 a0_1 a0_2 a0_3 true _ A6.out).mono ?_); rintro e w13 ⟨rfl, hb⟩; refine ⟨_, rfl, ?_⟩; replace BK307 := Aside0.mk (blk_below (g := gb307) (bK BK307) hb); replace BK308 := Aside0.mk (blk_below (g := gb308) (bK BK308) hb); replace HB := Aside0.mk (below_step bG hb); (try clear hb); have hcz14_0 : w13.cell? ⟨gb308, 0, none⟩ = some (.int .i64 a1_0) := bC BK308 0; have hcz14_1 : w13.cell? ⟨gb308, 1, none⟩ = some (.int .i64 a1_1) := bC BK308 1; have hcz14_2 : w13.cell? ⟨gb308, 2, none⟩ = some (.int .i64 a1_2) := bC BK308 2; have hcz14_3 : w13.cell? ⟨gb308, 3, none⟩ = some (.int .i64 a1_3) := bC BK308 3; have hfz14_0 := blk_frozen BK308.out 0; have hfz14_1 := blk_frozen BK308.out 1; have hfz14_2 := blk_frozen BK308.out 2; have hfz14_3 := blk_frozen BK308.out 3) | (go_at_call 146; (with_reducible refine (impl_IsPath.calls a1_0 a1_1 a1_2 a1_3 true _ A8.out).mono ?_); rintro e w15 ⟨rfl, hb⟩; replace BK307 := Aside0.mk (blk_below (g := gb307) (bK BK307) hb); replace BK308 := Aside0.mk (blk_below (g := gb308) (bK BK308) hb); replace HB := Aside0.mk (below_step bG hb); (try clear hb); obtain ⟨hcz16_0, hcz16_1, hcz16_2, hcz16_3, hfz16_0, hfz16_1, hfz16_2, hfz16_3⟩ := blkc4 BK307; obtain ⟨hcz17_0, hcz17_1, hcz17_2, hcz17_3, hfz17_0, hfz17_1, hfz17_2, hfz17_3⟩ := blkc4 BK308))
     go_meet
     case rel => exact ⟨_, ((a1_1 == 2)), rS, H', ⟨by first | omega | exact Nat.le_refl _⟩, ⟨bK BK307⟩, ⟨bK BK308⟩, ⟨bG⟩⟩
    ·
     rw [if_neg c10] at H
     have c10b0 : (a0_1 == 2) = false := beq_eq_false_iff_ne.mpr c10
     have c10b1 : (a0_1 != 2) = true := bne_iff_ne.mpr c10
     (first | rw [c10b0] | (simp only [i64_w, i32_w]; rw [c10b0]) | skip)
     have H' := Aside0.mk H
     clear H
     have hnb18 := NB307_308.out
     have hnc18 := NB308_307.out
     obtain ⟨hcz19_0, hcz19_1, hcz19_2, hcz19_3, hfz19_0, hfz19_1, hfz19_2, hfz19_3⟩ := blkc4 BK307
     go_wp2_with (first | ((with_reducible refine gate_callee (f := 146) rfl ?_); refine gL (some 6) Try.func146 #[.agg #[.int .i64 a0_0, .int .i64 a0_1, .int .i64 a0_2, .int .i64 a0_3]] ?_; (with_reducible refine (impl_IsPath.calls a0_0 a0_1 a0_2 a0_3 true _ A6.out).mono ?_); rintro e w20 ⟨rfl, hb⟩; refine ⟨_, rfl, ?_⟩; replace BK307 := Aside0.mk (blk_below (g := gb307) (bK BK307) hb); replace BK308 := Aside0.mk (blk_below (g := gb308) (bK BK308) hb); replace HB := Aside0.mk (below_step bG hb); (try clear hb); have hcz21_0 : w20.cell? ⟨gb308, 0, none⟩ = some (.int .i64 a1_0) := bC BK308 0; have hcz21_1 : w20.cell? ⟨gb308, 1, none⟩ = some (.int .i64 a1_1) := bC BK308 1; have hcz21_2 : w20.cell? ⟨gb308, 2, none⟩ = some (.int .i64 a1_2) := bC BK308 2; have hcz21_3 : w20.cell? ⟨gb308, 3, none⟩ = some (.int .i64 a1_3) := bC BK308 3; have hfz21_0 := blk_frozen BK308.out 0; have hfz21_1 := blk_frozen BK308.out 1; have hfz21_2 := blk_frozen BK308.out 2; have hfz21_3 := blk_frozen BK308.out 3) | (go_at_call 146; (with_reducible refine (impl_IsPath.calls a1_0 a1_1 a1_2 a1_3 true _ A8.out).mono ?_); rintro e w22 ⟨rfl, hb⟩; replace BK307 := Aside0.mk (blk_below (g := gb307) (bK BK307) hb); replace BK308 := Aside0.mk (blk_below (g := gb308) (bK BK308) hb); replace HB := Aside0.mk (below_step bG hb); (try clear hb); obtain ⟨hcz23_0, hcz23_1, hcz23_2, hcz23_3, hfz23_0, hfz23_1, hfz23_2, hfz23_3⟩ := blkc4 BK307))
     go_meet
     case rel => exact ⟨_, (false), rS, H', ⟨by first | omega | exact Nat.le_refl _⟩, ⟨bK BK307⟩, ⟨bK BK308⟩, ⟨bG⟩⟩
   ·
    replace c9 := Bool.eq_false_iff.mpr c9
    subst c9
    have H1 : (impl_Conflict.j0 k true a0_0 a0_1 a0_2 a0_3 a1_0 a1_1 a1_2 a1_3) = some r := by rw [if_neg (show ¬ (false = true) by decide)] at H; exact H
    clear H
    have H := H1
    clear H1
    have H' := Aside0.mk H
    clear H
    have hnb24 := NB307_308.out
    have hnc24 := NB308_307.out
    obtain ⟨hcz25_0, hcz25_1, hcz25_2, hcz25_3, hfz25_0, hfz25_1, hfz25_2, hfz25_3⟩ := blkc4 BK307
    go_wp2_with (first | ((with_reducible refine gate_callee (f := 146) rfl ?_); refine gL (some 6) Try.func146 #[.agg #[.int .i64 a0_0, .int .i64 a0_1, .int .i64 a0_2, .int .i64 a0_3]] ?_; (with_reducible refine (impl_IsPath.calls a0_0 a0_1 a0_2 a0_3 true _ A6.out).mono ?_); rintro e w26 ⟨rfl, hb⟩; refine ⟨_, rfl, ?_⟩; replace BK307 := Aside0.mk (blk_below (g := gb307) (bK BK307) hb); replace BK308 := Aside0.mk (blk_below (g := gb308) (bK BK308) hb); replace HB := Aside0.mk (below_step bG hb); (try clear hb); have hcz27_0 : w26.cell? ⟨gb308, 0, none⟩ = some (.int .i64 a1_0) := bC BK308 0; have hcz27_1 : w26.cell? ⟨gb308, 1, none⟩ = some (.int .i64 a1_1) := bC BK308 1; have hcz27_2 : w26.cell? ⟨gb308, 2, none⟩ = some (.int .i64 a1_2) := bC BK308 2; have hcz27_3 : w26.cell? ⟨gb308, 3, none⟩ = some (.int .i64 a1_3) := bC BK308 3; have hfz27_0 := blk_frozen BK308.out 0; have hfz27_1 := blk_frozen BK308.out 1; have hfz27_2 := blk_frozen BK308.out 2; have hfz27_3 := blk_frozen BK308.out 3) | (go_at_call 146; (with_reducible refine (impl_IsPath.calls a1_0 a1_1 a1_2 a1_3 false _ A8.out).mono ?_); rintro e w28 ⟨rfl, hb⟩; replace BK307 := Aside0.mk (blk_below (g := gb307) (bK BK307) hb); replace BK308 := Aside0.mk (blk_below (g := gb308) (bK BK308) hb); replace HB := Aside0.mk (below_step bG hb); (try clear hb)))
    go_meet
    case rel => exact ⟨_, (true), rS, H', ⟨by first | omega | exact Nat.le_refl _⟩, ⟨bK BK307⟩, ⟨bK BK308⟩, ⟨bG⟩⟩
  ·
   replace c7 := Bool.eq_false_iff.mpr c7
   subst c7
   have H1 : (impl_Conflict.j0 k true a0_0 a0_1 a0_2 a0_3 a1_0 a1_1 a1_2 a1_3) = some r := by rw [if_neg (show ¬ (false = true) by decide)] at H; exact H
   clear H
   have H := H1
   clear H1
   have H' := Aside0.mk H
   clear H
   have hnb29 := NB307_308.out
   have hnc29 := NB308_307.out
   obtain ⟨hcz30_0, hcz30_1, hcz30_2, hcz30_3, hfz30_0, hfz30_1, hfz30_2, hfz30_3⟩ := blkc4 BK307
   go_wp2_with (first | ((with_reducible refine gate_callee (f := 146) rfl ?_); refine gL (some 6) Try.func146 #[.agg #[.int .i64 a0_0, .int .i64 a0_1, .int .i64 a0_2, .int .i64 a0_3]] ?_; (with_reducible refine (impl_IsPath.calls a0_0 a0_1 a0_2 a0_3 false _ A6.out).mono ?_); rintro e w31 ⟨rfl, hb⟩; refine ⟨_, rfl, ?_⟩; replace BK307 := Aside0.mk (blk_below (g := gb307) (bK BK307) hb); replace BK308 := Aside0.mk (blk_below (g := gb308) (bK BK308) hb); replace HB := Aside0.mk (below_step bG hb); (try clear hb)))
   go_meet
   case rel => exact ⟨_, (true), rS, H', ⟨by first | omega | exact Nat.le_refl _⟩, ⟨bK BK307⟩, ⟨bK BK308⟩, ⟨bG⟩⟩
 case rest =>
  clear HC3
  try clear c1
  try clear c2
  try clear p2
  try clear c7
  try clear c9
  try clear c10
  try clear c10b0
  try clear c10b1
  try clear c11
  try clear c13
  try clear c14
  try clear c18
  try clear c24
  try clear c29
  try clear hcz12_0
  try clear hcz12_1
  try clear hcz12_2
  try clear hcz12_3
  try clear hcz14_0
  try clear hcz14_1
  try clear hcz14_2
  try clear hcz14_3
  try clear hcz16_0
  try clear hcz16_1
  try clear hcz16_2
  try clear hcz16_3
  try clear hcz17_0
  try clear hcz17_1
  try clear hcz17_2
  try clear hcz17_3
  try clear hcz19_0
  try clear hcz19_1
  try clear hcz19_2
  try clear hcz19_3
  try clear hcz21_0
  try clear hcz21_1
  try clear hcz21_2
  try clear hcz21_3
  try clear hcz23_0
  try clear hcz23_1
  try clear hcz23_2
  try clear hcz23_3
  try clear hcz25_0
  try clear hcz25_1
  try clear hcz25_2
  try clear hcz25_3
  try clear hcz27_0
  try clear hcz27_1
  try clear hcz27_2
  try clear hcz27_3
  try clear hcz30_0
  try clear hcz30_1
  try clear hcz30_2
  try clear hcz30_3
  try clear hfz12_0
  try clear hfz12_1
  try clear hfz12_2
  try clear hfz12_3
  try clear hfz14_0
  try clear hfz14_1
  try clear hfz14_2
  try clear hfz14_3
  try clear hfz16_0
  try clear hfz16_1
  try clear hfz16_2
  try clear hfz16_3
  try clear hfz17_0
  try clear hfz17_1
  try clear hfz17_2
  try clear hfz17_3
  try clear hfz19_0
  try clear hfz19_1
  try clear hfz19_2
  try clear hfz19_3
  try clear hfz21_0
  try clear hfz21_1
  try clear hfz21_2
  try clear hfz21_3
  try clear hfz23_0
  try clear hfz23_1
  try clear hfz23_2
  try clear hfz23_3
  try clear hfz25_0
  try clear hfz25_1
  try clear hfz25_2
  try clear hfz25_3
  try clear hfz27_0
  try clear hfz27_1
  try clear hfz27_2
  try clear hfz27_3
  try clear hfz30_0
  try clear hfz30_1
  try clear hfz30_2
  try clear hfz30_3
  obtain ⟨kq, x22_2, rfl, HA, HJ2, BK307, BK308, HB⟩ := hcut
  cases kq with
  | zero => exact absurd HA.out (by simp [impl_Conflict.j0])
  | succ kj2 =>
   have H := HA.out
   clear HA
   simp only [impl_Conflict.j0] at H
   by_cases c32 : x22_2 = true
   ·
    subst c32
    have H1 : (some false) = some r := by rw [if_pos rfl] at H; exact H
    clear H
    have H := H1
    clear H1
    obtain rfl := Option.some.inj H
    go_wp2
    go_ret
    exact ⟨rA, bG⟩
   ·
    replace c32 := Bool.eq_false_iff.mpr c32
    subst c32
    have H1 : (if a0_1 = 2 then (if a1_2 = a0_2 then (some true) else (some (a1_3 == a0_2))) else (if a1_1 = 2 then (if a0_2 = a1_2 then (some true) else (some (a0_3 == a1_2))) else (if a0_2 = a1_2 then ((impl_InPlace.f a0_2).bind fun t311 => ((impl_OutPlace.f a0_3).bind fun t312 => ((impl_InPlace.f a1_2).bind fun t313 => ((impl_OutPlace.f a1_3).bind fun t314 => ((impl_Interleave.f kj2 t311 t312 t313 t314).bind fun t315 => (some t315)))))) else (if a0_3 = a1_3 then (some true) else ((impl_InPlace.f a0_2).bind fun t316 => ((impl_OutPlace.f a0_3).bind fun t317 => ((impl_InPlace.f a1_2).bind fun t318 => ((impl_OutPlace.f a1_3).bind fun t319 => ((impl_Interleave.f kj2 t316 t317 t318 t319).bind fun t320 => (some t320)))))))))) = some r := by rw [if_neg (show ¬ (false = true) by decide)] at H; exact H
    clear H
    have H := H1
    clear H1
    by_cases c33 : a0_1 = 2
    ·
     rw [if_pos c33] at H
     have c33b0 : (a0_1 == 2) = true := beq_iff_eq.mpr c33
     have c33b1 : (a0_1 != 2) = false := bne_eq_false_iff_eq.mpr c33
     clear c33
     by_cases c34 : a1_2 = a0_2
     ·
      rw [if_pos c34] at H
      have c34b0 : (a1_2 == a0_2) = true := beq_iff_eq.mpr c34
      have c34b1 : (a1_2 != a0_2) = false := bne_eq_false_iff_eq.mpr c34
      clear c34
      obtain rfl := Option.some.inj H
      have hnb35 := NB307_308.out
      have hnc35 := NB308_307.out
      obtain ⟨hcz36_0, hcz36_1, hcz36_2, hcz36_3, hfz36_0, hfz36_1, hfz36_2, hfz36_3⟩ := blkc4 BK307
      obtain ⟨hcz37_0, hcz37_1, hcz37_2, hcz37_3, hfz37_0, hfz37_1, hfz37_2, hfz37_3⟩ := blkc4 BK308
      go_wp2
      go_ret
      exact ⟨rA, bG⟩
     ·
      rw [if_neg c34] at H
      have c34b0 : (a1_2 == a0_2) = false := beq_eq_false_iff_ne.mpr c34
      have c34b1 : (a1_2 != a0_2) = true := bne_iff_ne.mpr c34
      obtain rfl := Option.some.inj H
      have hnb38 := NB307_308.out
      have hnc38 := NB308_307.out
      obtain ⟨hcz39_0, hcz39_1, hcz39_2, hcz39_3, hfz39_0, hfz39_1, hfz39_2, hfz39_3⟩ := blkc4 BK307
      obtain ⟨hcz40_0, hcz40_1, hcz40_2, hcz40_3, hfz40_0, hfz40_1, hfz40_2, hfz40_3⟩ := blkc4 BK308
      go_wp2
      go_ret
      exact ⟨rA, bG⟩
    ·
     rw [if_neg c33] at H
     have c33b0 : (a0_1 == 2) = false := beq_eq_false_iff_ne.mpr c33
     have c33b1 : (a0_1 != 2) = true := bne_iff_ne.mpr c33
     by_cases c41 : a1_1 = 2
     ·
      rw [if_pos c41] at H
      have c41b0 : (a1_1 == 2) = true := beq_iff_eq.mpr c41
      have c41b1 : (a1_1 != 2) = false := bne_eq_false_iff_eq.mpr c41
      clear c41
      by_cases c42 : a0_2 = a1_2
      ·
       rw [if_pos c42] at H
       have c42b0 : (a0_2 == a1_2) = true := beq_iff_eq.mpr c42
       have c42b1 : (a0_2 != a1_2) = false := bne_eq_false_iff_eq.mpr c42
       clear c42
       obtain rfl := Option.some.inj H
       have hnb43 := NB307_308.out
       have hnc43 := NB308_307.out
       obtain ⟨hcz44_0, hcz44_1, hcz44_2, hcz44_3, hfz44_0, hfz44_1, hfz44_2, hfz44_3⟩ := blkc4 BK307
       obtain ⟨hcz45_0, hcz45_1, hcz45_2, hcz45_3, hfz45_0, hfz45_1, hfz45_2, hfz45_3⟩ := blkc4 BK308
       go_wp2
       go_ret
       exact ⟨rA, bG⟩
      ·
       rw [if_neg c42] at H
       have c42b0 : (a0_2 == a1_2) = false := beq_eq_false_iff_ne.mpr c42
       have c42b1 : (a0_2 != a1_2) = true := bne_iff_ne.mpr c42
       obtain rfl := Option.some.inj H
       have hnb46 := NB307_308.out
       have hnc46 := NB308_307.out
       obtain ⟨hcz47_0, hcz47_1, hcz47_2, hcz47_3, hfz47_0, hfz47_1, hfz47_2, hfz47_3⟩ := blkc4 BK307
       obtain ⟨hcz48_0, hcz48_1, hcz48_2, hcz48_3, hfz48_0, hfz48_1, hfz48_2, hfz48_3⟩ := blkc4 BK308
       go_wp2
       go_ret
       exact ⟨rA, bG⟩
     ·
      rw [if_neg c41] at H
      have c41b0 : (a1_1 == 2) = false := beq_eq_false_iff_ne.mpr c41
      have c41b1 : (a1_1 != 2) = true := bne_iff_ne.mpr c41
      by_cases c49 : a0_2 = a1_2
      ·
       rw [if_pos c49] at H
       have c49b0 : (a0_2 == a1_2) = true := beq_iff_eq.mpr c49
       have c49b1 : (a0_2 != a1_2) = false := bne_eq_false_iff_eq.mpr c49
       clear c49
       obtain ⟨t311, A50, H⟩ := bindE H
       try dsimp only at H
       obtain ⟨t312, A51, H⟩ := bindE H
       try dsimp only at H
       obtain ⟨t313, A52, H⟩ := bindE H
       try dsimp only at H
       obtain ⟨t314, A53, H⟩ := bindE H
       try dsimp only at H
       obtain ⟨t315, A54, H⟩ := bindE H
       try dsimp only at H
       obtain rfl := Option.some.inj H
       have hnb55 := NB307_308.out
       have hnc55 := NB308_307.out
       obtain ⟨hcz56_0, hcz56_1, hcz56_2, hcz56_3, hfz56_0, hfz56_1, hfz56_2, hfz56_3⟩ := blkc4 BK307
       obtain ⟨hcz57_0, hcz57_1, hcz57_2, hcz57_3, hfz57_0, hfz57_1, hfz57_2, hfz57_3⟩ := blkc4 BK308
       try go_wp2
       replace BK307 := Aside0.mk (blk_drew BK307.out)
       replace BK308 := Aside0.mk (blk_drew BK308.out)
       have HBo := HB
       replace HB := Aside0.mk (below_drew1 HB.out)
       refine start_ (n := 28) (S := fun w' => w'.cell? ⟨gb307, 0, none⟩ = some (.int .i64 a0_0) ∧ w'.cell? ⟨gb307, 1, none⟩ = some (.int .i64 a0_1) ∧ w'.cell? ⟨gb307, 2, none⟩ = some (.int .i64 a0_2) ∧ w'.cell? ⟨gb307, 3, none⟩ = some (.int .i64 a0_3) ∧ w'.cell? ⟨gb308, 0, none⟩ = some (.int .i64 a1_0) ∧ w'.cell? ⟨gb308, 1, none⟩ = some (.int .i64 a1_1) ∧ w'.cell? ⟨gb308, 2, none⟩ = some (.int .i64 a1_2) ∧ w'.cell? ⟨gb308, 3, none⟩ = some (.int .i64 a1_3)) (ds := []) (mb 28 0) (by kernel_rfl) rfl rfl ⟨bC BK307 0, bC BK307 1, bC BK307 2, bC BK307 3, bC BK308 0, bC BK308 1, bC BK308 2, bC BK308 3⟩ (fun hHeld => ?_); refine with_tabW impl_Conflict.tab7 impl_Conflict.bits7 (fun HT_ HW_ => ?_)
       generalize wc.drew = w58 at BK307 BK308 HB hHeld ⊢
       refine pa 0 53 (mb 28 1) HT_ ?_
       refine pa 2 55 (mb 28 5) HT_ ?_
       refine ta8 1 54 (mb 28 7) HT_ HW_ hHeld ?_
       refine ta8 3 56 (mb 28 15) HT_ HW_ hHeld ?_
       refine pa 4 57 (mb 28 31) HT_ ?_
       refine pa 5 58 (mb 28 63) HT_ ?_
       refine pu 6 59 (mb 28 127) HT_ ?_
       refine pu 7 60 (mb 28 255) HT_ ?_
       refine pu 8 61 (mb 28 511) HT_ ?_
       refine pu 9 62 (mb 28 1023) HT_ ?_
       refine pu 10 63 (mb 28 2047) HT_ ?_
       refine pa 11 64 (mb 28 4095) HT_ ?_
       refine pa 12 65 (mb 28 8191) HT_ ?_
       refine pa 13 66 (mb 28 16383) HT_ ?_
       refine pa 16 69 (mb 28 81919) HT_ ?_
       refine pa 19 72 (mb 28 606207) HT_ ?_
       refine pa 22 75 (mb 28 4800511) HT_ ?_
       refine ta8 14 67 (mb 28 4816895) HT_ HW_ hHeld ?_
       refine ta8 17 70 (mb 28 4947967) HT_ HW_ hHeld ?_
       refine ta8 20 73 (mb 28 5996543) HT_ HW_ hHeld ?_
       refine ta8 23 76 (mb 28 14385151) HT_ HW_ hHeld ?_
       refine oa 15 68 (mb 28 14417919) HT_ (fun K hK => ?_)
       refine gA Try.func153 #[.int .i64 a0_2] ?_
       with_reducible refine (impl_InPlace.calls a0_2 t311 _ A50.out).mono ?_
       rintro e w' ⟨rfl, ⟨nd, rfl⟩⟩
       refine ⟨_, rfl, ?_⟩
       refine hK.out _ _ ⟨bC BK307 0, bC BK307 1, bC BK307 2, bC BK307 3, bC BK308 0, bC BK308 1, bC BK308 2, bC BK308 3⟩ (fun hHeld => ?_)
       clear hK K
       refine nB ?_
       refine oa 18 71 (mb 28 14680063) HT_ (fun K hK => ?_)
       refine gA Try.func154 #[.int .i64 a0_3] ?_
       with_reducible refine (impl_OutPlace.calls a0_3 t312 _ A51.out).mono ?_
       rintro e w' ⟨rfl, ⟨nd, rfl⟩⟩
       refine ⟨_, rfl, ?_⟩
       refine hK.out _ _ ⟨bC BK307 0, bC BK307 1, bC BK307 2, bC BK307 3, bC BK308 0, bC BK308 1, bC BK308 2, bC BK308 3⟩ (fun hHeld => ?_)
       clear hK K
       refine nB ?_
       refine oa 21 74 (mb 28 16777215) HT_ (fun K hK => ?_)
       refine gA Try.func153 #[.int .i64 a1_2] ?_
       with_reducible refine (impl_InPlace.calls a1_2 t313 _ A52.out).mono ?_
       rintro e w' ⟨rfl, ⟨nd, rfl⟩⟩
       refine ⟨_, rfl, ?_⟩
       refine hK.out _ _ ⟨bC BK307 0, bC BK307 1, bC BK307 2, bC BK307 3, bC BK308 0, bC BK308 1, bC BK308 2, bC BK308 3⟩ (fun hHeld => ?_)
       clear hK K
       refine nB ?_
       refine oa 24 77 (mb 28 33554431) HT_ (fun K hK => ?_)
       refine gA Try.func154 #[.int .i64 a1_3] ?_
       with_reducible refine (impl_OutPlace.calls a1_3 t314 _ A53.out).mono ?_
       rintro e w' ⟨rfl, ⟨nd, rfl⟩⟩
       refine ⟨_, rfl, ?_⟩
       refine hK.out _ _ ⟨bC BK307 0, bC BK307 1, bC BK307 2, bC BK307 3, bC BK308 0, bC BK308 1, bC BK308 2, bC BK308 3⟩ (fun hHeld => ?_)
       clear hK K
       refine nB ?_
       refine oa 25 78 (mb 28 67108863) HT_ (fun K hK => ?_)
       refine gA Try.func152 #[.int .i64 t311, .int .i64 t312, .int .i64 t313, .int .i64 t314] ?_
       with_reducible refine (impl_Interleave.calls kj2 t311 t312 t313 t314 t315 _ A54.out).mono ?_
       rintro e w59 ⟨rfl, hb⟩
       refine ⟨_, rfl, ?_⟩
       replace BK307 := Aside0.mk (blk_below (g := gb307) (bK BK307) hb)
       replace BK308 := Aside0.mk (blk_below (g := gb308) (bK BK308) hb)
       replace HB := Aside0.mk (below_step bG hb)
       (try clear hb)
       (try clear hb2)
       (try clear hk)
       (try clear hi)
       refine hK.out _ _ ⟨bC BK307 0, bC BK307 1, bC BK307 2, bC BK307 3, bC BK308 0, bC BK308 1, bC BK308 2, bC BK308 3⟩ (fun hHeld => ?_)
       clear hK K
       refine nB ?_
       refine pa 26 79 (mb 28 134217727) HT_ ?_
       refine pa 27 4 (mb 28 268435455) HT_ ?_
       refine eA HT_ ?_
       try go_wp2
       go_ret
       exact ⟨rA, bG⟩
      ·
       rw [if_neg c49] at H
       have c49b0 : (a0_2 == a1_2) = false := beq_eq_false_iff_ne.mpr c49
       have c49b1 : (a0_2 != a1_2) = true := bne_iff_ne.mpr c49
       by_cases c60 : a0_3 = a1_3
       ·
        rw [if_pos c60] at H
        have c60b0 : (a0_3 == a1_3) = true := beq_iff_eq.mpr c60
        have c60b1 : (a0_3 != a1_3) = false := bne_eq_false_iff_eq.mpr c60
        clear c60
        obtain rfl := Option.some.inj H
        have hnb61 := NB307_308.out
        have hnc61 := NB308_307.out
        obtain ⟨hcz62_0, hcz62_1, hcz62_2, hcz62_3, hfz62_0, hfz62_1, hfz62_2, hfz62_3⟩ := blkc4 BK307
        obtain ⟨hcz63_0, hcz63_1, hcz63_2, hcz63_3, hfz63_0, hfz63_1, hfz63_2, hfz63_3⟩ := blkc4 BK308
        try go_wp2
        replace BK307 := Aside0.mk (blk_drew BK307.out)
        replace BK308 := Aside0.mk (blk_drew BK308.out)
        have HBo := HB
        replace HB := Aside0.mk (below_drew1 HB.out)
        refine start_ (n := 28) (S := fun w' => w'.cell? ⟨gb307, 0, none⟩ = some (.int .i64 a0_0) ∧ w'.cell? ⟨gb307, 1, none⟩ = some (.int .i64 a0_1) ∧ w'.cell? ⟨gb307, 2, none⟩ = some (.int .i64 a0_2) ∧ w'.cell? ⟨gb307, 3, none⟩ = some (.int .i64 a0_3) ∧ w'.cell? ⟨gb308, 0, none⟩ = some (.int .i64 a1_0) ∧ w'.cell? ⟨gb308, 1, none⟩ = some (.int .i64 a1_1) ∧ w'.cell? ⟨gb308, 2, none⟩ = some (.int .i64 a1_2) ∧ w'.cell? ⟨gb308, 3, none⟩ = some (.int .i64 a1_3)) (ds := []) (mb 28 0) (by kernel_rfl) rfl rfl ⟨bC BK307 0, bC BK307 1, bC BK307 2, bC BK307 3, bC BK308 0, bC BK308 1, bC BK308 2, bC BK308 3⟩ (fun hHeld => ?_); refine with_tabW impl_Conflict.tab7 impl_Conflict.bits7 (fun HT_ HW_ => ?_)
        generalize wc.drew = w64 at BK307 BK308 HB hHeld ⊢
        refine pa 0 53 (mb 28 1) HT_ ?_
        refine pa 2 55 (mb 28 5) HT_ ?_
        refine ta8 1 54 (mb 28 7) HT_ HW_ hHeld ?_
        refine ta8 3 56 (mb 28 15) HT_ HW_ hHeld ?_
        refine pa 4 57 (mb 28 31) HT_ ?_
        refine pa 5 58 (mb 28 63) HT_ ?_
        refine pa 6 59 (mb 28 127) HT_ ?_
        refine pa 8 61 (mb 28 383) HT_ ?_
        refine ta8 7 60 (mb 28 511) HT_ HW_ hHeld ?_
        refine ta8 9 62 (mb 28 1023) HT_ HW_ hHeld ?_
        refine pa 10 63 (mb 28 2047) HT_ ?_
        refine pa 11 64 (mb 28 4095) HT_ ?_
        refine pa 12 65 (mb 28 8191) HT_ ?_
        refine pu 13 66 (mb 28 16383) HT_ ?_
        refine pu 14 67 (mb 28 32767) HT_ ?_
        refine pu 15 68 (mb 28 65535) HT_ ?_
        refine pu 16 69 (mb 28 131071) HT_ ?_
        refine pu 17 70 (mb 28 262143) HT_ ?_
        refine pu 18 71 (mb 28 524287) HT_ ?_
        refine pu 19 72 (mb 28 1048575) HT_ ?_
        refine pu 20 73 (mb 28 2097151) HT_ ?_
        refine pu 21 74 (mb 28 4194303) HT_ ?_
        refine pu 22 75 (mb 28 8388607) HT_ ?_
        refine pu 23 76 (mb 28 16777215) HT_ ?_
        refine pu 24 77 (mb 28 33554431) HT_ ?_
        refine pu 25 78 (mb 28 67108863) HT_ ?_
        refine pa 26 79 (mb 28 134217727) HT_ ?_
        refine pa 27 4 (mb 28 268435455) HT_ ?_
        refine eA HT_ ?_
        try go_wp2
        go_ret
        exact ⟨rA, bG⟩
       ·
        rw [if_neg c60] at H
        have c60b0 : (a0_3 == a1_3) = false := beq_eq_false_iff_ne.mpr c60
        have c60b1 : (a0_3 != a1_3) = true := bne_iff_ne.mpr c60
        obtain ⟨t316, A65, H⟩ := bindE H
        try dsimp only at H
        obtain ⟨t317, A66, H⟩ := bindE H
        try dsimp only at H
        obtain ⟨t318, A67, H⟩ := bindE H
        try dsimp only at H
        obtain ⟨t319, A68, H⟩ := bindE H
        try dsimp only at H
        obtain ⟨t320, A69, H⟩ := bindE H
        try dsimp only at H
        obtain rfl := Option.some.inj H
        have hnb70 := NB307_308.out
        have hnc70 := NB308_307.out
        obtain ⟨hcz71_0, hcz71_1, hcz71_2, hcz71_3, hfz71_0, hfz71_1, hfz71_2, hfz71_3⟩ := blkc4 BK307
        obtain ⟨hcz72_0, hcz72_1, hcz72_2, hcz72_3, hfz72_0, hfz72_1, hfz72_2, hfz72_3⟩ := blkc4 BK308
        try go_wp2
        replace BK307 := Aside0.mk (blk_drew BK307.out)
        replace BK308 := Aside0.mk (blk_drew BK308.out)
        have HBo := HB
        replace HB := Aside0.mk (below_drew1 HB.out)
        refine start_ (n := 28) (S := fun w' => w'.cell? ⟨gb307, 0, none⟩ = some (.int .i64 a0_0) ∧ w'.cell? ⟨gb307, 1, none⟩ = some (.int .i64 a0_1) ∧ w'.cell? ⟨gb307, 2, none⟩ = some (.int .i64 a0_2) ∧ w'.cell? ⟨gb307, 3, none⟩ = some (.int .i64 a0_3) ∧ w'.cell? ⟨gb308, 0, none⟩ = some (.int .i64 a1_0) ∧ w'.cell? ⟨gb308, 1, none⟩ = some (.int .i64 a1_1) ∧ w'.cell? ⟨gb308, 2, none⟩ = some (.int .i64 a1_2) ∧ w'.cell? ⟨gb308, 3, none⟩ = some (.int .i64 a1_3)) (ds := []) (mb 28 0) (by kernel_rfl) rfl rfl ⟨bC BK307 0, bC BK307 1, bC BK307 2, bC BK307 3, bC BK308 0, bC BK308 1, bC BK308 2, bC BK308 3⟩ (fun hHeld => ?_); refine with_tabW impl_Conflict.tab7 impl_Conflict.bits7 (fun HT_ HW_ => ?_)
        generalize wc.drew = w73 at BK307 BK308 HB hHeld ⊢
        refine pa 0 53 (mb 28 1) HT_ ?_
        refine pa 2 55 (mb 28 5) HT_ ?_
        refine ta8 1 54 (mb 28 7) HT_ HW_ hHeld ?_
        refine ta8 3 56 (mb 28 15) HT_ HW_ hHeld ?_
        refine pa 4 57 (mb 28 31) HT_ ?_
        refine pa 5 58 (mb 28 63) HT_ ?_
        refine pa 6 59 (mb 28 127) HT_ ?_
        refine pa 8 61 (mb 28 383) HT_ ?_
        refine ta8 7 60 (mb 28 511) HT_ HW_ hHeld ?_
        refine ta8 9 62 (mb 28 1023) HT_ HW_ hHeld ?_
        refine pa 10 63 (mb 28 2047) HT_ ?_
        refine pa 11 64 (mb 28 4095) HT_ ?_
        refine pa 12 65 (mb 28 8191) HT_ ?_
        refine pa 13 66 (mb 28 16383) HT_ ?_
        refine pa 16 69 (mb 28 81919) HT_ ?_
        refine pa 19 72 (mb 28 606207) HT_ ?_
        refine pa 22 75 (mb 28 4800511) HT_ ?_
        refine ta8 14 67 (mb 28 4816895) HT_ HW_ hHeld ?_
        refine ta8 17 70 (mb 28 4947967) HT_ HW_ hHeld ?_
        refine ta8 20 73 (mb 28 5996543) HT_ HW_ hHeld ?_
        refine ta8 23 76 (mb 28 14385151) HT_ HW_ hHeld ?_
        refine oa 15 68 (mb 28 14417919) HT_ (fun K hK => ?_)
        refine gA Try.func153 #[.int .i64 a0_2] ?_
        with_reducible refine (impl_InPlace.calls a0_2 t316 _ A65.out).mono ?_
        rintro e w' ⟨rfl, ⟨nd, rfl⟩⟩
        refine ⟨_, rfl, ?_⟩
        refine hK.out _ _ ⟨bC BK307 0, bC BK307 1, bC BK307 2, bC BK307 3, bC BK308 0, bC BK308 1, bC BK308 2, bC BK308 3⟩ (fun hHeld => ?_)
        clear hK K
        refine nB ?_
        refine oa 18 71 (mb 28 14680063) HT_ (fun K hK => ?_)
        refine gA Try.func154 #[.int .i64 a0_3] ?_
        with_reducible refine (impl_OutPlace.calls a0_3 t317 _ A66.out).mono ?_
        rintro e w' ⟨rfl, ⟨nd, rfl⟩⟩
        refine ⟨_, rfl, ?_⟩
        refine hK.out _ _ ⟨bC BK307 0, bC BK307 1, bC BK307 2, bC BK307 3, bC BK308 0, bC BK308 1, bC BK308 2, bC BK308 3⟩ (fun hHeld => ?_)
        clear hK K
        refine nB ?_
        refine oa 21 74 (mb 28 16777215) HT_ (fun K hK => ?_)
        refine gA Try.func153 #[.int .i64 a1_2] ?_
        with_reducible refine (impl_InPlace.calls a1_2 t318 _ A67.out).mono ?_
        rintro e w' ⟨rfl, ⟨nd, rfl⟩⟩
        refine ⟨_, rfl, ?_⟩
        refine hK.out _ _ ⟨bC BK307 0, bC BK307 1, bC BK307 2, bC BK307 3, bC BK308 0, bC BK308 1, bC BK308 2, bC BK308 3⟩ (fun hHeld => ?_)
        clear hK K
        refine nB ?_
        refine oa 24 77 (mb 28 33554431) HT_ (fun K hK => ?_)
        refine gA Try.func154 #[.int .i64 a1_3] ?_
        with_reducible refine (impl_OutPlace.calls a1_3 t319 _ A68.out).mono ?_
        rintro e w' ⟨rfl, ⟨nd, rfl⟩⟩
        refine ⟨_, rfl, ?_⟩
        refine hK.out _ _ ⟨bC BK307 0, bC BK307 1, bC BK307 2, bC BK307 3, bC BK308 0, bC BK308 1, bC BK308 2, bC BK308 3⟩ (fun hHeld => ?_)
        clear hK K
        refine nB ?_
        refine oa 25 78 (mb 28 67108863) HT_ (fun K hK => ?_)
        refine gA Try.func152 #[.int .i64 t316, .int .i64 t317, .int .i64 t318, .int .i64 t319] ?_
        with_reducible refine (impl_Interleave.calls kj2 t316 t317 t318 t319 t320 _ A69.out).mono ?_
        rintro e w74 ⟨rfl, hb⟩
        refine ⟨_, rfl, ?_⟩
        replace BK307 := Aside0.mk (blk_below (g := gb307) (bK BK307) hb)
        replace BK308 := Aside0.mk (blk_below (g := gb308) (bK BK308) hb)
        replace HB := Aside0.mk (below_step bG hb)
        (try clear hb)
        (try clear hb2)
        (try clear hk)
        (try clear hi)
        refine hK.out _ _ ⟨bC BK307 0, bC BK307 1, bC BK307 2, bC BK307 3, bC BK308 0, bC BK308 1, bC BK308 2, bC BK308 3⟩ (fun hHeld => ?_)
        clear hK K
        refine nB ?_
        refine pa 26 79 (mb 28 134217727) HT_ ?_
        refine pa 27 4 (mb 28 268435455) HT_ ?_
        refine eA HT_ ?_
        try go_wp2
        go_ret
        exact ⟨rA, bG⟩

/-! ### impl_IsTogether: function 87 -/
mutual
def impl_IsTogether.l0 : Nat → List (S89) → List Int → List Int → Int → Int → Option (Bool)
 | 0, _, _, _, _, _ => none
 | k + 1, x0, x1, x13, x14, x15 => if x15 < x14 then (if 0 ≤ x15 then (if x15 < (x13.length : Int) then ((impl_FindPath.f x0 (rd x13 x15)).bind fun t323 => (if t323 < 0 then (impl_IsTogether.j1 k x0 x1 x15 t323 x13 x14 x15 true) else (if x15 > 0 then (if 0 ≤ (wrap64 (x15 - 1)) then (if (wrap64 (x15 - 1)) < (x1.length : Int) then (impl_IsTogether.j1 k x0 x1 x15 t323 x13 x14 x15 (decide ((rd x13 x15) ≤ (rd x1 (wrap64 (x15 - 1)))))) else (none)) else (none)) else (impl_IsTogether.j1 k x0 x1 x15 t323 x13 x14 x15 false)))) else (none)) else (none)) else (some true)
def impl_IsTogether.j1 : Nat → List (S89) → List Int → Int → Int → List Int → Int → Int → Bool → Option (Bool)
 | 0, _, _, _, _, _, _, _, _ => none
 | k + 1, x0, x1, x5, x7, x13, x14, x15, x37 => if x37 = true then (some false) else (if 0 ≤ x5 then (if x5 ≤ (x1.length : Int) then (impl_IsTogether.l1 k x0 x1 x7 x13 x14 x15 (x1.take (x5 : Int).toNat) ((x1.take (x5 : Int).toNat).length : Int) 0) else (none)) else (none))
def impl_IsTogether.l1 : Nat → List (S89) → List Int → Int → List Int → Int → Int → List Int → Int → Int → Option (Bool)
 | 0, _, _, _, _, _, _, _, _, _ => none
 | k + 1, x0, x1, x7, x13, x14, x15, x40, x41, x42 => if x42 < x41 then (if 0 ≤ x42 then (if x42 < (x40.length : Int) then (if 0 ≤ x7 then (if x7 < (x0.length : Int) then ((impl_FindPath.f x0 (rd x40 x42)).bind fun t328 => (if 0 ≤ t328 then (if t328 < (x0.length : Int) then ((impl_Conflict.f k ((rd_T89 x0 x7).f0) ((rd_T89 x0 x7).f1) ((rd_T89 x0 x7).f2) ((rd_T89 x0 x7).f3) ((rd_T89 x0 t328).f0) ((rd_T89 x0 t328).f1) ((rd_T89 x0 t328).f2) ((rd_T89 x0 t328).f3)).bind fun t330 => (if t330 = true then (some false) else (impl_IsTogether.l1 k x0 x1 x7 x13 x14 x15 x40 x41 (wrap64 (x42 + 1))))) else (none)) else (none))) else (none)) else (none)) else (none)) else (none)) else (impl_IsTogether.l0 k x0 x1 x13 x14 (wrap64 (x15 + 1)))
end
def impl_IsTogether.f (k : Nat) (l0 : List (S89)) (l1 : List Int) : Option (Bool) := (impl_ArePaths.f k l0).bind fun t321 => (if t321 = true then (impl_IsTogether.l0 k l0 l1 l1 (l1.length : Int) 0) else (some false))
theorem impl_IsTogether.mono_l : ∀ k, (∀ y0 y1 y2 y3 y4, LeO (impl_IsTogether.l0 k y0 y1 y2 y3 y4) (impl_IsTogether.l0 (k + 1) y0 y1 y2 y3 y4)) ∧ (∀ y0 y1 y2 y3 y4 y5 y6 y7, LeO (impl_IsTogether.j1 k y0 y1 y2 y3 y4 y5 y6 y7) (impl_IsTogether.j1 (k + 1) y0 y1 y2 y3 y4 y5 y6 y7)) ∧ (∀ y0 y1 y2 y3 y4 y5 y6 y7 y8, LeO (impl_IsTogether.l1 k y0 y1 y2 y3 y4 y5 y6 y7 y8) (impl_IsTogether.l1 (k + 1) y0 y1 y2 y3 y4 y5 y6 y7 y8))
 | 0 => ⟨fun _ _ _ _ _ r h => by simp [impl_IsTogether.l0] at h, fun _ _ _ _ _ _ _ _ r h => by simp [impl_IsTogether.j1] at h, fun _ _ _ _ _ _ _ _ _ r h => by simp [impl_IsTogether.l1] at h⟩
 | k + 1 => by
  obtain ⟨ih0, ih1, ih2⟩ := impl_IsTogether.mono_l k
  refine ⟨?_, ?_, ?_⟩
  ·
   intro y0 y1 y2 y3 y4
   unfold impl_IsTogether.l0
   repeat' first | (with_reducible first | exact LeO.refl _ | exact LeO.none _ | refine LeO.ite ?_ ?_ | refine LeO.bind ?_ (fun _ => ?_) | exact ih0 _ _ _ _ _ | exact ih1 _ _ _ _ _ _ _ _ | exact ih2 _ _ _ _ _ _ _ _ _ | exact impl_ArePaths.mono _ _ | exact impl_Conflict.mono _ _ _ _ _ _ _ _ _)
  ·
   intro y0 y1 y2 y3 y4 y5 y6 y7
   unfold impl_IsTogether.j1
   repeat' first | (with_reducible first | exact LeO.refl _ | exact LeO.none _ | refine LeO.ite ?_ ?_ | refine LeO.bind ?_ (fun _ => ?_) | exact ih0 _ _ _ _ _ | exact ih1 _ _ _ _ _ _ _ _ | exact ih2 _ _ _ _ _ _ _ _ _ | exact impl_ArePaths.mono _ _ | exact impl_Conflict.mono _ _ _ _ _ _ _ _ _)
  ·
   intro y0 y1 y2 y3 y4 y5 y6 y7 y8
   unfold impl_IsTogether.l1
   repeat' first | (with_reducible first | exact LeO.refl _ | exact LeO.none _ | refine LeO.ite ?_ ?_ | refine LeO.bind ?_ (fun _ => ?_) | exact ih0 _ _ _ _ _ | exact ih1 _ _ _ _ _ _ _ _ | exact ih2 _ _ _ _ _ _ _ _ _ | exact impl_ArePaths.mono _ _ | exact impl_Conflict.mono _ _ _ _ _ _ _ _ _)
theorem impl_IsTogether.mono : ∀ a0 a1 k, LeO (impl_IsTogether.f k a0 a1) (impl_IsTogether.f (k + 1) a0 a1) := by
 intro a0 a1 k
 obtain ⟨ih0, ih1, ih2⟩ := impl_IsTogether.mono_l k
 unfold impl_IsTogether.f
 repeat' first | (with_reducible first | exact LeO.refl _ | exact LeO.none _ | refine LeO.ite ?_ ?_ | refine LeO.bind ?_ (fun _ => ?_) | exact ih0 _ _ _ _ _ | exact ih1 _ _ _ _ _ _ _ _ | exact ih2 _ _ _ _ _ _ _ _ _ | exact impl_ArePaths.mono _ _ | exact impl_Conflict.mono _ _ _ _ _ _ _ _ _)
def impl_IsTogether.T12 : Bool × List (List Nat × List Nat) := (true, [([], []), ([], []), ([0, 1], [0, 1]), ([2], [2]), ([], []), ([], []), ([], []), ([5, 6], [5, 6]), ([4, 7], [4, 7]), ([8], [8]), ([3, 9, 7], [3, 9])])
def impl_IsTogether.B12 : List Nat := [0, 0, 3, 7, 0, 0, 0, 96, 240, 496, 1023]
theorem impl_IsTogether.tab12 : rtab .any (opsOf Try.f87 12) = impl_IsTogether.T12 := by kernel_rfl
theorem impl_IsTogether.bits12 : waitsOk impl_IsTogether.T12.2 impl_IsTogether.B12 = true := by kernel_rfl
set_option maxHeartbeats 8000000 in
set_option maxRecDepth 100000 in
theorem impl_IsTogether.calls (k : Nat) (A0 : Option Addr) (c0 : Nat) (l0 : List (S89)) (A1 : Option Addr) (c1 : Nat) (l1 : List Int) (r : Bool) (w : World) (hr0 : Kd.C k89 w A0 l0.length l0) (hc0 : l0.length ≤ c0) (hr1 : Kd.C (Kd.int .i64) w A1 l1.length l1) (hc1 : l1.length ≤ c1) (h : impl_IsTogether.f k l0 l1 = some r) :
  Calls Try.prog 87 #[.slice A0 l0.length c0, .slice A1 l1.length c1] w fun e w' => e = .returned (.bool r) ∧ Below w.heap.size w w' := by
 have hu89 := Try.underlying89
 have HR0 := Aside0.mk hr0
 have HC0 := Aside0.mk hc0
 clear hr0 hc0
 have HR1 := Aside0.mk hr1
 have HC1 := Aside0.mk hc1
 clear hr1 hc1
 have HB := Aside0.mk (Below.refl w.heap.size w)
 have H : ((impl_ArePaths.f k l0).bind fun t321 => (if t321 = true then (impl_IsTogether.l0 k l0 l1 l1 (l1.length : Int) 0) else (some false))) = some r := h
 clear h
 obtain ⟨t321, A3, H⟩ := bindE H
 try dsimp only at H
 by_cases c4 : t321 = true
 ·
  subst c4
  have H1 : (impl_IsTogether.l0 k l0 l1 l1 (l1.length : Int) 0) = some r := by rw [if_pos rfl] at H; exact H
  clear H
  have H := H1
  clear H1
  have H' := Aside0.mk H
  clear H
  go_enter Try.func87, Try.ntmps87
  go_wp2_with (first | ((with_reducible refine gate_callee (f := 126) rfl ?_); refine gL (some 11) Try.func126 #[.slice A0 l0.length c0] ?_; (with_reducible refine (impl_ArePaths.calls k _ _ l0 true _ ?side1 ?side2 A3.out).mono ?_); (case side1 => exact cO HR0); (case side2 => exact HC0.out); rintro e w5 ⟨rfl, hb⟩; refine ⟨_, rfl, ?_⟩; replace HB := Aside0.mk (below_step bA hb); (try clear hb)))
  go_loopg [15] k (fun kq v15 w' => ∃ (x15_1 : Int), v15 = .int .i64 x15_1 ∧ Aside0 (impl_IsTogether.l0 kq l0 l1 l1 (l1.length : Int) x15_1 = some r) ∧ Aside0 (kq ≤ k) ∧ Aside0 (Below w.heap.size w w'))
  case atStart => exact ⟨(0), rS, H', ⟨Nat.le_refl _⟩, ⟨bA⟩⟩
  case round =>
   clear H'
   try clear c1
   try clear p2
   try clear c4
   obtain ⟨x15_1, rfl, HA, HK1, HB⟩ := hrel
   cases gk with
   | zero => exact absurd HA.out (by simp [impl_IsTogether.l0])
   | succ k1 =>
    have H := HA.out
    clear HA
    simp only [impl_IsTogether.l0] at H
    by_cases c6 : x15_1 < (l1.length : Int)
    ·
     rw [if_pos c6] at H
     have c6b0 := decide_eq_true c6
     clear c6
     have c7 : 0 ≤ x15_1 := ifN H
     replace H := ifT H
     have c7b0 := decide_eq_true c7
     clear c7
     have c8 : x15_1 < (l1.length : Int) := ifN H
     replace H := ifT H
     have c8b0 := decide_eq_true c8
     clear c8
     obtain ⟨t323, A9, H⟩ := bindE H
     try dsimp only at H
     have HC10 := Aside0.mk H
     clear H
     have p322 : 0 ≤ (x15_1 : Int) := dA
     have q322 : x15_1 < (l1.length : Int) := dA
     obtain ⟨ad322, e322, hx322_0⟩ := Kd.at_int HR1.out x15_1 p322 q322
     cases e322
     replace hx322_0 := hC HB hx322_0
     replace p322 := eq_true p322
     replace q322 := eq_true q322
     go_upto_region 7 with (first | ((with_reducible refine gate_callee (f := 119) rfl ?_); refine gL (some 22) Try.func119 #[.slice A0 l0.length c0, .int .i64 (rd l1 x15_1)] ?_; (with_reducible refine (impl_FindPath.calls _ _ l0 (rd l1 x15_1) t323 _ ?side1 ?side2 A9.out).mono ?_); (case side1 => exact cB HR0); (case side2 => exact HC0.out); rintro e w11 ⟨rfl, hb⟩; refine ⟨_, rfl, ?_⟩; replace HB := Aside0.mk (below_step bA hb); (try clear hb)))
     (try simp only [Act.put, List.setIfInBounds_toArray, List.set_cons_zero, List.set_cons_succ])
     go_cut [37] (fun v37 wc => ∃ (kq : Nat) (x37_9 : Bool), v37 = .bool x37_9 ∧ Aside0 (impl_IsTogether.j1 kq l0 l1 x15_1 t323 l1 (l1.length : Int) x15_1 x37_9 = some r) ∧ Aside0 (kq ≤ k1) ∧ Aside0 (Below w.heap.size w wc))
     case first =>
      have H := HC10.out
      clear HC10
      by_cases c12 : t323 < 0
      ·
       rw [if_pos c12] at H
       have c12b0 := decide_eq_true c12
       clear c12
       (first | rw [c12b0] | (simp only [i64_w, i32_w]; rw [c12b0]) | skip)
       have H' := Aside0.mk H
       clear H
       go_wp2
       go_meet
       case rel => exact ⟨_, (true), rS, H', ⟨by have := HK1.out; first | omega | exact Nat.le_refl _⟩, ⟨bA⟩⟩
      ·
       rw [if_neg c12] at H
       have c12b0 := decide_eq_false c12
       clear c12
       (first | rw [c12b0] | (simp only [i64_w, i32_w]; rw [c12b0]) | skip)
       by_cases c13 : x15_1 > 0
       ·
        rw [if_pos c13] at H
        have c13b0 := decide_eq_true c13
        clear c13
        obtain ⟨ji14, hji14⟩ : ∃ j_ : Int, (wrap64 (x15_1 - 1)) = j_ := ⟨_, rfl⟩
        replace H : (if 0 ≤ (ji14) then (if (ji14) < (l1.length : Int) then (impl_IsTogether.j1 k1 l0 l1 x15_1 t323 l1 (l1.length : Int) x15_1 (decide ((rd l1 x15_1) ≤ (rd l1 (ji14))))) else (none)) else (none)) = some r := by first | (rw [hji14] at H; exact H) | (simp only [hji14] at H ⊢; exact H)
        have hji14w : (IntKind.i64.wrap (x15_1 - 1)) = ji14 := (i64_w _).trans hji14
        have c15 : 0 ≤ (ji14) := ifN H
        replace H := ifT H
        have c15b0 := decide_eq_true c15
        clear c15
        have c16 : (ji14) < (l1.length : Int) := ifN H
        replace H := ifT H
        have c16b0 := decide_eq_true c16
        clear c16
        have H' := Aside0.mk H
        clear H
        have p324 : 0 ≤ ((ji14) : Int) := dA
        have q324 : (ji14) < (l1.length : Int) := dA
        obtain ⟨ad324, e324, hx324_0⟩ := Kd.at_int HR1.out (ji14) p324 q324
        obtain rfl : ad322 = ad324 := (by injection e324)
        replace hx324_0 := hC HB hx324_0
        replace p324 := eq_true p324
        replace q324 := eq_true q324
        go_wp2
        go_meet
        case rel => exact ⟨_, (decide ((rd l1 x15_1) ≤ (rd l1 (ji14)))), (by first | rfl | (simp; done) | (simp only [← hji14] <;> (first | rfl | simp)) | (simp [*]; done)), H', ⟨by have := HK1.out; first | omega | exact Nat.le_refl _⟩, ⟨bA⟩⟩
       ·
        rw [if_neg c13] at H
        have c13b0 := decide_eq_false c13
        clear c13
        have H' := Aside0.mk H
        clear H
        go_wp2
        go_meet
        case rel => exact ⟨_, (false), rS, H', ⟨by have := HK1.out; first | omega | exact Nat.le_refl _⟩, ⟨bA⟩⟩
     case rest =>
      clear HC10
      try clear c1
      try clear p2
      try clear p3
      try clear q3
      try clear hx3
      try clear c4
      try clear c6
      try clear c6b0
      try clear p6
      try clear c7
      try clear c7b0
      try clear c8
      try clear c8b0
      try clear c11
      try clear c12
      try clear c12b0
      try clear c13
      try clear c13b0
      try clear c15
      try clear c15b0
      try clear c16
      try clear c16b0
      try clear hx322_0
      try clear hx324_0
      try clear p2
      try clear p322
      try clear p324
      try clear q322
      try clear q324
      obtain ⟨kq, x37_9, rfl, HA, HJ9, HB⟩ := hcut
      cases kq with
      | zero => exact absurd HA.out (by simp [impl_IsTogether.j1])
      | succ kj9 =>
       have H := HA.out
       clear HA
       simp only [impl_IsTogether.j1] at H
       by_cases c17 : x37_9 = true
       ·
        subst c17
        have H1 : (some false) = some r := by rw [if_pos rfl] at H; exact H
        clear H
        have H := H1
        clear H1
        obtain rfl := Option.some.inj H
        go_wp2
        go_ret
        exact ⟨rA, bA⟩
       ·
        replace c17 := Bool.eq_false_iff.mpr c17
        subst c17
        have H1 : (if 0 ≤ x15_1 then (if x15_1 ≤ (l1.length : Int) then (impl_IsTogether.l1 kj9 l0 l1 t323 l1 (l1.length : Int) x15_1 (l1.take (x15_1 : Int).toNat) ((l1.take (x15_1 : Int).toNat).length : Int) 0) else (none)) else (none)) = some r := by rw [if_neg (show ¬ (false = true) by decide)] at H; exact H
        clear H
        have H := H1
        clear H1
        have c18 : 0 ≤ x15_1 := ifN H
        replace H := ifT H
        have c18b0 := eq_true c18
        have c18b1 := decide_eq_true c18
        clear c18
        have c19 : x15_1 ≤ (l1.length : Int) := ifN H
        replace H := ifT H
        have c19b0 := eq_true c19
        have c19b1 := decide_eq_true c19
        clear c19
        have H' := Aside0.mk H
        clear H
        obtain ⟨i020, hi020, _, hsz20, _⟩ := info_parts info3
        obtain ⟨hcut20, hA20, hC20⟩ := print_take_of (P := Try.prog) (Value.int .i64) 0 41 3 .i64 Try.underlying41 hi020 hsz20 (some ad322) c1 l1 x15_1 (dA) (dA) HC1.out
        have HR325 := Aside0.mk (Kd.C_of_reads (h1 := fun _ => rfl) (hA20 _ (Kd.reads_of_C HR1.out)))
        have HC325 := Aside0.mk hC20
        clear hA20 hC20 hi020 hsz20
        have HL325 := Aside0.mk (show (x15_1 : Int) ≤ (l1.length : Int) from (dA))
        go_wp2
        go_loopg [42] kj9 (fun kq v42 w' => ∃ (x42_3 : Int), v42 = .int .i64 x42_3 ∧ Aside0 (impl_IsTogether.l1 kq l0 l1 t323 l1 (l1.length : Int) x15_1 (l1.take (x15_1 : Int).toNat) ((l1.take (x15_1 : Int).toNat).length : Int) x42_3 = some r) ∧ Aside0 (kq ≤ kj9) ∧ Aside0 (Below w.heap.size w w'))
        case atStart => exact ⟨(0), rS, H', ⟨Nat.le_refl _⟩, ⟨bA⟩⟩
        case round =>
         clear H'
         try clear c1
         try clear p2
         try clear p3
         try clear q3
         try clear hx3
         try clear c4
         try clear c6
         try clear c6b0
         try clear p6
         try clear c7
         try clear c7b0
         try clear c8
         try clear c8b0
         try clear c11
         try clear c12
         try clear c12b0
         try clear c13
         try clear c13b0
         try clear c15
         try clear c15b0
         try clear c16
         try clear c16b0
         try clear c17
         try clear c18
         try clear c18b0
         try clear c18b1
         try clear c19
         try clear c19b0
         try clear c19b1
         try clear hx322_0
         try clear hx324_0
         try clear p2
         try clear p3
         try clear p322
         try clear p324
         try clear p6
         try clear q3
         try clear q322
         try clear q324
         obtain ⟨x42_3, rfl, HA, HK3, HB⟩ := hrel
         cases gk with
         | zero => exact absurd HA.out (by simp [impl_IsTogether.l1])
         | succ k3 =>
          have H := HA.out
          clear HA
          simp only [impl_IsTogether.l1] at H
          by_cases c21 : x42_3 < ((l1.take (x15_1 : Int).toNat).length : Int)
          ·
           rw [if_pos c21] at H
           have c21b0 := decide_eq_true c21
           (try (have c21b1 : decide (x42_3 < max x15_1 0) = true := decide_eq_true (by rw [List.length_take] at c21; omega)))
           clear c21
           have c22 : 0 ≤ x42_3 := ifN H
           replace H := ifT H
           have c22b0 := decide_eq_true c22
           clear c22
           have c23 : x42_3 < ((l1.take (x15_1 : Int).toNat).length : Int) := ifN H
           replace H := ifT H
           have c23b0 := decide_eq_true c23
           (try (have c23b1 : decide (x42_3 < max x15_1 0) = true := decide_eq_true (by rw [List.length_take] at c23; omega)))
           clear c23
           have c24 : 0 ≤ t323 := ifN H
           replace H := ifT H
           have c24b0 := decide_eq_true c24
           clear c24
           have c25 : t323 < (l0.length : Int) := ifN H
           replace H := ifT H
           have c25b0 := decide_eq_true c25
           clear c25
           obtain ⟨t328, A26, H⟩ := bindE H
           try dsimp only at H
           have c27 : 0 ≤ t328 := ifN H
           replace H := ifT H
           have c27b0 := decide_eq_true c27
           clear c27
           have c28 : t328 < (l0.length : Int) := ifN H
           replace H := ifT H
           have c28b0 := decide_eq_true c28
           clear c28
           obtain ⟨t330, A29, H⟩ := bindE H
           try dsimp only at H
           by_cases c30 : t330 = true
           ·
            subst c30
            have H1 : (some false) = some r := by rw [if_pos rfl] at H; exact H
            clear H
            have H := H1
            clear H1
            obtain rfl := Option.some.inj H
            have p326 : 0 ≤ (x42_3 : Int) := dA
            have q326 : x42_3 < ((l1.take (x15_1 : Int).toNat).length : Int) := dA
            (try have q326m : (x42_3 < max x15_1 0) = True := eq_true (of_decide_eq_true (by assumption)))
            obtain ⟨ad326, e326, hx326_0⟩ := Kd.at_int HR325.out x42_3 p326 q326
            obtain rfl : ad322 = ad326 := (by injection e326)
            replace hx326_0 := hC HB hx326_0
            replace p326 := eq_true p326
            replace q326 := eq_true q326
            try go_wp2
            have HBo := HB
            replace HB := Aside0.mk (below_drew1 HB.out)
            have p327 : 0 ≤ (t323 : Int) := dA
            have q327 : t323 < (l0.length : Int) := dA
            obtain ⟨ad327, e327, hx327_0, hx327_1, hx327_2, hx327_3⟩ := at_T89 HR0.out t323 p327 q327
            have hw327_3 := hx327_3
            have hw327_2 := hx327_2
            have hw327_1 := hx327_1
            have hw327_0 := hx327_0
            cases e327
            replace hx327_0 := hC HB hx327_0
            replace hx327_1 := hC HB hx327_1
            replace hx327_2 := hC HB hx327_2
            replace hx327_3 := hC HB hx327_3
            replace p327 := eq_true p327
            replace q327 := eq_true q327
            have p329 : 0 ≤ (t328 : Int) := dA
            have q329 : t328 < (l0.length : Int) := dA
            obtain ⟨ad329, e329, hx329_0, hx329_1, hx329_2, hx329_3⟩ := at_T89 HR0.out t328 p329 q329
            have hw329_3 := hx329_3
            have hw329_2 := hx329_2
            have hw329_1 := hx329_1
            have hw329_0 := hx329_0
            obtain rfl : ad327 = ad329 := (by injection e329)
            replace hx329_0 := hC HB hx329_0
            replace hx329_1 := hC HB hx329_1
            replace hx329_2 := hC HB hx329_2
            replace hx329_3 := hC HB hx329_3
            replace p329 := eq_true p329
            replace q329 := eq_true q329
            refine start_ (n := 11) (S := fun w' => w'.cell? (ad327.add ((t323).toNat * 4)) = some (.int .i64 ((rd_T89 l0 t323).f0)) ∧ w'.cell? ⟨(ad327.add ((t323).toNat * 4)).block, (ad327.add ((t323).toNat * 4)).off + 1, none⟩ = some (.int .i64 ((rd_T89 l0 t323).f1)) ∧ w'.cell? ⟨(ad327.add ((t323).toNat * 4)).block, (ad327.add ((t323).toNat * 4)).off + 2, none⟩ = some (.int .i64 ((rd_T89 l0 t323).f2)) ∧ w'.cell? ⟨(ad327.add ((t323).toNat * 4)).block, (ad327.add ((t323).toNat * 4)).off + 3, none⟩ = some (.int .i64 ((rd_T89 l0 t323).f3)) ∧ w'.cell? (ad327.add ((t328).toNat * 4)) = some (.int .i64 ((rd_T89 l0 t328).f0)) ∧ w'.cell? ⟨(ad327.add ((t328).toNat * 4)).block, (ad327.add ((t328).toNat * 4)).off + 1, none⟩ = some (.int .i64 ((rd_T89 l0 t328).f1)) ∧ w'.cell? ⟨(ad327.add ((t328).toNat * 4)).block, (ad327.add ((t328).toNat * 4)).off + 2, none⟩ = some (.int .i64 ((rd_T89 l0 t328).f2)) ∧ w'.cell? ⟨(ad327.add ((t328).toNat * 4)).block, (ad327.add ((t328).toNat * 4)).off + 3, none⟩ = some (.int .i64 ((rd_T89 l0 t328).f3))) (ds := []) (mb 11 0) (by kernel_rfl) rfl rfl ⟨(hC HB hw327_0), (hC HB hw327_1), (hC HB hw327_2), (hC HB hw327_3), (hC HB hw329_0), (hC HB hw329_1), (hC HB hw329_2), (hC HB hw329_3)⟩ (fun hHeld => ?_); refine with_tabW impl_IsTogether.tab12 impl_IsTogether.bits12 (fun HT_ HW_ => ?_)
            generalize wr.drew = w31 at HB hx327_0 hx327_1 hx327_2 hx327_3 hx329_0 hx329_1 hx329_2 hx329_3 hHeld ⊢
            refine pa 0 46 (mb 11 1) HT_ ?_
            refine pa 1 47 (mb 11 3) HT_ ?_
            refine pa 2 48 (mb 11 7) HT_ ?_
            refine pa 4 50 (mb 11 23) HT_ ?_
            refine pa 5 51 (mb 11 55) HT_ ?_
            refine pa 6 52 (mb 11 119) HT_ ?_
            refine ta8 3 49 (mb 11 127) HT_ HW_ hHeld ?_
            refine oa 7 53 (mb 11 255) HT_ (fun K hK => ?_)
            refine gA Try.func119 #[.slice (some ad327) l0.length c0, .int .i64 (rd (l1.take (x15_1 : Int).toNat) x42_3)] ?_
            with_reducible refine (impl_FindPath.calls _ _ l0 (rd (l1.take (x15_1 : Int).toNat) x42_3) t328 _ ?side1 ?side2 A26.out).mono ?_
            (case side1 => exact cB HR0)
            (case side2 => exact HC0.out)
            rintro e w32 ⟨rfl, hb⟩
            refine ⟨_, rfl, ?_⟩
            replace HB := Aside0.mk (below_step bA hb)
            (try clear hb)
            (try clear hb2)
            (try clear hk)
            (try clear hi)
            refine hK.out _ _ ⟨(hC HB hw327_0), (hC HB hw327_1), (hC HB hw327_2), (hC HB hw327_3), (hC HB hw329_0), (hC HB hw329_1), (hC HB hw329_2), (hC HB hw329_3)⟩ (fun hHeld => ?_)
            clear hK K
            refine nB ?_
            refine pa 8 54 (mb 11 511) HT_ ?_
            refine ta8 9 55 (mb 11 1023) HT_ HW_ hHeld ?_
            refine oa 10 56 (mb 11 2047) HT_ (fun K hK => ?_)
            refine gA Try.func133 #[.agg #[.int .i64 ((rd_T89 l0 t323).f0), .int .i64 ((rd_T89 l0 t323).f1), .int .i64 ((rd_T89 l0 t323).f2), .int .i64 ((rd_T89 l0 t323).f3)], .agg #[.int .i64 ((rd_T89 l0 t328).f0), .int .i64 ((rd_T89 l0 t328).f1), .int .i64 ((rd_T89 l0 t328).f2), .int .i64 ((rd_T89 l0 t328).f3)]] ?_
            with_reducible refine (impl_Conflict.calls k3 ((rd_T89 l0 t323).f0) ((rd_T89 l0 t323).f1) ((rd_T89 l0 t323).f2) ((rd_T89 l0 t323).f3) ((rd_T89 l0 t328).f0) ((rd_T89 l0 t328).f1) ((rd_T89 l0 t328).f2) ((rd_T89 l0 t328).f3) true _ A29.out).mono ?_
            rintro e w33 ⟨rfl, hb⟩
            refine ⟨_, rfl, ?_⟩
            replace HB := Aside0.mk (below_step bA hb)
            (try clear hb)
            (try clear hb2)
            (try clear hk)
            (try clear hi)
            refine hK.out _ _ ⟨(hC HB hw327_0), (hC HB hw327_1), (hC HB hw327_2), (hC HB hw327_3), (hC HB hw329_0), (hC HB hw329_1), (hC HB hw329_2), (hC HB hw329_3)⟩ (fun hHeld => ?_)
            clear hK K
            refine nB ?_
            refine eA HT_ ?_
            try go_wp2
            go_ret
            exact ⟨rA, bA⟩
           ·
            replace c30 := Bool.eq_false_iff.mpr c30
            subst c30
            have H1 : (impl_IsTogether.l1 k3 l0 l1 t323 l1 (l1.length : Int) x15_1 (l1.take (x15_1 : Int).toNat) ((l1.take (x15_1 : Int).toNat).length : Int) (wrap64 (x42_3 + 1))) = some r := by rw [if_neg (show ¬ (false = true) by decide)] at H; exact H
            clear H
            have H := H1
            clear H1
            have H' := Aside0.mk H
            clear H
            have p326 : 0 ≤ (x42_3 : Int) := dA
            have q326 : x42_3 < ((l1.take (x15_1 : Int).toNat).length : Int) := dA
            (try have q326m : (x42_3 < max x15_1 0) = True := eq_true (of_decide_eq_true (by assumption)))
            obtain ⟨ad326, e326, hx326_0⟩ := Kd.at_int HR325.out x42_3 p326 q326
            obtain rfl : ad322 = ad326 := (by injection e326)
            replace hx326_0 := hC HB hx326_0
            replace p326 := eq_true p326
            replace q326 := eq_true q326
            try go_wp2
            have HBo := HB
            replace HB := Aside0.mk (below_drew1 HB.out)
            have p327 : 0 ≤ (t323 : Int) := dA
            have q327 : t323 < (l0.length : Int) := dA
            obtain ⟨ad327, e327, hx327_0, hx327_1, hx327_2, hx327_3⟩ := at_T89 HR0.out t323 p327 q327
            have hw327_3 := hx327_3
            have hw327_2 := hx327_2
            have hw327_1 := hx327_1
            have hw327_0 := hx327_0
            cases e327
            replace hx327_0 := hC HB hx327_0
            replace hx327_1 := hC HB hx327_1
            replace hx327_2 := hC HB hx327_2
            replace hx327_3 := hC HB hx327_3
            replace p327 := eq_true p327
            replace q327 := eq_true q327
            have p329 : 0 ≤ (t328 : Int) := dA
            have q329 : t328 < (l0.length : Int) := dA
            obtain ⟨ad329, e329, hx329_0, hx329_1, hx329_2, hx329_3⟩ := at_T89 HR0.out t328 p329 q329
            have hw329_3 := hx329_3
            have hw329_2 := hx329_2
            have hw329_1 := hx329_1
            have hw329_0 := hx329_0
            obtain rfl : ad327 = ad329 := (by injection e329)
            replace hx329_0 := hC HB hx329_0
            replace hx329_1 := hC HB hx329_1
            replace hx329_2 := hC HB hx329_2
            replace hx329_3 := hC HB hx329_3
            replace p329 := eq_true p329
            replace q329 := eq_true q329
            refine start_ (n := 11) (S := fun w' => w'.cell? (ad327.add ((t323).toNat * 4)) = some (.int .i64 ((rd_T89 l0 t323).f0)) ∧ w'.cell? ⟨(ad327.add ((t323).toNat * 4)).block, (ad327.add ((t323).toNat * 4)).off + 1, none⟩ = some (.int .i64 ((rd_T89 l0 t323).f1)) ∧ w'.cell? ⟨(ad327.add ((t323).toNat * 4)).block, (ad327.add ((t323).toNat * 4)).off + 2, none⟩ = some (.int .i64 ((rd_T89 l0 t323).f2)) ∧ w'.cell? ⟨(ad327.add ((t323).toNat * 4)).block, (ad327.add ((t323).toNat * 4)).off + 3, none⟩ = some (.int .i64 ((rd_T89 l0 t323).f3)) ∧ w'.cell? (ad327.add ((t328).toNat * 4)) = some (.int .i64 ((rd_T89 l0 t328).f0)) ∧ w'.cell? ⟨(ad327.add ((t328).toNat * 4)).block, (ad327.add ((t328).toNat * 4)).off + 1, none⟩ = some (.int .i64 ((rd_T89 l0 t328).f1)) ∧ w'.cell? ⟨(ad327.add ((t328).toNat * 4)).block, (ad327.add ((t328).toNat * 4)).off + 2, none⟩ = some (.int .i64 ((rd_T89 l0 t328).f2)) ∧ w'.cell? ⟨(ad327.add ((t328).toNat * 4)).block, (ad327.add ((t328).toNat * 4)).off + 3, none⟩ = some (.int .i64 ((rd_T89 l0 t328).f3))) (ds := []) (mb 11 0) (by kernel_rfl) rfl rfl ⟨(hC HB hw327_0), (hC HB hw327_1), (hC HB hw327_2), (hC HB hw327_3), (hC HB hw329_0), (hC HB hw329_1), (hC HB hw329_2), (hC HB hw329_3)⟩ (fun hHeld => ?_); refine with_tabW impl_IsTogether.tab12 impl_IsTogether.bits12 (fun HT_ HW_ => ?_)
            generalize wr.drew = w34 at HB hx327_0 hx327_1 hx327_2 hx327_3 hx329_0 hx329_1 hx329_2 hx329_3 hHeld ⊢
            refine pa 0 46 (mb 11 1) HT_ ?_
            refine pa 1 47 (mb 11 3) HT_ ?_
            refine pa 2 48 (mb 11 7) HT_ ?_
            refine pa 4 50 (mb 11 23) HT_ ?_
            refine pa 5 51 (mb 11 55) HT_ ?_
            refine pa 6 52 (mb 11 119) HT_ ?_
            refine ta8 3 49 (mb 11 127) HT_ HW_ hHeld ?_
            refine oa 7 53 (mb 11 255) HT_ (fun K hK => ?_)
            refine gA Try.func119 #[.slice (some ad327) l0.length c0, .int .i64 (rd (l1.take (x15_1 : Int).toNat) x42_3)] ?_
            with_reducible refine (impl_FindPath.calls _ _ l0 (rd (l1.take (x15_1 : Int).toNat) x42_3) t328 _ ?side1 ?side2 A26.out).mono ?_
            (case side1 => exact cB HR0)
            (case side2 => exact HC0.out)
            rintro e w35 ⟨rfl, hb⟩
            refine ⟨_, rfl, ?_⟩
            replace HB := Aside0.mk (below_step bA hb)
            (try clear hb)
            (try clear hb2)
            (try clear hk)
            (try clear hi)
            refine hK.out _ _ ⟨(hC HB hw327_0), (hC HB hw327_1), (hC HB hw327_2), (hC HB hw327_3), (hC HB hw329_0), (hC HB hw329_1), (hC HB hw329_2), (hC HB hw329_3)⟩ (fun hHeld => ?_)
            clear hK K
            refine nB ?_
            refine pa 8 54 (mb 11 511) HT_ ?_
            refine ta8 9 55 (mb 11 1023) HT_ HW_ hHeld ?_
            refine oa 10 56 (mb 11 2047) HT_ (fun K hK => ?_)
            refine gA Try.func133 #[.agg #[.int .i64 ((rd_T89 l0 t323).f0), .int .i64 ((rd_T89 l0 t323).f1), .int .i64 ((rd_T89 l0 t323).f2), .int .i64 ((rd_T89 l0 t323).f3)], .agg #[.int .i64 ((rd_T89 l0 t328).f0), .int .i64 ((rd_T89 l0 t328).f1), .int .i64 ((rd_T89 l0 t328).f2), .int .i64 ((rd_T89 l0 t328).f3)]] ?_
            with_reducible refine (impl_Conflict.calls k3 ((rd_T89 l0 t323).f0) ((rd_T89 l0 t323).f1) ((rd_T89 l0 t323).f2) ((rd_T89 l0 t323).f3) ((rd_T89 l0 t328).f0) ((rd_T89 l0 t328).f1) ((rd_T89 l0 t328).f2) ((rd_T89 l0 t328).f3) false _ A29.out).mono ?_
            rintro e w36 ⟨rfl, hb⟩
            refine ⟨_, rfl, ?_⟩
            replace HB := Aside0.mk (below_step bA hb)
            (try clear hb)
            (try clear hb2)
            (try clear hk)
            (try clear hi)
            refine hK.out _ _ ⟨(hC HB hw327_0), (hC HB hw327_1), (hC HB hw327_2), (hC HB hw327_3), (hC HB hw329_0), (hC HB hw329_1), (hC HB hw329_2), (hC HB hw329_3)⟩ (fun hHeld => ?_)
            clear hK K
            refine nB ?_
            refine eA HT_ ?_
            try go_wp2
            go_roundg k3
            case measure => have := HK1.out; have := HJ9.out; have := HK3.out; omega
            case rel => exact ⟨(wrap64 (x42_3 + 1)), rS, H', ⟨by have := HK1.out; have := HJ9.out; have := HK3.out; omega⟩, ⟨bA⟩⟩
          ·
           rw [if_neg c21] at H
           have c21b0 := decide_eq_false c21
           (try (have c21b1 : decide (x42_3 < max x15_1 0) = false := decide_eq_false (by have g_ : x15_1 ≤ (l1.length : Int) := (by first | exact dA | exact Int.le_of_lt dA | exact (show Aside0 (x15_1 ≤ (l1.length : Int)) by assumption).out); rw [List.length_take] at c21; omega)))
           clear c21
           have H' := Aside0.mk H
           clear H
           go_wp2
           go_roundg k3
           case measure => have := HK1.out; have := HJ9.out; have := HK3.out; omega
           case rel => exact ⟨(wrap64 (x15_1 + 1)), rS, H', ⟨by have := HK1.out; have := HJ9.out; have := HK3.out; omega⟩, ⟨bA⟩⟩
    ·
     rw [if_neg c6] at H
     have c6b0 := decide_eq_false c6
     clear c6
     obtain rfl := Option.some.inj H
     go_wp2
     go_ret
     exact ⟨rA, bA⟩
 ·
  replace c4 := Bool.eq_false_iff.mpr c4
  subst c4
  have H1 : (some false) = some r := by rw [if_neg (show ¬ (false = true) by decide)] at H; exact H
  clear H
  have H := H1
  clear H1
  obtain rfl := Option.some.inj H
  go_enter Try.func87, Try.ntmps87
  go_wp2_with (first | ((with_reducible refine gate_callee (f := 126) rfl ?_); refine gL (some 11) Try.func126 #[.slice A0 l0.length c0] ?_; (with_reducible refine (impl_ArePaths.calls k _ _ l0 false _ ?side1 ?side2 A3.out).mono ?_); (case side1 => exact cO HR0); (case side2 => exact HC0.out); rintro e w37 ⟨rfl, hb⟩; refine ⟨_, rfl, ?_⟩; replace HB := Aside0.mk (below_step bA hb); (try clear hb)))
  go_ret
  exact ⟨rA, bA⟩

/-! ### slices_Clone_int_int: function 90 -/
def slices_Clone_int_int.f (l0 : List Int) : Option (List Int) := if l0.length < 17592186044416 then some l0 else none
theorem slices_Clone_int_int.eq0 {P : Program} (w : World) (d : Nat) (t e : TypeId) (a : Option Addr) (n c n' c' : Nat) (h : P.underlying t = some (.slice e)) : (Op.equalIn (d + 1) t (.slice a n c) (.slice none n' c')).run P w = .ok a.isNone w := by
 cases a <;> simp [Op.equalIn, run_underlying h]
theorem slices_Clone_int_int.eq1 {P : Program} (w : World) (t e : TypeId) (a : Option Addr) (n c n' c' : Nat) (h : P.underlying t = some (.slice e)) : (binOp .eql t (.slice a n c) (.slice none n' c')).run P w = .ok (.bool a.isNone) w := by
 simp only [binOp]
 simp [Op.equal, Op.maxDepth, slices_Clone_int_int.eq0 w 9999 t e a n c n' c' h]
set_option maxHeartbeats 4000000 in
set_option maxRecDepth 100000 in
theorem slices_Clone_int_int.calls (A0 : Option Addr) (c0 : Nat) (l0 : List Int) (r : List Int) (w : World) (hr0 : Kd.C (Kd.int .i64) w A0 l0.length l0) (hc0 : l0.length ≤ c0) (h : slices_Clone_int_int.f l0 = some r) :
  Calls Try.prog 90 #[.slice A0 l0.length c0] w fun e w' => ∃ v0_ : Value, e = .returned (v0_) ∧ Kd.R (Kd.int .i64) 3 w' w.heap.size (fun _ => True) v0_ r ∧ Below w.heap.size w w' := by
 unfold slices_Clone_int_int.f at h
 have hlim := ifN h
 replace h := ifT h
 obtain rfl := Option.some.inj h
 have HL := Aside0.mk hlim
 have HR0 := Aside0.mk hr0
 have HC0 := Aside0.mk hc0
 clear hr0 hc0 h hlim
 have q_ : ∀ (w : World) (a : Option Addr) (n c n' c' : Nat), (binOp .eql 41 (.slice a n c) (.slice none n' c')).run Try.prog w = .ok (.bool a.isNone) w := fun w a n c n' c' => slices_Clone_int_int.eq1 w _ _ a n c n' c' Try.underlying41
 cases A0 with
 | none =>
  have hl0 : l0 = [] := by
   rcases Nat.eq_zero_or_pos l0.length with h0 | h0
   ·
    exact List.eq_nil_of_length_eq_zero h0
   ·
    obtain ⟨ad, ha, _⟩ := HR0.out.2.2 h0
    cases ha
  subst hl0
  go_enter Try.func90, Try.ntmps90
  go_wp2
  go_ret
  exact ⟨_, rfl, Kd.R_nil _ _ _ _ _, Below.refl _ _⟩
 | some ad =>
  go_enter Try.func90, Try.ntmps90
  go_wp2_with (first
   | ((with_reducible refine gate_dst (N := 5) rfl ?_); refine Kd.R_lit (Kd.int .i64) _ 3 ?hg (N := 5) ?hd (xs := ([] : List Int)) (inner := []) (ok := fun _ => True) (okp := fun _ => True) ?hr ?hp (fun _ hk => hk) trivial (Below.refl w.heap.size w) (Nat.le_refl _) (by simp) ?_; (case hd => rfl); (case hg => rfl); (case hr => first | (go_simp; done) | (go_simp; rfl)); (case hp => exact (Reps.none _ _)); intro v304 w3 ho4 hb hg_ hnew_; have HO := Aside0.mk ho4; have HB := Aside0.mk hb; clear ho4 hb hg_ hnew_)
   | ((with_reducible refine gate_builtin (b := .append) (xs := #[.tmp 5, .tmp 6]) rfl ?_); at_builtin; refine Kd.R_append_rows (Kd.int .i64) (w0 := w) w.heap.size rfl (.tmp 5) (.tmp 6) 41 3 (.int .i64 0) 8 rfl Try.underlying41 info3 rfl (by decide) (by omega) v304 ([] : List Int) l0 _ _ _ (fun _ => True) (fun _ => False) rfl rfl ?aO ?aR (fun _ _ h => h) (fun _ h => h.elim) ?aF ?aB ?aS ?aL ?_; (case aR => exact Kd.C_below HR0.out HB.out); (case aB => exact HB.out); (case aF => exact (fun _ _ => trivial)); (case aO => exact HO.out); (case aS => exact HB.out.size); (case aL => have := HL.out; simp; omega); intro v1 w9 ho hb hg hat; rw [List.nil_append] at ho; have HO1 := Aside0.mk ho; have HB1 := Aside0.mk hb; clear ho hb hg hat))
  go_ret
  exact ⟨_, rfl, HO1.out, HB1.out⟩

/-! ### slices_Index_int_int: function 138 -/
def slices_Index_int_int.l0 : Nat → List Int → Int → Int → Int → Option (Int)
 | 0, _, _, _, _ => none
 | k + 1, x0, x1, x7, x8 => if x8 < x7 then (if 0 ≤ x8 then (if x8 < (x0.length : Int) then (if x1 = (rd x0 x8) then (some x8) else (slices_Index_int_int.l0 k x0 x1 x7 (wrap64 (x8 + 1)))) else (none)) else (none)) else (some (-1))
def slices_Index_int_int.f (k : Nat) (l0 : List Int) (a1 : Int) : Option (Int) := slices_Index_int_int.l0 k l0 a1 (l0.length : Int) 0
theorem slices_Index_int_int.mono_l : ∀ k, (∀ y0 y1 y2 y3, LeO (slices_Index_int_int.l0 k y0 y1 y2 y3) (slices_Index_int_int.l0 (k + 1) y0 y1 y2 y3))
 | 0 => fun _ _ _ _ r h => by simp [slices_Index_int_int.l0] at h
 | k + 1 => by
  have ih0 := slices_Index_int_int.mono_l k
  ·
   intro y0 y1 y2 y3
   unfold slices_Index_int_int.l0
   repeat' first | (with_reducible first | exact LeO.refl _ | exact LeO.none _ | refine LeO.ite ?_ ?_ | refine LeO.bind ?_ (fun _ => ?_) | exact ih0 _ _ _ _)
theorem slices_Index_int_int.mono : ∀ a0 a1 k, LeO (slices_Index_int_int.f k a0 a1) (slices_Index_int_int.f (k + 1) a0 a1) := by
 intro a0 a1 k
 have ih0 := slices_Index_int_int.mono_l k
 unfold slices_Index_int_int.f
 repeat' first | (with_reducible first | exact LeO.refl _ | exact LeO.none _ | refine LeO.ite ?_ ?_ | refine LeO.bind ?_ (fun _ => ?_) | exact ih0 _ _ _ _)
set_option maxHeartbeats 8000000 in
set_option maxRecDepth 100000 in
theorem slices_Index_int_int.calls (k : Nat) (A0 : Option Addr) (c0 : Nat) (l0 : List Int) (a1 : Int) (r : Int) (w : World) (hr0 : Kd.C (Kd.int .i64) w A0 l0.length l0) (hc0 : l0.length ≤ c0) (h : slices_Index_int_int.f k l0 a1 = some r) :
  Calls Try.prog 138 #[.slice A0 l0.length c0, .int .i64 a1] w fun e w' => e = .returned (.int .i64 r) ∧ Drawn0 w w' := by
 have HR0 := Aside0.mk hr0
 have HC0 := Aside0.mk hc0
 clear hr0 hc0
 have H : (slices_Index_int_int.l0 k l0 a1 (l0.length : Int) 0) = some r := h
 clear h
 have H' := Aside0.mk H
 clear H
 go_enter Try.func138, Try.ntmps138
 go_wp2
 go_loopg [8] k (fun kq v8 w' => ∃ (x8_1 : Int), v8 = .int .i64 x8_1 ∧ Aside0 (slices_Index_int_int.l0 kq l0 a1 (l0.length : Int) x8_1 = some r) ∧ Aside0 (kq ≤ k) ∧ Drawn0 w w')
 case atStart => exact ⟨(0), rS, H', ⟨Nat.le_refl _⟩, by repeat (first | exact Drawn0.refl _ | apply Drawn0.step)⟩
 case round =>
  clear H'
  try clear c1
  try clear p2
  obtain ⟨x8_1, rfl, HA, HK1, ⟨m1, rfl⟩⟩ := hrel
  cases gk with
  | zero => exact absurd HA.out (by simp [slices_Index_int_int.l0])
  | succ k1 =>
   have H := HA.out
   clear HA
   simp only [slices_Index_int_int.l0] at H
   by_cases c3 : x8_1 < (l0.length : Int)
   ·
    rw [if_pos c3] at H
    have c3b0 := decide_eq_true c3
    clear c3
    have c4 : 0 ≤ x8_1 := ifN H
    replace H := ifT H
    have c4b0 := decide_eq_true c4
    clear c4
    have c5 : x8_1 < (l0.length : Int) := ifN H
    replace H := ifT H
    have c5b0 := decide_eq_true c5
    clear c5
    by_cases c6 : a1 = (rd l0 x8_1)
    ·
     rw [if_pos c6] at H
     have c6b0 : (a1 == (rd l0 x8_1)) = true := beq_iff_eq.mpr c6
     have c6b1 : (a1 != (rd l0 x8_1)) = false := bne_eq_false_iff_eq.mpr c6
     clear c6
     obtain rfl := Option.some.inj H
     have p331 : 0 ≤ (x8_1 : Int) := dA
     have q331 : x8_1 < (l0.length : Int) := dA
     obtain ⟨ad331, e331, hx331_0⟩ := Kd.at_int HR0.out x8_1 p331 q331
     cases e331
     replace p331 := eq_true p331
     replace q331 := eq_true q331
     go_wp2
     go_ret
     exact ⟨by first | rfl | (simp; done) | (simp [*]; done), by repeat (first | exact Drawn0.refl _ | apply Drawn0.step)⟩
    ·
     rw [if_neg c6] at H
     have c6b0 : (a1 == (rd l0 x8_1)) = false := beq_eq_false_iff_ne.mpr c6
     have c6b1 : (a1 != (rd l0 x8_1)) = true := bne_iff_ne.mpr c6
     have H' := Aside0.mk H
     clear H
     have p331 : 0 ≤ (x8_1 : Int) := dA
     have q331 : x8_1 < (l0.length : Int) := dA
     obtain ⟨ad331, e331, hx331_0⟩ := Kd.at_int HR0.out x8_1 p331 q331
     cases e331
     replace p331 := eq_true p331
     replace q331 := eq_true q331
     go_wp2
     go_roundg k1
     case measure => have := HK1.out; omega
     case rel => exact ⟨(wrap64 (x8_1 + 1)), rS, H', ⟨by have := HK1.out; omega⟩, by repeat (first | exact Drawn0.refl _ | apply Drawn0.step)⟩
   ·
    rw [if_neg c3] at H
    have c3b0 := decide_eq_false c3
    clear c3
    obtain rfl := Option.some.inj H
    go_wp2
    go_ret
    exact ⟨by first | rfl | (simp; done) | (simp [*]; done), by repeat (first | exact Drawn0.refl _ | apply Drawn0.step)⟩

/-! ### slices_Contains_int_int: function 104 -/
def slices_Contains_int_int.f (k : Nat) (l0 : List Int) (a1 : Int) : Option (Bool) := (slices_Index_int_int.f k l0 a1).bind fun t332 => (some (decide (t332 ≥ 0)))
theorem slices_Contains_int_int.mono : ∀ a0 a1 k, LeO (slices_Contains_int_int.f k a0 a1) (slices_Contains_int_int.f (k + 1) a0 a1) := by
 intro a0 a1 k
 unfold slices_Contains_int_int.f
 repeat' first | (with_reducible first | exact LeO.refl _ | exact LeO.none _ | refine LeO.ite ?_ ?_ | refine LeO.bind ?_ (fun _ => ?_) | exact slices_Index_int_int.mono _ _ _)
set_option maxHeartbeats 8000000 in
set_option maxRecDepth 100000 in
theorem slices_Contains_int_int.calls (k : Nat) (A0 : Option Addr) (c0 : Nat) (l0 : List Int) (a1 : Int) (r : Bool) (w : World) (hr0 : Kd.C (Kd.int .i64) w A0 l0.length l0) (hc0 : l0.length ≤ c0) (h : slices_Contains_int_int.f k l0 a1 = some r) :
  Calls Try.prog 104 #[.slice A0 l0.length c0, .int .i64 a1] w fun e w' => e = .returned (.bool r) ∧ Drawn0 w w' := by
 have HR0 := Aside0.mk hr0
 have HC0 := Aside0.mk hc0
 clear hr0 hc0
 have H : ((slices_Index_int_int.f k l0 a1).bind fun t332 => (some (decide (t332 ≥ 0)))) = some r := h
 clear h
 obtain ⟨t332, A3, H⟩ := bindE H
 try dsimp only at H
 obtain rfl := Option.some.inj H
 go_enter Try.func104, Try.ntmps104
 go_wp2_with (first | ((with_reducible refine gate_callee (f := 138) rfl ?_); refine gL (some 7) Try.func138 #[.slice A0 l0.length c0, .int .i64 a1] ?_; (with_reducible refine (slices_Index_int_int.calls k _ _ l0 a1 t332 _ ?side1 ?side2 A3.out).mono ?_); (case side1 => exact cO HR0); (case side2 => exact HC0.out); rintro e w' ⟨rfl, ⟨nd, rfl⟩⟩; refine ⟨_, rfl, ?_⟩))
 go_ret
 exact ⟨by first | rfl | (simp; done) | (simp [*]; done), by repeat (first | exact Drawn0.refl _ | apply Drawn0.step)⟩

/-! ### cmp_isNaN_int: function 171 -/
def cmp_isNaN_int.f (a0 : Int) : Option (Bool) := some (a0 != a0)
set_option maxHeartbeats 8000000 in
set_option maxRecDepth 100000 in
theorem cmp_isNaN_int.calls (a0 : Int) (r : Bool) (w : World) (h : cmp_isNaN_int.f a0 = some r) :
  Calls Try.prog 171 #[.int .i64 a0] w fun e w' => e = .returned (.bool r) ∧ Drawn0 w w' := by
 have H : (some (a0 != a0)) = some r := h
 clear h
 obtain rfl := Option.some.inj H
 go_enter Try.func171, Try.ntmps171
 go_wp2
 go_ret
 exact ⟨by first | rfl | (simp; done) | (simp [*]; done), by repeat (first | exact Drawn0.refl _ | apply Drawn0.step)⟩

/-! ### cmp_Less_int: function 163 -/
def cmp_Less_int.f (a0 : Int) (a1 : Int) : Option (Bool) := (cmp_isNaN_int.f a0).bind fun t333 => (if t333 = true then ((cmp_isNaN_int.f a1).bind fun t334 => (if t334 = true then (some (decide (a0 < a1))) else (some true))) else (some (decide (a0 < a1))))
set_option maxHeartbeats 8000000 in
set_option maxRecDepth 100000 in
theorem cmp_Less_int.calls (a0 : Int) (a1 : Int) (r : Bool) (w : World) (h : cmp_Less_int.f a0 a1 = some r) :
  Calls Try.prog 163 #[.int .i64 a0, .int .i64 a1] w fun e w' => e = .returned (.bool r) ∧ Drawn0 w w' := by
 have H : ((cmp_isNaN_int.f a0).bind fun t333 => (if t333 = true then ((cmp_isNaN_int.f a1).bind fun t334 => (if t334 = true then (some (decide (a0 < a1))) else (some true))) else (some (decide (a0 < a1))))) = some r := h
 clear h
 obtain ⟨t333, A3, H⟩ := bindE H
 try dsimp only at H
 by_cases c4 : t333 = true
 ·
  subst c4
  have H1 : ((cmp_isNaN_int.f a1).bind fun t334 => (if t334 = true then (some (decide (a0 < a1))) else (some true))) = some r := by rw [if_pos rfl] at H; exact H
  clear H
  have H := H1
  clear H1
  obtain ⟨t334, A5, H⟩ := bindE H
  try dsimp only at H
  by_cases c6 : t334 = true
  ·
   subst c6
   have H1 : (some (decide (a0 < a1))) = some r := by rw [if_pos rfl] at H; exact H
   clear H
   have H := H1
   clear H1
   obtain rfl := Option.some.inj H
   go_enter Try.func163, Try.ntmps163
   go_wp2_with (first | ((with_reducible refine gate_callee (f := 171) rfl ?_); refine gL (some 6) Try.func171 #[.int .i64 a0] ?_; (with_reducible refine (cmp_isNaN_int.calls a0 true _ A3.out).mono ?_); rintro e w' ⟨rfl, ⟨nd, rfl⟩⟩; refine ⟨_, rfl, ?_⟩) | (go_at_call 171; (with_reducible refine (cmp_isNaN_int.calls a1 true _ A5.out).mono ?_); rintro e w' ⟨rfl, ⟨nd, rfl⟩⟩))
   go_ret
   exact ⟨by first | rfl | (simp; done) | (simp [*]; done), by repeat (first | exact Drawn0.refl _ | apply Drawn0.step)⟩
  ·
   replace c6 := Bool.eq_false_iff.mpr c6
   subst c6
   have H1 : (some true) = some r := by rw [if_neg (show ¬ (false = true) by decide)] at H; exact H
   clear H
   have H := H1
   clear H1
   obtain rfl := Option.some.inj H
   go_enter Try.func163, Try.ntmps163
   go_wp2_with (first | ((with_reducible refine gate_callee (f := 171) rfl ?_); refine gL (some 6) Try.func171 #[.int .i64 a0] ?_; (with_reducible refine (cmp_isNaN_int.calls a0 true _ A3.out).mono ?_); rintro e w' ⟨rfl, ⟨nd, rfl⟩⟩; refine ⟨_, rfl, ?_⟩) | (go_at_call 171; (with_reducible refine (cmp_isNaN_int.calls a1 false _ A5.out).mono ?_); rintro e w' ⟨rfl, ⟨nd, rfl⟩⟩))
   go_ret
   exact ⟨by first | rfl | (simp; done) | (simp [*]; done), by repeat (first | exact Drawn0.refl _ | apply Drawn0.step)⟩
 ·
  replace c4 := Bool.eq_false_iff.mpr c4
  subst c4
  have H1 : (some (decide (a0 < a1))) = some r := by rw [if_neg (show ¬ (false = true) by decide)] at H; exact H
  clear H
  have H := H1
  clear H1
  obtain rfl := Option.some.inj H
  go_enter Try.func163, Try.ntmps163
  go_wp2_with (first | ((with_reducible refine gate_callee (f := 171) rfl ?_); refine gL (some 6) Try.func171 #[.int .i64 a0] ?_; (with_reducible refine (cmp_isNaN_int.calls a0 false _ A3.out).mono ?_); rintro e w' ⟨rfl, ⟨nd, rfl⟩⟩; refine ⟨_, rfl, ?_⟩))
  go_ret
  exact ⟨by first | rfl | (simp; done) | (simp [*]; done), by repeat (first | exact Drawn0.refl _ | apply Drawn0.step)⟩

/-! ### slices_isNaN_int: function 164 -/
def slices_isNaN_int.f (a0 : Int) : Option (Bool) := some (a0 != a0)
set_option maxHeartbeats 8000000 in
set_option maxRecDepth 100000 in
theorem slices_isNaN_int.calls (a0 : Int) (r : Bool) (w : World) (h : slices_isNaN_int.f a0 = some r) :
  Calls Try.prog 164 #[.int .i64 a0] w fun e w' => e = .returned (.bool r) ∧ Drawn0 w w' := by
 have H : (some (a0 != a0)) = some r := h
 clear h
 obtain rfl := Option.some.inj H
 go_enter Try.func164, Try.ntmps164
 go_wp2
 go_ret
 exact ⟨by first | rfl | (simp; done) | (simp [*]; done), by repeat (first | exact Drawn0.refl _ | apply Drawn0.step)⟩

/-! ### slices_BinarySearch_int_int: function 156 -/
def slices_BinarySearch_int_int.l0 : Nat → List Int → Int → Int → Int → Int → Option (Int × Bool)
 | 0, _, _, _, _, _ => none
 | k + 1, x0, x1, x6, x7, x8 => if x7 < x8 then (if 0 ≤ (wrap64 ((IntKind.u64.wrap (wrap64 (x7 + x8))) / 2)) then (if (wrap64 ((IntKind.u64.wrap (wrap64 (x7 + x8))) / 2)) < (x0.length : Int) then ((cmp_Less_int.f (rd x0 (wrap64 ((IntKind.u64.wrap (wrap64 (x7 + x8))) / 2))) x1).bind fun t336 => (if t336 = true then (slices_BinarySearch_int_int.l0 k x0 x1 x6 (wrap64 ((wrap64 ((IntKind.u64.wrap (wrap64 (x7 + x8))) / 2)) + 1)) x8) else (slices_BinarySearch_int_int.l0 k x0 x1 x6 x7 (wrap64 ((IntKind.u64.wrap (wrap64 (x7 + x8))) / 2))))) else (none)) else (none)) else (if x7 < x6 then (if 0 ≤ x7 then (if x7 < (x0.length : Int) then (if (rd x0 x7) = x1 then (some (x7, true)) else ((slices_isNaN_int.f (rd x0 x7)).bind fun t339 => (if t339 = true then ((slices_isNaN_int.f x1).bind fun t340 => (some (x7, t340))) else (some (x7, false))))) else (none)) else (none)) else (some (x7, false)))
def slices_BinarySearch_int_int.f (k : Nat) (l0 : List Int) (a1 : Int) : Option (Int × Bool) := slices_BinarySearch_int_int.l0 k l0 a1 (l0.length : Int) 0 (l0.length : Int)
theorem slices_BinarySearch_int_int.mono_l : ∀ k, (∀ y0 y1 y2 y3 y4, LeO (slices_BinarySearch_int_int.l0 k y0 y1 y2 y3 y4) (slices_BinarySearch_int_int.l0 (k + 1) y0 y1 y2 y3 y4))
 | 0 => fun _ _ _ _ _ r h => by simp [slices_BinarySearch_int_int.l0] at h
 | k + 1 => by
  have ih0 := slices_BinarySearch_int_int.mono_l k
  ·
   intro y0 y1 y2 y3 y4
   unfold slices_BinarySearch_int_int.l0
   repeat' first | (with_reducible first | exact LeO.refl _ | exact LeO.none _ | refine LeO.ite ?_ ?_ | refine LeO.bind ?_ (fun _ => ?_) | exact ih0 _ _ _ _ _)
theorem slices_BinarySearch_int_int.mono : ∀ a0 a1 k, LeO (slices_BinarySearch_int_int.f k a0 a1) (slices_BinarySearch_int_int.f (k + 1) a0 a1) := by
 intro a0 a1 k
 have ih0 := slices_BinarySearch_int_int.mono_l k
 unfold slices_BinarySearch_int_int.f
 repeat' first | (with_reducible first | exact LeO.refl _ | exact LeO.none _ | refine LeO.ite ?_ ?_ | refine LeO.bind ?_ (fun _ => ?_) | exact ih0 _ _ _ _ _)
set_option maxHeartbeats 8000000 in
set_option maxRecDepth 100000 in
theorem slices_BinarySearch_int_int.calls (k : Nat) (A0 : Option Addr) (c0 : Nat) (l0 : List Int) (a1 : Int) (r1 : Int) (r2 : Bool) (w : World) (hr0 : Kd.C (Kd.int .i64) w A0 l0.length l0) (hc0 : l0.length ≤ c0) (h : slices_BinarySearch_int_int.f k l0 a1 = some (r1, r2)) :
  Calls Try.prog 156 #[.slice A0 l0.length c0, .int .i64 a1] w fun e w' => e = .returned (.tuple #[.int .i64 r1, .bool r2]) ∧ Drawn0 w w' := by
 have HR0 := Aside0.mk hr0
 have HC0 := Aside0.mk hc0
 clear hr0 hc0
 have H : (slices_BinarySearch_int_int.l0 k l0 a1 (l0.length : Int) 0 (l0.length : Int)) = some (r1, r2) := h
 clear h
 have H' := Aside0.mk H
 clear H
 go_enter Try.func156, Try.ntmps156
 go_wp2
 go_loopg [7, 8] k (fun kq v7 v8 w' => ∃ (x7_1 : Int) (x8_1 : Int), v7 = .int .i64 x7_1 ∧ v8 = .int .i64 x8_1 ∧ Aside0 (slices_BinarySearch_int_int.l0 kq l0 a1 (l0.length : Int) x7_1 x8_1 = some (r1, r2)) ∧ Aside0 (kq ≤ k) ∧ Drawn0 w w')
 case atStart => exact ⟨(0), ((l0.length : Int)), rS, rS, H', ⟨Nat.le_refl _⟩, by repeat (first | exact Drawn0.refl _ | apply Drawn0.step)⟩
 case round =>
  clear H'
  try clear c1
  try clear p2
  obtain ⟨x7_1, x8_1, rfl, rfl, HA, HK1, ⟨m1, rfl⟩⟩ := hrel
  cases gk with
  | zero => exact absurd HA.out (by simp [slices_BinarySearch_int_int.l0])
  | succ k1 =>
   have H := HA.out
   clear HA
   simp only [slices_BinarySearch_int_int.l0] at H
   by_cases c3 : x7_1 < x8_1
   ·
    rw [if_pos c3] at H
    have c3b0 := decide_eq_true c3
    clear c3
    obtain ⟨ji4, hji4⟩ : ∃ j_ : Int, (wrap64 ((IntKind.u64.wrap (wrap64 (x7_1 + x8_1))) / 2)) = j_ := ⟨_, rfl⟩
    replace H : (if 0 ≤ (ji4) then (if (ji4) < (l0.length : Int) then ((cmp_Less_int.f (rd l0 (ji4)) a1).bind fun t336 => (if t336 = true then (slices_BinarySearch_int_int.l0 k1 l0 a1 (l0.length : Int) (wrap64 ((ji4) + 1)) x8_1) else (slices_BinarySearch_int_int.l0 k1 l0 a1 (l0.length : Int) x7_1 ji4))) else (none)) else (none)) = some (r1, r2) := by first | (rw [hji4] at H; exact H) | (simp only [hji4] at H ⊢; exact H)
    have hji4w : (IntKind.i64.wrap ((IntKind.u64.wrap (wrap64 (x7_1 + x8_1))) / 2)) = ji4 := (i64_w _).trans hji4
    have c5 : 0 ≤ (ji4) := ifN H
    replace H := ifT H
    have c5b0 := decide_eq_true c5
    clear c5
    have c6 : (ji4) < (l0.length : Int) := ifN H
    replace H := ifT H
    have c6b0 := decide_eq_true c6
    clear c6
    obtain ⟨t336, A7, H⟩ := bindE H
    try dsimp only at H
    by_cases c8 : t336 = true
    ·
     subst c8
     have H1 : (slices_BinarySearch_int_int.l0 k1 l0 a1 (l0.length : Int) (wrap64 ((ji4) + 1)) x8_1) = some (r1, r2) := by rw [if_pos rfl] at H; exact H
     clear H
     have H := H1
     clear H1
     have H' := Aside0.mk H
     clear H
     have p335 : 0 ≤ ((ji4) : Int) := dA
     have q335 : (ji4) < (l0.length : Int) := dA
     obtain ⟨ad335, e335, hx335_0⟩ := Kd.at_int HR0.out (ji4) p335 q335
     cases e335
     replace p335 := eq_true p335
     replace q335 := eq_true q335
     go_wp2_with (first | ((with_reducible refine gate_callee (f := 163) rfl ?_); refine goesL_ (some 27) rfl rfl Try.func163 (by kernel_rfl) rfl #[.int .i64 (rd l0 (ji4)), .int .i64 a1] rfl (by (try simp only [List.map_toArray, List.map_cons, List.map_nil]); first | done | (simp only [hji4]; rfl) | rfl | (simp only [List.length_drop, List.length_take]; rfl)) ?_; (with_reducible refine (cmp_Less_int.calls (rd l0 (ji4)) a1 true _ A7.out).mono ?_); rintro e w' ⟨rfl, ⟨nd, rfl⟩⟩; refine ⟨_, rfl, ?_⟩))
     go_roundg k1
     case measure => have := HK1.out; omega
     case rel => exact ⟨(wrap64 ((ji4) + 1)), (x8_1), (by first | rfl | (simp; done) | (simp only [← hji4] <;> (first | rfl | simp)) | (simp [*]; done)), rS, H', ⟨by have := HK1.out; omega⟩, by repeat (first | exact Drawn0.refl _ | apply Drawn0.step)⟩
    ·
     replace c8 := Bool.eq_false_iff.mpr c8
     subst c8
     have H1 : (slices_BinarySearch_int_int.l0 k1 l0 a1 (l0.length : Int) x7_1 ji4) = some (r1, r2) := by rw [if_neg (show ¬ (false = true) by decide)] at H; exact H
     clear H
     have H := H1
     clear H1
     have H' := Aside0.mk H
     clear H
     have p335 : 0 ≤ ((ji4) : Int) := dA
     have q335 : (ji4) < (l0.length : Int) := dA
     obtain ⟨ad335, e335, hx335_0⟩ := Kd.at_int HR0.out (ji4) p335 q335
     cases e335
     replace p335 := eq_true p335
     replace q335 := eq_true q335
     go_wp2_with (first | ((with_reducible refine gate_callee (f := 163) rfl ?_); refine goesL_ (some 27) rfl rfl Try.func163 (by kernel_rfl) rfl #[.int .i64 (rd l0 (ji4)), .int .i64 a1] rfl (by (try simp only [List.map_toArray, List.map_cons, List.map_nil]); first | done | (simp only [hji4]; rfl) | rfl | (simp only [List.length_drop, List.length_take]; rfl)) ?_; (with_reducible refine (cmp_Less_int.calls (rd l0 (ji4)) a1 false _ A7.out).mono ?_); rintro e w' ⟨rfl, ⟨nd, rfl⟩⟩; refine ⟨_, rfl, ?_⟩))
     go_roundg k1
     case measure => have := HK1.out; omega
     case rel => exact ⟨(x7_1), (ji4), rS, (by first | rfl | (simp; done) | (simp only [← hji4] <;> (first | rfl | simp)) | (simp [*]; done)), H', ⟨by have := HK1.out; omega⟩, by repeat (first | exact Drawn0.refl _ | apply Drawn0.step)⟩
   ·
    rw [if_neg c3] at H
    have c3b0 := decide_eq_false c3
    clear c3
    by_cases c9 : x7_1 < (l0.length : Int)
    ·
     rw [if_pos c9] at H
     have c9b0 := decide_eq_true c9
     clear c9
     have c10 : 0 ≤ x7_1 := ifN H
     replace H := ifT H
     have c10b0 := decide_eq_true c10
     clear c10
     have c11 : x7_1 < (l0.length : Int) := ifN H
     replace H := ifT H
     have c11b0 := decide_eq_true c11
     clear c11
     by_cases c12 : (rd l0 x7_1) = a1
     ·
      rw [if_pos c12] at H
      have c12b0 : ((rd l0 x7_1) == a1) = true := beq_iff_eq.mpr c12
      have c12b1 : ((rd l0 x7_1) != a1) = false := bne_eq_false_iff_eq.mpr c12
      clear c12
      simp only [Option.some.injEq, Prod.mk.injEq] at H
      obtain ⟨rfl, rfl⟩ := H
      have p337 : 0 ≤ (x7_1 : Int) := dA
      have q337 : x7_1 < (l0.length : Int) := dA
      obtain ⟨ad337, e337, hx337_0⟩ := Kd.at_int HR0.out x7_1 p337 q337
      cases e337
      replace p337 := eq_true p337
      replace q337 := eq_true q337
      go_wp2
      go_ret2
      exact ⟨by first | rfl | (simp; done) | (simp [*]; done), by repeat (first | exact Drawn0.refl _ | apply Drawn0.step)⟩
     ·
      rw [if_neg c12] at H
      have c12b0 : ((rd l0 x7_1) == a1) = false := beq_eq_false_iff_ne.mpr c12
      have c12b1 : ((rd l0 x7_1) != a1) = true := bne_iff_ne.mpr c12
      obtain ⟨t339, A13, H⟩ := bindE H
      try dsimp only at H
      by_cases c14 : t339 = true
      ·
       subst c14
       have H1 : ((slices_isNaN_int.f a1).bind fun t340 => (some (x7_1, t340))) = some (r1, r2) := by rw [if_pos rfl] at H; exact H
       clear H
       have H := H1
       clear H1
       obtain ⟨t340, A15, H⟩ := bindE H
       try dsimp only at H
       simp only [Option.some.injEq, Prod.mk.injEq] at H
       obtain ⟨rfl, rfl⟩ := H
       have p337 : 0 ≤ (x7_1 : Int) := dA
       have q337 : x7_1 < (l0.length : Int) := dA
       obtain ⟨ad337, e337, hx337_0⟩ := Kd.at_int HR0.out x7_1 p337 q337
       cases e337
       replace p337 := eq_true p337
       replace q337 := eq_true q337
       have p338 : 0 ≤ (x7_1 : Int) := dA
       have q338 : x7_1 < (l0.length : Int) := dA
       obtain ⟨ad338, e338, hx338_0⟩ := Kd.at_int HR0.out x7_1 p338 q338
       obtain rfl : ad337 = ad338 := (by injection e338)
       replace p338 := eq_true p338
       replace q338 := eq_true q338
       go_wp2_with (first | (go_at_call 164; (with_reducible refine (slices_isNaN_int.calls (rd l0 x7_1) true _ A13.out).mono ?_); rintro e w' ⟨rfl, ⟨nd, rfl⟩⟩) | (go_at_call 164; (with_reducible refine (slices_isNaN_int.calls a1 t340 _ A15.out).mono ?_); rintro e w' ⟨rfl, ⟨nd, rfl⟩⟩))
       go_ret2
       exact ⟨by first | rfl | (simp; done) | (simp [*]; done), by repeat (first | exact Drawn0.refl _ | apply Drawn0.step)⟩
      ·
       replace c14 := Bool.eq_false_iff.mpr c14
       subst c14
       have H1 : (some (x7_1, false)) = some (r1, r2) := by rw [if_neg (show ¬ (false = true) by decide)] at H; exact H
       clear H
       have H := H1
       clear H1
       simp only [Option.some.injEq, Prod.mk.injEq] at H
       obtain ⟨rfl, rfl⟩ := H
       have p337 : 0 ≤ (x7_1 : Int) := dA
       have q337 : x7_1 < (l0.length : Int) := dA
       obtain ⟨ad337, e337, hx337_0⟩ := Kd.at_int HR0.out x7_1 p337 q337
       cases e337
       replace p337 := eq_true p337
       replace q337 := eq_true q337
       have p338 : 0 ≤ (x7_1 : Int) := dA
       have q338 : x7_1 < (l0.length : Int) := dA
       obtain ⟨ad338, e338, hx338_0⟩ := Kd.at_int HR0.out x7_1 p338 q338
       obtain rfl : ad337 = ad338 := (by injection e338)
       replace p338 := eq_true p338
       replace q338 := eq_true q338
       go_wp2_with (first | (go_at_call 164; (with_reducible refine (slices_isNaN_int.calls (rd l0 x7_1) false _ A13.out).mono ?_); rintro e w' ⟨rfl, ⟨nd, rfl⟩⟩))
       go_ret2
       exact ⟨by first | rfl | (simp; done) | (simp [*]; done), by repeat (first | exact Drawn0.refl _ | apply Drawn0.step)⟩
    ·
     rw [if_neg c9] at H
     have c9b0 := decide_eq_false c9
     clear c9
     simp only [Option.some.injEq, Prod.mk.injEq] at H
     obtain ⟨rfl, rfl⟩ := H
     go_wp2
     go_ret2
     exact ⟨by first | rfl | (simp; done) | (simp [*]; done), by repeat (first | exact Drawn0.refl _ | apply Drawn0.step)⟩

/-! ### impl_inserted: function 136 -/
theorem impl_inserted.one {α : Type} {R : α → List Value → Prop} {size : Nat} {ps : List α} {cs : List Value} (h : Reps R size ps cs) (hs : 0 < size) (hR : ∀ p c, R p c → ∀ u ∈ c, u.oneCell' = true) : ∀ u ∈ cs, u.oneCell' = true := by
 intro u hu
 obtain ⟨q, hq, rfl⟩ := List.mem_iff_getElem.1 hu
 have hj : q / size < ps.length := by
  rw [Nat.div_lt_iff_lt_mul hs, ← h.1]
  exact hq
 refine hR _ _ (h.2 (q / size) _ (List.getElem?_eq_getElem hj)) _ (List.mem_iff_getElem?.2 ⟨q % size, ?_⟩)
 rw [List.getElem?_take, if_pos (Nat.mod_lt _ hs), List.getElem?_drop, Nat.mul_comm, Nat.div_add_mod, List.getElem?_eq_getElem hq]
theorem impl_inserted.cp {P : Program} (w : World) (t ty e : TypeId) (sz b o dLen dCap : Nat) (a : Addr) (sLen sCap q : Nat) (cs : List Value)
  (hu : P.underlying t = some (.slice e)) (hs : (P.info? e).map (·.size) = some sz) (hq : Nat.min sLen dLen = q) (hn : cs.length = q * sz)
  (hsrc : ∀ j v, cs[j]? = some v → w.cell? (a.add j) = some v) (hc : ∀ j, j < cs.length → (w.cell? ⟨b, o + j, none⟩).isSome = true) (hf : ∀ j, j < cs.length → w.frozen? ⟨b, o + j, none⟩ = false) (h1 : ∀ v ∈ cs, v.oneCell' = true) :
  (Builtin.copy_ #[t, t] ty #[.slice (some ⟨b, o, none⟩) dLen dCap, .slice (some a) sLen sCap]).run P w = .ok (goInt q) (w.setCells b o cs) := by
 have hst := run_storeCells_cells (P := P) b o cs 0 w (by simpa using hc) (by simpa using hf) h1
 simp only [Nat.add_zero] at hst
 cases hi : P.info? e with
 | none => simp [hi] at hs
 | some i =>
  have hz : i.size = sz := by simpa [hi] using hs
  subst hz
  have hfc := run_firstCells_some (P := P) w i.size q a sLen sCap cs hn hsrc
  simp [Builtin.copy_, run_underlying hu, Builtin.lenOf, sizeOf, typeInfo, hi, hq, hfc, hst]
theorem impl_inserted.az {P : Program} (w : World) (t ti ty e : TypeId) (i : TypeInfo) (z : Value) (size bytes : Nat) (ht : P.underlying t = some (.slice e)) {k : IntKind} (hti : P.underlying ti = some (.int k)) (hi : P.info? e = some i) (hz : i.zero = some z)
  (hsize : i.size = size) (hby : i.bytes = bytes) (hzs : z.cells.size = size) (hsz : 0 < size) (hb0 : 0 < bytes)
  (A : Addr) (n cap : Nat) (xs : List Value) (hxl : xs.length = n * size) (hxc : ∀ j u, xs[j]? = some u → w.cell? (A.add j) = some u) (kx : IntKind) (m : Nat) (hm : ¬ m = 0) (hcap : cap < n + m)
  (hbytes : (n + m) * bytes ≤ 140737488355328) :
  ∃ C cells, (Builtin.append_ #[t, ti] ty #[.slice (some A) n cap, .int kx m]).run P w = .ok (.slice (some ⟨w.heap.size, 0, none⟩) (n + m) C) (w.drew.alloc (.cells cells e)) ∧ n + m ≤ C ∧ C ≤ maxLen ∧ cells.size = C * size ∧ cells.toList.take (n * size) = xs := by
 subst hsize
 subst hby
 have hle : n + m ≤ 140737488355328 := Nat.le_trans (Nat.le_mul_of_pos_right _ hb0) hbytes
 have h63 : n + m ≤ maxLen := by simp only [maxLen]; omega
 have hw : IntKind.i64.wrap (m : Int) = m := by rw [IntKind.wrap_i64]; omega
 have hneg : ¬ ((m : Int) < 0) := by omega
 have hmb : m * i.bytes ≤ 140737488355328 := Nat.le_trans (Nat.mul_le_mul_right _ (Nat.le_add_left m n)) hbytes
 have hbig : ¬ (281474976710656 < (m : Int) * (i.bytes : Int)) := by
  rw [← Int.natCast_mul]
  omega
 have hsn : i.size ≠ 0 := by omega
 obtain ⟨news, hnews⟩ : ∃ news, news = (Builtin.zeroCells z.cells m).toList := ⟨_, rfl⟩
 have hl : news.length = m * i.size := by rw [hnews, Array.length_toList, size_zeroCells, hzs]
 have hna : Builtin.zeroCells z.cells m = news.toArray := by rw [hnews]
 have hge := grownCap_ge w (n + m) cap e
 have hcm : grownCap w (n + m) cap e ≤ maxLen := grownCap_le_maxLen w (n + m) cap e h63
 have hfo : (Builtin.firstCells i.size n (.slice (some A) n cap)).run P w.drew = .ok xs.toArray w.drew := run_firstCells_some (P := P) w.drew i.size n _ n cap xs hxl (by simpa using hxc)
 have runs : (Builtin.append_ #[t, ti] ty #[.slice (some A) n cap, .int kx m]).run P w =
   .ok (.slice (some ⟨w.heap.size, 0, none⟩) (n + m) (grownCap w (n + m) cap e)) (w.drew.alloc (.cells (xs.toArray ++ news.toArray ++ Builtin.zeroCells z.cells (grownCap w (n + m) cap e - (n + m))) e)) := by
  have hn : ¬ (n + m ≤ cap) := by omega
  have h63' : ¬ (9223372036854775807 < ((n : Int) + (m : Int))) := by omega
  have hfit := growslice_fits hcap hbytes
  have h48' : ¬ (281474976710656 < Builtin.nextslicecap (n + m) cap * i.bytes) := by omega
  have hmz : ¬ (m * i.size = 0) := Nat.mul_ne_zero hm hsn
  simp [Builtin.append_, run_underlying ht, run_underlying hti, sizeOf, typeInfo, zeroValue, hi, hz, asInt, asIntOf, hw, hneg, hbig, hn, h63', h48', Question.forced, hfo, newRow, grownCap, hmz, hna]
  congr 2
  apply Array.ext'
  simp [List.append_assoc]
 refine ⟨_, _, runs, hge, hcm, ?_, ?_⟩
 ·
  simp only [Array.size_append, List.size_toArray, size_zeroCells, hzs, hxl, hl, ← Nat.add_mul]
  congr 1
  omega
 ·
  simp only [Array.toList_append, List.append_assoc]
  rw [← hxl]
  exact List.take_left
theorem impl_inserted.two {e g : Nat} (w w1 : World) (cur : Array Value) (cs rest : List Value) (o : Nat) (h : w.heap[g]? = some (.cells cur e (0, 0))) (hw1 : w1.heap[g]? = (w.setCells g o cs).heap[g]?) (hl : o + cs.length + rest.length ≤ cur.size) :
  ∃ cur', (w1.setCells g (o + cs.length) rest).heap[g]? = some (.cells cur' e (0, 0)) ∧ cur'.size = cur.size ∧ cur'.toList.take (o + cs.length + rest.length) = cur.toList.take o ++ cs ++ rest := by
 obtain ⟨c1, h1, h2, h3⟩ := setCells_row cs o w cur h (by omega)
 obtain ⟨c2, h4, h5, h6⟩ := setCells_row rest (o + cs.length) w1 c1 (hw1.trans h1) (by omega)
 have hlen : (cur.toList.take o).length = o := by rw [List.length_take, Array.length_toList]; omega
 refine ⟨c2, h4, by omega, ?_⟩
 rw [h6, h3]
 have ha : (cur.toList.take o ++ cs ++ cur.toList.drop (o + cs.length)).take (o + cs.length) = cur.toList.take o ++ cs := List.take_left' (by rw [List.length_append, hlen])
 rw [ha]
 exact List.take_left' (by rw [List.length_append, List.length_append, hlen])
theorem impl_inserted.two' {e g : Nat} (w : World) (cur : Array Value) (cs rest : List Value) (o : Nat) (h : w.heap[g]? = some (.cells cur e (0, 0))) (hl : o + cs.length + rest.length ≤ cur.size) :
  ∃ cur', ((w.setCells g (o + cs.length) rest).setCells g o cs).heap[g]? = some (.cells cur' e (0, 0)) ∧ cur'.size = cur.size ∧ cur'.toList.take (o + cs.length + rest.length) = cur.toList.take o ++ cs ++ rest := by
 obtain ⟨c1, h1, h2, h3⟩ := setCells_row rest (o + cs.length) w cur h (by omega)
 obtain ⟨c2, h4, h5, h6⟩ := setCells_row cs o (w.setCells g (o + cs.length) rest) c1 h1 (by omega)
 have hlen : (cur.toList.take o).length = o := by rw [List.length_take, Array.length_toList]; omega
 have hlen2 : (cur.toList.take (o + cs.length)).length = o + cs.length := by rw [List.length_take, show cur.toList.length = cur.size from Array.length_toList]; omega
 refine ⟨c2, h4, by omega, ?_⟩
 rw [h6, h3]
 have ha : (cur.toList.take (o + cs.length) ++ rest ++ cur.toList.drop (o + cs.length + rest.length)).take o = cur.toList.take o := by
  rw [List.append_assoc, List.take_append_of_le_length (by omega), List.take_take, Nat.min_eq_left (by omega)]
 have hb : (cur.toList.take (o + cs.length) ++ rest ++ cur.toList.drop (o + cs.length + rest.length)).drop (o + cs.length) = rest ++ cur.toList.drop (o + cs.length + rest.length) := by
  rw [List.append_assoc]
  exact List.drop_left' hlen2
 rw [ha, hb, ← List.append_assoc]
 exact List.take_left' (by rw [List.length_append, List.length_append, hlen])
theorem impl_inserted.mk {α : Type} (d : Kd α) (e : Nat) (w' : World) (base g C k : Nat) (cur : Array Value) (xs : List α) (x : α) (inner cs : List Value)
  (hr : Reps (d.M w' base (fun k => True ∧ some k ≠ some g)) d.sz xs inner) (hx : d.M w' base (fun k => True ∧ some k ≠ some g) x cs) (hk : k ≤ xs.length) (hb : base ≤ g) (hg : w'.heap[g]? = some (.cells cur e (0, 0)))
  (hC : xs.length + 1 ≤ C) (hCm : C ≤ maxLen) (hcs : cur.size = C * d.sz) (ht : cur.toList.take ((xs.length + 1) * d.sz) = inner.take (k * d.sz) ++ cs ++ inner.drop (k * d.sz)) :
  d.R e w' base (fun _ => True) (.slice (some ⟨g, 0, none⟩) (xs.length + 1) C) (xs.take k ++ [x] ++ xs.drop k) := by
 have hl : (xs.take k ++ [x] ++ xs.drop k).length = xs.length + 1 := by simp; omega
 have hcl : cs.length = d.sz := d.K_len (d.K_of_M hx)
 have h1 : Reps (d.M w' base (fun k => True ∧ some k ≠ some g)) d.sz (xs.take k ++ [x] ++ xs.drop k) (inner.take (k * d.sz) ++ cs ++ inner.drop (k * d.sz)) :=
  Kd.reps_append (Reps.snoc (Kd.reps_take hr hk) hx hcl) (Kd.reps_drop hr)
 exact ⟨fun _ _ => trivial, _, ⟨h1.1, .inr ⟨g, C, cur, by rw [hl], hb, hg, by rw [hl]; exact hC, hCm, hcs, by rw [hl]; exact ht⟩⟩, h1⟩
theorem impl_inserted.wcopy {P : Program} (w : World) {ops : Array Oper} {rest : List Oper} {o : Oper} {a : Act} {Q : Exit → Act → World → Prop} (hgd : o.guard = none) (d s : Operand) (t t' : TypeId)
  (ho : o.op = .call { callee := .builtin .copy, args := #[d, s], argTypes := #[t, t'] }) (v u : Value) (hd : a.eval d = v) (hs : a.eval s = u) {v' : Value} {w' : World}
  (hr : (Builtin.copy_ #[t, t'] o.type #[v, u]).run P w = .ok v' w') (h : wpList P ops Q rest (a.put o.dst v') w') : wpList P ops Q (o :: rest) a w :=
 wpList_plain hgd fun K hK => by
  unfold Oper.wp execOp
  simp only [ho, resolve, invoke, builtin, Sem.run_bind, Sem.run_pure, Result.andThen_ok, List.map_toArray, List.map_cons, List.map_nil, hd, hs, hr]
  exact hK _ _ h
theorem impl_inserted.wapp {P : Program} (w : World) {ops : Array Oper} {rest : List Oper} {o : Oper} {a : Act} {Q : Exit → Act → World → Prop} (hgd : o.guard = none) (d s : Operand) (t t' : TypeId)
  (ho : o.op = .call { callee := .builtin .append, args := #[d, s], argTypes := #[t, t'] }) (v u : Value) (hd : a.eval d = v) (hs : a.eval s = u) {v' : Value} {w' : World}
  (hr : (Builtin.append_ #[t, t'] o.type #[v, u]).run P w = .ok v' w') (h : wpList P ops Q rest (a.put o.dst v') w') : wpList P ops Q (o :: rest) a w :=
 wpList_plain hgd fun K hK => by
  unfold Oper.wp execOp
  simp only [ho, resolve, invoke, builtin, Sem.run_bind, Sem.run_pure, Result.andThen_ok, List.map_toArray, List.map_cons, List.map_nil, hd, hs, hr]
  exact hK _ _ h
theorem impl_inserted.scopy {P : Program} {ops : Array Oper} {o : Oper} {a : Act} {w : World} {K : Act → World → Prop} {Q : Exit → Act → World → Prop} {E : Prop}
  (hg : o.guard = none) (d x : Operand) (dT sT : TypeId) (hop : o.op = Op.call { callee := Callee.builtin Builtin.copy, args := #[d, x], argTypes := #[dT, sT] })
  (v u : Value) (hd : a.eval d = v) (hx : a.eval x = u) {v' : Value} {w' : World} (hr : (Builtin.copy_ #[dT, sT] o.type #[v, u]).run P w = .ok v' w') (hK : K (a.put o.dst v') w') :
  if Region.wanted o (yielded ops a.tmps) = true then Oper.wp P o a w K Q else E := by
 have hw : Region.wanted o (yielded ops a.tmps) = true := by simp [Region.wanted, hg]
 rw [if_pos hw]
 unfold Oper.wp
 simp [execOp, hop, resolve, invoke, builtin, hd, hx, hr, Result.andThen]
 exact hK
theorem impl_inserted.flat {w w' : World} {base base' : Nat} {ok ok' : Nat → Prop} {p : Int} {cs : List Value} (h : ((Kd.int .i64)).M w base ok p cs) : ((Kd.int .i64)).M w' base' ok' p cs := h
theorem impl_inserted.end_fact (base c gv cv : Nat) (l0 : List Int) (x : Int) (ok okv : Nat → Prop) (w0 w : World) (hlim : l0.length < 8796093022208) (A : Option Addr)
  (HO : Kd.R (Kd.int .i64) 3 w base ok (.slice A l0.length c) l0) (HV : Kd.R (Kd.int .i64) 3 w base okv (.slice (some ⟨gv, 0, none⟩) 1 cv) [x]) (hb : Below base w0 w) (hbase : base ≤ w.heap.size) :
  ∃ v1 w1, (Builtin.append_ #[41, 41] 41 #[.slice A l0.length c, .slice (some ⟨gv, 0, none⟩) 1 cv]).run Try.prog w = .ok v1 w1 ∧ Kd.R (Kd.int .i64) 3 w1 base (fun _ => True) v1 (l0 ++ [x]) ∧ Below base w0 w1 := by
 obtain ⟨_, inner, hown, hr⟩ := HO
 obtain ⟨_, innv, hownv, hrv⟩ := HV
 obtain ⟨i0, hi0, hz0, hz1, hz2⟩ : ∃ i, Try.prog.info? 3 = some i ∧ i.zero = some (.int .i64 0) ∧ i.size = 1 ∧ i.bytes = 8 := by
  have h := info3
  cases hq : Try.prog.info? 3 with
  | none => rw [hq] at h; simp at h
  | some i => rw [hq] at h; simp at h; exact ⟨i, rfl, h.1, h.2.1, h.2.2⟩
 obtain ⟨v1, w1, hrun, h2, hg, _, hat⟩ := run_append_own_at (P := Try.prog) w base 41 41 3 i0 (.int .i64 0) 1 8 Try.underlying41 hi0 hz0 hz1 hz2 rfl (by decide) (.slice A l0.length c) l0.length inner hown ⟨gv, 0, none⟩ 1 cv innv (by rw [hrv.1]; rfl) (hownv.cells (g := gv) rfl) (impl_inserted.one hrv (by decide) (fun _ _ hp => ((Kd.int .i64)).K_one (((Kd.int .i64)).K_of_M hp))) (by simp only [maxLen]; omega) (by omega) hbase
 refine ⟨v1, w1, hrun, ⟨fun _ _ => trivial, inner ++ innv, by rw [List.length_append]; exact h2, Kd.reps_append (hr.imp_ (fun _ _ hp => impl_inserted.flat hp)) (hrv.imp_ (fun _ _ hp => impl_inserted.flat hp))⟩, hb.grown hg hbase (own_base hown)⟩
set_option maxHeartbeats 4000000 in
set_option maxRecDepth 100000 in
theorem impl_inserted.at_end (base c gv cv : Nat) (l0 : List Int) (x : Int) (ok okv : Nat → Prop) (w0 w : World) (hlim : l0.length < 8796093022208) (A : Option Addr)
  (HO : Kd.R (Kd.int .i64) 3 w base ok (.slice A l0.length c) l0) (HV : Kd.R (Kd.int .i64) 3 w base okv (.slice (some ⟨gv, 0, none⟩) 1 cv) [x]) (hb : Below base w0 w) (hbase : base ≤ w.heap.size) :
  Calls Try.prog 157 #[.slice A l0.length c, .int .i64 (l0.length : Int), .slice (some ⟨gv, 0, none⟩) 1 cv] w fun e w' => ∃ v0_ : Value, e = .returned v0_ ∧ Kd.R (Kd.int .i64) 3 w' base (fun _ => True) v0_ (l0 ++ [x]) ∧ Below base w0 w' := by
 obtain ⟨v1, w1, hap, ho1, hb1⟩ := impl_inserted.end_fact base c gv cv l0 x ok okv w0 w hlim A HO HV hb hbase
 have HO1 := Aside0.mk ho1
 have HB1 := Aside0.mk hb1
 have HO0 := Aside0.mk HO
 have HV0 := Aside0.mk HV
 have HL := Aside0.mk hlim
 have HB := Aside0.mk hb
 have HS := Aside0.mk hbase
 clear HO HV hlim hb hbase ho1 hb1
 go_enter Try.func157, Try.ntmps157
 go_wp2_with (at_builtin; refine impl_inserted.wapp _ rfl _ _ _ _ rfl _ _ rfl rfl hap ?_)
 all_goals
  go_ret
  exact ⟨_, rfl, HO1.out, HB1.out⟩
set_option maxHeartbeats 4000000 in
set_option maxRecDepth 100000 in
theorem impl_inserted.grow_facts (base g gv cv k : Nat) (l0 : List Int) (x : Int) (ok okv : Nat → Prop) (w0 w : World) (hlim : l0.length < 4398046511104) (hk : k < l0.length) (hne : gv ≠ g)
  (HO : Kd.R (Kd.int .i64) 3 w base ok (.slice (some ⟨g, 0, none⟩) l0.length l0.length) l0) (HV : Kd.R (Kd.int .i64) 3 w base okv (.slice (some ⟨gv, 0, none⟩) 1 cv) [x]) (hb : Below base w0 w) (hbase : base ≤ w.heap.size) :
  ∃ (C : Nat) (W1 W2 W3 : World), l0.length + 1 ≤ C ∧
   (Builtin.append_ #[41, 3] 41 #[.slice (some ⟨g, 0, none⟩) k l0.length, .int .i64 ((l0.length : Int) + 1 - (k : Int))]).run Try.prog w = .ok (.slice (some ⟨w.heap.size, 0, none⟩) (l0.length + 1) C) W1 ∧
   (∀ ty dc, (Builtin.copy_ #[41, 41] ty #[.slice (some ⟨w.heap.size, k * 1, none⟩) (l0.length + 1 - k) dc, .slice (some ⟨gv, 0, none⟩) 1 cv]).run Try.prog W1 = .ok (goInt ((1 : Nat) : Int)) W2) ∧
   (∀ ty dc sc, (Builtin.copy_ #[41, 41] ty #[.slice (some ⟨w.heap.size, (k + 1) * 1, none⟩) (l0.length - k) dc, .slice (some ⟨g, k * 1, none⟩) (l0.length - k) sc]).run Try.prog W2.drew = .ok (goInt ((l0.length - k : Nat) : Int)) W3) ∧
   Kd.R (Kd.int .i64) 3 W3 base (fun _ => True) (.slice (some ⟨w.heap.size, 0, none⟩) (l0.length + 1) C) (l0.take k ++ [x] ++ l0.drop k) ∧ Below base w0 W3 := by
 obtain ⟨_, inner, hown, hr⟩ := HO
 obtain ⟨_, innv, hownv, hrv⟩ := HV
 rcases hown.2 with ⟨hv, _⟩ | ⟨g', c', cur, hv, hbg, hh, _, hcm, hcs, htake⟩
 ·
  cases hv
 injection hv with ha _ hcc
 injection ha with ha
 injection ha with hgg
 subst hgg; subst hcc
 rcases hownv.2 with ⟨hv, _⟩ | ⟨g', c', curv, hv, hbgv, hhv, hv1, hcmv, hcsv, htakev⟩
 ·
  cases hv
 injection hv with ha _ hcc
 injection ha with ha
 injection ha with hgg
 subst hgg; subst hcc
 have hil : inner.length = l0.length * 1 := hr.1
 have hivl : innv.length = 1 := by rw [hrv.1]; rfl
 have hx0 := hrv.2 0 x rfl
 have hx1 : (innv.drop (0 * ((Kd.int .i64)).sz)).take ((Kd.int .i64)).sz = innv := by rw [Nat.zero_mul, List.drop_zero]; exact List.take_of_length_le (Nat.le_of_eq hivl)
 rw [hx1] at hx0
 have hsz : (Try.prog.info? 3).map (·.size) = some 1 := by
  have h := info3
  cases hq : Try.prog.info? 3 with
  | none => rw [hq] at h; simp at h
  | some i => rw [hq] at h; simp at h; simp [h]
 have h1i : ∀ u ∈ inner, u.oneCell' = true := impl_inserted.one hr (by decide) (fun _ _ hp => ((Kd.int .i64)).K_one (((Kd.int .i64)).K_of_M hp))
 have h1v : ∀ u ∈ innv, u.oneCell' = true := ((Kd.int .i64)).K_one (((Kd.int .i64)).K_of_M hx0)
 have hsc : cur.size = l0.length * 1 := hcs
 have hscv : curv.size = cv * 1 := hcsv
 have hcur : ∀ q, q < l0.length * 1 → cur.toList[q]? = inner[q]? := by
  intro q hq
  rw [← (show cur.toList.take (l0.length * 1) = inner from htake), List.getElem?_take, if_pos hq]
 have hcv : ∀ (W : World), W.heap[gv]? = some (.cells curv 3 (0, 0)) → ∀ j v, innv[j]? = some v → W.cell? ((⟨gv, 0, none⟩ : Addr).add j) = some v := by
  intro W hW j v hj
  have hlt : j < innv.length := (List.getElem?_eq_some_iff.1 hj).1
  rw [add_plain, cell_of_row W gv _ curv 3 (0, 0) hW, ← Array.getElem?_toList]
  rw [← (show curv.toList.take ([x].length * 1) = innv from htakev), List.getElem?_take] at hj
  rw [if_pos (by simp; omega)] at hj
  exact hj
 have hdl : (inner.drop (k * 1)).length = (l0.length - k) * 1 := by rw [List.length_drop, hil]; omega
 have htl : (inner.take (k * 1)).length = k * 1 := by rw [List.length_take, hil]; omega
 have hgl : g < w.heap.size := blk_lt hh
 have hgvl : gv < w.heap.size := blk_lt hhv
 obtain ⟨i0, hi0, hz0, hz1, hz2⟩ : ∃ i, Try.prog.info? 3 = some i ∧ i.zero = some (.int .i64 0) ∧ i.size = 1 ∧ i.bytes = 8 := by
  have h := info3
  cases hq : Try.prog.info? 3 with
  | none => rw [hq] at h; simp at h
  | some i => rw [hq] at h; simp at h; exact ⟨i, rfl, h.1, h.2.1, h.2.2⟩
 obtain ⟨C, cells, hap, hC, hCm, hCs, hCt⟩ := impl_inserted.az (P := Try.prog) w 41 3 41 3 i0 (.int .i64 0) 1 8 Try.underlying41 Try.underlying3 hi0 hz0 hz1 hz2 rfl (by decide) (by decide) ⟨g, 0, none⟩ k l0.length (inner.take (k * 1)) htl
  (fun j u hu => by
   have hlt : j < (inner.take (k * 1)).length := (List.getElem?_eq_some_iff.1 hu).1
   rw [add_plain, cell_of_row w g _ cur 3 (0, 0) hh, ← Array.getElem?_toList, hcur _ (by omega)]
   rw [List.getElem?_take, if_pos (by omega)] at hu
   exact hu) .i64 (l0.length + 1 - k) (by omega) (by omega) (by omega)
 have hkn : k + (l0.length + 1 - k) = l0.length + 1 := by omega
 have hcast : ((l0.length + 1 - k : Nat) : Int) = (l0.length : Int) + 1 - (k : Int) := by omega
 rw [hkn, hcast] at hap
 rw [hkn] at hC
 obtain ⟨W1, hW1⟩ : ∃ W1, W1 = w.drew.alloc (.cells cells 3) := ⟨_, rfl⟩
 have hG : W1.heap[w.heap.size]? = some (.cells cells 3 (0, 0)) := by rw [hW1]; exact heap_alloc_new w.drew _
 have hold : ∀ q, q < w.heap.size → W1.heap[q]? = w.heap[q]? := fun q hq => by rw [hW1]; exact heap_alloc_old w.drew _ hq
 have hgr1 : w.grownBy W1 none := by rw [hW1]; exact ⟨rfl, rfl, rfl, by simp, fun q hq _ => heap_alloc_old w.drew _ hq⟩
 rw [← hW1] at hap
 have hcp2 : ∀ ty dc, (Builtin.copy_ #[41, 41] ty #[.slice (some ⟨w.heap.size, k * 1, none⟩) (l0.length + 1 - k) dc, .slice (some ⟨gv, 0, none⟩) 1 cv]).run Try.prog W1 = .ok (goInt ((1 : Nat) : Int)) (W1.setCells w.heap.size (k * 1) innv) := fun ty dc =>
  impl_inserted.cp W1 41 ty 3 1 w.heap.size (k * 1) (l0.length + 1 - k) dc ⟨gv, 0, none⟩ 1 cv 1 innv Try.underlying41 hsz (by simp only [Nat.min_def]; split <;> omega) (by rw [hivl])
   (hcv W1 ((hold gv hgvl).trans hhv))
   (fun j hj => by rw [cell_of_row W1 w.heap.size _ cells 3 (0, 0) hG]; simp; omega) (fun j _ => blk_frozen (w := W1) hG _) h1v
 obtain ⟨W2, hW2⟩ : ∃ W2, W2 = W1.setCells w.heap.size (k * 1) innv := ⟨_, rfl⟩
 obtain ⟨c1, hd1, hd2, hd3⟩ := setCells_row innv (k * 1) W1 cells hG (by omega)
 rw [← hW2] at hcp2 hd1
 have hg2 : W2.drew.heap[g]? = some (.cells cur 3 (0, 0)) := by
  show W2.heap[g]? = _
  rw [hW2, setCells_far _ _ g (by omega), hold g hgl, hh]
 have hcp1 : ∀ ty dc sc, (Builtin.copy_ #[41, 41] ty #[.slice (some ⟨w.heap.size, (k + 1) * 1, none⟩) (l0.length - k) dc, .slice (some ⟨g, k * 1, none⟩) (l0.length - k) sc]).run Try.prog W2.drew = .ok (goInt ((l0.length - k : Nat) : Int)) (W2.drew.setCells w.heap.size ((k + 1) * 1) (inner.drop (k * 1))) := fun ty dc sc =>
  impl_inserted.cp W2.drew 41 ty 3 1 w.heap.size ((k + 1) * 1) (l0.length - k) dc ⟨g, k * 1, none⟩ (l0.length - k) sc (l0.length - k) (inner.drop (k * 1)) Try.underlying41 hsz (by simp only [Nat.min_def]; split <;> omega) hdl
   (fun j v hj => by
    have hlt : j < (inner.drop (k * 1)).length := (List.getElem?_eq_some_iff.1 hj).1
    rw [add_at, cell_of_row W2.drew g _ cur 3 (0, 0) hg2, ← Array.getElem?_toList, hcur _ (by omega)]
    rwa [List.getElem?_drop] at hj)
   (fun j hj => by rw [cell_of_row W2.drew w.heap.size _ c1 3 (0, 0) hd1]; simp; omega) (fun j _ => blk_frozen (w := W2.drew) hd1 _) (fun v hv => h1i v (List.mem_of_mem_drop hv))
 have hin2 : k * 1 + innv.length = (k + 1) * 1 := by omega
 obtain ⟨c2, he1, he2, he3⟩ := impl_inserted.two (e := 3) (g := w.heap.size) W1 W2.drew cells innv (inner.drop (k * 1)) (k * 1) hG (by rw [hW2]; rfl) (by omega)
 rw [hin2] at he1
 obtain ⟨W3, hW3⟩ : ∃ W3, W3 = W2.drew.setCells w.heap.size ((k + 1) * 1) (inner.drop (k * 1)) := ⟨_, rfl⟩
 rw [← hW3] at hcp1 he1
 have hB3 : Below base w0 W3 := by
  refine Below.grown hb ?_ hbase (row := none) (fun q hq => by cases hq)
  obtain ⟨s1, s2, s3, s4⟩ := setCells_same w.heap.size (inner.drop (k * 1)) ((k + 1) * 1) W2.drew
  obtain ⟨t1, t2, t3, t4⟩ := setCells_same w.heap.size innv (k * 1) W1
  rw [hW3]
  refine ⟨s1.trans ?_, s2.trans ?_, s3.trans ?_, ?_, fun q hql _ => ?_⟩
  ·
   show W2.os = _; rw [hW2]; exact t1.trans hgr1.os
  ·
   show W2.tape = _; rw [hW2]; exact t2.trans hgr1.tape
  ·
   show W2.output = _; rw [hW2]; exact t3.trans hgr1.output
  ·
   rw [s4]; show _ ≤ W2.heap.size; rw [hW2, t4]; exact hgr1.size
  ·
   rw [setCells_far _ _ q (by omega)]; show W2.heap[q]? = _; rw [hW2, setCells_far _ _ q (by omega)]; exact hold q hql
 have hR3 : Kd.R (Kd.int .i64) 3 W3 base (fun _ => True) (.slice (some ⟨w.heap.size, 0, none⟩) (l0.length + 1) C) (l0.take k ++ [x] ++ l0.drop k) :=
  impl_inserted.mk (Kd.int .i64) 3 W3 base w.heap.size C k c2 l0 x inner innv (hr.imp_ (fun _ _ hp => impl_inserted.flat hp)) (impl_inserted.flat hx0) (by omega) hbase he1 hC hCm (by rw [he2]; exact hCs) (by
   have h6 : k * 1 + innv.length + (inner.drop (k * 1)).length = (l0.length + 1) * 1 := by omega
   rw [h6, hCt] at he3
   exact he3)
 exact ⟨C, W1, W2, W3, hC, hap, hcp2, hcp1, hR3, hB3⟩
set_option maxHeartbeats 4000000 in
set_option maxRecDepth 100000 in
theorem impl_inserted.at_grow (base g gv cv k : Nat) (l0 : List Int) (x : Int) (ok okv : Nat → Prop) (w0 w : World) (hlim : l0.length < 4398046511104) (hk : k < l0.length) (hne : gv ≠ g)
  (HO : Kd.R (Kd.int .i64) 3 w base ok (.slice (some ⟨g, 0, none⟩) l0.length l0.length) l0) (HV : Kd.R (Kd.int .i64) 3 w base okv (.slice (some ⟨gv, 0, none⟩) 1 cv) [x]) (hb : Below base w0 w) (hbase : base ≤ w.heap.size) :
  Calls Try.prog 157 #[.slice (some ⟨g, 0, none⟩) l0.length l0.length, .int .i64 (k : Int), .slice (some ⟨gv, 0, none⟩) 1 cv] w fun e w' => ∃ v0_ : Value, e = .returned v0_ ∧ Kd.R (Kd.int .i64) 3 w' base (fun _ => True) v0_ (l0.take k ++ [x] ++ l0.drop k) ∧ Below base w0 w' := by
 obtain ⟨C, W1, W2, W3, hC, hap, hcp2, hcp1, hR3, hB3⟩ := impl_inserted.grow_facts base g gv cv k l0 x ok okv w0 w hlim hk hne HO HV hb hbase
 have HR3 := Aside0.mk hR3
 have HB3 := Aside0.mk hB3
 simp only [Nat.mul_one] at hcp1 hcp2
 have hlen : l0.length ≤ 9223372036854775807 := by omega
 have n1 : (l0.length = k) = False := eq_false (by omega)
 have n1b : (C = k) = False := eq_false (by omega)
 have n1c : (C = k + 1) = False := eq_false (by omega)
 have n2 : (k = l0.length) = False := eq_false (by omega)
 have n3 : ((k : Int) == (l0.length : Int)) = false := by simp; omega
 have n4 : IntKind.i64.wrap ((l0.length : Int) + 1) = (l0.length : Int) + 1 := by rw [IntKind.wrap_i64]; omega
 have n5 : IntKind.i64.wrap ((l0.length : Int) + 1 - (k : Int)) = (l0.length : Int) + 1 - (k : Int) := by rw [IntKind.wrap_i64]; omega
 have n6 : IntKind.i64.wrap ((k : Int) + 1) = (k : Int) + 1 := by rw [IntKind.wrap_i64]; omega
 have n7 : k ≤ l0.length := by omega
 have n8 : decide ((l0.length : Int) < (l0.length : Int) + 1) = true := decide_eq_true (by omega)
 have n9 : (0 : Int) ≤ (l0.length : Int) + 1 := by omega
 have n12 : ((k : Int) + 1).toNat = k + 1 := by omega
 have n13 : (0 : Int) ≤ (k : Int) + 1 := by omega
 have n14 : (k : Int) ≤ (l0.length : Int) + 1 := by omega
 have n15 : k ≤ l0.length + 1 := by omega
 have mixed : Try.prog.follows Departure.mixedOrders = true := by kernel_rfl
 clear hR3 hB3 HO HV hb hbase hne hk hlim hC
 go_enter Try.func157, Try.ntmps157
 go_wp2_with (first
  | (at_builtin; refine impl_inserted.wapp _ rfl _ _ _ _ rfl _ _ rfl rfl hap ?_)
  | (at_builtin; refine impl_inserted.wcopy _ rfl _ _ 41 41 rfl _ _ rfl rfl (hcp2 _ _) ?_))
 go_region_law_o (refine impl_inserted.scopy rfl _ _ 41 41 rfl _ _ (by simp [Act.eval, Act.put]) (by simp [Act.eval, Act.put]) (hcp1 _ _ _) ?_)
 go_wp2
 go_ret
 exact ⟨_, rfl, HR3.out, HB3.out⟩
set_option maxHeartbeats 4000000 in
set_option maxRecDepth 100000 in
theorem impl_inserted.room_facts (base g c gv cv k : Nat) (l0 : List Int) (x : Int) (ok okv : Nat → Prop) (w0 w : World) (hlim : l0.length < 8796093022208) (hk : k < l0.length) (hc : l0.length < c) (hne : gv ≠ g)
  (HO : Kd.R (Kd.int .i64) 3 w base ok (.slice (some ⟨g, 0, none⟩) l0.length c) l0) (HV : Kd.R (Kd.int .i64) 3 w base okv (.slice (some ⟨gv, 0, none⟩) 1 cv) [x]) (hb : Below base w0 w) (hbase : base ≤ w.heap.size) :
  ∃ W1 W2 : World, (∀ ty dc sc, (Builtin.copy_ #[41, 41] ty #[.slice (some ⟨g, (k + 1) * 1, none⟩) (l0.length - k) dc, .slice (some ⟨g, k * 1, none⟩) (l0.length + 1 - k) sc]).run Try.prog w.drew = .ok (goInt ((l0.length - k : Nat) : Int)) W1) ∧
   (∀ ty dc, (Builtin.copy_ #[41, 41] ty #[.slice (some ⟨g, k * 1, none⟩) (l0.length + 1 - k) dc, .slice (some ⟨gv, 0, none⟩) 1 cv]).run Try.prog W1 = .ok (goInt ((1 : Nat) : Int)) W2) ∧
   Kd.R (Kd.int .i64) 3 W2 base (fun _ => True) (.slice (some ⟨g, 0, none⟩) (l0.length + 1) c) (l0.take k ++ [x] ++ l0.drop k) ∧ Below base w0 W2 ∧
   (∀ lb cb, (callFunc 165 #[.slice (some ⟨gv, 0, none⟩) 1 cv, .slice (some ⟨g, (k + 1) * 1, none⟩) lb cb]).run Try.prog w = .ok (.value (.bool false)) w) := by
 obtain ⟨_, inner, hown, hr⟩ := HO
 obtain ⟨_, innv, hownv, hrv⟩ := HV
 rcases hown.2 with ⟨hv, _⟩ | ⟨g', c', cur, hv, hbg, hh, _, hcm, hcs, htake⟩
 ·
  cases hv
 injection hv with ha _ hcc
 injection ha with ha
 injection ha with hgg
 subst hgg; subst hcc
 rcases hownv.2 with ⟨hv, _⟩ | ⟨g', c', curv, hv, hbgv, hhv, hv1, hcmv, hcsv, htakev⟩
 ·
  cases hv
 injection hv with ha _ hcc
 injection ha with ha
 injection ha with hgg
 subst hgg; subst hcc
 have hil : inner.length = l0.length * 1 := hr.1
 have hivl : innv.length = 1 := by rw [hrv.1]; rfl
 have hx0 := hrv.2 0 x rfl
 have hx1 : (innv.drop (0 * ((Kd.int .i64)).sz)).take ((Kd.int .i64)).sz = innv := by rw [Nat.zero_mul, List.drop_zero]; exact List.take_of_length_le (Nat.le_of_eq hivl)
 rw [hx1] at hx0
 have hsz : (Try.prog.info? 3).map (·.size) = some 1 := by
  have h := info3
  cases hq : Try.prog.info? 3 with
  | none => rw [hq] at h; simp at h
  | some i => rw [hq] at h; simp at h; simp [h]
 have h1i : ∀ u ∈ inner, u.oneCell' = true := impl_inserted.one hr (by decide) (fun _ _ hp => ((Kd.int .i64)).K_one (((Kd.int .i64)).K_of_M hp))
 have h1v : ∀ u ∈ innv, u.oneCell' = true := ((Kd.int .i64)).K_one (((Kd.int .i64)).K_of_M hx0)
 have hsc : cur.size = c * 1 := hcs
 have hscv : curv.size = cv * 1 := hcsv
 have hcur : ∀ q, q < l0.length * 1 → cur.toList[q]? = inner[q]? := by
  intro q hq
  rw [← (show cur.toList.take (l0.length * 1) = inner from htake), List.getElem?_take, if_pos hq]
 have hcv : ∀ (W : World), W.heap[gv]? = some (.cells curv 3 (0, 0)) → ∀ j v, innv[j]? = some v → W.cell? ((⟨gv, 0, none⟩ : Addr).add j) = some v := by
  intro W hW j v hj
  have hlt : j < innv.length := (List.getElem?_eq_some_iff.1 hj).1
  rw [add_plain, cell_of_row W gv _ curv 3 (0, 0) hW, ← Array.getElem?_toList]
  rw [← (show curv.toList.take ([x].length * 1) = innv from htakev), List.getElem?_take] at hj
  rw [if_pos (by simp; omega)] at hj
  exact hj
 have hdl : (inner.drop (k * 1)).length = (l0.length - k) * 1 := by rw [List.length_drop, hil]; omega
 have hcp1 : ∀ ty dc sc, (Builtin.copy_ #[41, 41] ty #[.slice (some ⟨g, (k + 1) * 1, none⟩) (l0.length - k) dc, .slice (some ⟨g, k * 1, none⟩) (l0.length + 1 - k) sc]).run Try.prog w.drew = .ok (goInt ((l0.length - k : Nat) : Int)) (w.drew.setCells g ((k + 1) * 1) (inner.drop (k * 1))) := fun ty dc sc =>
  impl_inserted.cp w.drew 41 ty 3 1 g ((k + 1) * 1) (l0.length - k) dc ⟨g, k * 1, none⟩ (l0.length + 1 - k) sc (l0.length - k) (inner.drop (k * 1)) Try.underlying41 hsz (by simp only [Nat.min_def]; split <;> omega) hdl
   (fun j v hj => by
    have hlt : j < (inner.drop (k * 1)).length := (List.getElem?_eq_some_iff.1 hj).1
    rw [add_at, cell_of_row w.drew g _ cur 3 (0, 0) hh, ← Array.getElem?_toList, hcur _ (by omega)]
    rwa [List.getElem?_drop] at hj)
   (fun j hj => by rw [cell_of_row w.drew g _ cur 3 (0, 0) hh]; simp; omega) (fun j _ => blk_frozen (w := w.drew) hh _) (fun v hv => h1i v (List.mem_of_mem_drop hv))
 obtain ⟨c1, hd1, hd2, hd3⟩ := setCells_row (inner.drop (k * 1)) ((k + 1) * 1) w.drew cur hh (by omega)
 have hfv : (w.drew.setCells g ((k + 1) * 1) (inner.drop (k * 1))).heap[gv]? = some (.cells curv 3 (0, 0)) := (setCells_far _ _ gv hne).trans hhv
 obtain ⟨W1, hW1⟩ : ∃ W1, W1 = w.drew.setCells g ((k + 1) * 1) (inner.drop (k * 1)) := ⟨_, rfl⟩
 rw [← hW1] at hcp1 hd1 hfv
 have hcp2 : ∀ ty dc, (Builtin.copy_ #[41, 41] ty #[.slice (some ⟨g, k * 1, none⟩) (l0.length + 1 - k) dc, .slice (some ⟨gv, 0, none⟩) 1 cv]).run Try.prog W1 = .ok (goInt ((1 : Nat) : Int)) (W1.setCells g (k * 1) innv) := fun ty dc =>
  impl_inserted.cp W1 41 ty 3 1 g (k * 1) (l0.length + 1 - k) dc ⟨gv, 0, none⟩ 1 cv 1 innv Try.underlying41 hsz (by simp only [Nat.min_def]; split <;> omega) (by rw [hivl])
   (hcv W1 hfv)
   (fun j hj => by rw [cell_of_row W1 g _ c1 3 (0, 0) hd1]; simp; omega) (fun j _ => blk_frozen (w := W1) hd1 _) h1v
 have hin2 : k * 1 + innv.length = (k + 1) * 1 := by omega
 obtain ⟨c2, he1, he2, he3⟩ := impl_inserted.two' (e := 3) (g := g) w.drew cur innv (inner.drop (k * 1)) (k * 1) hh (by omega)
 rw [hin2, ← hW1] at he1
 obtain ⟨W2, hW2⟩ : ∃ W2, W2 = W1.setCells g (k * 1) innv := ⟨_, rfl⟩
 rw [← hW2] at hcp2 he1
 have hB2 : Below base w0 W2 := by
  refine Below.grown hb ?_ hbase (row := some g) (fun q hq => by injection hq with hq; omega)
  obtain ⟨s1, s2, s3, s4⟩ := setCells_same g innv (k * 1) W1
  obtain ⟨t1, t2, t3, t4⟩ := setCells_same g (inner.drop (k * 1)) ((k + 1) * 1) w.drew
  rw [hW2]
  refine ⟨s1.trans (by rw [hW1]; exact t1), s2.trans (by rw [hW1]; exact t2), s3.trans (by rw [hW1]; exact t3), by rw [s4, hW1, t4]; exact Nat.le_refl _, fun q _ hq => ?_⟩
  rw [setCells_far _ _ q (fun he => hq (by rw [he])), hW1, setCells_far _ _ q (fun he => hq (by rw [he]))]
  rfl
 have hR2 : Kd.R (Kd.int .i64) 3 W2 base (fun _ => True) (.slice (some ⟨g, 0, none⟩) (l0.length + 1) c) (l0.take k ++ [x] ++ l0.drop k) :=
  impl_inserted.mk (Kd.int .i64) 3 W2 base g c k c2 l0 x inner innv (hr.imp_ (fun _ _ hp => impl_inserted.flat hp)) (impl_inserted.flat hx0) (by omega) hbg he1 (by omega) hcm (by rw [he2, hcs]) (by
   have h5 : cur.toList.take (k * 1) = inner.take (k * 1) := by
    rw [← (show cur.toList.take (l0.length * 1) = inner from htake), List.take_take, Nat.min_eq_left (by omega)]
   have h6 : k * 1 + innv.length + (inner.drop (k * 1)).length = (l0.length + 1) * 1 := by omega
   rw [h6, h5] at he3
   exact he3)
 have hov : ∀ lb cb, (callFunc 165 #[.slice (some ⟨gv, 0, none⟩) 1 cv, .slice (some ⟨g, (k + 1) * 1, none⟩) lb cb]).run Try.prog w = .ok (.value (.bool false)) w := fun lb cb => by
  rw [run_callFunc_extern Try.func165 (by kernel_rfl) (by kernel_rfl) (by kernel_rfl) (e := Extern.SlicesOverlaps.overlaps #[41, 41] #[4]) (by kernel_rfl),
   Lib.run_overlaps_apart w 41 4 3 Try.underlying41 1 Try.sizeOf3 ⟨gv, 0, none⟩ ⟨g, (k + 1) * 1, none⟩ 1 cv lb cb hne 3 3 curv.size cur.size (by simp [World.shape?, hhv]) (by simp [World.shape?, hh]) (by omega) (blk_frozen hhv _) (blk_frozen hhv _)]
  rfl
 exact ⟨W1, W2, hcp1, hcp2, hR2, hB2, hov⟩
set_option maxHeartbeats 4000000 in
set_option maxRecDepth 100000 in
theorem impl_inserted.at_room (base g c gv cv k : Nat) (l0 : List Int) (x : Int) (ok okv : Nat → Prop) (w0 w : World) (hlim : l0.length < 8796093022208) (hk : k < l0.length) (hc : l0.length < c) (hne : gv ≠ g)
  (HO : Kd.R (Kd.int .i64) 3 w base ok (.slice (some ⟨g, 0, none⟩) l0.length c) l0) (HV : Kd.R (Kd.int .i64) 3 w base okv (.slice (some ⟨gv, 0, none⟩) 1 cv) [x]) (hb : Below base w0 w) (hbase : base ≤ w.heap.size) :
  Calls Try.prog 157 #[.slice (some ⟨g, 0, none⟩) l0.length c, .int .i64 (k : Int), .slice (some ⟨gv, 0, none⟩) 1 cv] w fun e w' => ∃ v0_ : Value, e = .returned v0_ ∧ Kd.R (Kd.int .i64) 3 w' base (fun _ => True) v0_ (l0.take k ++ [x] ++ l0.drop k) ∧ Below base w0 w' := by
 obtain ⟨W1, W2, hcp1, hcp2, hR2, hB2, hov⟩ := impl_inserted.room_facts base g c gv cv k l0 x ok okv w0 w hlim hk hc hne HO HV hb hbase
 have HR2 := Aside0.mk hR2
 have HB2 := Aside0.mk hB2
 have HK := Aside0.mk hk
 simp only [Nat.mul_one] at hcp1 hcp2 hov
 have hlen : l0.length ≤ 9223372036854775807 := by omega
 have n1 : (c = k) = False := eq_false (by omega)
 have n1b : (c = k + 1) = False := eq_false (by omega)
 have n2 : (k = l0.length) = False := eq_false (by omega)
 have n3 : ((k : Int) == (l0.length : Int)) = false := by simp; omega
 have n4 : IntKind.i64.wrap ((l0.length : Int) + 1) = (l0.length : Int) + 1 := by rw [IntKind.wrap_i64]; omega
 have n6 : IntKind.i64.wrap ((k : Int) + 1) = (k : Int) + 1 := by rw [IntKind.wrap_i64]; omega
 have n7 : k ≤ l0.length := by omega
 have n8 : decide ((c : Int) < (l0.length : Int) + 1) = false := decide_eq_false (by omega)
 have n9 : (0 : Int) ≤ (l0.length : Int) + 1 := by omega
 have n10 : (l0.length : Int) + 1 ≤ (c : Int) := by omega
 have n11 : ((l0.length : Int) + 1).toNat = l0.length + 1 := by omega
 have n12 : ((k : Int) + 1).toNat = k + 1 := by omega
 have n13 : (0 : Int) ≤ (k : Int) + 1 := by omega
 have n14 : (k : Int) ≤ (l0.length : Int) + 1 := by omega
 have n15 : k ≤ l0.length + 1 := by omega
 have n16 : l0.length + 1 ≤ c := by omega
 have mixed : Try.prog.follows Departure.mixedOrders = true := by kernel_rfl
 clear hR2 hB2 HO HV hb hbase hne hk hc hlim
 go_enter Try.func157, Try.ntmps157
 go_wp2_with (simp only [hov])
 go_region_law_o (refine impl_inserted.scopy rfl _ _ 41 41 rfl _ _ (by simp [Act.eval, Act.put]) (by simp [Act.eval, Act.put]) (hcp1 _ _ _) ?_)
 go_wp2_with (at_builtin; refine impl_inserted.wcopy _ rfl _ _ 41 41 rfl _ _ rfl rfl (hcp2 _ _) ?_)
 go_ret
 exact ⟨_, rfl, HR2.out, HB2.out⟩
set_option maxHeartbeats 4000000 in
theorem impl_inserted.ins (base c gv cv k : Nat) (l0 : List Int) (x : Int) (ok okv : Nat → Prop) (w0 w : World) (hlim : l0.length < 4398046511104) (A : Option Addr) (hk : k ≤ l0.length) (hne : ∀ q, (Value.slice A l0.length c).ownBlock = some q → gv ≠ q)
  (HO : Kd.R (Kd.int .i64) 3 w base ok (.slice A l0.length c) l0) (HV : Kd.R (Kd.int .i64) 3 w base okv (.slice (some ⟨gv, 0, none⟩) 1 cv) [x]) (hb : Below base w0 w) (hbase : base ≤ w.heap.size) :
  Calls Try.prog 157 #[.slice A l0.length c, .int .i64 (k : Int), .slice (some ⟨gv, 0, none⟩) 1 cv] w fun e w' => ∃ v0_ : Value, e = .returned v0_ ∧ Kd.R (Kd.int .i64) 3 w' base (fun _ => True) v0_ (l0.take k ++ [x] ++ l0.drop k) ∧ Below base w0 w' := by
 by_cases hkl : k = l0.length
 ·
  subst hkl
  rw [List.take_length, List.drop_length, List.append_nil]
  exact impl_inserted.at_end base c gv cv l0 x ok okv w0 w (by omega) A HO HV hb hbase
 ·
  obtain ⟨g, cap, he, _, _, _⟩ := Kd.R_form HO (by omega)
  injection he with ha _ hcc
  subst ha; subst hcc
  have hg := hne g (by simp [Value.ownBlock])
  have hc := (Kd.R_reads' HO).2.1
  by_cases hcl : c = l0.length
  ·
   subst hcl
   exact impl_inserted.at_grow base g gv cv k l0 x ok okv w0 w hlim (by omega) hg HO HV hb hbase
  ·
   exact impl_inserted.at_room base g c gv cv k l0 x ok okv w0 w (by omega) (by omega) (by omega) hg HO HV hb hbase
def impl_inserted.f (k : Nat) (l0 : List Int) (a1 : Int) : Option (List Int) :=
 if l0.length < 4398046511104 then ((slices_BinarySearch_int_int.f k l0 a1).bind fun r => if 0 ≤ r.1 ∧ r.1.toNat ≤ l0.length then some (l0.take r.1.toNat ++ [a1] ++ l0.drop r.1.toNat) else none) else none
theorem impl_inserted.mono : ∀ a0 a1 k, LeO (impl_inserted.f k a0 a1) (impl_inserted.f (k + 1) a0 a1) := by
 intro a0 a1 k
 unfold impl_inserted.f
 exact LeO.ite (LeO.bind (slices_BinarySearch_int_int.mono _ _ _) (fun _ => LeO.refl _)) (LeO.none _)
set_option maxHeartbeats 4000000 in
set_option maxRecDepth 100000 in
theorem impl_inserted.calls (k : Nat) (A0 : Option Addr) (c0 : Nat) (l0 : List Int) (a1 : Int) (r : List Int) (w : World) (hr0 : Kd.C (Kd.int .i64) w A0 l0.length l0) (hc0 : l0.length ≤ c0) (h : impl_inserted.f k l0 a1 = some r) :
  Calls Try.prog 136 #[.slice A0 l0.length c0, .int .i64 a1] w fun e w' => ∃ v0_ : Value, e = .returned (v0_) ∧ Kd.R (Kd.int .i64) 3 w' w.heap.size (fun _ => True) v0_ r ∧ Below w.heap.size w w' := by
 have HR0 := Aside0.mk hr0
 have HC0 := Aside0.mk hc0
 have hlen : l0.length ≤ 9223372036854775807 := hr0.2.1
 have mixed : Try.prog.follows Departure.mixedOrders = true := by kernel_rfl
 clear hr0 hc0
 unfold impl_inserted.f at h
 have hlim := ifN h
 replace h := ifT h
 obtain ⟨⟨p, b⟩, hbs, h⟩ := Option.bind_eq_some_iff.1 h
 have hp : 0 ≤ p ∧ p.toNat ≤ l0.length := ifN h
 replace h := ifT h
 obtain ⟨kk, rfl⟩ := Int.eq_ofNat_of_zero_le hp.1
 replace hp : kk ≤ l0.length := hp.2
 replace h := Option.some.inj h
 rw [show (((kk : Nat) : Int), b).1.toNat = kk from rfl] at h
 have HE := Aside0.mk h
 have HL := Aside0.mk hlim
 have HK := Aside0.mk hp
 have HBS := Aside0.mk hbs
 have hcl : slices_Clone_int_int.f l0 = some l0 := by
  unfold slices_Clone_int_int.f
  exact if_pos (by omega)
 have HCL := Aside0.mk hcl
 clear h hlim hp hbs hcl
 go_enter Try.func136, Try.ntmps136
 go_wp2_with (first
  | (go_at_call 156; refine (slices_BinarySearch_int_int.calls k A0 c0 l0 a1 kk b _ HR0.out HC0.out HBS.out).mono ?_; rintro e w1 ⟨rfl, hb1⟩; have B1 := Aside0.mk (show Below w.heap.size w w1 from hb1.below); clear hb1)
  | (go_at_call 90; refine (slices_Clone_int_int.calls A0 c0 l0 l0 _ ?s1 HC0.out HCL.out).mono ?_; (case s1 => exact Kd.C_below HR0.out B1.out); rintro e w2 ⟨v2, rfl, ho2, hb2⟩; obtain ⟨Ao, co, eo⟩ := Kd.R_slice ho2; subst eo; have B2 := Aside0.mk (below_step B1.out hb2); have O2 := Aside0.mk (Kd.R_lower ho2 B1.out.size); have V2 := Aside0.mk (show Kd.R (Kd.int .i64) 3 (w2.alloc (.cells #[.int .i64 a1] 3)) w.heap.size (fun _ => True) (.slice (some ⟨w2.heap.size, 0, none⟩) 1 1) [a1] from ⟨fun _ _ => trivial, [.int .i64 a1], World.ownsRow_lit w2 _ 1 B2.out.size (by decide) rfl, Reps.front rfl rfl (Reps.none _ _) rfl⟩); clear ho2 hb2)
  | (go_at_call 157; refine (impl_inserted.ins w.heap.size co w2.heap.size 1 kk l0 a1 (fun _ => True) (fun _ => True) w _ HL.out Ao HK.out ?t2 ?t3 ?t4 ?t5 ?t6).mono ?_; (case t2 => (intro q hq he; have h1 := Kd.R_lt O2.out q hq; omega)); (case t3 => exact Kd.R_alloc O2.out _); (case t4 => exact V2.out); (case t5 => exact below_alloc B2.out _); (case t6 => exact (below_alloc B2.out _).size); rintro e w5 ⟨v5, rfl, ho5, hb5⟩; rw [HE.out] at ho5; have O5 := Aside0.mk ho5; have B5 := Aside0.mk hb5; clear ho5 hb5))
 go_ret
 exact ⟨_, rfl, O5.out, B5.out⟩

/-! ### impl_AddToStage: function 99 -/
def impl_AddToStage.l0 : Nat → List (S89) → List Int → List (S89) → Int → Int → Option (List Int)
 | 0, _, _, _, _, _ => none
 | k + 1, x0, x5, x16, x17, x18 => if x18 < x17 then (if 0 ≤ x18 then (if x18 < (x16.length : Int) then ((slices_Contains_int_int.f k x5 ((rd_T89 x16 x18).f0)).bind fun t362 => (if t362 = true then (impl_AddToStage.l0 k x0 x5 x16 x17 (wrap64 (x18 + 1))) else ((impl_inserted.f k x5 ((rd_T89 x16 x18).f0)).bind fun t363 => ((impl_IsTogether.f k x0 t363).bind fun t366 => (if t366 = true then (impl_AddToStage.l0 k x0 t363 x16 x17 (wrap64 (x18 + 1))) else (impl_AddToStage.l0 k x0 x5 x16 x17 (wrap64 (x18 + 1)))))))) else (none)) else (none)) else (some x5)
def impl_AddToStage.f (k : Nat) (l0 : List (S89)) (l1 : List Int) : Option (List Int) := (slices_Clone_int_int.f l1).bind fun t356 => ((impl_IsTogether.f k l0 l1).bind fun t359 => (if t359 = true then (impl_AddToStage.l0 k l0 t356 l0 (l0.length : Int) 0) else (some t356)))
theorem impl_AddToStage.mono_l : ∀ k, (∀ y0 y1 y2 y3 y4, LeO (impl_AddToStage.l0 k y0 y1 y2 y3 y4) (impl_AddToStage.l0 (k + 1) y0 y1 y2 y3 y4))
 | 0 => fun _ _ _ _ _ r h => by simp [impl_AddToStage.l0] at h
 | k + 1 => by
  have ih0 := impl_AddToStage.mono_l k
  ·
   intro y0 y1 y2 y3 y4
   unfold impl_AddToStage.l0
   repeat' first | (with_reducible first | exact LeO.refl _ | exact LeO.none _ | refine LeO.ite ?_ ?_ | refine LeO.bind ?_ (fun _ => ?_) | exact ih0 _ _ _ _ _ | exact impl_IsTogether.mono _ _ _ | exact impl_inserted.mono _ _ _ | exact slices_Contains_int_int.mono _ _ _)
theorem impl_AddToStage.mono : ∀ a0 a1 k, LeO (impl_AddToStage.f k a0 a1) (impl_AddToStage.f (k + 1) a0 a1) := by
 intro a0 a1 k
 have ih0 := impl_AddToStage.mono_l k
 unfold impl_AddToStage.f
 repeat' first | (with_reducible first | exact LeO.refl _ | exact LeO.none _ | refine LeO.ite ?_ ?_ | refine LeO.bind ?_ (fun _ => ?_) | exact ih0 _ _ _ _ _ | exact impl_IsTogether.mono _ _ _ | exact impl_inserted.mono _ _ _ | exact slices_Contains_int_int.mono _ _ _)
set_option maxHeartbeats 8000000 in
set_option maxRecDepth 100000 in
theorem impl_AddToStage.calls (k : Nat) (A0 : Option Addr) (c0 : Nat) (l0 : List (S89)) (A1 : Option Addr) (c1 : Nat) (l1 : List Int) (r : List Int) (w : World) (hr0 : Kd.C k89 w A0 l0.length l0) (hc0 : l0.length ≤ c0) (hr1 : Kd.C (Kd.int .i64) w A1 l1.length l1) (hc1 : l1.length ≤ c1) (h : impl_AddToStage.f k l0 l1 = some r) :
  Calls Try.prog 99 #[.slice A0 l0.length c0, .slice A1 l1.length c1] w fun e w' => ∃ v0_ : Value, e = .returned (v0_) ∧ Kd.R (Kd.int .i64) 3 w' w.heap.size (fun _ => True) v0_ r ∧ Below w.heap.size w w' := by
 have hu89 := Try.underlying89
 have HR0 := Aside0.mk hr0
 have HC0 := Aside0.mk hc0
 clear hr0 hc0
 have HR1 := Aside0.mk hr1
 have HC1 := Aside0.mk hc1
 clear hr1 hc1
 have HB := Aside0.mk (Below.refl w.heap.size w)
 have H : ((slices_Clone_int_int.f l1).bind fun t356 => ((impl_IsTogether.f k l0 l1).bind fun t359 => (if t359 = true then (impl_AddToStage.l0 k l0 t356 l0 (l0.length : Int) 0) else (some t356)))) = some r := h
 clear h
 obtain ⟨t356, A3, H⟩ := bindE H
 try dsimp only at H
 obtain ⟨t359, A4, H⟩ := bindE H
 try dsimp only at H
 by_cases c5 : t359 = true
 ·
  subst c5
  have H1 : (impl_AddToStage.l0 k l0 t356 l0 (l0.length : Int) 0) = some r := by rw [if_pos rfl] at H; exact H
  clear H
  have H := H1
  clear H1
  have H' := Aside0.mk H
  clear H
  go_enter Try.func99, Try.ntmps99
  go_wp2_with (first | ((with_reducible refine gate_callee (f := 90) rfl ?_); refine gL (some 10) Try.func90 #[.slice A1 l1.length c1] ?_; (with_reducible refine (slices_Clone_int_int.calls _ _ l1 t356 _ ?side1 ?side2 A3.out).mono ?_); (case side1 => exact cO HR1); (case side2 => exact HC1.out); rintro e w6 ⟨v357, rfl, ho0, hb⟩; refine ⟨_, rfl, ?_⟩; have HO358 := Aside0.mk (Kd.R_lower ho0 (below_size bA)); replace HB := Aside0.mk (below_step bA hb); (try clear hb); (try clear ho0)) | ((with_reducible refine gate_callee (f := 87) rfl ?_); refine gL (some 13) Try.func87 #[.slice A0 l0.length c0, .slice A1 l1.length c1] ?_; (with_reducible refine (impl_IsTogether.calls k _ _ l0 _ _ l1 true _ ?side1 ?side2 ?side3 ?side4 A4.out).mono ?_); (case side1 => exact cB HR0); (case side2 => exact HC0.out); (case side3 => exact cB HR1); (case side4 => exact HC1.out); rintro e w7 ⟨rfl, hb⟩; refine ⟨_, rfl, ?_⟩; replace HO358 := Aside0.mk (Kd.R_below (rK HO358) hb); replace HB := Aside0.mk (below_step bA hb); (try clear hb)))
  go_loopg [5, 18] k (fun kq v5 v18 w' => ∃ (x5_1 : List Int) (x18_1 : Int), v18 = .int .i64 x18_1 ∧ Aside0 (impl_AddToStage.l0 kq l0 x5_1 l0 (l0.length : Int) x18_1 = some r) ∧ Aside0 (kq ≤ k) ∧ Aside0 (Kd.R (Kd.int .i64) 3 w' w.heap.size (fun _ => True) v5 x5_1) ∧ Aside0 (Below w.heap.size w w'))
  case atStart => exact ⟨(t356), (0), rS, H', ⟨Nat.le_refl _⟩, ⟨rK HO358⟩, ⟨bA⟩⟩
  case round =>
   clear H'
   try clear c1
   try clear p2
   try clear c5
   obtain ⟨x5_1, x18_1, rfl, HA, HK1, HO_5, HB⟩ := hrel
   cases gk with
   | zero => exact absurd HA.out (by simp [impl_AddToStage.l0])
   | succ k1 =>
    have H := HA.out
    clear HA
    simp only [impl_AddToStage.l0] at H
    by_cases c8 : x18_1 < (l0.length : Int)
    ·
     rw [if_pos c8] at H
     have c8b0 := decide_eq_true c8
     clear c8
     have c9 : 0 ≤ x18_1 := ifN H
     replace H := ifT H
     have c9b0 := decide_eq_true c9
     clear c9
     have c10 : x18_1 < (l0.length : Int) := ifN H
     replace H := ifT H
     have c10b0 := decide_eq_true c10
     clear c10
     obtain ⟨t362, A11, H⟩ := bindE H
     try dsimp only at H
     by_cases c12 : t362 = true
     ·
      subst c12
      have H1 : (impl_AddToStage.l0 k1 l0 x5_1 l0 (l0.length : Int) (wrap64 (x18_1 + 1))) = some r := by rw [if_pos rfl] at H; exact H
      clear H
      have H := H1
      clear H1
      have H' := Aside0.mk H
      clear H
      have p360 : 0 ≤ (x18_1 : Int) := dA
      have q360 : x18_1 < (l0.length : Int) := dA
      obtain ⟨ad360, e360, hx360_0, hx360_1, hx360_2, hx360_3⟩ := at_T89 HR0.out x18_1 p360 q360
      cases e360
      replace hx360_0 := hC HB hx360_0
      replace hx360_1 := hC HB hx360_1
      replace hx360_2 := hC HB hx360_2
      replace hx360_3 := hC HB hx360_3
      replace p360 := eq_true p360
      replace q360 := eq_true q360
      go_wp2_with (first | ((with_reducible refine gate_dst (N := 7) rfl ?_); refine bE (N := 7) (cs := #[.int .i64 0, .int .i64 0, .int .i64 0, .int .i64 0]) (t := 89) ?_; intro gb361 hg w13 hbox hb; have n0_ := Aside0.mk (Kd.R_below (rK HO_5) hb); have n1_ := Aside0.mk (below_step bA hb); have n2_ := Aside0.mk (hbox); have n3_ := Aside0.mk ((by rw [hg]; exact (below_size bA) : w.heap.size ≤ gb361)); have n4_ := Aside0.mk ((by rw [hg]; exact (below_size bA) : w.heap.size ≤ gb361)); clear HO_5; clear HB; have HO_5 := n0_; have HB := n1_; have BK361 := n2_; have GW361 := n3_; have GE361 := n4_; clear n0_ n1_ n2_ n3_ n4_; clear hb hbox hg; obtain ⟨hcz14_0, hcz14_1, hcz14_2, hcz14_3, hfz14_0, hfz14_1, hfz14_2, hfz14_3⟩ := blkc4 BK361; obtain ⟨Ao15, co15, eo15⟩ := Kd.R_slice HO_5.out; subst eo15) | ((with_reducible refine gate_callee (f := 104) rfl ?_); refine gL (some 25) Try.func104 #[.slice Ao15 x5_1.length co15, .int .i64 ((rd_T89 l0 x18_1).f0)] ?_; (with_reducible refine (slices_Contains_int_int.calls k1 _ _ x5_1 ((rd_T89 l0 x18_1).f0) true _ ?side1 ?side2 A11.out).mono ?_); (case side1 => refine (Kd.R_reads' (e := 3) (base := w.heap.size) (ok := fun k_ => True) (n := x5_1.length) (c := co15) ?_).2.2; exact (by (with_reducible repeat (first | apply Kd.R_alloc | apply Kd.R_drewN | apply Kd.R_drew)); exact (Kd.R_mono (Kd.R_far (p := ⟨gb361, 3, none⟩) (Kd.R_far (p := ⟨gb361, 2, none⟩) (Kd.R_far (p := ⟨gb361, 1, none⟩) (Kd.R_far (p := ⟨gb361, 0, none⟩) (Kd.R_types HO_5.out BK361.out (by decide)) (fun _ hk => hk.2) (.int .i64 ((rd_T89 l0 x18_1).f0))) (fun _ hk => hk.2) (.int .i64 ((rd_T89 l0 x18_1).f1))) (fun _ hk => hk.2) (.int .i64 ((rd_T89 l0 x18_1).f2))) (fun _ hk => hk.2) (.int .i64 ((rd_T89 l0 x18_1).f3))) (fun _ h_ => h_.1)))); (case side2 => exact (Kd.R_reads' HO_5.out).2.1); rintro e w' ⟨rfl, ⟨nd, rfl⟩⟩; refine ⟨_, rfl, ?_⟩))
      go_roundg k1
      case measure => have := HK1.out; omega
      case rel => exact ⟨(x5_1), (wrap64 (x18_1 + 1)), rS, H', ⟨by have := HK1.out; omega⟩, ⟨by (with_reducible repeat (first | apply Kd.R_alloc | apply Kd.R_drewN | apply Kd.R_drew)); exact Kd.R_mono (Kd.R_far (p := ⟨gb361, 3, none⟩) (Kd.R_far (p := ⟨gb361, 2, none⟩) (Kd.R_far (p := ⟨gb361, 1, none⟩) (Kd.R_far (p := ⟨gb361, 0, none⟩) (Kd.R_types HO_5.out BK361.out (by decide)) (fun _ hk => hk.2) (.int .i64 ((rd_T89 l0 x18_1).f0))) (fun _ hk => hk.2) (.int .i64 ((rd_T89 l0 x18_1).f1))) (fun _ hk => hk.2) (.int .i64 ((rd_T89 l0 x18_1).f2))) (fun _ hk => hk.2) (.int .i64 ((rd_T89 l0 x18_1).f3))) (fun _ hk => trivial)⟩, ⟨bG⟩⟩
     ·
      replace c12 := Bool.eq_false_iff.mpr c12
      subst c12
      have H1 : ((impl_inserted.f k1 x5_1 ((rd_T89 l0 x18_1).f0)).bind fun t363 => ((impl_IsTogether.f k1 l0 t363).bind fun t366 => (if t366 = true then (impl_AddToStage.l0 k1 l0 t363 l0 (l0.length : Int) (wrap64 (x18_1 + 1))) else (impl_AddToStage.l0 k1 l0 x5_1 l0 (l0.length : Int) (wrap64 (x18_1 + 1)))))) = some r := by rw [if_neg (show ¬ (false = true) by decide)] at H; exact H
      clear H
      have H := H1
      clear H1
      obtain ⟨t363, A16, H⟩ := bindE H
      try dsimp only at H
      obtain ⟨t366, A17, H⟩ := bindE H
      try dsimp only at H
      by_cases c18 : t366 = true
      ·
       subst c18
       have H1 : (impl_AddToStage.l0 k1 l0 t363 l0 (l0.length : Int) (wrap64 (x18_1 + 1))) = some r := by rw [if_pos rfl] at H; exact H
       clear H
       have H := H1
       clear H1
       have H' := Aside0.mk H
       clear H
       have p360 : 0 ≤ (x18_1 : Int) := dA
       have q360 : x18_1 < (l0.length : Int) := dA
       obtain ⟨ad360, e360, hx360_0, hx360_1, hx360_2, hx360_3⟩ := at_T89 HR0.out x18_1 p360 q360
       cases e360
       replace hx360_0 := hC HB hx360_0
       replace hx360_1 := hC HB hx360_1
       replace hx360_2 := hC HB hx360_2
       replace hx360_3 := hC HB hx360_3
       replace p360 := eq_true p360
       replace q360 := eq_true q360
       go_wp2_with (first | ((with_reducible refine gate_dst (N := 7) rfl ?_); refine bE (N := 7) (cs := #[.int .i64 0, .int .i64 0, .int .i64 0, .int .i64 0]) (t := 89) ?_; intro gb361 hg w19 hbox hb; have n0_ := Aside0.mk (Kd.R_below (rK HO_5) hb); have n1_ := Aside0.mk (below_step bA hb); have n2_ := Aside0.mk (hbox); have n3_ := Aside0.mk ((by rw [hg]; exact (below_size bA) : w.heap.size ≤ gb361)); have n4_ := Aside0.mk ((by rw [hg]; exact (below_size bA) : w.heap.size ≤ gb361)); clear HO_5; clear HB; have HO_5 := n0_; have HB := n1_; have BK361 := n2_; have GW361 := n3_; have GE361 := n4_; clear n0_ n1_ n2_ n3_ n4_; clear hb hbox hg; obtain ⟨hcz20_0, hcz20_1, hcz20_2, hcz20_3, hfz20_0, hfz20_1, hfz20_2, hfz20_3⟩ := blkc4 BK361; obtain ⟨Ao21, co21, eo21⟩ := Kd.R_slice HO_5.out; subst eo21) | ((with_reducible refine gate_callee (f := 104) rfl ?_); refine gL (some 25) Try.func104 #[.slice Ao21 x5_1.length co21, .int .i64 ((rd_T89 l0 x18_1).f0)] ?_; (with_reducible refine (slices_Contains_int_int.calls k1 _ _ x5_1 ((rd_T89 l0 x18_1).f0) false _ ?side1 ?side2 A11.out).mono ?_); (case side1 => refine (Kd.R_reads' (e := 3) (base := w.heap.size) (ok := fun k_ => True) (n := x5_1.length) (c := co21) ?_).2.2; exact (by (with_reducible repeat (first | apply Kd.R_alloc | apply Kd.R_drewN | apply Kd.R_drew)); exact (Kd.R_mono (Kd.R_far (p := ⟨gb361, 3, none⟩) (Kd.R_far (p := ⟨gb361, 2, none⟩) (Kd.R_far (p := ⟨gb361, 1, none⟩) (Kd.R_far (p := ⟨gb361, 0, none⟩) (Kd.R_types HO_5.out BK361.out (by decide)) (fun _ hk => hk.2) (.int .i64 ((rd_T89 l0 x18_1).f0))) (fun _ hk => hk.2) (.int .i64 ((rd_T89 l0 x18_1).f1))) (fun _ hk => hk.2) (.int .i64 ((rd_T89 l0 x18_1).f2))) (fun _ hk => hk.2) (.int .i64 ((rd_T89 l0 x18_1).f3))) (fun _ h_ => h_.1)))); (case side2 => exact (Kd.R_reads' HO_5.out).2.1); rintro e w' ⟨rfl, ⟨nd, rfl⟩⟩; refine ⟨_, rfl, ?_⟩) | ((with_reducible refine gate_callee (f := 136) rfl ?_); refine gL (some 29) Try.func136 #[.slice Ao21 x5_1.length co21, .int .i64 ((rd_T89 l0 x18_1).f0)] ?_; (with_reducible refine (impl_inserted.calls k1 _ _ x5_1 ((rd_T89 l0 x18_1).f0) t363 _ ?side1 ?side2 A16.out).mono ?_); (case side1 => refine (Kd.R_reads' (e := 3) (base := w.heap.size) (ok := fun k_ => True) (n := x5_1.length) (c := co21) ?_).2.2; exact (by (with_reducible repeat (first | apply Kd.R_alloc | apply Kd.R_drewN | apply Kd.R_drew)); exact (Kd.R_mono (Kd.R_far (p := ⟨gb361, 3, none⟩) (Kd.R_far (p := ⟨gb361, 2, none⟩) (Kd.R_far (p := ⟨gb361, 1, none⟩) (Kd.R_far (p := ⟨gb361, 0, none⟩) (Kd.R_types HO_5.out BK361.out (by decide)) (fun _ hk => hk.2) (.int .i64 ((rd_T89 l0 x18_1).f0))) (fun _ hk => hk.2) (.int .i64 ((rd_T89 l0 x18_1).f1))) (fun _ hk => hk.2) (.int .i64 ((rd_T89 l0 x18_1).f2))) (fun _ hk => hk.2) (.int .i64 ((rd_T89 l0 x18_1).f3))) (fun _ h_ => h_.1)))); (case side2 => exact (Kd.R_reads' HO_5.out).2.1); rintro e w22 ⟨v364, rfl, ho0, hb⟩; refine ⟨_, rfl, ?_⟩; have n0_ := Aside0.mk (Kd.R_elder' (by (with_reducible repeat (first | apply Kd.R_alloc | apply Kd.R_drewN | apply Kd.R_drew)); exact (Kd.R_mono (Kd.R_far (p := ⟨gb361, 3, none⟩) (Kd.R_far (p := ⟨gb361, 2, none⟩) (Kd.R_far (p := ⟨gb361, 1, none⟩) (Kd.R_far (p := ⟨gb361, 0, none⟩) (Kd.R_types HO_5.out BK361.out (by decide)) (fun _ hk => hk.2) (.int .i64 ((rd_T89 l0 x18_1).f0))) (fun _ hk => hk.2) (.int .i64 ((rd_T89 l0 x18_1).f1))) (fun _ hk => hk.2) (.int .i64 ((rd_T89 l0 x18_1).f2))) (fun _ hk => hk.2) (.int .i64 ((rd_T89 l0 x18_1).f3))) (fun _ h_ => h_.1))) (Kd.R_base ho0) hb); have n1_ := Aside0.mk (Kd.R_lower (Kd.R_new' ho0 (Kd.R_lt (by (with_reducible repeat (first | apply Kd.R_alloc | apply Kd.R_drewN | apply Kd.R_drew)); exact (Kd.R_mono (Kd.R_far (p := ⟨gb361, 3, none⟩) (Kd.R_far (p := ⟨gb361, 2, none⟩) (Kd.R_far (p := ⟨gb361, 1, none⟩) (Kd.R_far (p := ⟨gb361, 0, none⟩) (Kd.R_types HO_5.out BK361.out (by decide)) (fun _ hk => hk.2) (.int .i64 ((rd_T89 l0 x18_1).f0))) (fun _ hk => hk.2) (.int .i64 ((rd_T89 l0 x18_1).f1))) (fun _ hk => hk.2) (.int .i64 ((rd_T89 l0 x18_1).f2))) (fun _ hk => hk.2) (.int .i64 ((rd_T89 l0 x18_1).f3))) (fun _ h_ => h_.1))))) (below_size bG)); have n2_ := Aside0.mk (blk_below (g := gb361) (o := .cells #[.int .i64 ((rd_T89 l0 x18_1).f0), .int .i64 ((rd_T89 l0 x18_1).f1), .int .i64 ((rd_T89 l0 x18_1).f2), .int .i64 ((rd_T89 l0 x18_1).f3)] 89 (0, 0)) (by (with_reducible repeat (first | refine blk_drewN ?_ _ | refine blk_drew ?_ | refine blk_alloc ?_ _)); refine blk_put (cs := #[.int .i64 ((rd_T89 l0 x18_1).f0), .int .i64 ((rd_T89 l0 x18_1).f1), .int .i64 ((rd_T89 l0 x18_1).f2), .int .i64 0]) ?_ 3 _ rfl; (with_reducible repeat (first | refine blk_drewN ?_ _ | refine blk_drew ?_ | refine blk_alloc ?_ _)); refine blk_put (cs := #[.int .i64 ((rd_T89 l0 x18_1).f0), .int .i64 ((rd_T89 l0 x18_1).f1), .int .i64 0, .int .i64 0]) ?_ 2 _ rfl; (with_reducible repeat (first | refine blk_drewN ?_ _ | refine blk_drew ?_ | refine blk_alloc ?_ _)); refine blk_put (cs := #[.int .i64 ((rd_T89 l0 x18_1).f0), .int .i64 0, .int .i64 0, .int .i64 0]) ?_ 1 _ rfl; (with_reducible repeat (first | refine blk_drewN ?_ _ | refine blk_drew ?_ | refine blk_alloc ?_ _)); refine blk_put (cs := #[.int .i64 0, .int .i64 0, .int .i64 0, .int .i64 0]) ?_ 0 _ rfl; (with_reducible repeat (first | refine blk_drewN ?_ _ | refine blk_drew ?_ | refine blk_alloc ?_ _)); exact BK361.out) hb); have n3_ := Aside0.mk (below_step bG hb); clear HO_5; clear BK361; clear HB; have HO_5 := n0_; have HO365 := n1_; have BK361 := n2_; have HB := n3_; clear n0_ n1_ n2_ n3_; (try clear hb); (try clear ho0); obtain ⟨Ao23, co23, eo23⟩ := Kd.R_slice HO365.out; subst eo23) | ((with_reducible refine gate_callee (f := 87) rfl ?_); refine gL (some 32) Try.func87 #[.slice (some ad360) l0.length c0, .slice Ao23 t363.length co23] ?_; (with_reducible refine (impl_IsTogether.calls k1 _ _ l0 _ _ t363 true _ ?side1 ?side2 ?side3 ?side4 A17.out).mono ?_); (case side1 => exact cB HR0); (case side2 => exact HC0.out); (case side3 => exact cO ⟨(Kd.R_reads' HO365.out).2.2⟩); (case side4 => exact (Kd.R_reads' HO365.out).2.1); rintro e w24 ⟨rfl, hb⟩; refine ⟨_, rfl, ?_⟩; replace HO_5 := Aside0.mk (Kd.R_below (rK HO_5) hb); replace HO365 := Aside0.mk (Kd.R_below (rK HO365) hb); replace BK361 := Aside0.mk (blk_below (g := gb361) (bK BK361) hb); replace HB := Aside0.mk (below_step bG hb); (try clear hb)))
       go_roundg k1
       case measure => have := HK1.out; omega
       case rel => exact ⟨(t363), (wrap64 (x18_1 + 1)), rS, H', ⟨by have := HK1.out; omega⟩, ⟨by (with_reducible repeat (first | apply Kd.R_alloc | apply Kd.R_drewN | apply Kd.R_drew)); exact Kd.R_mono HO365.out (fun _ hk => trivial)⟩, ⟨bG⟩⟩
      ·
       replace c18 := Bool.eq_false_iff.mpr c18
       subst c18
       have H1 : (impl_AddToStage.l0 k1 l0 x5_1 l0 (l0.length : Int) (wrap64 (x18_1 + 1))) = some r := by rw [if_neg (show ¬ (false = true) by decide)] at H; exact H
       clear H
       have H := H1
       clear H1
       have H' := Aside0.mk H
       clear H
       have p360 : 0 ≤ (x18_1 : Int) := dA
       have q360 : x18_1 < (l0.length : Int) := dA
       obtain ⟨ad360, e360, hx360_0, hx360_1, hx360_2, hx360_3⟩ := at_T89 HR0.out x18_1 p360 q360
       cases e360
       replace hx360_0 := hC HB hx360_0
       replace hx360_1 := hC HB hx360_1
       replace hx360_2 := hC HB hx360_2
       replace hx360_3 := hC HB hx360_3
       replace p360 := eq_true p360
       replace q360 := eq_true q360
       go_wp2_with (first | ((with_reducible refine gate_dst (N := 7) rfl ?_); refine bE (N := 7) (cs := #[.int .i64 0, .int .i64 0, .int .i64 0, .int .i64 0]) (t := 89) ?_; intro gb361 hg w25 hbox hb; have n0_ := Aside0.mk (Kd.R_below (rK HO_5) hb); have n1_ := Aside0.mk (below_step bA hb); have n2_ := Aside0.mk (hbox); have n3_ := Aside0.mk ((by rw [hg]; exact (below_size bA) : w.heap.size ≤ gb361)); have n4_ := Aside0.mk ((by rw [hg]; exact (below_size bA) : w.heap.size ≤ gb361)); clear HO_5; clear HB; have HO_5 := n0_; have HB := n1_; have BK361 := n2_; have GW361 := n3_; have GE361 := n4_; clear n0_ n1_ n2_ n3_ n4_; clear hb hbox hg; obtain ⟨hcz26_0, hcz26_1, hcz26_2, hcz26_3, hfz26_0, hfz26_1, hfz26_2, hfz26_3⟩ := blkc4 BK361; obtain ⟨Ao27, co27, eo27⟩ := Kd.R_slice HO_5.out; subst eo27) | ((with_reducible refine gate_callee (f := 104) rfl ?_); refine gL (some 25) Try.func104 #[.slice Ao27 x5_1.length co27, .int .i64 ((rd_T89 l0 x18_1).f0)] ?_; (with_reducible refine (slices_Contains_int_int.calls k1 _ _ x5_1 ((rd_T89 l0 x18_1).f0) false _ ?side1 ?side2 A11.out).mono ?_); (case side1 => refine (Kd.R_reads' (e := 3) (base := w.heap.size) (ok := fun k_ => True) (n := x5_1.length) (c := co27) ?_).2.2; exact (by (with_reducible repeat (first | apply Kd.R_alloc | apply Kd.R_drewN | apply Kd.R_drew)); exact (Kd.R_mono (Kd.R_far (p := ⟨gb361, 3, none⟩) (Kd.R_far (p := ⟨gb361, 2, none⟩) (Kd.R_far (p := ⟨gb361, 1, none⟩) (Kd.R_far (p := ⟨gb361, 0, none⟩) (Kd.R_types HO_5.out BK361.out (by decide)) (fun _ hk => hk.2) (.int .i64 ((rd_T89 l0 x18_1).f0))) (fun _ hk => hk.2) (.int .i64 ((rd_T89 l0 x18_1).f1))) (fun _ hk => hk.2) (.int .i64 ((rd_T89 l0 x18_1).f2))) (fun _ hk => hk.2) (.int .i64 ((rd_T89 l0 x18_1).f3))) (fun _ h_ => h_.1)))); (case side2 => exact (Kd.R_reads' HO_5.out).2.1); rintro e w' ⟨rfl, ⟨nd, rfl⟩⟩; refine ⟨_, rfl, ?_⟩) | ((with_reducible refine gate_callee (f := 136) rfl ?_); refine gL (some 29) Try.func136 #[.slice Ao27 x5_1.length co27, .int .i64 ((rd_T89 l0 x18_1).f0)] ?_; (with_reducible refine (impl_inserted.calls k1 _ _ x5_1 ((rd_T89 l0 x18_1).f0) t363 _ ?side1 ?side2 A16.out).mono ?_); (case side1 => refine (Kd.R_reads' (e := 3) (base := w.heap.size) (ok := fun k_ => True) (n := x5_1.length) (c := co27) ?_).2.2; exact (by (with_reducible repeat (first | apply Kd.R_alloc | apply Kd.R_drewN | apply Kd.R_drew)); exact (Kd.R_mono (Kd.R_far (p := ⟨gb361, 3, none⟩) (Kd.R_far (p := ⟨gb361, 2, none⟩) (Kd.R_far (p := ⟨gb361, 1, none⟩) (Kd.R_far (p := ⟨gb361, 0, none⟩) (Kd.R_types HO_5.out BK361.out (by decide)) (fun _ hk => hk.2) (.int .i64 ((rd_T89 l0 x18_1).f0))) (fun _ hk => hk.2) (.int .i64 ((rd_T89 l0 x18_1).f1))) (fun _ hk => hk.2) (.int .i64 ((rd_T89 l0 x18_1).f2))) (fun _ hk => hk.2) (.int .i64 ((rd_T89 l0 x18_1).f3))) (fun _ h_ => h_.1)))); (case side2 => exact (Kd.R_reads' HO_5.out).2.1); rintro e w28 ⟨v364, rfl, ho0, hb⟩; refine ⟨_, rfl, ?_⟩; have n0_ := Aside0.mk (Kd.R_elder' (by (with_reducible repeat (first | apply Kd.R_alloc | apply Kd.R_drewN | apply Kd.R_drew)); exact (Kd.R_mono (Kd.R_far (p := ⟨gb361, 3, none⟩) (Kd.R_far (p := ⟨gb361, 2, none⟩) (Kd.R_far (p := ⟨gb361, 1, none⟩) (Kd.R_far (p := ⟨gb361, 0, none⟩) (Kd.R_types HO_5.out BK361.out (by decide)) (fun _ hk => hk.2) (.int .i64 ((rd_T89 l0 x18_1).f0))) (fun _ hk => hk.2) (.int .i64 ((rd_T89 l0 x18_1).f1))) (fun _ hk => hk.2) (.int .i64 ((rd_T89 l0 x18_1).f2))) (fun _ hk => hk.2) (.int .i64 ((rd_T89 l0 x18_1).f3))) (fun _ h_ => h_.1))) (Kd.R_base ho0) hb); have n1_ := Aside0.mk (Kd.R_lower (Kd.R_new' ho0 (Kd.R_lt (by (with_reducible repeat (first | apply Kd.R_alloc | apply Kd.R_drewN | apply Kd.R_drew)); exact (Kd.R_mono (Kd.R_far (p := ⟨gb361, 3, none⟩) (Kd.R_far (p := ⟨gb361, 2, none⟩) (Kd.R_far (p := ⟨gb361, 1, none⟩) (Kd.R_far (p := ⟨gb361, 0, none⟩) (Kd.R_types HO_5.out BK361.out (by decide)) (fun _ hk => hk.2) (.int .i64 ((rd_T89 l0 x18_1).f0))) (fun _ hk => hk.2) (.int .i64 ((rd_T89 l0 x18_1).f1))) (fun _ hk => hk.2) (.int .i64 ((rd_T89 l0 x18_1).f2))) (fun _ hk => hk.2) (.int .i64 ((rd_T89 l0 x18_1).f3))) (fun _ h_ => h_.1))))) (below_size bG)); have n2_ := Aside0.mk (blk_below (g := gb361) (o := .cells #[.int .i64 ((rd_T89 l0 x18_1).f0), .int .i64 ((rd_T89 l0 x18_1).f1), .int .i64 ((rd_T89 l0 x18_1).f2), .int .i64 ((rd_T89 l0 x18_1).f3)] 89 (0, 0)) (by (with_reducible repeat (first | refine blk_drewN ?_ _ | refine blk_drew ?_ | refine blk_alloc ?_ _)); refine blk_put (cs := #[.int .i64 ((rd_T89 l0 x18_1).f0), .int .i64 ((rd_T89 l0 x18_1).f1), .int .i64 ((rd_T89 l0 x18_1).f2), .int .i64 0]) ?_ 3 _ rfl; (with_reducible repeat (first | refine blk_drewN ?_ _ | refine blk_drew ?_ | refine blk_alloc ?_ _)); refine blk_put (cs := #[.int .i64 ((rd_T89 l0 x18_1).f0), .int .i64 ((rd_T89 l0 x18_1).f1), .int .i64 0, .int .i64 0]) ?_ 2 _ rfl; (with_reducible repeat (first | refine blk_drewN ?_ _ | refine blk_drew ?_ | refine blk_alloc ?_ _)); refine blk_put (cs := #[.int .i64 ((rd_T89 l0 x18_1).f0), .int .i64 0, .int .i64 0, .int .i64 0]) ?_ 1 _ rfl; (with_reducible repeat (first | refine blk_drewN ?_ _ | refine blk_drew ?_ | refine blk_alloc ?_ _)); refine blk_put (cs := #[.int .i64 0, .int .i64 0, .int .i64 0, .int .i64 0]) ?_ 0 _ rfl; (with_reducible repeat (first | refine blk_drewN ?_ _ | refine blk_drew ?_ | refine blk_alloc ?_ _)); exact BK361.out) hb); have n3_ := Aside0.mk (below_step bG hb); clear HO_5; clear BK361; clear HB; have HO_5 := n0_; have HO365 := n1_; have BK361 := n2_; have HB := n3_; clear n0_ n1_ n2_ n3_; (try clear hb); (try clear ho0); obtain ⟨Ao29, co29, eo29⟩ := Kd.R_slice HO365.out; subst eo29) | ((with_reducible refine gate_callee (f := 87) rfl ?_); refine gL (some 32) Try.func87 #[.slice (some ad360) l0.length c0, .slice Ao29 t363.length co29] ?_; (with_reducible refine (impl_IsTogether.calls k1 _ _ l0 _ _ t363 false _ ?side1 ?side2 ?side3 ?side4 A17.out).mono ?_); (case side1 => exact cB HR0); (case side2 => exact HC0.out); (case side3 => exact cO ⟨(Kd.R_reads' HO365.out).2.2⟩); (case side4 => exact (Kd.R_reads' HO365.out).2.1); rintro e w30 ⟨rfl, hb⟩; refine ⟨_, rfl, ?_⟩; replace HO_5 := Aside0.mk (Kd.R_below (rK HO_5) hb); replace HO365 := Aside0.mk (Kd.R_below (rK HO365) hb); replace BK361 := Aside0.mk (blk_below (g := gb361) (bK BK361) hb); replace HB := Aside0.mk (below_step bG hb); (try clear hb)))
       go_roundg k1
       case measure => have := HK1.out; omega
       case rel => exact ⟨(x5_1), (wrap64 (x18_1 + 1)), rS, H', ⟨by have := HK1.out; omega⟩, ⟨by (with_reducible repeat (first | apply Kd.R_alloc | apply Kd.R_drewN | apply Kd.R_drew)); exact Kd.R_mono HO_5.out (fun _ hk => trivial)⟩, ⟨bG⟩⟩
    ·
     rw [if_neg c8] at H
     have c8b0 := decide_eq_false c8
     clear c8
     obtain rfl := Option.some.inj H
     go_wp2
     go_ret
     exact ⟨_, by first | rfl | (simp [errW_none, errW_some] <;> rfl) | (simp [*, errW_none, errW_some] <;> rfl), by (with_reducible repeat (first | apply Kd.R_alloc | apply Kd.R_drewN | apply Kd.R_drew)); exact HO_5.out, bA⟩
 ·
  replace c5 := Bool.eq_false_iff.mpr c5
  subst c5
  have H1 : (some t356) = some r := by rw [if_neg (show ¬ (false = true) by decide)] at H; exact H
  clear H
  have H := H1
  clear H1
  obtain rfl := Option.some.inj H
  go_enter Try.func99, Try.ntmps99
  go_wp2_with (first | ((with_reducible refine gate_callee (f := 90) rfl ?_); refine gL (some 10) Try.func90 #[.slice A1 l1.length c1] ?_; (with_reducible refine (slices_Clone_int_int.calls _ _ l1 t356 _ ?side1 ?side2 A3.out).mono ?_); (case side1 => exact cO HR1); (case side2 => exact HC1.out); rintro e w31 ⟨v357, rfl, ho0, hb⟩; refine ⟨_, rfl, ?_⟩; have HO358 := Aside0.mk (Kd.R_lower ho0 (below_size bA)); replace HB := Aside0.mk (below_step bA hb); (try clear hb); (try clear ho0)) | ((with_reducible refine gate_callee (f := 87) rfl ?_); refine gL (some 13) Try.func87 #[.slice A0 l0.length c0, .slice A1 l1.length c1] ?_; (with_reducible refine (impl_IsTogether.calls k _ _ l0 _ _ l1 false _ ?side1 ?side2 ?side3 ?side4 A4.out).mono ?_); (case side1 => exact cB HR0); (case side2 => exact HC0.out); (case side3 => exact cB HR1); (case side4 => exact HC1.out); rintro e w32 ⟨rfl, hb⟩; refine ⟨_, rfl, ?_⟩; replace HO358 := Aside0.mk (Kd.R_below (rK HO358) hb); replace HB := Aside0.mk (below_step bA hb); (try clear hb)))
  go_ret
  exact ⟨_, by first | rfl | (simp [errW_none, errW_some] <;> rfl) | (simp [*, errW_none, errW_some] <;> rfl), by (with_reducible repeat (first | apply Kd.R_alloc | apply Kd.R_drewN | apply Kd.R_drew)); exact HO358.out, bA⟩

/-! ### impl_isCovered: function 127 -/
theorem impl_isCovered.has_loop (l : List Int) (x : Int) (hl : l.length ≤ 9223372036854775807) : ∀ d i, i + d = l.length → ∃ r : Int, slices_Index_int_int.l0 (d + 1) l x (l.length : Int) (i : Int) = some r ∧ (0 ≤ r ↔ x ∈ l.drop i)
 | 0, i, h => by
  refine ⟨-1, ?_, ?_⟩
  ·
   rw [slices_Index_int_int.l0, if_neg (by omega)]
  ·
   rw [List.drop_of_length_le (by omega)]; simp
 | d + 1, i, h => by
  have hi : i < l.length := by omega
  have e : rd l (i : Int) = l[i] := by unfold rd; simp [List.getD_eq_getElem?_getD, List.getElem?_eq_getElem hi]
  rw [slices_Index_int_int.l0, if_pos (by omega), if_pos (by omega), if_pos (by omega), e, List.drop_eq_getElem_cons hi]
  by_cases c : x = l[i]
  ·
   exact ⟨i, if_pos c, ⟨fun _ => by rw [c]; exact List.mem_cons_self .., fun _ => by omega⟩⟩
  ·
   obtain ⟨r, h1, h2⟩ := impl_isCovered.has_loop l x hl d (i + 1) (by omega)
   refine ⟨r, ?_, h2.trans ⟨fun hh => List.mem_cons_of_mem _ hh, fun hh => (List.mem_cons.1 hh).resolve_left c⟩⟩
   rw [if_neg c, show wrap64 ((i : Int) + 1) = ((i + 1 : Nat) : Int) by unfold wrap64; omega]
   exact h1
theorem impl_isCovered.has (l : List Int) (x : Int) (hl : l.length ≤ 9223372036854775807) : slices_Contains_int_int.f (l.length + 1) l x = some (decide (x ∈ l)) := by
 obtain ⟨r, h1, h2⟩ := impl_isCovered.has_loop l x hl l.length 0 (by omega)
 unfold slices_Contains_int_int.f slices_Index_int_int.f
 have h1 : slices_Index_int_int.l0 (l.length + 1) l x (l.length : Int) 0 = some r := h1
 rw [h1, Option.bind_some]
 congr 1
 exact decide_eq_decide.2 (by rw [List.drop_zero] at h2; exact h2)
def impl_isCovered.q (id : Int) (x : List Int) : Bool := decide (id ∈ x)
set_option maxHeartbeats 400000 in
set_option maxRecDepth 100000 in
theorem impl_isCovered.clo (id : Int) (g : Nat) (A0 : Option Addr) (c0 : Nat) (x : List Int) (w : World) (hc : w.cell? ⟨g, 0, none⟩ = some (.int .i64 id)) (hr : Kd.C (Kd.int .i64) w A0 x.length x) (hk : x.length ≤ c0) :
  Calls Try.prog 148 #[.slice A0 x.length c0, .pointer (some ⟨g, 0, none⟩)] w fun e w' => e = .returned (.bool (impl_isCovered.q id x)) ∧ Below w.heap.size w w' := by
 have hg : g < w.heap.size := World.block_lt_of_cell? w _ hc
 have HI := Aside0.mk (impl_isCovered.has x id hr.2.1)
 have HR := Aside0.mk hr
 have HK := Aside0.mk hk
 clear hr hk
 go_enter Try.func148, Try.ntmps148
 go_wp2_with (go_at_call 104; refine (slices_Contains_int_int.calls _ _ _ x id _ _ ?s1 HK.out HI.out).mono ?_; (case s1 => first | exact HR.out | exact Kd.C_drew HR.out | exact Kd.C_alloc HR.out _); rintro e w1 ⟨rfl, hb1⟩)
 go_ret
 exact ⟨rfl, hb1.below⟩
def impl_isCovered.ix (id : Int) : List (List Int) → Int → Int
 | [], _ => -1
 | x :: l, i => if impl_isCovered.q id x = true then i else impl_isCovered.ix id l (i + 1)
theorem impl_isCovered.ix_hit (id : Int) : ∀ (l : List (List Int)) (i : Int) (m : Nat) (hm : m < l.length), (∀ j (hj : j < m), impl_isCovered.q id (l[j]'(by omega)) = false) → impl_isCovered.q id l[m] = true → impl_isCovered.ix id l i = i + m
 | [], i, m, hm, _, _ => absurd hm (by simp)
 | p :: l, i, 0, hm, _, h => by
  unfold impl_isCovered.ix
  rw [if_pos (show impl_isCovered.q id p = true from h)]
  simp
 | p :: l, i, m + 1, hm, hne, h => by
  unfold impl_isCovered.ix
  have h2 : impl_isCovered.q id p = false := hne 0 (by omega)
  rw [if_neg (by rw [h2]; decide), impl_isCovered.ix_hit id l (i + 1) m (by simpa using hm) (fun j hj => hne (j + 1) (by omega)) h]
  omega
theorem impl_isCovered.ix_miss (id : Int) : ∀ (l : List (List Int)) (i : Int), (∀ j (hj : j < l.length), impl_isCovered.q id l[j] = false) → impl_isCovered.ix id l i = -1
 | [], i, _ => rfl
 | p :: l, i, h => by
  unfold impl_isCovered.ix
  have h2 : impl_isCovered.q id p = false := h 0 (by simp)
  rw [if_neg (by rw [h2]; decide), impl_isCovered.ix_miss id l (i + 1) (fun j hj => h (j + 1) (by simpa using hj))]
theorem impl_isCovered.rd_ (l : List (List Int)) (j : Nat) (hj : j < l.length) : rd_L3 l (j : Int) = l[j] := by
 unfold rd_L3; simp [List.getD_eq_getElem?_getD, List.getElem?_eq_getElem hj]
set_option maxHeartbeats 4000000 in
set_option maxRecDepth 100000 in
theorem impl_isCovered.idx (id : Int) (g : Nat) (A0 : Option Addr) (c0 : Nat) (l0 : List (List Int)) (w : World) (hr0 : Kd.C (Kd.slice 3 (Kd.int .i64)) w A0 l0.length l0) (hc0 : l0.length ≤ c0) (hc : w.cell? ⟨g, 0, none⟩ = some (.int .i64 id)) :
  Calls Try.prog 162 #[.slice A0 l0.length c0, .func (.func 148) #[] #[.pointer (some ⟨g, 0, none⟩)]] w fun e w' => e = .returned (.int .i64 (impl_isCovered.ix id l0 0)) ∧ Below w.heap.size w w' := by
 have HC := Aside0.mk hc
 clear hc
 have HR0 := Aside0.mk hr0
 have HC0 := Aside0.mk hc0
 have hlen : l0.length ≤ 9223372036854775807 := hr0.2.1
 clear hr0 hc0
 have HB := Aside0.mk (Below.refl w.heap.size w)
 go_enter Try.func162, Try.ntmps162
 go_wp2
 go_loopg [5, 8] l0.length (fun gg v5 v8 w' => ∃ kk : Nat, v8 = .int .i64 kk ∧ Aside0 (kk ≤ l0.length) ∧ Aside0 (l0.length - kk ≤ gg) ∧ Aside0 (Below w.heap.size w w') ∧ Aside0 (∀ j (hj : j < kk) (hl : j < l0.length), impl_isCovered.q id l0[j] = false))
 case atStart => exact ⟨0, rfl, ⟨Nat.zero_le _⟩, ⟨by omega⟩, HB, ⟨fun j hj => absurd hj (Nat.not_lt_zero _)⟩⟩
 case round =>
  clear HB
  obtain ⟨kk, rfl, hk, hg, HB, HA⟩ := hrel
  by_cases hlt : kk < l0.length
  ·
   have hltz : decide ((kk : Int) < (l0.length : Int)) = true := decide_eq_true (by omega)
   have hltn : decide (kk < l0.length) = true := decide_eq_true hlt
   have p0 : (0 : Int) ≤ (kk : Int) := by omega
   have q0 : (kk : Int) < (l0.length : Int) := by omega
   have HE := Aside0.mk (impl_isCovered.rd_ l0 kk hlt)
   obtain ⟨ad, A1, c1, e1, hx0, hk1, hr1⟩ := at_L3 HR0.out (kk : Int) p0 q0
   cases e1
   rw [Int.toNat_natCast] at hx0
   replace hx0 := hC HB hx0
   replace p0 := eq_true p0
   replace q0 := eq_true q0
   have hcl := fun (w' : World) (hb : Below w.heap.size w w') => impl_isCovered.clo id g A1 c1 (rd_L3 l0 (kk : Int)) w' ((hb.cell (World.block_lt_of_cell? w _ HC.out)).trans HC.out) (Kd.C_below hr1 hb) hk1
   clear hr1
   have HK1 := Aside0.mk hk1
   clear hk1
   cases hq : impl_isCovered.q id (rd_L3 l0 (kk : Int)) with
   | true =>
    rw [hq] at hcl
    have HCL := Aside0.mk hcl
    have HQ := Aside0.mk hq
    clear hcl hq
    go_wp2_with (go_at_call 148; refine (HCL.out _ HB.out).mono ?_; rintro e w1 ⟨rfl, hb1⟩)
    go_ret
    refine ⟨?_, below_step HB.out hb1⟩
    have hq := HQ.out
    rw [HE.out] at hq
    rw [impl_isCovered.ix_hit id l0 0 kk hlt (fun j hj => HA.out j hj (by omega)) hq, Int.zero_add]
    rfl
   | false =>
    rw [hq] at hcl
    have HCL := Aside0.mk hcl
    have HQ := Aside0.mk hq
    clear hcl hq
    go_wp2_with (go_at_call 148; refine (HCL.out _ HB.out).mono ?_; rintro e w1 ⟨rfl, hb1⟩)
    go_roundg (l0.length - (kk + 1))
    case measure => have := hg.out; omega
    case rel =>
     refine ⟨kk + 1, by go_num, ⟨by omega⟩, ⟨by omega⟩, ⟨below_step HB.out hb1⟩, ⟨fun j hj hl => ?_⟩⟩
     rcases Nat.lt_or_ge j kk with h3 | h3
     ·
      exact HA.out j h3 hl
     ·
      have h4 : j = kk := by omega
      subst h4
      rw [← HE.out]
      exact HQ.out
  ·
   have hge : decide ((kk : Int) < (l0.length : Int)) = false := decide_eq_false (by omega)
   have hgen : decide (kk < l0.length) = false := decide_eq_false hlt
   go_wp2
   go_ret
   refine ⟨?_, HB.out⟩
   rw [impl_isCovered.ix_miss id l0 0 (fun j hj => HA.out j (by omega) hj)]
   rfl
def impl_isCovered.f (l0 : List (List Int)) (a1 : Int) : Option Bool := some (decide (impl_isCovered.ix a1 l0 0 ≥ 0))
set_option maxHeartbeats 400000 in
set_option maxRecDepth 100000 in
theorem impl_isCovered.con (id : Int) (g : Nat) (A0 : Option Addr) (c0 : Nat) (l0 : List (List Int)) (w : World) (hr0 : Kd.C (Kd.slice 3 (Kd.int .i64)) w A0 l0.length l0) (hc0 : l0.length ≤ c0) (hc : w.cell? ⟨g, 0, none⟩ = some (.int .i64 id)) :
  Calls Try.prog 147 #[.slice A0 l0.length c0, .func (.func 148) #[] #[.pointer (some ⟨g, 0, none⟩)]] w fun e w' => e = .returned (.bool (decide (impl_isCovered.ix id l0 0 ≥ 0))) ∧ Below w.heap.size w w' := by
 have HC := Aside0.mk hc
 have HR0 := Aside0.mk hr0
 have HC0 := Aside0.mk hc0
 clear hr0 hc0 hc
 go_enter Try.func147, Try.ntmps147
 go_wp2_with (go_at_call 162; refine (impl_isCovered.idx id g A0 c0 l0 _ HR0.out HC0.out HC.out).mono ?_; rintro e w1 ⟨rfl, hb1⟩)
 go_ret
 exact ⟨rfl, hb1⟩
set_option maxHeartbeats 400000 in
set_option maxRecDepth 100000 in
theorem impl_isCovered.calls (A0 : Option Addr) (c0 : Nat) (l0 : List (List Int)) (a1 : Int) (r : Bool) (w : World) (hr0 : Kd.C (Kd.slice 3 (Kd.int .i64)) w A0 l0.length l0) (hc0 : l0.length ≤ c0) (h : impl_isCovered.f l0 a1 = some r) :
  Calls Try.prog 127 #[.slice A0 l0.length c0, .int .i64 a1] w fun e w' => e = .returned (.bool r) ∧ Below w.heap.size w w' := by
 obtain rfl := Option.some.inj h
 have HR0 := Aside0.mk hr0
 have HC0 := Aside0.mk hc0
 clear hr0 hc0 h
 go_enter Try.func127, Try.ntmps127
 go_wp2_with (go_at_call 147; refine (impl_isCovered.con a1 w.heap.size A0 c0 l0 _ ?s1 HC0.out ?s2).mono ?_; (case s1 => exact Kd.C_alloc HR0.out _); (case s2 => simp); rintro e w1 ⟨rfl, hb1⟩)
 go_ret
 exact ⟨rfl, below_step (below_alloc (Below.refl _ _) _) hb1⟩

/-! ### impl_CoverOf: function 76 -/
def impl_CoverOf.l0 : Nat → List (S89) → List (List Int) → List (S89) → Int → Int → Option ((List (List Int)))
 | 0, _, _, _, _, _ => none
 | k + 1, x0, x3, x11, x12, x13 => if x13 < x12 then (if 0 ≤ x13 then (if x13 < (x11.length : Int) then ((impl_isCovered.f x3 ((rd_T89 x11 x13).f0)).bind fun t373 => (if t373 = true then (impl_CoverOf.l0 k x0 x3 x11 x12 (wrap64 (x13 + 1))) else ((impl_AddToStage.f k x0 (([(rd_T89 x11 x13).f0] : List Int))).bind fun t377 => (if x3.length < 5864062014805 then (impl_CoverOf.l0 k x0 (x3 ++ [t377]) x11 x12 (wrap64 (x13 + 1))) else (none))))) else (none)) else (none)) else (some x3)
def impl_CoverOf.f (k : Nat) (l0 : List (S89)) : Option ((List (List Int))) := (some (([] : List (List Int)) : List (List Int))).bind fun y367 => ((impl_ArePaths.f k l0).bind fun t370 => (if t370 = true then (impl_CoverOf.l0 k l0 y367 l0 (l0.length : Int) 0) else (some y367)))
theorem impl_CoverOf.mono_l : ∀ k, (∀ y0 y1 y2 y3 y4, LeO (impl_CoverOf.l0 k y0 y1 y2 y3 y4) (impl_CoverOf.l0 (k + 1) y0 y1 y2 y3 y4))
 | 0 => fun _ _ _ _ _ r h => by simp [impl_CoverOf.l0] at h
 | k + 1 => by
  have ih0 := impl_CoverOf.mono_l k
  ·
   intro y0 y1 y2 y3 y4
   unfold impl_CoverOf.l0
   repeat' first | (with_reducible first | exact LeO.refl _ | exact LeO.none _ | refine LeO.ite ?_ ?_ | refine LeO.bind ?_ (fun _ => ?_) | exact ih0 _ _ _ _ _ | exact impl_AddToStage.mono _ _ _ | exact impl_ArePaths.mono _ _)
theorem impl_CoverOf.mono : ∀ a0 k, LeO (impl_CoverOf.f k a0) (impl_CoverOf.f (k + 1) a0) := by
 intro a0 k
 have ih0 := impl_CoverOf.mono_l k
 unfold impl_CoverOf.f
 repeat' first | (with_reducible first | exact LeO.refl _ | exact LeO.none _ | refine LeO.ite ?_ ?_ | refine LeO.bind ?_ (fun _ => ?_) | exact ih0 _ _ _ _ _ | exact impl_AddToStage.mono _ _ _ | exact impl_ArePaths.mono _ _)
set_option maxHeartbeats 8000000 in
set_option maxRecDepth 100000 in
theorem impl_CoverOf.calls (k : Nat) (A0 : Option Addr) (c0 : Nat) (l0 : List (S89)) (r : List (List Int)) (w : World) (hr0 : Kd.C k89 w A0 l0.length l0) (hc0 : l0.length ≤ c0) (h : impl_CoverOf.f k l0 = some r) :
  Calls Try.prog 76 #[.slice A0 l0.length c0] w fun e w' => ∃ v0_ : Value, e = .returned (v0_) ∧ Kd.S (Kd.slice 3 (Kd.int .i64)) 41 w' w.heap.size (fun _ => True) v0_ r ∧ Below w.heap.size w w' := by
 have hu89 := Try.underlying89
 have HR0 := Aside0.mk hr0
 have HC0 := Aside0.mk hc0
 clear hr0 hc0
 have HB := Aside0.mk (Below.refl w.heap.size w)
 have H : ((some (([] : List (List Int)) : List (List Int))).bind fun y367 => ((impl_ArePaths.f k l0).bind fun t370 => (if t370 = true then (impl_CoverOf.l0 k l0 y367 l0 (l0.length : Int) 0) else (some y367)))) = some r := h
 clear h
 obtain ⟨y367, hy367⟩ : ∃ y_ : List (List Int), y_ = (([] : List (List Int))) := ⟨_, rfl⟩
 replace H : ((impl_ArePaths.f k l0).bind fun t370 => (if t370 = true then (impl_CoverOf.l0 k l0 y367 l0 (l0.length : Int) 0) else (some y367))) = some r := rH H hy367
 have Ny367 := Aside0.mk hy367
 clear hy367
 obtain ⟨t370, A2, H⟩ := bindE H
 try dsimp only at H
 by_cases c3 : t370 = true
 ·
  subst c3
  have H1 : (impl_CoverOf.l0 k l0 y367 l0 (l0.length : Int) 0) = some r := by rw [if_pos rfl] at H; exact H
  clear H
  have H := H1
  clear H1
  have H' := Aside0.mk H
  clear H
  go_enter Try.func76, Try.ntmps76
  go_wp2_with (first | ((with_reducible refine gate_dst (N := 6) rfl ?_); refine Kd.S_lit (Kd.slice 3 (Kd.int .i64)) _ 41 ?hg (N := 6) ?hd (xs := ([] : List (List Int))) (inner := []) (ok := fun _ => True) (okp := fun _ => True) ?hr ?hp (fun _ hk => hk) trivial (Below.refl _ _) (Nat.le_refl _) (by simp) ?_; (case hd => rfl); (case hg => rfl); (case hr => first | (go_simp; done) | (go_simp; rfl)); (case hp => exact (Reps.none _ _)); intro v368 w4 ho5 hb hg_ hnew_; clear hg_ hnew_; (first | rw [← Ny367.out] at ho5 | (simp only [Int.reduceToNat] at ho5; rw [← Ny367.out] at ho5)); have HO369 := Aside0.mk (Kd.S_lower ho5 (below_size bA)); replace HB := Aside0.mk (below_step bA hb); clear hb ho5) | ((with_reducible refine gate_callee (f := 126) rfl ?_); refine gL (some 8) Try.func126 #[.slice A0 l0.length c0] ?_; (with_reducible refine (impl_ArePaths.calls k _ _ l0 true _ ?side1 ?side2 A2.out).mono ?_); (case side1 => exact cB HR0); (case side2 => exact HC0.out); rintro e w6 ⟨rfl, hb⟩; refine ⟨_, rfl, ?_⟩; replace HO369 := Aside0.mk (Kd.S_below (sK HO369) hb); replace HB := Aside0.mk (below_step bA hb); (try clear hb)))
  go_loopg [3, 13] k (fun kq v3 v13 w' => ∃ (x3_1 : List (List Int)) (x13_1 : Int), v13 = .int .i64 x13_1 ∧ Aside0 (impl_CoverOf.l0 kq l0 x3_1 l0 (l0.length : Int) x13_1 = some r) ∧ Aside0 (kq ≤ k) ∧ Aside0 (Kd.S (Kd.slice 3 (Kd.int .i64)) 41 w' w.heap.size (fun _ => True) v3 x3_1) ∧ Aside0 (Below w.heap.size w w'))
  case atStart => exact ⟨(y367), (0), rS, H', ⟨Nat.le_refl _⟩, ⟨sK HO369⟩, ⟨bA⟩⟩
  case round =>
   clear H'
   try clear c1
   try clear p2
   try clear c3
   obtain ⟨x3_1, x13_1, rfl, HA, HK1, HO_3, HB⟩ := hrel
   cases gk with
   | zero => exact absurd HA.out (by simp [impl_CoverOf.l0])
   | succ k1 =>
    have H := HA.out
    clear HA
    simp only [impl_CoverOf.l0] at H
    by_cases c7 : x13_1 < (l0.length : Int)
    ·
     rw [if_pos c7] at H
     have c7b0 := decide_eq_true c7
     clear c7
     have c8 : 0 ≤ x13_1 := ifN H
     replace H := ifT H
     have c8b0 := decide_eq_true c8
     clear c8
     have c9 : x13_1 < (l0.length : Int) := ifN H
     replace H := ifT H
     have c9b0 := decide_eq_true c9
     clear c9
     obtain ⟨t373, A10, H⟩ := bindE H
     try dsimp only at H
     by_cases c11 : t373 = true
     ·
      subst c11
      have H1 : (impl_CoverOf.l0 k1 l0 x3_1 l0 (l0.length : Int) (wrap64 (x13_1 + 1))) = some r := by rw [if_pos rfl] at H; exact H
      clear H
      have H := H1
      clear H1
      have H' := Aside0.mk H
      clear H
      have p371 : 0 ≤ (x13_1 : Int) := dA
      have q371 : x13_1 < (l0.length : Int) := dA
      obtain ⟨ad371, e371, hx371_0, hx371_1, hx371_2, hx371_3⟩ := at_T89 HR0.out x13_1 p371 q371
      cases e371
      replace hx371_0 := hC HB hx371_0
      replace hx371_1 := hC HB hx371_1
      replace hx371_2 := hC HB hx371_2
      replace hx371_3 := hC HB hx371_3
      replace p371 := eq_true p371
      replace q371 := eq_true q371
      go_wp2_with (first | ((with_reducible refine gate_dst (N := 5) rfl ?_); refine bE (N := 5) (cs := #[.int .i64 0, .int .i64 0, .int .i64 0, .int .i64 0]) (t := 89) ?_; intro gb372 hg w12 hbox hb; have n0_ := Aside0.mk (Kd.S_below (sK HO_3) hb); have n1_ := Aside0.mk (below_step bA hb); have n2_ := Aside0.mk (hbox); have n3_ := Aside0.mk ((by rw [hg]; exact (below_size bA) : w.heap.size ≤ gb372)); have n4_ := Aside0.mk ((by rw [hg]; exact (below_size bA) : w.heap.size ≤ gb372)); clear HO_3; clear HB; have HO_3 := n0_; have HB := n1_; have BK372 := n2_; have GW372 := n3_; have GE372 := n4_; clear n0_ n1_ n2_ n3_ n4_; clear hb hbox hg; obtain ⟨hcz13_0, hcz13_1, hcz13_2, hcz13_3, hfz13_0, hfz13_1, hfz13_2, hfz13_3⟩ := blkc4 BK372; obtain ⟨Ao14, co14, eo14⟩ := Kd.S_slice HO_3.out; subst eo14) | ((with_reducible refine gate_callee (f := 127) rfl ?_); refine gL (some 20) Try.func127 #[.slice Ao14 x3_1.length co14, .int .i64 ((rd_T89 l0 x13_1).f0)] ?_; (with_reducible refine (impl_isCovered.calls _ _ x3_1 ((rd_T89 l0 x13_1).f0) true _ ?side1 ?side2 A10.out).mono ?_); (case side1 => refine (Kd.S_reads' (e := 41) (base := w.heap.size) (ok := fun k_ => True) (n := x3_1.length) (c := co14) ?_).2.2; exact (by (with_reducible repeat (first | apply Kd.S_alloc | apply Kd.S_drewN | apply Kd.S_drew)); exact (Kd.S_mono (Kd.S_far (p := ⟨gb372, 3, none⟩) (Kd.S_far (p := ⟨gb372, 2, none⟩) (Kd.S_far (p := ⟨gb372, 1, none⟩) (Kd.S_far (p := ⟨gb372, 0, none⟩) (Kd.S_types HO_3.out BK372.out (by decide)) (fun _ hk => hk.2) (.int .i64 ((rd_T89 l0 x13_1).f0))) (fun _ hk => hk.2) (.int .i64 ((rd_T89 l0 x13_1).f1))) (fun _ hk => hk.2) (.int .i64 ((rd_T89 l0 x13_1).f2))) (fun _ hk => hk.2) (.int .i64 ((rd_T89 l0 x13_1).f3))) (fun _ h_ => h_.1)))); (case side2 => exact (Kd.S_reads' HO_3.out).2.1); rintro e w15 ⟨rfl, hb⟩; refine ⟨_, rfl, ?_⟩; have n0_ := Aside0.mk (Kd.S_below (by (with_reducible repeat (first | apply Kd.S_alloc | apply Kd.S_drewN | apply Kd.S_drew)); exact (Kd.S_mono (Kd.S_far (p := ⟨gb372, 3, none⟩) (Kd.S_far (p := ⟨gb372, 2, none⟩) (Kd.S_far (p := ⟨gb372, 1, none⟩) (Kd.S_far (p := ⟨gb372, 0, none⟩) (Kd.S_types HO_3.out BK372.out (by decide)) (fun _ hk => hk.2) (.int .i64 ((rd_T89 l0 x13_1).f0))) (fun _ hk => hk.2) (.int .i64 ((rd_T89 l0 x13_1).f1))) (fun _ hk => hk.2) (.int .i64 ((rd_T89 l0 x13_1).f2))) (fun _ hk => hk.2) (.int .i64 ((rd_T89 l0 x13_1).f3))) (fun _ h_ => h_.1))) hb); have n1_ := Aside0.mk (blk_below (g := gb372) (o := .cells #[.int .i64 ((rd_T89 l0 x13_1).f0), .int .i64 ((rd_T89 l0 x13_1).f1), .int .i64 ((rd_T89 l0 x13_1).f2), .int .i64 ((rd_T89 l0 x13_1).f3)] 89 (0, 0)) (by (with_reducible repeat (first | refine blk_drewN ?_ _ | refine blk_drew ?_ | refine blk_alloc ?_ _)); refine blk_put (cs := #[.int .i64 ((rd_T89 l0 x13_1).f0), .int .i64 ((rd_T89 l0 x13_1).f1), .int .i64 ((rd_T89 l0 x13_1).f2), .int .i64 0]) ?_ 3 _ rfl; (with_reducible repeat (first | refine blk_drewN ?_ _ | refine blk_drew ?_ | refine blk_alloc ?_ _)); refine blk_put (cs := #[.int .i64 ((rd_T89 l0 x13_1).f0), .int .i64 ((rd_T89 l0 x13_1).f1), .int .i64 0, .int .i64 0]) ?_ 2 _ rfl; (with_reducible repeat (first | refine blk_drewN ?_ _ | refine blk_drew ?_ | refine blk_alloc ?_ _)); refine blk_put (cs := #[.int .i64 ((rd_T89 l0 x13_1).f0), .int .i64 0, .int .i64 0, .int .i64 0]) ?_ 1 _ rfl; (with_reducible repeat (first | refine blk_drewN ?_ _ | refine blk_drew ?_ | refine blk_alloc ?_ _)); refine blk_put (cs := #[.int .i64 0, .int .i64 0, .int .i64 0, .int .i64 0]) ?_ 0 _ rfl; (with_reducible repeat (first | refine blk_drewN ?_ _ | refine blk_drew ?_ | refine blk_alloc ?_ _)); exact BK372.out) hb); have n2_ := Aside0.mk (below_step bG hb); clear HO_3; clear BK372; clear HB; have HO_3 := n0_; have BK372 := n1_; have HB := n2_; clear n0_ n1_ n2_; (try clear hb)))
      go_roundg k1
      case measure => have := HK1.out; omega
      case rel => exact ⟨(x3_1), (wrap64 (x13_1 + 1)), rS, H', ⟨by have := HK1.out; omega⟩, ⟨sK HO_3⟩, ⟨bG⟩⟩
     ·
      replace c11 := Bool.eq_false_iff.mpr c11
      subst c11
      have H1 : ((impl_AddToStage.f k1 l0 (([(rd_T89 l0 x13_1).f0] : List Int))).bind fun t377 => (if x3_1.length < 5864062014805 then (impl_CoverOf.l0 k1 l0 (x3_1 ++ [t377]) l0 (l0.length : Int) (wrap64 (x13_1 + 1))) else (none))) = some r := by rw [if_neg (show ¬ (false = true) by decide)] at H; exact H
      clear H
      have H := H1
      clear H1
      obtain ⟨y374, hy374⟩ : ∃ y_ : List Int, y_ = (([(rd_T89 l0 x13_1).f0] : List Int)) := ⟨_, rfl⟩
      replace H : ((impl_AddToStage.f k1 l0 y374).bind fun t377 => (if x3_1.length < 5864062014805 then (impl_CoverOf.l0 k1 l0 (x3_1 ++ [t377]) l0 (l0.length : Int) (wrap64 (x13_1 + 1))) else (none))) = some r := rH H hy374
      have Ny374 := Aside0.mk hy374
      clear hy374
      obtain ⟨t377, A16, H⟩ := bindE H
      try dsimp only at H
      have c17 : x3_1.length < 5864062014805 := ifN H
      replace H := ifT H
      have LMc17 := Aside0.mk c17
      clear c17
      obtain ⟨y380, hy380⟩ : ∃ y_ : List (List Int), y_ = (x3_1 ++ [t377]) := ⟨_, rfl⟩
      replace H : (impl_CoverOf.l0 k1 l0 y380 l0 (l0.length : Int) (wrap64 (x13_1 + 1))) = some r := rH H hy380
      have Ny380 := Aside0.mk hy380
      clear hy380
      have H' := Aside0.mk H
      clear H
      have p371 : 0 ≤ (x13_1 : Int) := dA
      have q371 : x13_1 < (l0.length : Int) := dA
      obtain ⟨ad371, e371, hx371_0, hx371_1, hx371_2, hx371_3⟩ := at_T89 HR0.out x13_1 p371 q371
      cases e371
      replace hx371_0 := hC HB hx371_0
      replace hx371_1 := hC HB hx371_1
      replace hx371_2 := hC HB hx371_2
      replace hx371_3 := hC HB hx371_3
      replace p371 := eq_true p371
      replace q371 := eq_true q371
      go_wp2_with (first | ((with_reducible refine gate_dst (N := 5) rfl ?_); refine bE (N := 5) (cs := #[.int .i64 0, .int .i64 0, .int .i64 0, .int .i64 0]) (t := 89) ?_; intro gb372 hg w18 hbox hb; have n0_ := Aside0.mk (Kd.S_below (sK HO_3) hb); have n1_ := Aside0.mk (below_step bA hb); have n2_ := Aside0.mk (hbox); have n3_ := Aside0.mk ((by rw [hg]; exact (below_size bA) : w.heap.size ≤ gb372)); have n4_ := Aside0.mk ((by rw [hg]; exact (below_size bA) : w.heap.size ≤ gb372)); clear HO_3; clear HB; have HO_3 := n0_; have HB := n1_; have BK372 := n2_; have GW372 := n3_; have GE372 := n4_; clear n0_ n1_ n2_ n3_ n4_; clear hb hbox hg; obtain ⟨hcz19_0, hcz19_1, hcz19_2, hcz19_3, hfz19_0, hfz19_1, hfz19_2, hfz19_3⟩ := blkc4 BK372; obtain ⟨Ao20, co20, eo20⟩ := Kd.S_slice HO_3.out; subst eo20) | ((with_reducible refine gate_callee (f := 127) rfl ?_); refine gL (some 20) Try.func127 #[.slice Ao20 x3_1.length co20, .int .i64 ((rd_T89 l0 x13_1).f0)] ?_; (with_reducible refine (impl_isCovered.calls _ _ x3_1 ((rd_T89 l0 x13_1).f0) false _ ?side1 ?side2 A10.out).mono ?_); (case side1 => refine (Kd.S_reads' (e := 41) (base := w.heap.size) (ok := fun k_ => True) (n := x3_1.length) (c := co20) ?_).2.2; exact (by (with_reducible repeat (first | apply Kd.S_alloc | apply Kd.S_drewN | apply Kd.S_drew)); exact (Kd.S_mono (Kd.S_far (p := ⟨gb372, 3, none⟩) (Kd.S_far (p := ⟨gb372, 2, none⟩) (Kd.S_far (p := ⟨gb372, 1, none⟩) (Kd.S_far (p := ⟨gb372, 0, none⟩) (Kd.S_types HO_3.out BK372.out (by decide)) (fun _ hk => hk.2) (.int .i64 ((rd_T89 l0 x13_1).f0))) (fun _ hk => hk.2) (.int .i64 ((rd_T89 l0 x13_1).f1))) (fun _ hk => hk.2) (.int .i64 ((rd_T89 l0 x13_1).f2))) (fun _ hk => hk.2) (.int .i64 ((rd_T89 l0 x13_1).f3))) (fun _ h_ => h_.1)))); (case side2 => exact (Kd.S_reads' HO_3.out).2.1); rintro e w21 ⟨rfl, hb⟩; refine ⟨_, rfl, ?_⟩; have n0_ := Aside0.mk (Kd.S_below (by (with_reducible repeat (first | apply Kd.S_alloc | apply Kd.S_drewN | apply Kd.S_drew)); exact (Kd.S_mono (Kd.S_far (p := ⟨gb372, 3, none⟩) (Kd.S_far (p := ⟨gb372, 2, none⟩) (Kd.S_far (p := ⟨gb372, 1, none⟩) (Kd.S_far (p := ⟨gb372, 0, none⟩) (Kd.S_types HO_3.out BK372.out (by decide)) (fun _ hk => hk.2) (.int .i64 ((rd_T89 l0 x13_1).f0))) (fun _ hk => hk.2) (.int .i64 ((rd_T89 l0 x13_1).f1))) (fun _ hk => hk.2) (.int .i64 ((rd_T89 l0 x13_1).f2))) (fun _ hk => hk.2) (.int .i64 ((rd_T89 l0 x13_1).f3))) (fun _ h_ => h_.1))) hb); have n1_ := Aside0.mk (blk_below (g := gb372) (o := .cells #[.int .i64 ((rd_T89 l0 x13_1).f0), .int .i64 ((rd_T89 l0 x13_1).f1), .int .i64 ((rd_T89 l0 x13_1).f2), .int .i64 ((rd_T89 l0 x13_1).f3)] 89 (0, 0)) (by (with_reducible repeat (first | refine blk_drewN ?_ _ | refine blk_drew ?_ | refine blk_alloc ?_ _)); refine blk_put (cs := #[.int .i64 ((rd_T89 l0 x13_1).f0), .int .i64 ((rd_T89 l0 x13_1).f1), .int .i64 ((rd_T89 l0 x13_1).f2), .int .i64 0]) ?_ 3 _ rfl; (with_reducible repeat (first | refine blk_drewN ?_ _ | refine blk_drew ?_ | refine blk_alloc ?_ _)); refine blk_put (cs := #[.int .i64 ((rd_T89 l0 x13_1).f0), .int .i64 ((rd_T89 l0 x13_1).f1), .int .i64 0, .int .i64 0]) ?_ 2 _ rfl; (with_reducible repeat (first | refine blk_drewN ?_ _ | refine blk_drew ?_ | refine blk_alloc ?_ _)); refine blk_put (cs := #[.int .i64 ((rd_T89 l0 x13_1).f0), .int .i64 0, .int .i64 0, .int .i64 0]) ?_ 1 _ rfl; (with_reducible repeat (first | refine blk_drewN ?_ _ | refine blk_drew ?_ | refine blk_alloc ?_ _)); refine blk_put (cs := #[.int .i64 0, .int .i64 0, .int .i64 0, .int .i64 0]) ?_ 0 _ rfl; (with_reducible repeat (first | refine blk_drewN ?_ _ | refine blk_drew ?_ | refine blk_alloc ?_ _)); exact BK372.out) hb); have n2_ := Aside0.mk (below_step bG hb); clear HO_3; clear BK372; clear HB; have HO_3 := n0_; have BK372 := n1_; have HB := n2_; clear n0_ n1_ n2_; (try clear hb); have hcz22_0 : w21.cell? ⟨gb372, 0, none⟩ = some (.int .i64 ((rd_T89 l0 x13_1).f0)) := bC BK372 0; have hcz22_1 : w21.cell? ⟨gb372, 1, none⟩ = some (.int .i64 ((rd_T89 l0 x13_1).f1)) := bC BK372 1; have hcz22_2 : w21.cell? ⟨gb372, 2, none⟩ = some (.int .i64 ((rd_T89 l0 x13_1).f2)) := bC BK372 2; have hcz22_3 : w21.cell? ⟨gb372, 3, none⟩ = some (.int .i64 ((rd_T89 l0 x13_1).f3)) := bC BK372 3; have hfz22_0 := blk_frozen BK372.out 0; have hfz22_1 := blk_frozen BK372.out 1; have hfz22_2 := blk_frozen BK372.out 2; have hfz22_3 := blk_frozen BK372.out 3) | ((with_reducible refine gate_dst (N := 26) rfl ?_); refine Kd.R_lit (Kd.int .i64) _ 3 ?hg (N := 26) ?hd (xs := ([(rd_T89 l0 x13_1).f0] : List Int)) (inner := [.int .i64 ((rd_T89 l0 x13_1).f0)]) (ok := fun _ => True) (okp := fun _ => True) ?hr ?hp (fun _ hk => hk) trivial (Below.refl _ _) (Nat.le_refl _) (by simp) ?_; (case hd => rfl); (case hg => rfl); (case hr => first | (go_simp; done) | (go_simp; rfl)); (case hp => exact (Reps.one (show Kd.M (Kd.int .i64) _ _ _ ((rd_T89 l0 x13_1).f0) [.int .i64 ((rd_T89 l0 x13_1).f0)] from rfl) (Reps.none _ _))); intro v375 w23 ho24 hb hg_ hnew_; clear hg_ hnew_; (first | rw [← Ny374.out] at ho24 | (simp only [Int.reduceToNat] at ho24; rw [← Ny374.out] at ho24)); replace HO_3 := Aside0.mk (Kd.S_elder' (sK HO_3) (Kd.R_base ho24) hb); have HO376 := Aside0.mk (Kd.R_lower ho24 (below_size bG)); replace BK372 := Aside0.mk (blk_below (g := gb372) (bK BK372) hb); replace HB := Aside0.mk (below_step bG hb); clear hb ho24; obtain ⟨Ao25, co25, eo25⟩ := Kd.R_slice HO376.out; subst eo25) | ((with_reducible refine gate_callee (f := 99) rfl ?_); refine gL (some 27) Try.func99 #[.slice (some ad371) l0.length c0, .slice Ao25 y374.length co25] ?_; (with_reducible refine (impl_AddToStage.calls k1 _ _ l0 _ _ y374 t377 _ ?side1 ?side2 ?side3 ?side4 A16.out).mono ?_); (case side1 => exact cB HR0); (case side2 => exact HC0.out); (case side3 => exact cO ⟨(Kd.R_reads' HO376.out).2.2⟩); (case side4 => exact (Kd.R_reads' HO376.out).2.1); rintro e w26 ⟨v378, rfl, ho0, hb⟩; refine ⟨_, rfl, ?_⟩; replace HO_3 := Aside0.mk (Kd.S_elder' (sK HO_3) (Kd.R_base ho0) hb); have HO379 := Aside0.mk (Kd.R_lower (Kd.R_new' ho0 (Kd.R_lt (rK HO376))) (below_size bG)); replace HO376 := Aside0.mk (Kd.R_elder' (rK HO376) (Kd.R_base ho0) hb); replace BK372 := Aside0.mk (blk_below (g := gb372) (bK BK372) hb); replace HB := Aside0.mk (below_step bG hb); (try clear hb); (try clear ho0); obtain ⟨Ao28, co28, eo28⟩ := Kd.R_slice HO379.out; subst eo28) | ((with_reducible refine gate_builtin (b := .append) (xs := #[.tmp 22, .tmp 28]) rfl ?_); at_builtin; refine Kd.S_append (Kd.slice 3 (Kd.int .i64)) (w0 := w) w.heap.size rfl (.tmp 22) (.tmp 28) 103 41 (.slice none 0 0) 24 rfl Try.underlying103 info41 rfl (by decide) (by omega) (.slice Ao20 x3_1.length co20) x3_1 t377 [.slice Ao28 t377.length co28] (fun k_ => some k_ ≠ (.slice Ao25 y374.length co25 : Value).ownBlock) (fun k_ => some k_ = (.slice Ao28 t377.length co28 : Value).ownBlock) rfl rfl ?aP (fun k_ hk_ => ((Kd.R_mono (ok' := fun k_ => ((fun k_ => some k_ ≠ (.slice Ao25 y374.length co25 : Value).ownBlock)) k_ ∧ some k_ ≠ (.slice Ao20 x3_1.length co20 : Value).ownBlock) (Kd.R_apart' (HO379.out) (Kd.S_typed HO_3.out) (by decide)) (fun k_ hk => ⟨hk.1.2, hk.2⟩))).1 k_ hk_.symm) ?aF ?aO ?aB ?aS ?aL ?_; (case aP => exact Kd.M_row (Kd.R_mono (Kd.R_tight rfl (Kd.R_mono (ok' := fun k_ => ((fun k_ => some k_ ≠ (.slice Ao25 y374.length co25 : Value).ownBlock)) k_ ∧ some k_ ≠ (.slice Ao20 x3_1.length co20 : Value).ownBlock) (Kd.R_apart' (HO379.out) (Kd.S_typed HO_3.out) (by decide)) (fun k_ hk => ⟨hk.1.2, hk.2⟩))) (fun _ h_ => h_))); (case aB => exact bG); (case aF => exact (fun k_ hk => Kd.fresh' (Kd.R_lt (rK HO376)) k_ hk)); (case aO => exact (by (with_reducible repeat (first | apply Kd.S_alloc | apply Kd.S_drewN | apply Kd.S_drew)); exact Kd.S_mono HO_3.out (fun k_ hk => ⟨hk.1.2, fun e_ => hk.2 e_⟩))); (case aS => exact (below_size bG)); (case aL => have := LMc17.out; omega); intro v381 w27 ho hb hg hat; rw [← Ny380.out] at ho; have n0_ := Aside0.mk (blk_grown (g := gb372) (o := .cells #[.int .i64 ((rd_T89 l0 x13_1).f0), .int .i64 ((rd_T89 l0 x13_1).f1), .int .i64 ((rd_T89 l0 x13_1).f2), .int .i64 ((rd_T89 l0 x13_1).f3)] 89 (0, 0)) (bK BK372) hg (Kd.S_ne HO_3.out BK372.out (by decide))); have n1_ := Aside0.mk (Kd.R_over' (rK HO376) (Kd.S_typed (sK HO_3)) (by decide) hg); have n2_ := Aside0.mk (hb); have n3_ := Aside0.mk (ho); clear BK372; clear HO376; clear HB; clear HO_3; clear HO379; have BK372 := n0_; have HO376 := n1_; have HB := n2_; have HO382 := n3_; clear n0_ n1_ n2_ n3_; clear ho hb hg hat))
      go_roundg k1
      case measure => have := HK1.out; omega
      case rel => exact ⟨(y380), (wrap64 (x13_1 + 1)), rS, H', ⟨by have := HK1.out; omega⟩, ⟨by (with_reducible repeat (first | apply Kd.S_alloc | apply Kd.S_drewN | apply Kd.S_drew)); exact Kd.S_mono HO382.out (fun _ hk => trivial)⟩, ⟨bG⟩⟩
    ·
     rw [if_neg c7] at H
     have c7b0 := decide_eq_false c7
     clear c7
     obtain rfl := Option.some.inj H
     go_wp2
     go_ret
     exact ⟨_, by first | rfl | (simp [errW_none, errW_some] <;> rfl) | (simp [*, errW_none, errW_some] <;> rfl), by (with_reducible repeat (first | apply Kd.S_alloc | apply Kd.S_drewN | apply Kd.S_drew)); exact HO_3.out, bA⟩
 ·
  replace c3 := Bool.eq_false_iff.mpr c3
  subst c3
  have H1 : (some y367) = some r := by rw [if_neg (show ¬ (false = true) by decide)] at H; exact H
  clear H
  have H := H1
  clear H1
  obtain rfl := Option.some.inj H
  go_enter Try.func76, Try.ntmps76
  go_wp2_with (first | ((with_reducible refine gate_dst (N := 6) rfl ?_); refine Kd.S_lit (Kd.slice 3 (Kd.int .i64)) _ 41 ?hg (N := 6) ?hd (xs := ([] : List (List Int))) (inner := []) (ok := fun _ => True) (okp := fun _ => True) ?hr ?hp (fun _ hk => hk) trivial (Below.refl _ _) (Nat.le_refl _) (by simp) ?_; (case hd => rfl); (case hg => rfl); (case hr => first | (go_simp; done) | (go_simp; rfl)); (case hp => exact (Reps.none _ _)); intro v368 w29 ho30 hb hg_ hnew_; clear hg_ hnew_; (first | rw [← Ny367.out] at ho30 | (simp only [Int.reduceToNat] at ho30; rw [← Ny367.out] at ho30)); have HO369 := Aside0.mk (Kd.S_lower ho30 (below_size bA)); replace HB := Aside0.mk (below_step bA hb); clear hb ho30) | ((with_reducible refine gate_callee (f := 126) rfl ?_); refine gL (some 8) Try.func126 #[.slice A0 l0.length c0] ?_; (with_reducible refine (impl_ArePaths.calls k _ _ l0 false _ ?side1 ?side2 A2.out).mono ?_); (case side1 => exact cB HR0); (case side2 => exact HC0.out); rintro e w31 ⟨rfl, hb⟩; refine ⟨_, rfl, ?_⟩; replace HO369 := Aside0.mk (Kd.S_below (sK HO369) hb); replace HB := Aside0.mk (below_step bA hb); (try clear hb)))
  go_ret
  exact ⟨_, by first | rfl | (simp [errW_none, errW_some] <;> rfl) | (simp [*, errW_none, errW_some] <;> rfl), by (with_reducible repeat (first | apply Kd.S_alloc | apply Kd.S_drewN | apply Kd.S_drew)); exact HO369.out, bA⟩

/-! ### impl_LeastGreen: function 77 -/
def impl_LeastGreen.l0 : Nat → List (S89) → List Int → Int → Int → Option (Int)
 | 0, _, _, _, _ => none
 | k + 1, x0, x8, x9, x10 => if x10 < x9 then (if 0 ≤ x10 then (if x10 < (x8.length : Int) then ((impl_FindPath.f x0 (rd x8 x10)).bind fun t384 => (if t384 ≥ 0 then (if 0 ≤ t384 then (if t384 < (x0.length : Int) then (if ((rd_T89 x0 t384).f1) = 2 then (some 7) else (impl_LeastGreen.l0 k x0 x8 x9 (wrap64 (x10 + 1)))) else (none)) else (none)) else (impl_LeastGreen.l0 k x0 x8 x9 (wrap64 (x10 + 1))))) else (none)) else (none)) else (some 5)
def impl_LeastGreen.f (k : Nat) (l0 : List (S89)) (l1 : List Int) : Option (Int) := impl_LeastGreen.l0 k l0 l1 (l1.length : Int) 0
theorem impl_LeastGreen.mono_l : ∀ k, (∀ y0 y1 y2 y3, LeO (impl_LeastGreen.l0 k y0 y1 y2 y3) (impl_LeastGreen.l0 (k + 1) y0 y1 y2 y3))
 | 0 => fun _ _ _ _ r h => by simp [impl_LeastGreen.l0] at h
 | k + 1 => by
  have ih0 := impl_LeastGreen.mono_l k
  ·
   intro y0 y1 y2 y3
   unfold impl_LeastGreen.l0
   repeat' first | (with_reducible first | exact LeO.refl _ | exact LeO.none _ | refine LeO.ite ?_ ?_ | refine LeO.bind ?_ (fun _ => ?_) | exact ih0 _ _ _ _)
theorem impl_LeastGreen.mono : ∀ a0 a1 k, LeO (impl_LeastGreen.f k a0 a1) (impl_LeastGreen.f (k + 1) a0 a1) := by
 intro a0 a1 k
 have ih0 := impl_LeastGreen.mono_l k
 unfold impl_LeastGreen.f
 repeat' first | (with_reducible first | exact LeO.refl _ | exact LeO.none _ | refine LeO.ite ?_ ?_ | refine LeO.bind ?_ (fun _ => ?_) | exact ih0 _ _ _ _)
set_option maxHeartbeats 8000000 in
set_option maxRecDepth 100000 in
theorem impl_LeastGreen.calls (k : Nat) (A0 : Option Addr) (c0 : Nat) (l0 : List (S89)) (A1 : Option Addr) (c1 : Nat) (l1 : List Int) (r : Int) (w : World) (hr0 : Kd.C k89 w A0 l0.length l0) (hc0 : l0.length ≤ c0) (hr1 : Kd.C (Kd.int .i64) w A1 l1.length l1) (hc1 : l1.length ≤ c1) (h : impl_LeastGreen.f k l0 l1 = some r) :
  Calls Try.prog 77 #[.slice A0 l0.length c0, .slice A1 l1.length c1] w fun e w' => e = .returned (.int .i64 r) ∧ Below w.heap.size w w' := by
 have HR0 := Aside0.mk hr0
 have HC0 := Aside0.mk hc0
 clear hr0 hc0
 have HR1 := Aside0.mk hr1
 have HC1 := Aside0.mk hc1
 clear hr1 hc1
 have HB := Aside0.mk (Below.refl w.heap.size w)
 have H : (impl_LeastGreen.l0 k l0 l1 (l1.length : Int) 0) = some r := h
 clear h
 have H' := Aside0.mk H
 clear H
 go_enter Try.func77, Try.ntmps77
 go_wp2
 go_loopg [10] k (fun kq v10 w' => ∃ (x10_1 : Int), v10 = .int .i64 x10_1 ∧ Aside0 (impl_LeastGreen.l0 kq l0 l1 (l1.length : Int) x10_1 = some r) ∧ Aside0 (kq ≤ k) ∧ Aside0 (Below w.heap.size w w'))
 case atStart => exact ⟨(0), rS, H', ⟨Nat.le_refl _⟩, ⟨bA⟩⟩
 case round =>
  clear H'
  try clear c1
  try clear p2
  obtain ⟨x10_1, rfl, HA, HK1, HB⟩ := hrel
  cases gk with
  | zero => exact absurd HA.out (by simp [impl_LeastGreen.l0])
  | succ k1 =>
   have H := HA.out
   clear HA
   simp only [impl_LeastGreen.l0] at H
   by_cases c3 : x10_1 < (l1.length : Int)
   ·
    rw [if_pos c3] at H
    have c3b0 := decide_eq_true c3
    clear c3
    have c4 : 0 ≤ x10_1 := ifN H
    replace H := ifT H
    have c4b0 := decide_eq_true c4
    clear c4
    have c5 : x10_1 < (l1.length : Int) := ifN H
    replace H := ifT H
    have c5b0 := decide_eq_true c5
    clear c5
    obtain ⟨t384, A6, H⟩ := bindE H
    try dsimp only at H
    by_cases c7 : t384 ≥ 0
    ·
     rw [if_pos c7] at H
     have c7b0 := decide_eq_true c7
     clear c7
     have c8 : 0 ≤ t384 := ifN H
     replace H := ifT H
     have c8b0 := decide_eq_true c8
     clear c8
     have c9 : t384 < (l0.length : Int) := ifN H
     replace H := ifT H
     have c9b0 := decide_eq_true c9
     clear c9
     by_cases c10 : ((rd_T89 l0 t384).f1) = 2
     ·
      rw [if_pos c10] at H
      have c10b0 : (((rd_T89 l0 t384).f1) == 2) = true := beq_iff_eq.mpr c10
      have c10b1 : (((rd_T89 l0 t384).f1) != 2) = false := bne_eq_false_iff_eq.mpr c10
      clear c10
      obtain rfl := Option.some.inj H
      have p383 : 0 ≤ (x10_1 : Int) := dA
      have q383 : x10_1 < (l1.length : Int) := dA
      obtain ⟨ad383, e383, hx383_0⟩ := Kd.at_int HR1.out x10_1 p383 q383
      cases e383
      replace hx383_0 := hC HB hx383_0
      replace p383 := eq_true p383
      replace q383 := eq_true q383
      go_wp2_with (first | ((with_reducible refine gate_callee (f := 119) rfl ?_); refine gL (some 16) Try.func119 #[.slice A0 l0.length c0, .int .i64 (rd l1 x10_1)] ?_; (with_reducible refine (impl_FindPath.calls _ _ l0 (rd l1 x10_1) t384 _ ?side1 ?side2 A6.out).mono ?_); (case side1 => exact cB HR0); (case side2 => exact HC0.out); rintro e w11 ⟨rfl, hb⟩; refine ⟨_, rfl, ?_⟩; replace HB := Aside0.mk (below_step bA hb); (try clear hb); have p385 : 0 ≤ (t384 : Int) := dA; have q385 : t384 < (l0.length : Int) := dA; obtain ⟨ad385, e385, hx385_0, hx385_1, hx385_2, hx385_3⟩ := at_T89 HR0.out t384 p385 q385; cases e385; replace hx385_0 := hC HB hx385_0; replace hx385_1 := hC HB hx385_1; replace hx385_2 := hC HB hx385_2; replace hx385_3 := hC HB hx385_3; replace p385 := eq_true p385; replace q385 := eq_true q385))
      go_ret
      exact ⟨rA, bA⟩
     ·
      rw [if_neg c10] at H
      have c10b0 : (((rd_T89 l0 t384).f1) == 2) = false := beq_eq_false_iff_ne.mpr c10
      have c10b1 : (((rd_T89 l0 t384).f1) != 2) = true := bne_iff_ne.mpr c10
      have H' := Aside0.mk H
      clear H
      have p383 : 0 ≤ (x10_1 : Int) := dA
      have q383 : x10_1 < (l1.length : Int) := dA
      obtain ⟨ad383, e383, hx383_0⟩ := Kd.at_int HR1.out x10_1 p383 q383
      cases e383
      replace hx383_0 := hC HB hx383_0
      replace p383 := eq_true p383
      replace q383 := eq_true q383
      go_wp2_with (first | ((with_reducible refine gate_callee (f := 119) rfl ?_); refine gL (some 16) Try.func119 #[.slice A0 l0.length c0, .int .i64 (rd l1 x10_1)] ?_; (with_reducible refine (impl_FindPath.calls _ _ l0 (rd l1 x10_1) t384 _ ?side1 ?side2 A6.out).mono ?_); (case side1 => exact cB HR0); (case side2 => exact HC0.out); rintro e w12 ⟨rfl, hb⟩; refine ⟨_, rfl, ?_⟩; replace HB := Aside0.mk (below_step bA hb); (try clear hb); have p385 : 0 ≤ (t384 : Int) := dA; have q385 : t384 < (l0.length : Int) := dA; obtain ⟨ad385, e385, hx385_0, hx385_1, hx385_2, hx385_3⟩ := at_T89 HR0.out t384 p385 q385; cases e385; replace hx385_0 := hC HB hx385_0; replace hx385_1 := hC HB hx385_1; replace hx385_2 := hC HB hx385_2; replace hx385_3 := hC HB hx385_3; replace p385 := eq_true p385; replace q385 := eq_true q385))
      go_roundg k1
      case measure => have := HK1.out; omega
      case rel => exact ⟨(wrap64 (x10_1 + 1)), rS, H', ⟨by have := HK1.out; omega⟩, ⟨bA⟩⟩
    ·
     rw [if_neg c7] at H
     have c7b0 := decide_eq_false c7
     clear c7
     have H' := Aside0.mk H
     clear H
     have p383 : 0 ≤ (x10_1 : Int) := dA
     have q383 : x10_1 < (l1.length : Int) := dA
     obtain ⟨ad383, e383, hx383_0⟩ := Kd.at_int HR1.out x10_1 p383 q383
     cases e383
     replace hx383_0 := hC HB hx383_0
     replace p383 := eq_true p383
     replace q383 := eq_true q383
     go_wp2_with (first | ((with_reducible refine gate_callee (f := 119) rfl ?_); refine gL (some 16) Try.func119 #[.slice A0 l0.length c0, .int .i64 (rd l1 x10_1)] ?_; (with_reducible refine (impl_FindPath.calls _ _ l0 (rd l1 x10_1) t384 _ ?side1 ?side2 A6.out).mono ?_); (case side1 => exact cB HR0); (case side2 => exact HC0.out); rintro e w13 ⟨rfl, hb⟩; refine ⟨_, rfl, ?_⟩; replace HB := Aside0.mk (below_step bA hb); (try clear hb)))
     go_roundg k1
     case measure => have := HK1.out; omega
     case rel => exact ⟨(wrap64 (x10_1 + 1)), rS, H', ⟨by have := HK1.out; omega⟩, ⟨bA⟩⟩
   ·
    rw [if_neg c3] at H
    have c3b0 := decide_eq_false c3
    clear c3
    obtain rfl := Option.some.inj H
    go_wp2
    go_ret
    exact ⟨rA, bA⟩

/-! ### impl_Covers: function 128 -/
mutual
def impl_Covers.l0 : Nat → List (S89) → List (List Int) → List (List Int) → Int → Int → Option (Bool)
 | 0, _, _, _, _, _ => none
 | k + 1, x0, x1, x12, x13, x14 => if x14 < x13 then (if 0 ≤ x14 then (if x14 < (x12.length : Int) then ((impl_IsTogether.f k x0 (rd_L3 x12 x14)).bind fun t388 => (if t388 = true then (impl_Covers.l0 k x0 x1 x12 x13 (wrap64 (x14 + 1))) else (some false))) else (none)) else (none)) else (impl_Covers.l1 k x1 x0 (x0.length : Int) 0)
def impl_Covers.l1 : Nat → List (List Int) → List (S89) → Int → Int → Option (Bool)
 | 0, _, _, _, _ => none
 | k + 1, x1, x23, x24, x25 => if x25 < x24 then (if 0 ≤ x25 then (if x25 < (x23.length : Int) then ((impl_isCovered.f x1 ((rd_T89 x23 x25).f0)).bind fun t391 => (if t391 = true then (impl_Covers.l1 k x1 x23 x24 (wrap64 (x25 + 1))) else (some false))) else (none)) else (none)) else (some true)
end
def impl_Covers.f (k : Nat) (l0 : List (S89)) (l1 : List (List Int)) : Option (Bool) := (impl_ArePaths.f k l0).bind fun t386 => (if t386 = true then (impl_Covers.l0 k l0 l1 l1 (l1.length : Int) 0) else (some false))
theorem impl_Covers.mono_l : ∀ k, (∀ y0 y1 y2 y3 y4, LeO (impl_Covers.l0 k y0 y1 y2 y3 y4) (impl_Covers.l0 (k + 1) y0 y1 y2 y3 y4)) ∧ (∀ y0 y1 y2 y3, LeO (impl_Covers.l1 k y0 y1 y2 y3) (impl_Covers.l1 (k + 1) y0 y1 y2 y3))
 | 0 => ⟨fun _ _ _ _ _ r h => by simp [impl_Covers.l0] at h, fun _ _ _ _ r h => by simp [impl_Covers.l1] at h⟩
 | k + 1 => by
  obtain ⟨ih0, ih1⟩ := impl_Covers.mono_l k
  refine ⟨?_, ?_⟩
  ·
   intro y0 y1 y2 y3 y4
   unfold impl_Covers.l0
   repeat' first | (with_reducible first | exact LeO.refl _ | exact LeO.none _ | refine LeO.ite ?_ ?_ | refine LeO.bind ?_ (fun _ => ?_) | exact ih0 _ _ _ _ _ | exact ih1 _ _ _ _ | exact impl_ArePaths.mono _ _ | exact impl_IsTogether.mono _ _ _)
  ·
   intro y0 y1 y2 y3
   unfold impl_Covers.l1
   repeat' first | (with_reducible first | exact LeO.refl _ | exact LeO.none _ | refine LeO.ite ?_ ?_ | refine LeO.bind ?_ (fun _ => ?_) | exact ih0 _ _ _ _ _ | exact ih1 _ _ _ _ | exact impl_ArePaths.mono _ _ | exact impl_IsTogether.mono _ _ _)
theorem impl_Covers.mono : ∀ a0 a1 k, LeO (impl_Covers.f k a0 a1) (impl_Covers.f (k + 1) a0 a1) := by
 intro a0 a1 k
 obtain ⟨ih0, ih1⟩ := impl_Covers.mono_l k
 unfold impl_Covers.f
 repeat' first | (with_reducible first | exact LeO.refl _ | exact LeO.none _ | refine LeO.ite ?_ ?_ | refine LeO.bind ?_ (fun _ => ?_) | exact ih0 _ _ _ _ _ | exact ih1 _ _ _ _ | exact impl_ArePaths.mono _ _ | exact impl_IsTogether.mono _ _ _)
set_option maxHeartbeats 8000000 in
set_option maxRecDepth 100000 in
theorem impl_Covers.calls (k : Nat) (A0 : Option Addr) (c0 : Nat) (l0 : List (S89)) (A1 : Option Addr) (c1 : Nat) (l1 : List (List Int)) (r : Bool) (w : World) (hr0 : Kd.C k89 w A0 l0.length l0) (hc0 : l0.length ≤ c0) (hr1 : Kd.C (Kd.slice 3 (Kd.int .i64)) w A1 l1.length l1) (hc1 : l1.length ≤ c1) (h : impl_Covers.f k l0 l1 = some r) :
  Calls Try.prog 128 #[.slice A0 l0.length c0, .slice A1 l1.length c1] w fun e w' => e = .returned (.bool r) ∧ Below w.heap.size w w' := by
 have hu89 := Try.underlying89
 have HR0 := Aside0.mk hr0
 have HC0 := Aside0.mk hc0
 clear hr0 hc0
 have HR1 := Aside0.mk hr1
 have HC1 := Aside0.mk hc1
 clear hr1 hc1
 have HB := Aside0.mk (Below.refl w.heap.size w)
 have H : ((impl_ArePaths.f k l0).bind fun t386 => (if t386 = true then (impl_Covers.l0 k l0 l1 l1 (l1.length : Int) 0) else (some false))) = some r := h
 clear h
 obtain ⟨t386, A3, H⟩ := bindE H
 try dsimp only at H
 by_cases c4 : t386 = true
 ·
  subst c4
  have H1 : (impl_Covers.l0 k l0 l1 l1 (l1.length : Int) 0) = some r := by rw [if_pos rfl] at H; exact H
  clear H
  have H := H1
  clear H1
  have H' := Aside0.mk H
  clear H
  go_enter Try.func128, Try.ntmps128
  go_wp2_with (first | ((with_reducible refine gate_callee (f := 126) rfl ?_); refine gL (some 10) Try.func126 #[.slice A0 l0.length c0] ?_; (with_reducible refine (impl_ArePaths.calls k _ _ l0 true _ ?side1 ?side2 A3.out).mono ?_); (case side1 => exact cO HR0); (case side2 => exact HC0.out); rintro e w5 ⟨rfl, hb⟩; refine ⟨_, rfl, ?_⟩; replace HB := Aside0.mk (below_step bA hb); (try clear hb)))
  go_loopg [14] k (fun kq v14 w' => ∃ (x14_1 : Int), v14 = .int .i64 x14_1 ∧ Aside0 (impl_Covers.l0 kq l0 l1 l1 (l1.length : Int) x14_1 = some r) ∧ Aside0 (kq ≤ k) ∧ Aside0 (Below w.heap.size w w'))
  case atStart => exact ⟨(0), rS, H', ⟨Nat.le_refl _⟩, ⟨bA⟩⟩
  case round =>
   clear H'
   try clear c1
   try clear p2
   try clear c4
   obtain ⟨x14_1, rfl, HA, HK1, HB⟩ := hrel
   cases gk with
   | zero => exact absurd HA.out (by simp [impl_Covers.l0])
   | succ k1 =>
    have H := HA.out
    clear HA
    simp only [impl_Covers.l0] at H
    by_cases c6 : x14_1 < (l1.length : Int)
    ·
     rw [if_pos c6] at H
     have c6b0 := decide_eq_true c6
     clear c6
     have c7 : 0 ≤ x14_1 := ifN H
     replace H := ifT H
     have c7b0 := decide_eq_true c7
     clear c7
     have c8 : x14_1 < (l1.length : Int) := ifN H
     replace H := ifT H
     have c8b0 := decide_eq_true c8
     clear c8
     obtain ⟨t388, A9, H⟩ := bindE H
     try dsimp only at H
     by_cases c10 : t388 = true
     ·
      subst c10
      have H1 : (impl_Covers.l0 k1 l0 l1 l1 (l1.length : Int) (wrap64 (x14_1 + 1))) = some r := by rw [if_pos rfl] at H; exact H
      clear H
      have H := H1
      clear H1
      have H' := Aside0.mk H
      clear H
      have p387 : 0 ≤ (x14_1 : Int) := dA
      have q387 : x14_1 < (l1.length : Int) := dA
      obtain ⟨ad387, A387_0, c387_0, e387, hx387_0, hl387_0, hi387_0⟩ := at_L3 HR1.out x14_1 p387 q387
      cases e387
      replace hx387_0 := hC HB hx387_0
      have HR387_0 := Aside0.mk hi387_0
      have HC387_0 := Aside0.mk hl387_0
      clear hi387_0 hl387_0
      replace p387 := eq_true p387
      replace q387 := eq_true q387
      go_wp2_with (first | ((with_reducible refine gate_callee (f := 87) rfl ?_); refine gL (some 20) Try.func87 #[.slice A0 l0.length c0, .slice A387_0 (rd_L3 l1 x14_1).length c387_0] ?_; (with_reducible refine (impl_IsTogether.calls k1 _ _ l0 _ _ (rd_L3 l1 x14_1) true _ ?side1 ?side2 ?side3 ?side4 A9.out).mono ?_); (case side1 => exact cB HR0); (case side2 => exact HC0.out); (case side3 => exact cB HR387_0); (case side4 => exact HC387_0.out); rintro e w11 ⟨rfl, hb⟩; refine ⟨_, rfl, ?_⟩; replace HB := Aside0.mk (below_step bA hb); (try clear hb)))
      go_roundg k1
      case measure => have := HK1.out; omega
      case rel => exact ⟨(wrap64 (x14_1 + 1)), rS, H', ⟨by have := HK1.out; omega⟩, ⟨bA⟩⟩
     ·
      replace c10 := Bool.eq_false_iff.mpr c10
      subst c10
      have H1 : (some false) = some r := by rw [if_neg (show ¬ (false = true) by decide)] at H; exact H
      clear H
      have H := H1
      clear H1
      obtain rfl := Option.some.inj H
      have p387 : 0 ≤ (x14_1 : Int) := dA
      have q387 : x14_1 < (l1.length : Int) := dA
      obtain ⟨ad387, A387_0, c387_0, e387, hx387_0, hl387_0, hi387_0⟩ := at_L3 HR1.out x14_1 p387 q387
      cases e387
      replace hx387_0 := hC HB hx387_0
      have HR387_0 := Aside0.mk hi387_0
      have HC387_0 := Aside0.mk hl387_0
      clear hi387_0 hl387_0
      replace p387 := eq_true p387
      replace q387 := eq_true q387
      go_wp2_with (first | ((with_reducible refine gate_callee (f := 87) rfl ?_); refine gL (some 20) Try.func87 #[.slice A0 l0.length c0, .slice A387_0 (rd_L3 l1 x14_1).length c387_0] ?_; (with_reducible refine (impl_IsTogether.calls k1 _ _ l0 _ _ (rd_L3 l1 x14_1) false _ ?side1 ?side2 ?side3 ?side4 A9.out).mono ?_); (case side1 => exact cB HR0); (case side2 => exact HC0.out); (case side3 => exact cB HR387_0); (case side4 => exact HC387_0.out); rintro e w12 ⟨rfl, hb⟩; refine ⟨_, rfl, ?_⟩; replace HB := Aside0.mk (below_step bA hb); (try clear hb)))
      go_ret
      exact ⟨rA, bA⟩
    ·
     rw [if_neg c6] at H
     have c6b0 := decide_eq_false c6
     clear c6
     have H' := Aside0.mk H
     clear H
     go_wp2
     go_loopg [25] k1 (fun kq v25 w' => ∃ (x25_2 : Int), v25 = .int .i64 x25_2 ∧ Aside0 (impl_Covers.l1 kq l1 l0 (l0.length : Int) x25_2 = some r) ∧ Aside0 (kq ≤ k1) ∧ Aside0 (Below w.heap.size w w'))
     case atStart => exact ⟨(0), rS, H', ⟨Nat.le_refl _⟩, ⟨bA⟩⟩
     case round =>
      clear H'
      try clear c1
      try clear p2
      try clear c3
      try clear p3
      try clear q3
      try clear hx3
      try clear c4
      try clear c6
      try clear c6b0
      try clear p6
      try clear c7
      try clear c7b0
      try clear c8
      try clear c8b0
      try clear c10
      try clear c12
      try clear hx387_0
      try clear p2
      try clear p387
      try clear q387
      obtain ⟨x25_2, rfl, HA, HK2, HB⟩ := hrel
      cases gk with
      | zero => exact absurd HA.out (by simp [impl_Covers.l1])
      | succ k2 =>
       have H := HA.out
       clear HA
       simp only [impl_Covers.l1] at H
       by_cases c13 : x25_2 < (l0.length : Int)
       ·
        rw [if_pos c13] at H
        have c13b0 := decide_eq_true c13
        clear c13
        have c14 : 0 ≤ x25_2 := ifN H
        replace H := ifT H
        have c14b0 := decide_eq_true c14
        clear c14
        have c15 : x25_2 < (l0.length : Int) := ifN H
        replace H := ifT H
        have c15b0 := decide_eq_true c15
        clear c15
        obtain ⟨t391, A16, H⟩ := bindE H
        try dsimp only at H
        by_cases c17 : t391 = true
        ·
         subst c17
         have H1 : (impl_Covers.l1 k2 l1 l0 (l0.length : Int) (wrap64 (x25_2 + 1))) = some r := by rw [if_pos rfl] at H; exact H
         clear H
         have H := H1
         clear H1
         have H' := Aside0.mk H
         clear H
         have p389 : 0 ≤ (x25_2 : Int) := dA
         have q389 : x25_2 < (l0.length : Int) := dA
         obtain ⟨ad389, e389, hx389_0, hx389_1, hx389_2, hx389_3⟩ := at_T89 HR0.out x25_2 p389 q389
         cases e389
         replace hx389_0 := hC HB hx389_0
         replace hx389_1 := hC HB hx389_1
         replace hx389_2 := hC HB hx389_2
         replace hx389_3 := hC HB hx389_3
         replace p389 := eq_true p389
         replace q389 := eq_true q389
         go_wp2_with (first | ((with_reducible refine gate_dst (N := 8) rfl ?_); refine bE (N := 8) (cs := #[.int .i64 0, .int .i64 0, .int .i64 0, .int .i64 0]) (t := 89) ?_; intro gb390 hg w18 hbox hb; have n0_ := Aside0.mk (below_step bA hb); have n1_ := Aside0.mk (hbox); have n2_ := Aside0.mk ((by rw [hg]; exact (below_size bA) : w.heap.size ≤ gb390)); have n3_ := Aside0.mk ((by rw [hg]; exact (below_size bA) : w.heap.size ≤ gb390)); clear HB; have HB := n0_; have BK390 := n1_; have GW390 := n2_; have GE390 := n3_; clear n0_ n1_ n2_ n3_; clear hb hbox hg; have hcz19_0 : w18.cell? ⟨gb390, 0, none⟩ = some (.int .i64 0) := bC BK390 0; have hcz19_1 : w18.cell? ⟨gb390, 1, none⟩ = some (.int .i64 0) := bC BK390 1; have hcz19_2 : w18.cell? ⟨gb390, 2, none⟩ = some (.int .i64 0) := bC BK390 2; have hcz19_3 : w18.cell? ⟨gb390, 3, none⟩ = some (.int .i64 0) := bC BK390 3; have hfz19_0 := blk_frozen BK390.out 0; have hfz19_1 := blk_frozen BK390.out 1; have hfz19_2 := blk_frozen BK390.out 2; have hfz19_3 := blk_frozen BK390.out 3) | ((with_reducible refine gate_callee (f := 127) rfl ?_); refine gL (some 32) Try.func127 #[.slice A1 l1.length c1, .int .i64 ((rd_T89 l0 x25_2).f0)] ?_; (with_reducible refine (impl_isCovered.calls _ _ l1 ((rd_T89 l0 x25_2).f0) true _ ?side1 ?side2 A16.out).mono ?_); (case side1 => exact Kd.C_below HR1.out bG); (case side2 => exact HC1.out); rintro e w20 ⟨rfl, hb⟩; refine ⟨_, rfl, ?_⟩; have n0_ := Aside0.mk (blk_below (g := gb390) (o := .cells #[.int .i64 ((rd_T89 l0 x25_2).f0), .int .i64 ((rd_T89 l0 x25_2).f1), .int .i64 ((rd_T89 l0 x25_2).f2), .int .i64 ((rd_T89 l0 x25_2).f3)] 89 (0, 0)) (by (with_reducible repeat (first | refine blk_drewN ?_ _ | refine blk_drew ?_ | refine blk_alloc ?_ _)); refine blk_put (cs := #[.int .i64 ((rd_T89 l0 x25_2).f0), .int .i64 ((rd_T89 l0 x25_2).f1), .int .i64 ((rd_T89 l0 x25_2).f2), .int .i64 0]) ?_ 3 _ rfl; (with_reducible repeat (first | refine blk_drewN ?_ _ | refine blk_drew ?_ | refine blk_alloc ?_ _)); refine blk_put (cs := #[.int .i64 ((rd_T89 l0 x25_2).f0), .int .i64 ((rd_T89 l0 x25_2).f1), .int .i64 0, .int .i64 0]) ?_ 2 _ rfl; (with_reducible repeat (first | refine blk_drewN ?_ _ | refine blk_drew ?_ | refine blk_alloc ?_ _)); refine blk_put (cs := #[.int .i64 ((rd_T89 l0 x25_2).f0), .int .i64 0, .int .i64 0, .int .i64 0]) ?_ 1 _ rfl; (with_reducible repeat (first | refine blk_drewN ?_ _ | refine blk_drew ?_ | refine blk_alloc ?_ _)); refine blk_put (cs := #[.int .i64 0, .int .i64 0, .int .i64 0, .int .i64 0]) ?_ 0 _ rfl; (with_reducible repeat (first | refine blk_drewN ?_ _ | refine blk_drew ?_ | refine blk_alloc ?_ _)); exact BK390.out) hb); have n1_ := Aside0.mk (below_step bG hb); clear BK390; clear HB; have BK390 := n0_; have HB := n1_; clear n0_ n1_; (try clear hb)))
         go_roundg k2
         case measure => have := HK1.out; have := HK2.out; omega
         case rel => exact ⟨(wrap64 (x25_2 + 1)), rS, H', ⟨by have := HK1.out; have := HK2.out; omega⟩, ⟨bG⟩⟩
        ·
         replace c17 := Bool.eq_false_iff.mpr c17
         subst c17
         have H1 : (some false) = some r := by rw [if_neg (show ¬ (false = true) by decide)] at H; exact H
         clear H
         have H := H1
         clear H1
         obtain rfl := Option.some.inj H
         have p389 : 0 ≤ (x25_2 : Int) := dA
         have q389 : x25_2 < (l0.length : Int) := dA
         obtain ⟨ad389, e389, hx389_0, hx389_1, hx389_2, hx389_3⟩ := at_T89 HR0.out x25_2 p389 q389
         cases e389
         replace hx389_0 := hC HB hx389_0
         replace hx389_1 := hC HB hx389_1
         replace hx389_2 := hC HB hx389_2
         replace hx389_3 := hC HB hx389_3
         replace p389 := eq_true p389
         replace q389 := eq_true q389
         go_wp2_with (first | ((with_reducible refine gate_dst (N := 8) rfl ?_); refine bE (N := 8) (cs := #[.int .i64 0, .int .i64 0, .int .i64 0, .int .i64 0]) (t := 89) ?_; intro gb390 hg w21 hbox hb; have n0_ := Aside0.mk (below_step bA hb); have n1_ := Aside0.mk (hbox); have n2_ := Aside0.mk ((by rw [hg]; exact (below_size bA) : w.heap.size ≤ gb390)); have n3_ := Aside0.mk ((by rw [hg]; exact (below_size bA) : w.heap.size ≤ gb390)); clear HB; have HB := n0_; have BK390 := n1_; have GW390 := n2_; have GE390 := n3_; clear n0_ n1_ n2_ n3_; clear hb hbox hg; have hcz22_0 : w21.cell? ⟨gb390, 0, none⟩ = some (.int .i64 0) := bC BK390 0; have hcz22_1 : w21.cell? ⟨gb390, 1, none⟩ = some (.int .i64 0) := bC BK390 1; have hcz22_2 : w21.cell? ⟨gb390, 2, none⟩ = some (.int .i64 0) := bC BK390 2; have hcz22_3 : w21.cell? ⟨gb390, 3, none⟩ = some (.int .i64 0) := bC BK390 3; have hfz22_0 := blk_frozen BK390.out 0; have hfz22_1 := blk_frozen BK390.out 1; have hfz22_2 := blk_frozen BK390.out 2; have hfz22_3 := blk_frozen BK390.out 3) | ((with_reducible refine gate_callee (f := 127) rfl ?_); refine gL (some 32) Try.func127 #[.slice A1 l1.length c1, .int .i64 ((rd_T89 l0 x25_2).f0)] ?_; (with_reducible refine (impl_isCovered.calls _ _ l1 ((rd_T89 l0 x25_2).f0) false _ ?side1 ?side2 A16.out).mono ?_); (case side1 => exact Kd.C_below HR1.out bG); (case side2 => exact HC1.out); rintro e w23 ⟨rfl, hb⟩; refine ⟨_, rfl, ?_⟩; have n0_ := Aside0.mk (blk_below (g := gb390) (o := .cells #[.int .i64 ((rd_T89 l0 x25_2).f0), .int .i64 ((rd_T89 l0 x25_2).f1), .int .i64 ((rd_T89 l0 x25_2).f2), .int .i64 ((rd_T89 l0 x25_2).f3)] 89 (0, 0)) (by (with_reducible repeat (first | refine blk_drewN ?_ _ | refine blk_drew ?_ | refine blk_alloc ?_ _)); refine blk_put (cs := #[.int .i64 ((rd_T89 l0 x25_2).f0), .int .i64 ((rd_T89 l0 x25_2).f1), .int .i64 ((rd_T89 l0 x25_2).f2), .int .i64 0]) ?_ 3 _ rfl; (with_reducible repeat (first | refine blk_drewN ?_ _ | refine blk_drew ?_ | refine blk_alloc ?_ _)); refine blk_put (cs := #[.int .i64 ((rd_T89 l0 x25_2).f0), .int .i64 ((rd_T89 l0 x25_2).f1), .int .i64 0, .int .i64 0]) ?_ 2 _ rfl; (with_reducible repeat (first | refine blk_drewN ?_ _ | refine blk_drew ?_ | refine blk_alloc ?_ _)); refine blk_put (cs := #[.int .i64 ((rd_T89 l0 x25_2).f0), .int .i64 0, .int .i64 0, .int .i64 0]) ?_ 1 _ rfl; (with_reducible repeat (first | refine blk_drewN ?_ _ | refine blk_drew ?_ | refine blk_alloc ?_ _)); refine blk_put (cs := #[.int .i64 0, .int .i64 0, .int .i64 0, .int .i64 0]) ?_ 0 _ rfl; (with_reducible repeat (first | refine blk_drewN ?_ _ | refine blk_drew ?_ | refine blk_alloc ?_ _)); exact BK390.out) hb); have n1_ := Aside0.mk (below_step bG hb); clear BK390; clear HB; have BK390 := n0_; have HB := n1_; clear n0_ n1_; (try clear hb)))
         go_ret
         exact ⟨rA, bG⟩
       ·
        rw [if_neg c13] at H
        have c13b0 := decide_eq_false c13
        clear c13
        obtain rfl := Option.some.inj H
        go_wp2
        go_ret
        exact ⟨rA, bA⟩
 ·
  replace c4 := Bool.eq_false_iff.mpr c4
  subst c4
  have H1 : (some false) = some r := by rw [if_neg (show ¬ (false = true) by decide)] at H; exact H
  clear H
  have H := H1
  clear H1
  obtain rfl := Option.some.inj H
  go_enter Try.func128, Try.ntmps128
  go_wp2_with (first | ((with_reducible refine gate_callee (f := 126) rfl ?_); refine gL (some 10) Try.func126 #[.slice A0 l0.length c0] ?_; (with_reducible refine (impl_ArePaths.calls k _ _ l0 false _ ?side1 ?side2 A3.out).mono ?_); (case side1 => exact cO HR0); (case side2 => exact HC0.out); rintro e w24 ⟨rfl, hb⟩; refine ⟨_, rfl, ?_⟩; replace HB := Aside0.mk (below_step bA hb); (try clear hb)))
  go_ret
  exact ⟨rA, bA⟩

end Go.Proofs.Ytdkmmefmhfbgkaa.P
