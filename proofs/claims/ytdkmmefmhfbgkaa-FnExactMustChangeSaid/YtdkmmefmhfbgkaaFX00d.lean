/- Printed by myprint.py (wip/tools) over the kit's print: what Go's functions compute, and that they do. Lean checks it. -/
import Derived.Test.YtdkmmefmhfbgkaaF0
import Derived.Test.YtdkmmefmhfbgkaaFX00c
import Derived.Shelf.RegionOpenPlain
import Derived.Lib.Overlaps
import Derived.Laws.Externs
namespace Go.Proofs.Ytdkmmefmhfbgkaa.P
open Go.RowKit Go.Proofs.YtdkmmefmhfbgkaaW.PrintWords Go.Proofs.YtdkmmefmhfbgkaaW.PrintLast Go.Proofs.YtdkmmefmhfbgkaaW.PrintMore Go.Proofs.Ytdkmmefmhfbgkaa.Sq
attribute [local go_sem] max2_int min2_int max_two min_two max_three min_three max_four min_four
set_option linter.unusedVariables false
set_option linter.unusedSimpArgs false

/-! ### impl_ClearOf: function 135 -/
def impl_ClearOf.f (a0_0 : Int) (a0_1 : Int) (a0_2 : Int) (a0_3 : Int) : Option (Int) := (impl_IsPath.f a0_0 a0_1 a0_2 a0_3).bind fun t390 => (if t390 = true then (if a0_1 = 1 then (some 2) else (if a0_1 = 3 then (some 3) else (some 5))) else (some 0))
set_option maxHeartbeats 8000000 in
set_option maxRecDepth 100000 in
theorem impl_ClearOf.calls (a0_0 : Int) (a0_1 : Int) (a0_2 : Int) (a0_3 : Int) (r : Int) (w : World) (h : impl_ClearOf.f a0_0 a0_1 a0_2 a0_3 = some r) :
  Calls Try.prog 135 #[.agg #[.int .i64 a0_0, .int .i64 a0_1, .int .i64 a0_2, .int .i64 a0_3]] w fun e w' => e = .returned (.int .i64 r) ∧ Below w.heap.size w w' := by
 have hu89 := Try.underlying89
 have HB := Aside0.mk (Below.refl w.heap.size w)
 have H : ((impl_IsPath.f a0_0 a0_1 a0_2 a0_3).bind fun t390 => (if t390 = true then (if a0_1 = 1 then (some 2) else (if a0_1 = 3 then (some 3) else (some 5))) else (some 0))) = some r := h
 clear h
 obtain ⟨t390, A2, H⟩ := bindE H
 try dsimp only at H
 by_cases c3 : t390 = true
 ·
  subst c3
  have H1 : (if a0_1 = 1 then (some 2) else (if a0_1 = 3 then (some 3) else (some 5))) = some r := by rw [if_pos rfl] at H; exact H
  clear H
  have H := H1
  clear H1
  by_cases c4 : a0_1 = 1
  ·
   rw [if_pos c4] at H
   have c4b0 : (a0_1 == 1) = true := beq_iff_eq.mpr c4
   have c4b1 : (a0_1 != 1) = false := bne_eq_false_iff_eq.mpr c4
   clear c4
   obtain rfl := Option.some.inj H
   go_enter Try.func135, Try.ntmps135
   go_wp2_with (first | ((with_reducible refine gate_dst (N := 1) rfl ?_); refine bE (N := 1) (cs := #[.int .i64 a0_0, .int .i64 a0_1, .int .i64 a0_2, .int .i64 a0_3]) (t := 89) ?_; intro gb389 hg w5 hbox hb; have n0_ := Aside0.mk (below_step bA hb); have n1_ := Aside0.mk (hbox); have n2_ := Aside0.mk ((by rw [hg]; exact (below_size bA) : w.heap.size ≤ gb389)); have n3_ := Aside0.mk ((by rw [hg]; exact (below_size bA) : w.heap.size ≤ gb389)); clear HB; have HB := n0_; have BK389 := n1_; have GW389 := n2_; have GE389 := n3_; clear n0_ n1_ n2_ n3_; clear hb hbox hg; have hcz6_0 : w5.cell? ⟨gb389, 0, none⟩ = some (.int .i64 a0_0) := bC BK389 0; have hcz6_1 : w5.cell? ⟨gb389, 1, none⟩ = some (.int .i64 a0_1) := bC BK389 1; have hcz6_2 : w5.cell? ⟨gb389, 2, none⟩ = some (.int .i64 a0_2) := bC BK389 2; have hcz6_3 : w5.cell? ⟨gb389, 3, none⟩ = some (.int .i64 a0_3) := bC BK389 3; have hfz6_0 := blk_frozen BK389.out 0; have hfz6_1 := blk_frozen BK389.out 1; have hfz6_2 := blk_frozen BK389.out 2; have hfz6_3 := blk_frozen BK389.out 3) | ((with_reducible refine gate_callee (f := 146) rfl ?_); refine gL (some 4) Try.func146 #[.agg #[.int .i64 a0_0, .int .i64 a0_1, .int .i64 a0_2, .int .i64 a0_3]] ?_; (with_reducible refine (impl_IsPath.calls a0_0 a0_1 a0_2 a0_3 true _ A2.out).mono ?_); rintro e w7 ⟨rfl, hb⟩; refine ⟨_, rfl, ?_⟩; replace BK389 := Aside0.mk (blk_below (g := gb389) (bK BK389) hb); replace HB := Aside0.mk (below_step bG hb); (try clear hb); obtain ⟨hcz8_0, hcz8_1, hcz8_2, hcz8_3, hfz8_0, hfz8_1, hfz8_2, hfz8_3⟩ := blkc4 BK389))
   go_ret
   exact ⟨rA, bG⟩
  ·
   rw [if_neg c4] at H
   have c4b0 : (a0_1 == 1) = false := beq_eq_false_iff_ne.mpr c4
   have c4b1 : (a0_1 != 1) = true := bne_iff_ne.mpr c4
   by_cases c9 : a0_1 = 3
   ·
    rw [if_pos c9] at H
    have c9b0 : (a0_1 == 3) = true := beq_iff_eq.mpr c9
    have c9b1 : (a0_1 != 3) = false := bne_eq_false_iff_eq.mpr c9
    clear c9
    obtain rfl := Option.some.inj H
    go_enter Try.func135, Try.ntmps135
    go_wp2_with (first | ((with_reducible refine gate_dst (N := 1) rfl ?_); refine bE (N := 1) (cs := #[.int .i64 a0_0, .int .i64 a0_1, .int .i64 a0_2, .int .i64 a0_3]) (t := 89) ?_; intro gb389 hg w10 hbox hb; have n0_ := Aside0.mk (below_step bA hb); have n1_ := Aside0.mk (hbox); have n2_ := Aside0.mk ((by rw [hg]; exact (below_size bA) : w.heap.size ≤ gb389)); have n3_ := Aside0.mk ((by rw [hg]; exact (below_size bA) : w.heap.size ≤ gb389)); clear HB; have HB := n0_; have BK389 := n1_; have GW389 := n2_; have GE389 := n3_; clear n0_ n1_ n2_ n3_; clear hb hbox hg; have hcz11_0 : w10.cell? ⟨gb389, 0, none⟩ = some (.int .i64 a0_0) := bC BK389 0; have hcz11_1 : w10.cell? ⟨gb389, 1, none⟩ = some (.int .i64 a0_1) := bC BK389 1; have hcz11_2 : w10.cell? ⟨gb389, 2, none⟩ = some (.int .i64 a0_2) := bC BK389 2; have hcz11_3 : w10.cell? ⟨gb389, 3, none⟩ = some (.int .i64 a0_3) := bC BK389 3; have hfz11_0 := blk_frozen BK389.out 0; have hfz11_1 := blk_frozen BK389.out 1; have hfz11_2 := blk_frozen BK389.out 2; have hfz11_3 := blk_frozen BK389.out 3) | ((with_reducible refine gate_callee (f := 146) rfl ?_); refine gL (some 4) Try.func146 #[.agg #[.int .i64 a0_0, .int .i64 a0_1, .int .i64 a0_2, .int .i64 a0_3]] ?_; (with_reducible refine (impl_IsPath.calls a0_0 a0_1 a0_2 a0_3 true _ A2.out).mono ?_); rintro e w12 ⟨rfl, hb⟩; refine ⟨_, rfl, ?_⟩; replace BK389 := Aside0.mk (blk_below (g := gb389) (bK BK389) hb); replace HB := Aside0.mk (below_step bG hb); (try clear hb); obtain ⟨hcz13_0, hcz13_1, hcz13_2, hcz13_3, hfz13_0, hfz13_1, hfz13_2, hfz13_3⟩ := blkc4 BK389))
    go_ret
    exact ⟨rA, bG⟩
   ·
    rw [if_neg c9] at H
    have c9b0 : (a0_1 == 3) = false := beq_eq_false_iff_ne.mpr c9
    have c9b1 : (a0_1 != 3) = true := bne_iff_ne.mpr c9
    obtain rfl := Option.some.inj H
    go_enter Try.func135, Try.ntmps135
    go_wp2_with (first | ((with_reducible refine gate_dst (N := 1) rfl ?_); refine bE (N := 1) (cs := #[.int .i64 a0_0, .int .i64 a0_1, .int .i64 a0_2, .int .i64 a0_3]) (t := 89) ?_; intro gb389 hg w14 hbox hb; have n0_ := Aside0.mk (below_step bA hb); have n1_ := Aside0.mk (hbox); have n2_ := Aside0.mk ((by rw [hg]; exact (below_size bA) : w.heap.size ≤ gb389)); have n3_ := Aside0.mk ((by rw [hg]; exact (below_size bA) : w.heap.size ≤ gb389)); clear HB; have HB := n0_; have BK389 := n1_; have GW389 := n2_; have GE389 := n3_; clear n0_ n1_ n2_ n3_; clear hb hbox hg; have hcz15_0 : w14.cell? ⟨gb389, 0, none⟩ = some (.int .i64 a0_0) := bC BK389 0; have hcz15_1 : w14.cell? ⟨gb389, 1, none⟩ = some (.int .i64 a0_1) := bC BK389 1; have hcz15_2 : w14.cell? ⟨gb389, 2, none⟩ = some (.int .i64 a0_2) := bC BK389 2; have hcz15_3 : w14.cell? ⟨gb389, 3, none⟩ = some (.int .i64 a0_3) := bC BK389 3; have hfz15_0 := blk_frozen BK389.out 0; have hfz15_1 := blk_frozen BK389.out 1; have hfz15_2 := blk_frozen BK389.out 2; have hfz15_3 := blk_frozen BK389.out 3) | ((with_reducible refine gate_callee (f := 146) rfl ?_); refine gL (some 4) Try.func146 #[.agg #[.int .i64 a0_0, .int .i64 a0_1, .int .i64 a0_2, .int .i64 a0_3]] ?_; (with_reducible refine (impl_IsPath.calls a0_0 a0_1 a0_2 a0_3 true _ A2.out).mono ?_); rintro e w16 ⟨rfl, hb⟩; refine ⟨_, rfl, ?_⟩; replace BK389 := Aside0.mk (blk_below (g := gb389) (bK BK389) hb); replace HB := Aside0.mk (below_step bG hb); (try clear hb); obtain ⟨hcz17_0, hcz17_1, hcz17_2, hcz17_3, hfz17_0, hfz17_1, hfz17_2, hfz17_3⟩ := blkc4 BK389))
    go_ret
    exact ⟨rA, bG⟩
 ·
  replace c3 := Bool.eq_false_iff.mpr c3
  subst c3
  have H1 : (some 0) = some r := by rw [if_neg (show ¬ (false = true) by decide)] at H; exact H
  clear H
  have H := H1
  clear H1
  obtain rfl := Option.some.inj H
  go_enter Try.func135, Try.ntmps135
  go_wp2_with (first | ((with_reducible refine gate_dst (N := 1) rfl ?_); refine bE (N := 1) (cs := #[.int .i64 a0_0, .int .i64 a0_1, .int .i64 a0_2, .int .i64 a0_3]) (t := 89) ?_; intro gb389 hg w18 hbox hb; have n0_ := Aside0.mk (below_step bA hb); have n1_ := Aside0.mk (hbox); have n2_ := Aside0.mk ((by rw [hg]; exact (below_size bA) : w.heap.size ≤ gb389)); have n3_ := Aside0.mk ((by rw [hg]; exact (below_size bA) : w.heap.size ≤ gb389)); clear HB; have HB := n0_; have BK389 := n1_; have GW389 := n2_; have GE389 := n3_; clear n0_ n1_ n2_ n3_; clear hb hbox hg; have hcz19_0 : w18.cell? ⟨gb389, 0, none⟩ = some (.int .i64 a0_0) := bC BK389 0; have hcz19_1 : w18.cell? ⟨gb389, 1, none⟩ = some (.int .i64 a0_1) := bC BK389 1; have hcz19_2 : w18.cell? ⟨gb389, 2, none⟩ = some (.int .i64 a0_2) := bC BK389 2; have hcz19_3 : w18.cell? ⟨gb389, 3, none⟩ = some (.int .i64 a0_3) := bC BK389 3; have hfz19_0 := blk_frozen BK389.out 0; have hfz19_1 := blk_frozen BK389.out 1; have hfz19_2 := blk_frozen BK389.out 2; have hfz19_3 := blk_frozen BK389.out 3) | ((with_reducible refine gate_callee (f := 146) rfl ?_); refine gL (some 4) Try.func146 #[.agg #[.int .i64 a0_0, .int .i64 a0_1, .int .i64 a0_2, .int .i64 a0_3]] ?_; (with_reducible refine (impl_IsPath.calls a0_0 a0_1 a0_2 a0_3 false _ A2.out).mono ?_); rintro e w20 ⟨rfl, hb⟩; refine ⟨_, rfl, ?_⟩; replace BK389 := Aside0.mk (blk_below (g := gb389) (bK BK389) hb); replace HB := Aside0.mk (below_step bG hb); (try clear hb)))
  go_ret
  exact ⟨rA, bG⟩

/-! ### impl_ClearBetween: function 89 -/
mutual
def impl_ClearBetween.j0 : Nat → List (S89) → List Int → List Int → Int → Bool → Option (Int)
 | 0, _, _, _, _, _ => none
 | k + 1, x0, x1, x2, x7, x22 => if x22 = true then (some x7) else ((impl_Closes.f k x1 x2).bind fun t393 => (impl_ClearBetween.l0 k x0 x1 x2 x7 t393 (t393.length : Int) 0))
def impl_ClearBetween.l0 : Nat → List (S89) → List Int → List Int → Int → List Int → Int → Int → Option (Int)
 | 0, _, _, _, _, _, _, _ => none
 | k + 1, x0, x1, x2, x7, x26, x27, x28 => if x28 < x27 then (if 0 ≤ x28 then (if x28 < (x26.length : Int) then ((impl_Closes.f k x2 x1).bind fun t397 => (impl_ClearBetween.l1 k x0 x1 x2 x7 (rd x26 x28) x26 x27 x28 t397 (t397.length : Int) 0)) else (none)) else (none)) else (some x7)
def impl_ClearBetween.l1 : Nat → List (S89) → List Int → List Int → Int → Int → List Int → Int → Int → List Int → Int → Int → Option (Int)
 | 0, _, _, _, _, _, _, _, _, _, _, _ => none
 | k + 1, x0, x1, x2, x7, x9, x26, x27, x28, x34, x35, x36 => if x36 < x35 then (if 0 ≤ x36 then (if x36 < (x34.length : Int) then ((impl_FindPath.f x0 x9).bind fun t401 => (if 0 ≤ t401 then (if t401 < (x0.length : Int) then ((impl_FindPath.f x0 (rd x34 x36)).bind fun t404 => (if 0 ≤ t404 then (if t404 < (x0.length : Int) then ((impl_Conflict.f k ((rd_T89 x0 t401).f0) ((rd_T89 x0 t401).f1) ((rd_T89 x0 t401).f2) ((rd_T89 x0 t401).f3) ((rd_T89 x0 t404).f0) ((rd_T89 x0 t404).f1) ((rd_T89 x0 t404).f2) ((rd_T89 x0 t404).f3)).bind fun t406 => (if t406 = true then ((impl_ClearOf.f ((rd_T89 x0 t401).f0) ((rd_T89 x0 t401).f1) ((rd_T89 x0 t401).f2) ((rd_T89 x0 t401).f3)).bind fun t407 => (impl_ClearBetween.l1 k x0 x1 x2 (mx x7 t407) x9 x26 x27 x28 x34 x35 (wrap64 (x36 + 1)))) else (impl_ClearBetween.l1 k x0 x1 x2 x7 x9 x26 x27 x28 x34 x35 (wrap64 (x36 + 1))))) else (none)) else (none))) else (none)) else (none))) else (none)) else (none)) else (impl_ClearBetween.l0 k x0 x1 x2 x7 x26 x27 (wrap64 (x28 + 1)))
end
def impl_ClearBetween.f (k : Nat) (l0 : List (S89)) (l1 : List Int) (l2 : List Int) : Option (Int) := (impl_IsTogether.f k l0 l1).bind fun t391 => (if t391 = true then ((impl_IsTogether.f k l0 l2).bind fun t392 => (impl_ClearBetween.j0 k l0 l1 l2 0 (!t392))) else (impl_ClearBetween.j0 k l0 l1 l2 0 true))
theorem impl_ClearBetween.mono_l : ∀ k, (∀ y0 y1 y2 y3 y4, LeO (impl_ClearBetween.j0 k y0 y1 y2 y3 y4) (impl_ClearBetween.j0 (k + 1) y0 y1 y2 y3 y4)) ∧ (∀ y0 y1 y2 y3 y4 y5 y6, LeO (impl_ClearBetween.l0 k y0 y1 y2 y3 y4 y5 y6) (impl_ClearBetween.l0 (k + 1) y0 y1 y2 y3 y4 y5 y6)) ∧ (∀ y0 y1 y2 y3 y4 y5 y6 y7 y8 y9 y10, LeO (impl_ClearBetween.l1 k y0 y1 y2 y3 y4 y5 y6 y7 y8 y9 y10) (impl_ClearBetween.l1 (k + 1) y0 y1 y2 y3 y4 y5 y6 y7 y8 y9 y10))
 | 0 => ⟨fun _ _ _ _ _ r h => by simp [impl_ClearBetween.j0] at h, fun _ _ _ _ _ _ _ r h => by simp [impl_ClearBetween.l0] at h, fun _ _ _ _ _ _ _ _ _ _ _ r h => by simp [impl_ClearBetween.l1] at h⟩
 | k + 1 => by
  obtain ⟨ih0, ih1, ih2⟩ := impl_ClearBetween.mono_l k
  refine ⟨?_, ?_, ?_⟩
  ·
   intro y0 y1 y2 y3 y4
   unfold impl_ClearBetween.j0
   repeat' first | (with_reducible first | exact LeO.refl _ | exact LeO.none _ | refine LeO.ite ?_ ?_ | refine LeO.bind ?_ (fun _ => ?_) | exact ih0 _ _ _ _ _ | exact ih1 _ _ _ _ _ _ _ | exact ih2 _ _ _ _ _ _ _ _ _ _ _ | exact impl_Closes.mono _ _ _ | exact impl_Conflict.mono _ _ _ _ _ _ _ _ _ | exact impl_IsTogether.mono _ _ _)
  ·
   intro y0 y1 y2 y3 y4 y5 y6
   unfold impl_ClearBetween.l0
   repeat' first | (with_reducible first | exact LeO.refl _ | exact LeO.none _ | refine LeO.ite ?_ ?_ | refine LeO.bind ?_ (fun _ => ?_) | exact ih0 _ _ _ _ _ | exact ih1 _ _ _ _ _ _ _ | exact ih2 _ _ _ _ _ _ _ _ _ _ _ | exact impl_Closes.mono _ _ _ | exact impl_Conflict.mono _ _ _ _ _ _ _ _ _ | exact impl_IsTogether.mono _ _ _)
  ·
   intro y0 y1 y2 y3 y4 y5 y6 y7 y8 y9 y10
   unfold impl_ClearBetween.l1
   repeat' first | (with_reducible first | exact LeO.refl _ | exact LeO.none _ | refine LeO.ite ?_ ?_ | refine LeO.bind ?_ (fun _ => ?_) | exact ih0 _ _ _ _ _ | exact ih1 _ _ _ _ _ _ _ | exact ih2 _ _ _ _ _ _ _ _ _ _ _ | exact impl_Closes.mono _ _ _ | exact impl_Conflict.mono _ _ _ _ _ _ _ _ _ | exact impl_IsTogether.mono _ _ _)
theorem impl_ClearBetween.mono : ∀ a0 a1 a2 k, LeO (impl_ClearBetween.f k a0 a1 a2) (impl_ClearBetween.f (k + 1) a0 a1 a2) := by
 intro a0 a1 a2 k
 obtain ⟨ih0, ih1, ih2⟩ := impl_ClearBetween.mono_l k
 unfold impl_ClearBetween.f
 repeat' first | (with_reducible first | exact LeO.refl _ | exact LeO.none _ | refine LeO.ite ?_ ?_ | refine LeO.bind ?_ (fun _ => ?_) | exact ih0 _ _ _ _ _ | exact ih1 _ _ _ _ _ _ _ | exact ih2 _ _ _ _ _ _ _ _ _ _ _ | exact impl_Closes.mono _ _ _ | exact impl_Conflict.mono _ _ _ _ _ _ _ _ _ | exact impl_IsTogether.mono _ _ _)
def impl_ClearBetween.T11 : Bool × List (List Nat × List Nat) := (true, [([], []), ([], []), ([], []), ([], []), ([2, 3], [2, 3]), ([1, 4], [1, 4]), ([5], [5]), ([0, 6, 4], [0, 6])])
def impl_ClearBetween.B11 : List Nat := [0, 0, 0, 0, 12, 30, 62, 127]
theorem impl_ClearBetween.tab11 : rtab .any (opsOf Try.f89 11) = impl_ClearBetween.T11 := by kernel_rfl
theorem impl_ClearBetween.bits11 : waitsOk impl_ClearBetween.T11.2 impl_ClearBetween.B11 = true := by kernel_rfl
set_option maxHeartbeats 8000000 in
set_option maxRecDepth 100000 in
theorem impl_ClearBetween.calls (k : Nat) (A0 : Option Addr) (c0 : Nat) (l0 : List (S89)) (A1 : Option Addr) (c1 : Nat) (l1 : List Int) (A2 : Option Addr) (c2 : Nat) (l2 : List Int) (r : Int) (w : World) (hr0 : Kd.C k89 w A0 l0.length l0) (hc0 : l0.length ≤ c0) (hr1 : Kd.C (Kd.int .i64) w A1 l1.length l1) (hc1 : l1.length ≤ c1) (hr2 : Kd.C (Kd.int .i64) w A2 l2.length l2) (hc2 : l2.length ≤ c2) (h : impl_ClearBetween.f k l0 l1 l2 = some r) :
  Calls Try.prog 89 #[.slice A0 l0.length c0, .slice A1 l1.length c1, .slice A2 l2.length c2] w fun e w' => e = .returned (.int .i64 r) ∧ Below w.heap.size w w' := by
 have hu89 := Try.underlying89
 have HR0 := Aside0.mk hr0
 have HC0 := Aside0.mk hc0
 clear hr0 hc0
 have HR1 := Aside0.mk hr1
 have HC1 := Aside0.mk hc1
 clear hr1 hc1
 have HR2 := Aside0.mk hr2
 have HC2 := Aside0.mk hc2
 clear hr2 hc2
 have HB := Aside0.mk (Below.refl w.heap.size w)
 have H : ((impl_IsTogether.f k l0 l1).bind fun t391 => (if t391 = true then ((impl_IsTogether.f k l0 l2).bind fun t392 => (impl_ClearBetween.j0 k l0 l1 l2 0 (!t392))) else (impl_ClearBetween.j0 k l0 l1 l2 0 true))) = some r := h
 clear h
 have HC4 := Aside0.mk H
 clear H
 go_enter Try.func89, Try.ntmps89
 go_upto_region 2 with (fail)
 go_cut [22] (fun v22 wc => ∃ (kq : Nat) (x22_3 : Bool), v22 = .bool x22_3 ∧ Aside0 (impl_ClearBetween.j0 kq l0 l1 l2 0 x22_3 = some r) ∧ Aside0 (kq ≤ k) ∧ Aside0 (Below w.heap.size w wc))
 case first =>
  have H := HC4.out
  clear HC4
  obtain ⟨t391, A5, H⟩ := bindE H
  try dsimp only at H
  by_cases c6 : t391 = true
  ·
   subst c6
   have H1 : ((impl_IsTogether.f k l0 l2).bind fun t392 => (impl_ClearBetween.j0 k l0 l1 l2 0 (!t392))) = some r := by rw [if_pos rfl] at H; exact H
   clear H
   have H := H1
   clear H1
   obtain ⟨t392, A7, H⟩ := bindE H
   try dsimp only at H
   have H' := Aside0.mk H
   clear H
   go_wp2_with (first | ((with_reducible refine gate_callee (f := 87) rfl ?_); refine gL (some 15) Try.func87 #[.slice A0 l0.length c0, .slice A1 l1.length c1] ?_; (with_reducible refine (impl_IsTogether.calls k _ _ l0 _ _ l1 true _ ?side1 ?side2 ?side3 ?side4 A5.out).mono ?_); (case side1 => exact cB HR0); (case side2 => exact HC0.out); (case side3 => exact cB HR1); (case side4 => exact HC1.out); rintro e w8 ⟨rfl, hb⟩; refine ⟨_, rfl, ?_⟩; replace HB := Aside0.mk (below_step bA hb); (try clear hb)) | (go_at_call 87; (with_reducible refine (impl_IsTogether.calls k _ _ l0 _ _ l2 t392 _ ?side1 ?side2 ?side3 ?side4 A7.out).mono ?_); (case side1 => exact cB HR0); (case side2 => exact HC0.out); (case side3 => exact cB HR2); (case side4 => exact HC2.out); rintro e w9 ⟨rfl, hb⟩; replace HB := Aside0.mk (below_step bA hb); (try clear hb)))
   go_meet
   case rel => exact ⟨_, (!t392), rS, H', ⟨by first | omega | exact Nat.le_refl _⟩, ⟨bA⟩⟩
  ·
   replace c6 := Bool.eq_false_iff.mpr c6
   subst c6
   have H1 : (impl_ClearBetween.j0 k l0 l1 l2 0 true) = some r := by rw [if_neg (show ¬ (false = true) by decide)] at H; exact H
   clear H
   have H := H1
   clear H1
   have H' := Aside0.mk H
   clear H
   go_wp2_with (first | ((with_reducible refine gate_callee (f := 87) rfl ?_); refine gL (some 15) Try.func87 #[.slice A0 l0.length c0, .slice A1 l1.length c1] ?_; (with_reducible refine (impl_IsTogether.calls k _ _ l0 _ _ l1 false _ ?side1 ?side2 ?side3 ?side4 A5.out).mono ?_); (case side1 => exact cB HR0); (case side2 => exact HC0.out); (case side3 => exact cB HR1); (case side4 => exact HC1.out); rintro e w10 ⟨rfl, hb⟩; refine ⟨_, rfl, ?_⟩; replace HB := Aside0.mk (below_step bA hb); (try clear hb)))
   go_meet
   case rel => exact ⟨_, (true), rS, H', ⟨by first | omega | exact Nat.le_refl _⟩, ⟨bA⟩⟩
 case rest =>
  clear HC4
  try clear c1
  try clear c2
  try clear p2
  try clear c6
  try clear c8
  obtain ⟨kq, x22_3, rfl, HA, HJ3, HB⟩ := hcut
  cases kq with
  | zero => exact absurd HA.out (by simp [impl_ClearBetween.j0])
  | succ kj3 =>
   have H := HA.out
   clear HA
   simp only [impl_ClearBetween.j0] at H
   by_cases c11 : x22_3 = true
   ·
    subst c11
    have H1 : (some 0) = some r := by rw [if_pos rfl] at H; exact H
    clear H
    have H := H1
    clear H1
    obtain rfl := Option.some.inj H
    go_wp2
    go_ret
    exact ⟨rA, bA⟩
   ·
    replace c11 := Bool.eq_false_iff.mpr c11
    subst c11
    have H1 : ((impl_Closes.f kj3 l1 l2).bind fun t393 => (impl_ClearBetween.l0 kj3 l0 l1 l2 0 t393 (t393.length : Int) 0)) = some r := by rw [if_neg (show ¬ (false = true) by decide)] at H; exact H
    clear H
    have H := H1
    clear H1
    obtain ⟨t393, A12, H⟩ := bindE H
    try dsimp only at H
    have H' := Aside0.mk H
    clear H
    go_wp2_with (first | ((with_reducible refine gate_callee (f := 134) rfl ?_); refine gL (some 26) Try.func134 #[.slice A1 l1.length c1, .slice A2 l2.length c2] ?_; (with_reducible refine (impl_Closes.calls kj3 _ _ l1 _ _ l2 t393 _ ?side1 ?side2 ?side3 ?side4 A12.out).mono ?_); (case side1 => exact cB HR1); (case side2 => exact HC1.out); (case side3 => exact cB HR2); (case side4 => exact HC2.out); rintro e w13 ⟨v394, rfl, ho0, hb⟩; refine ⟨_, rfl, ?_⟩; have HO395 := Aside0.mk (Kd.R_lower ho0 (below_size bA)); replace HB := Aside0.mk (below_step bA hb); (try clear hb); (try clear ho0); obtain ⟨Ao14, co14, eo14⟩ := Kd.R_slice HO395.out; subst eo14))
    go_loopg [7, 28] kj3 (fun kq v7 v28 w' => ∃ (x7_2 : Int) (x28_2 : Int), v7 = .int .i64 x7_2 ∧ v28 = .int .i64 x28_2 ∧ Aside0 (impl_ClearBetween.l0 kq l0 l1 l2 x7_2 t393 (t393.length : Int) x28_2 = some r) ∧ Aside0 (kq ≤ kj3) ∧ Aside0 (Kd.R (Kd.int .i64) 3 w' w.heap.size (fun _ => True) (.slice Ao14 t393.length co14) t393) ∧ Aside0 (Below w.heap.size w w'))
    case atStart => exact ⟨(0), (0), rS, rS, H', ⟨Nat.le_refl _⟩, ⟨rK HO395⟩, ⟨bA⟩⟩
    case round =>
     clear H'
     try clear c1
     try clear c2
     try clear p2
     try clear c6
     try clear c8
     try clear c11
     try clear c13
     try clear p2
     obtain ⟨x7_2, x28_2, rfl, rfl, HA, HK2, HO_26, HB⟩ := hrel
     cases gk with
     | zero => exact absurd HA.out (by simp [impl_ClearBetween.l0])
     | succ k2 =>
      have H := HA.out
      clear HA
      simp only [impl_ClearBetween.l0] at H
      by_cases c15 : x28_2 < (t393.length : Int)
      ·
       rw [if_pos c15] at H
       have c15b0 := decide_eq_true c15
       clear c15
       have c16 : 0 ≤ x28_2 := ifN H
       replace H := ifT H
       have c16b0 := decide_eq_true c16
       clear c16
       have c17 : x28_2 < (t393.length : Int) := ifN H
       replace H := ifT H
       have c17b0 := decide_eq_true c17
       clear c17
       obtain ⟨t397, A18, H⟩ := bindE H
       try dsimp only at H
       have H' := Aside0.mk H
       clear H
       have p396 : 0 ≤ (x28_2 : Int) := dA
       have q396 : x28_2 < (t393.length : Int) := dA
       obtain ⟨ad396, e396, hx396_0⟩ := Kd.at_int (Kd.R_reads' HO_26.out).2.2 x28_2 p396 q396
       cases e396
       replace p396 := eq_true p396
       replace q396 := eq_true q396
       go_wp2_with (first | ((with_reducible refine gate_callee (f := 134) rfl ?_); refine gL (some 34) Try.func134 #[.slice A2 l2.length c2, .slice A1 l1.length c1] ?_; (with_reducible refine (impl_Closes.calls k2 _ _ l2 _ _ l1 t397 _ ?side1 ?side2 ?side3 ?side4 A18.out).mono ?_); (case side1 => exact cB HR2); (case side2 => exact HC2.out); (case side3 => exact cB HR1); (case side4 => exact HC1.out); rintro e w19 ⟨v398, rfl, ho0, hb⟩; refine ⟨_, rfl, ?_⟩; have HO399 := Aside0.mk (Kd.R_lower (Kd.R_new' ho0 (Kd.R_lt (rK HO_26))) (below_size bA)); replace HO_26 := Aside0.mk (Kd.R_elder' (rK HO_26) (Kd.R_base ho0) hb); replace HB := Aside0.mk (below_step bA hb); (try clear hb); (try clear ho0); obtain ⟨Ao20, co20, eo20⟩ := Kd.R_slice HO399.out; subst eo20))
       go_loopg [7, 36] k2 (fun kq v7 v36 w' => ∃ (x7_3 : Int) (x36_3 : Int), v7 = .int .i64 x7_3 ∧ v36 = .int .i64 x36_3 ∧ Aside0 (impl_ClearBetween.l1 kq l0 l1 l2 x7_3 (rd t393 x28_2) t393 (t393.length : Int) x28_2 t397 (t397.length : Int) x36_3 = some r) ∧ Aside0 (kq ≤ k2) ∧ Aside0 (Kd.R (Kd.int .i64) 3 w' w.heap.size (fun k_ => some k_ ≠ ((.slice Ao20 t397.length co20) : Value).ownBlock) (.slice (some ad396) t393.length co14) t393) ∧ Aside0 (Kd.R (Kd.int .i64) 3 w' w.heap.size (fun k_ => some k_ ≠ ((.slice (some ad396) t393.length co14) : Value).ownBlock) (.slice Ao20 t397.length co20) t397) ∧ Aside0 (Below w.heap.size w w'))
       case atStart => exact ⟨(x7_2), (0), rS, rS, H', ⟨Nat.le_refl _⟩, ⟨by (with_reducible repeat (first | apply Kd.R_alloc | apply Kd.R_drewN | apply Kd.R_drew)); exact Kd.R_mono HO_26.out (fun _ hk => hk.2)⟩, ⟨by (with_reducible repeat (first | apply Kd.R_alloc | apply Kd.R_drewN | apply Kd.R_drew)); exact Kd.R_mono HO399.out (fun _ hk => hk.2)⟩, ⟨bA⟩⟩
       case round =>
        clear H'
        try clear c1
        try clear c2
        try clear p2
        try clear p3
        try clear q3
        try clear hx3
        try clear c6
        try clear c8
        try clear c11
        try clear c13
        try clear c15
        try clear c15b0
        try clear c16
        try clear c16b0
        try clear c17
        try clear c17b0
        try clear hx396_0
        try clear p2
        try clear p396
        try clear q396
        obtain ⟨x7_3, x36_3, rfl, rfl, HA, HK3, HO_26, HO_34, HB⟩ := hrel
        cases gk with
        | zero => exact absurd HA.out (by simp [impl_ClearBetween.l1])
        | succ k3 =>
         have H := HA.out
         clear HA
         simp only [impl_ClearBetween.l1] at H
         by_cases c21 : x36_3 < (t397.length : Int)
         ·
          rw [if_pos c21] at H
          have c21b0 := decide_eq_true c21
          clear c21
          have c22 : 0 ≤ x36_3 := ifN H
          replace H := ifT H
          have c22b0 := decide_eq_true c22
          clear c22
          have c23 : x36_3 < (t397.length : Int) := ifN H
          replace H := ifT H
          have c23b0 := decide_eq_true c23
          clear c23
          obtain ⟨t401, A24, H⟩ := bindE H
          try dsimp only at H
          have c25 : 0 ≤ t401 := ifN H
          replace H := ifT H
          have c25b0 := decide_eq_true c25
          clear c25
          have c26 : t401 < (l0.length : Int) := ifN H
          replace H := ifT H
          have c26b0 := decide_eq_true c26
          clear c26
          obtain ⟨t404, A27, H⟩ := bindE H
          try dsimp only at H
          have c28 : 0 ≤ t404 := ifN H
          replace H := ifT H
          have c28b0 := decide_eq_true c28
          clear c28
          have c29 : t404 < (l0.length : Int) := ifN H
          replace H := ifT H
          have c29b0 := decide_eq_true c29
          clear c29
          obtain ⟨t406, A30, H⟩ := bindE H
          try dsimp only at H
          by_cases c31 : t406 = true
          ·
           subst c31
           have H1 : ((impl_ClearOf.f ((rd_T89 l0 t401).f0) ((rd_T89 l0 t401).f1) ((rd_T89 l0 t401).f2) ((rd_T89 l0 t401).f3)).bind fun t407 => (impl_ClearBetween.l1 k3 l0 l1 l2 (mx x7_3 t407) (rd t393 x28_2) t393 (t393.length : Int) x28_2 t397 (t397.length : Int) (wrap64 (x36_3 + 1)))) = some r := by rw [if_pos rfl] at H; exact H
           clear H
           have H := H1
           clear H1
           obtain ⟨t407, A32, H⟩ := bindE H
           try dsimp only at H
           obtain ⟨ji33, hji33⟩ : ∃ j_ : Int, (mx x7_3 t407) = j_ := ⟨_, rfl⟩
           replace H : (impl_ClearBetween.l1 k3 l0 l1 l2 ji33 (rd t393 x28_2) t393 (t393.length : Int) x28_2 t397 (t397.length : Int) (wrap64 (x36_3 + 1))) = some r := by first | (rw [hji33] at H; exact H) | (simp only [hji33] at H ⊢; exact H)
           (try rw [hji33] at A24)
           (try rw [hji33] at A27)
           (try rw [hji33] at A30)
           (try rw [hji33] at A32)
           have hji33_ : (if x7_3 < t407 then t407 else x7_3) = ji33 := hji33
           have H' := Aside0.mk H
           clear H
           have p400 : 0 ≤ (x36_3 : Int) := dA
           have q400 : x36_3 < (t397.length : Int) := dA
           obtain ⟨ad400, e400, hx400_0⟩ := Kd.at_int (Kd.R_reads' HO_34.out).2.2 x36_3 p400 q400
           cases e400
           replace p400 := eq_true p400
           replace q400 := eq_true q400
           try go_wp2_with (first | ((with_reducible refine gate_callee (f := 119) rfl ?_); refine gL (some 43) Try.func119 #[.slice A0 l0.length c0, .int .i64 (rd t393 x28_2)] ?_; (with_reducible refine (impl_FindPath.calls _ _ l0 (rd t393 x28_2) t401 _ ?side1 ?side2 A24.out).mono ?_); (case side1 => exact cB HR0); (case side2 => exact HC0.out); rintro e w34 ⟨rfl, hb⟩; refine ⟨_, rfl, ?_⟩; replace HO_26 := Aside0.mk (Kd.R_below (rK HO_26) hb); replace HO_34 := Aside0.mk (Kd.R_below (rK HO_34) hb); replace HB := Aside0.mk (below_step bA hb); (try clear hb); have p402 : 0 ≤ (t401 : Int) := dA; have q402 : t401 < (l0.length : Int) := dA; obtain ⟨ad402, e402, hx402_0, hx402_1, hx402_2, hx402_3⟩ := at_T89 HR0.out t401 p402 q402; cases e402; replace hx402_0 := hC HB hx402_0; replace hx402_1 := hC HB hx402_1; replace hx402_2 := hC HB hx402_2; replace hx402_3 := hC HB hx402_3; replace p402 := eq_true p402; replace q402 := eq_true q402) | ((with_reducible refine gate_dst (N := 12) rfl ?_); refine bE (N := 12) (cs := #[.int .i64 0, .int .i64 0, .int .i64 0, .int .i64 0]) (t := 89) ?_; intro gb403 hg w35 hbox hb; have n0_ := Aside0.mk (Kd.R_below (rK HO_26) hb); have n1_ := Aside0.mk (Kd.R_below (rK HO_34) hb); have n2_ := Aside0.mk (below_step bA hb); have n3_ := Aside0.mk (hbox); have n4_ := Aside0.mk ((by rw [hg]; exact (below_size bA) : w.heap.size ≤ gb403)); have n5_ := Aside0.mk ((by rw [hg]; exact (below_size bA) : w.heap.size ≤ gb403)); clear HO_26; clear HO_34; clear HB; have HO_26 := n0_; have HO_34 := n1_; have HB := n2_; have BK403 := n3_; have GW403 := n4_; have GE403 := n5_; clear n0_ n1_ n2_ n3_ n4_ n5_; clear hb hbox hg; obtain ⟨hcz36_0, hcz36_1, hcz36_2, hcz36_3, hfz36_0, hfz36_1, hfz36_2, hfz36_3⟩ := blkc4 BK403))
           have n0_ : Aside0 (Kd.R (Kd.int .i64) 3 ((((w35.setCell ⟨gb403, 0, none⟩ (.int .i64 ((rd_T89 l0 t401).f0))).setCell ⟨gb403, 1, none⟩ (.int .i64 ((rd_T89 l0 t401).f1))).setCell ⟨gb403, 2, none⟩ (.int .i64 ((rd_T89 l0 t401).f2))).setCell ⟨gb403, 3, none⟩ (.int .i64 ((rd_T89 l0 t401).f3))) w.heap.size (fun k_ => some k_ ≠ (.slice (some ad400) t397.length co20 : Value).ownBlock) (.slice (some ad396) t393.length co14) t393) := ⟨by (with_reducible repeat (first | apply Kd.R_alloc | apply Kd.R_drewN | apply Kd.R_drew)); exact Kd.R_mono (Kd.R_far (p := ⟨gb403, 3, none⟩) (Kd.R_far (p := ⟨gb403, 2, none⟩) (Kd.R_far (p := ⟨gb403, 1, none⟩) (Kd.R_far (p := ⟨gb403, 0, none⟩) (Kd.R_types HO_26.out BK403.out (by decide)) (fun _ hk => hk.2) (.int .i64 ((rd_T89 l0 t401).f0))) (fun _ hk => hk.2) (.int .i64 ((rd_T89 l0 t401).f1))) (fun _ hk => hk.2) (.int .i64 ((rd_T89 l0 t401).f2))) (fun _ hk => hk.2) (.int .i64 ((rd_T89 l0 t401).f3))) (fun _ hk => hk.1)⟩
           have n1_ : Aside0 (Kd.R (Kd.int .i64) 3 ((((w35.setCell ⟨gb403, 0, none⟩ (.int .i64 ((rd_T89 l0 t401).f0))).setCell ⟨gb403, 1, none⟩ (.int .i64 ((rd_T89 l0 t401).f1))).setCell ⟨gb403, 2, none⟩ (.int .i64 ((rd_T89 l0 t401).f2))).setCell ⟨gb403, 3, none⟩ (.int .i64 ((rd_T89 l0 t401).f3))) w.heap.size (fun k_ => some k_ ≠ (.slice (some ad396) t393.length co14 : Value).ownBlock) (.slice (some ad400) t397.length co20) t397) := ⟨by (with_reducible repeat (first | apply Kd.R_alloc | apply Kd.R_drewN | apply Kd.R_drew)); exact Kd.R_mono (Kd.R_far (p := ⟨gb403, 3, none⟩) (Kd.R_far (p := ⟨gb403, 2, none⟩) (Kd.R_far (p := ⟨gb403, 1, none⟩) (Kd.R_far (p := ⟨gb403, 0, none⟩) (Kd.R_types HO_34.out BK403.out (by decide)) (fun _ hk => hk.2) (.int .i64 ((rd_T89 l0 t401).f0))) (fun _ hk => hk.2) (.int .i64 ((rd_T89 l0 t401).f1))) (fun _ hk => hk.2) (.int .i64 ((rd_T89 l0 t401).f2))) (fun _ hk => hk.2) (.int .i64 ((rd_T89 l0 t401).f3))) (fun _ hk => hk.1)⟩
           have n2_ : Aside0 (((((w35.setCell ⟨gb403, 0, none⟩ (.int .i64 ((rd_T89 l0 t401).f0))).setCell ⟨gb403, 1, none⟩ (.int .i64 ((rd_T89 l0 t401).f1))).setCell ⟨gb403, 2, none⟩ (.int .i64 ((rd_T89 l0 t401).f2))).setCell ⟨gb403, 3, none⟩ (.int .i64 ((rd_T89 l0 t401).f3))).heap[gb403]? = some (.cells #[.int .i64 ((rd_T89 l0 t401).f0), .int .i64 ((rd_T89 l0 t401).f1), .int .i64 ((rd_T89 l0 t401).f2), .int .i64 ((rd_T89 l0 t401).f3)] 89 (0, 0))) := ⟨by (with_reducible repeat (first | refine blk_drewN ?_ _ | refine blk_drew ?_ | refine blk_alloc ?_ _)); refine blk_put (cs := #[.int .i64 ((rd_T89 l0 t401).f0), .int .i64 ((rd_T89 l0 t401).f1), .int .i64 ((rd_T89 l0 t401).f2), .int .i64 0]) ?_ 3 _ rfl; (with_reducible repeat (first | refine blk_drewN ?_ _ | refine blk_drew ?_ | refine blk_alloc ?_ _)); refine blk_put (cs := #[.int .i64 ((rd_T89 l0 t401).f0), .int .i64 ((rd_T89 l0 t401).f1), .int .i64 0, .int .i64 0]) ?_ 2 _ rfl; (with_reducible repeat (first | refine blk_drewN ?_ _ | refine blk_drew ?_ | refine blk_alloc ?_ _)); refine blk_put (cs := #[.int .i64 ((rd_T89 l0 t401).f0), .int .i64 0, .int .i64 0, .int .i64 0]) ?_ 1 _ rfl; (with_reducible repeat (first | refine blk_drewN ?_ _ | refine blk_drew ?_ | refine blk_alloc ?_ _)); refine blk_put (cs := #[.int .i64 0, .int .i64 0, .int .i64 0, .int .i64 0]) ?_ 0 _ rfl; (with_reducible repeat (first | refine blk_drewN ?_ _ | refine blk_drew ?_ | refine blk_alloc ?_ _)); exact BK403.out⟩
           have n3_ : Aside0 (Below w.heap.size w ((((w35.setCell ⟨gb403, 0, none⟩ (.int .i64 ((rd_T89 l0 t401).f0))).setCell ⟨gb403, 1, none⟩ (.int .i64 ((rd_T89 l0 t401).f1))).setCell ⟨gb403, 2, none⟩ (.int .i64 ((rd_T89 l0 t401).f2))).setCell ⟨gb403, 3, none⟩ (.int .i64 ((rd_T89 l0 t401).f3)))) := ⟨bG⟩
           (try clear HO_26)
           (try clear HO_34)
           (try clear BK403)
           (try clear HB)
           generalize ((((w35.setCell ⟨gb403, 0, none⟩ (.int .i64 ((rd_T89 l0 t401).f0))).setCell ⟨gb403, 1, none⟩ (.int .i64 ((rd_T89 l0 t401).f1))).setCell ⟨gb403, 2, none⟩ (.int .i64 ((rd_T89 l0 t401).f2))).setCell ⟨gb403, 3, none⟩ (.int .i64 ((rd_T89 l0 t401).f3))) = w37 at n0_ n1_ n2_ n3_ ⊢
           have HO_26 := n0_
           have HO_34 := n1_
           have BK403 := n2_
           have HB := n3_
           clear n0_ n1_ n2_ n3_
           replace HO_26 := Aside0.mk (Kd.R_drew HO_26.out)
           replace HO_34 := Aside0.mk (Kd.R_drew HO_34.out)
           replace BK403 := Aside0.mk (blk_drew BK403.out)
           have HBo := HB
           replace HB := Aside0.mk (below_drew1 HB.out)
           have p405 : 0 ≤ (t404 : Int) := dA
           have q405 : t404 < (l0.length : Int) := dA
           obtain ⟨ad405, e405, hx405_0, hx405_1, hx405_2, hx405_3⟩ := at_T89 HR0.out t404 p405 q405
           have hw405_3 := hx405_3
           have hw405_2 := hx405_2
           have hw405_1 := hx405_1
           have hw405_0 := hx405_0
           obtain rfl : ad402 = ad405 := (by injection e405)
           replace hx405_0 := hC HB hx405_0
           replace hx405_1 := hC HB hx405_1
           replace hx405_2 := hC HB hx405_2
           replace hx405_3 := hC HB hx405_3
           replace p405 := eq_true p405
           replace q405 := eq_true q405
           refine start_ (n := 8) (S := fun w' => w'.cell? ⟨gb403, 0, none⟩ = some (.int .i64 ((rd_T89 l0 t401).f0)) ∧ w'.cell? ⟨gb403, 1, none⟩ = some (.int .i64 ((rd_T89 l0 t401).f1)) ∧ w'.cell? ⟨gb403, 2, none⟩ = some (.int .i64 ((rd_T89 l0 t401).f2)) ∧ w'.cell? ⟨gb403, 3, none⟩ = some (.int .i64 ((rd_T89 l0 t401).f3)) ∧ w'.cell? (ad402.add ((t404).toNat * 4)) = some (.int .i64 ((rd_T89 l0 t404).f0)) ∧ w'.cell? ⟨(ad402.add ((t404).toNat * 4)).block, (ad402.add ((t404).toNat * 4)).off + 1, none⟩ = some (.int .i64 ((rd_T89 l0 t404).f1)) ∧ w'.cell? ⟨(ad402.add ((t404).toNat * 4)).block, (ad402.add ((t404).toNat * 4)).off + 2, none⟩ = some (.int .i64 ((rd_T89 l0 t404).f2)) ∧ w'.cell? ⟨(ad402.add ((t404).toNat * 4)).block, (ad402.add ((t404).toNat * 4)).off + 3, none⟩ = some (.int .i64 ((rd_T89 l0 t404).f3))) (ds := []) (mb 8 0) (by kernel_rfl) rfl rfl ⟨bC BK403 0, bC BK403 1, bC BK403 2, bC BK403 3, (hC HB hw405_0), (hC HB hw405_1), (hC HB hw405_2), (hC HB hw405_3)⟩ (fun hHeld => ?_); refine with_tabW impl_ClearBetween.tab11 impl_ClearBetween.bits11 (fun HT_ HW_ => ?_)
           generalize w37.drew = w38 at HO_26 HO_34 BK403 HB hx405_0 hx405_1 hx405_2 hx405_3 hHeld ⊢
           refine pA (i := 1) (N := some 47) (mb 8 2) HT_ ?_
           refine pA (i := 2) (N := some 48) (mb 8 6) HT_ ?_
           refine pA (i := 3) (N := some 49) (mb 8 14) HT_ ?_
           refine tA8 (i := 0) (N := some 46) (mb 8 15) HT_ HW_ hHeld ?_
           refine oA (i := 4) (N := some 50) (mb 8 31) HT_ (fun K hK => ?_)
           refine gA Try.func119 #[.slice (some ad402) l0.length c0, .int .i64 (rd t397 x36_3)] ?_
           with_reducible refine (impl_FindPath.calls _ _ l0 (rd t397 x36_3) t404 _ ?side1 ?side2 A27.out).mono ?_
           (case side1 => exact cB HR0)
           (case side2 => exact HC0.out)
           rintro e w39 ⟨rfl, hb⟩
           refine ⟨_, rfl, ?_⟩
           replace HO_26 := Aside0.mk (Kd.R_below (rK HO_26) hb)
           replace HO_34 := Aside0.mk (Kd.R_below (rK HO_34) hb)
           replace BK403 := Aside0.mk (blk_below (g := gb403) (bK BK403) hb)
           replace HB := Aside0.mk (below_step bG hb)
           (try clear hb)
           (try clear hb2)
           (try clear hk)
           (try clear hi)
           refine hK.out _ _ ⟨bC BK403 0, bC BK403 1, bC BK403 2, bC BK403 3, (hC HB hw405_0), (hC HB hw405_1), (hC HB hw405_2), (hC HB hw405_3)⟩ (fun hHeld => ?_)
           clear hK K
           refine nB ?_
           refine pA (i := 5) (N := some 51) (mb 8 63) HT_ ?_
           refine tA8 (i := 6) (N := some 52) (mb 8 127) HT_ HW_ hHeld ?_
           refine oA (i := 7) (N := some 53) (mb 8 255) HT_ (fun K hK => ?_)
           refine gA Try.func133 #[.agg #[.int .i64 ((rd_T89 l0 t401).f0), .int .i64 ((rd_T89 l0 t401).f1), .int .i64 ((rd_T89 l0 t401).f2), .int .i64 ((rd_T89 l0 t401).f3)], .agg #[.int .i64 ((rd_T89 l0 t404).f0), .int .i64 ((rd_T89 l0 t404).f1), .int .i64 ((rd_T89 l0 t404).f2), .int .i64 ((rd_T89 l0 t404).f3)]] ?_
           with_reducible refine (impl_Conflict.calls k3 ((rd_T89 l0 t401).f0) ((rd_T89 l0 t401).f1) ((rd_T89 l0 t401).f2) ((rd_T89 l0 t401).f3) ((rd_T89 l0 t404).f0) ((rd_T89 l0 t404).f1) ((rd_T89 l0 t404).f2) ((rd_T89 l0 t404).f3) true _ A30.out).mono ?_
           rintro e w40 ⟨rfl, hb⟩
           refine ⟨_, rfl, ?_⟩
           replace HO_26 := Aside0.mk (Kd.R_below (rK HO_26) hb)
           replace HO_34 := Aside0.mk (Kd.R_below (rK HO_34) hb)
           replace BK403 := Aside0.mk (blk_below (g := gb403) (bK BK403) hb)
           replace HB := Aside0.mk (below_step bG hb)
           (try clear hb)
           (try clear hb2)
           (try clear hk)
           (try clear hi)
           refine hK.out _ _ ⟨bC BK403 0, bC BK403 1, bC BK403 2, bC BK403 3, (hC HB hw405_0), (hC HB hw405_1), (hC HB hw405_2), (hC HB hw405_3)⟩ (fun hHeld => ?_)
           clear hK K
           refine nB ?_
           refine eA HT_ ?_
           obtain ⟨hcz41_0, hcz41_1, hcz41_2, hcz41_3, hfz41_0, hfz41_1, hfz41_2, hfz41_3⟩ := blkc4 BK403
           try go_wp2_with (first | ((with_reducible refine gate_callee (f := 135) rfl ?_); refine gL (some 56) Try.func135 #[.agg #[.int .i64 ((rd_T89 l0 t401).f0), .int .i64 ((rd_T89 l0 t401).f1), .int .i64 ((rd_T89 l0 t401).f2), .int .i64 ((rd_T89 l0 t401).f3)]] ?_; (with_reducible refine (impl_ClearOf.calls ((rd_T89 l0 t401).f0) ((rd_T89 l0 t401).f1) ((rd_T89 l0 t401).f2) ((rd_T89 l0 t401).f3) t407 _ A32.out).mono ?_); rintro e w42 ⟨rfl, hb⟩; refine ⟨_, rfl, ?_⟩; replace HO_26 := Aside0.mk (Kd.R_below (rK HO_26) hb); replace HO_34 := Aside0.mk (Kd.R_below (rK HO_34) hb); replace BK403 := Aside0.mk (blk_below (g := gb403) (bK BK403) hb); replace HB := Aside0.mk (below_step bG hb); (try clear hb)))
           go_roundg k3
           case measure => have := HJ3.out; have := HK2.out; have := HK3.out; omega
           case rel => exact ⟨(ji33), (wrap64 (x36_3 + 1)), (by first | rfl | (simp; done) | (simp only [← hji33] <;> (first | rfl | simp)) | (simp [*]; done)), rS, H', ⟨by have := HJ3.out; have := HK2.out; have := HK3.out; omega⟩, ⟨rK HO_26⟩, ⟨rK HO_34⟩, ⟨bG⟩⟩
          ·
           replace c31 := Bool.eq_false_iff.mpr c31
           subst c31
           have H1 : (impl_ClearBetween.l1 k3 l0 l1 l2 x7_3 (rd t393 x28_2) t393 (t393.length : Int) x28_2 t397 (t397.length : Int) (wrap64 (x36_3 + 1))) = some r := by rw [if_neg (show ¬ (false = true) by decide)] at H; exact H
           clear H
           have H := H1
           clear H1
           have H' := Aside0.mk H
           clear H
           have p400 : 0 ≤ (x36_3 : Int) := dA
           have q400 : x36_3 < (t397.length : Int) := dA
           obtain ⟨ad400, e400, hx400_0⟩ := Kd.at_int (Kd.R_reads' HO_34.out).2.2 x36_3 p400 q400
           cases e400
           replace p400 := eq_true p400
           replace q400 := eq_true q400
           try go_wp2_with (first | ((with_reducible refine gate_callee (f := 119) rfl ?_); refine gL (some 43) Try.func119 #[.slice A0 l0.length c0, .int .i64 (rd t393 x28_2)] ?_; (with_reducible refine (impl_FindPath.calls _ _ l0 (rd t393 x28_2) t401 _ ?side1 ?side2 A24.out).mono ?_); (case side1 => exact cB HR0); (case side2 => exact HC0.out); rintro e w43 ⟨rfl, hb⟩; refine ⟨_, rfl, ?_⟩; replace HO_26 := Aside0.mk (Kd.R_below (rK HO_26) hb); replace HO_34 := Aside0.mk (Kd.R_below (rK HO_34) hb); replace HB := Aside0.mk (below_step bA hb); (try clear hb); have p402 : 0 ≤ (t401 : Int) := dA; have q402 : t401 < (l0.length : Int) := dA; obtain ⟨ad402, e402, hx402_0, hx402_1, hx402_2, hx402_3⟩ := at_T89 HR0.out t401 p402 q402; cases e402; replace hx402_0 := hC HB hx402_0; replace hx402_1 := hC HB hx402_1; replace hx402_2 := hC HB hx402_2; replace hx402_3 := hC HB hx402_3; replace p402 := eq_true p402; replace q402 := eq_true q402) | ((with_reducible refine gate_dst (N := 12) rfl ?_); refine bE (N := 12) (cs := #[.int .i64 0, .int .i64 0, .int .i64 0, .int .i64 0]) (t := 89) ?_; intro gb403 hg w44 hbox hb; have n0_ := Aside0.mk (Kd.R_below (rK HO_26) hb); have n1_ := Aside0.mk (Kd.R_below (rK HO_34) hb); have n2_ := Aside0.mk (below_step bA hb); have n3_ := Aside0.mk (hbox); have n4_ := Aside0.mk ((by rw [hg]; exact (below_size bA) : w.heap.size ≤ gb403)); have n5_ := Aside0.mk ((by rw [hg]; exact (below_size bA) : w.heap.size ≤ gb403)); clear HO_26; clear HO_34; clear HB; have HO_26 := n0_; have HO_34 := n1_; have HB := n2_; have BK403 := n3_; have GW403 := n4_; have GE403 := n5_; clear n0_ n1_ n2_ n3_ n4_ n5_; clear hb hbox hg; obtain ⟨hcz45_0, hcz45_1, hcz45_2, hcz45_3, hfz45_0, hfz45_1, hfz45_2, hfz45_3⟩ := blkc4 BK403))
           have n0_ : Aside0 (Kd.R (Kd.int .i64) 3 ((((w44.setCell ⟨gb403, 0, none⟩ (.int .i64 ((rd_T89 l0 t401).f0))).setCell ⟨gb403, 1, none⟩ (.int .i64 ((rd_T89 l0 t401).f1))).setCell ⟨gb403, 2, none⟩ (.int .i64 ((rd_T89 l0 t401).f2))).setCell ⟨gb403, 3, none⟩ (.int .i64 ((rd_T89 l0 t401).f3))) w.heap.size (fun k_ => some k_ ≠ (.slice (some ad400) t397.length co20 : Value).ownBlock) (.slice (some ad396) t393.length co14) t393) := ⟨by (with_reducible repeat (first | apply Kd.R_alloc | apply Kd.R_drewN | apply Kd.R_drew)); exact Kd.R_mono (Kd.R_far (p := ⟨gb403, 3, none⟩) (Kd.R_far (p := ⟨gb403, 2, none⟩) (Kd.R_far (p := ⟨gb403, 1, none⟩) (Kd.R_far (p := ⟨gb403, 0, none⟩) (Kd.R_types HO_26.out BK403.out (by decide)) (fun _ hk => hk.2) (.int .i64 ((rd_T89 l0 t401).f0))) (fun _ hk => hk.2) (.int .i64 ((rd_T89 l0 t401).f1))) (fun _ hk => hk.2) (.int .i64 ((rd_T89 l0 t401).f2))) (fun _ hk => hk.2) (.int .i64 ((rd_T89 l0 t401).f3))) (fun _ hk => hk.1)⟩
           have n1_ : Aside0 (Kd.R (Kd.int .i64) 3 ((((w44.setCell ⟨gb403, 0, none⟩ (.int .i64 ((rd_T89 l0 t401).f0))).setCell ⟨gb403, 1, none⟩ (.int .i64 ((rd_T89 l0 t401).f1))).setCell ⟨gb403, 2, none⟩ (.int .i64 ((rd_T89 l0 t401).f2))).setCell ⟨gb403, 3, none⟩ (.int .i64 ((rd_T89 l0 t401).f3))) w.heap.size (fun k_ => some k_ ≠ (.slice (some ad396) t393.length co14 : Value).ownBlock) (.slice (some ad400) t397.length co20) t397) := ⟨by (with_reducible repeat (first | apply Kd.R_alloc | apply Kd.R_drewN | apply Kd.R_drew)); exact Kd.R_mono (Kd.R_far (p := ⟨gb403, 3, none⟩) (Kd.R_far (p := ⟨gb403, 2, none⟩) (Kd.R_far (p := ⟨gb403, 1, none⟩) (Kd.R_far (p := ⟨gb403, 0, none⟩) (Kd.R_types HO_34.out BK403.out (by decide)) (fun _ hk => hk.2) (.int .i64 ((rd_T89 l0 t401).f0))) (fun _ hk => hk.2) (.int .i64 ((rd_T89 l0 t401).f1))) (fun _ hk => hk.2) (.int .i64 ((rd_T89 l0 t401).f2))) (fun _ hk => hk.2) (.int .i64 ((rd_T89 l0 t401).f3))) (fun _ hk => hk.1)⟩
           have n2_ : Aside0 (((((w44.setCell ⟨gb403, 0, none⟩ (.int .i64 ((rd_T89 l0 t401).f0))).setCell ⟨gb403, 1, none⟩ (.int .i64 ((rd_T89 l0 t401).f1))).setCell ⟨gb403, 2, none⟩ (.int .i64 ((rd_T89 l0 t401).f2))).setCell ⟨gb403, 3, none⟩ (.int .i64 ((rd_T89 l0 t401).f3))).heap[gb403]? = some (.cells #[.int .i64 ((rd_T89 l0 t401).f0), .int .i64 ((rd_T89 l0 t401).f1), .int .i64 ((rd_T89 l0 t401).f2), .int .i64 ((rd_T89 l0 t401).f3)] 89 (0, 0))) := ⟨by (with_reducible repeat (first | refine blk_drewN ?_ _ | refine blk_drew ?_ | refine blk_alloc ?_ _)); refine blk_put (cs := #[.int .i64 ((rd_T89 l0 t401).f0), .int .i64 ((rd_T89 l0 t401).f1), .int .i64 ((rd_T89 l0 t401).f2), .int .i64 0]) ?_ 3 _ rfl; (with_reducible repeat (first | refine blk_drewN ?_ _ | refine blk_drew ?_ | refine blk_alloc ?_ _)); refine blk_put (cs := #[.int .i64 ((rd_T89 l0 t401).f0), .int .i64 ((rd_T89 l0 t401).f1), .int .i64 0, .int .i64 0]) ?_ 2 _ rfl; (with_reducible repeat (first | refine blk_drewN ?_ _ | refine blk_drew ?_ | refine blk_alloc ?_ _)); refine blk_put (cs := #[.int .i64 ((rd_T89 l0 t401).f0), .int .i64 0, .int .i64 0, .int .i64 0]) ?_ 1 _ rfl; (with_reducible repeat (first | refine blk_drewN ?_ _ | refine blk_drew ?_ | refine blk_alloc ?_ _)); refine blk_put (cs := #[.int .i64 0, .int .i64 0, .int .i64 0, .int .i64 0]) ?_ 0 _ rfl; (with_reducible repeat (first | refine blk_drewN ?_ _ | refine blk_drew ?_ | refine blk_alloc ?_ _)); exact BK403.out⟩
           have n3_ : Aside0 (Below w.heap.size w ((((w44.setCell ⟨gb403, 0, none⟩ (.int .i64 ((rd_T89 l0 t401).f0))).setCell ⟨gb403, 1, none⟩ (.int .i64 ((rd_T89 l0 t401).f1))).setCell ⟨gb403, 2, none⟩ (.int .i64 ((rd_T89 l0 t401).f2))).setCell ⟨gb403, 3, none⟩ (.int .i64 ((rd_T89 l0 t401).f3)))) := ⟨bG⟩
           (try clear HO_26)
           (try clear HO_34)
           (try clear BK403)
           (try clear HB)
           generalize ((((w44.setCell ⟨gb403, 0, none⟩ (.int .i64 ((rd_T89 l0 t401).f0))).setCell ⟨gb403, 1, none⟩ (.int .i64 ((rd_T89 l0 t401).f1))).setCell ⟨gb403, 2, none⟩ (.int .i64 ((rd_T89 l0 t401).f2))).setCell ⟨gb403, 3, none⟩ (.int .i64 ((rd_T89 l0 t401).f3))) = w46 at n0_ n1_ n2_ n3_ ⊢
           have HO_26 := n0_
           have HO_34 := n1_
           have BK403 := n2_
           have HB := n3_
           clear n0_ n1_ n2_ n3_
           replace HO_26 := Aside0.mk (Kd.R_drew HO_26.out)
           replace HO_34 := Aside0.mk (Kd.R_drew HO_34.out)
           replace BK403 := Aside0.mk (blk_drew BK403.out)
           have HBo := HB
           replace HB := Aside0.mk (below_drew1 HB.out)
           have p405 : 0 ≤ (t404 : Int) := dA
           have q405 : t404 < (l0.length : Int) := dA
           obtain ⟨ad405, e405, hx405_0, hx405_1, hx405_2, hx405_3⟩ := at_T89 HR0.out t404 p405 q405
           have hw405_3 := hx405_3
           have hw405_2 := hx405_2
           have hw405_1 := hx405_1
           have hw405_0 := hx405_0
           obtain rfl : ad402 = ad405 := (by injection e405)
           replace hx405_0 := hC HB hx405_0
           replace hx405_1 := hC HB hx405_1
           replace hx405_2 := hC HB hx405_2
           replace hx405_3 := hC HB hx405_3
           replace p405 := eq_true p405
           replace q405 := eq_true q405
           refine start_ (n := 8) (S := fun w' => w'.cell? ⟨gb403, 0, none⟩ = some (.int .i64 ((rd_T89 l0 t401).f0)) ∧ w'.cell? ⟨gb403, 1, none⟩ = some (.int .i64 ((rd_T89 l0 t401).f1)) ∧ w'.cell? ⟨gb403, 2, none⟩ = some (.int .i64 ((rd_T89 l0 t401).f2)) ∧ w'.cell? ⟨gb403, 3, none⟩ = some (.int .i64 ((rd_T89 l0 t401).f3)) ∧ w'.cell? (ad402.add ((t404).toNat * 4)) = some (.int .i64 ((rd_T89 l0 t404).f0)) ∧ w'.cell? ⟨(ad402.add ((t404).toNat * 4)).block, (ad402.add ((t404).toNat * 4)).off + 1, none⟩ = some (.int .i64 ((rd_T89 l0 t404).f1)) ∧ w'.cell? ⟨(ad402.add ((t404).toNat * 4)).block, (ad402.add ((t404).toNat * 4)).off + 2, none⟩ = some (.int .i64 ((rd_T89 l0 t404).f2)) ∧ w'.cell? ⟨(ad402.add ((t404).toNat * 4)).block, (ad402.add ((t404).toNat * 4)).off + 3, none⟩ = some (.int .i64 ((rd_T89 l0 t404).f3))) (ds := []) (mb 8 0) (by kernel_rfl) rfl rfl ⟨bC BK403 0, bC BK403 1, bC BK403 2, bC BK403 3, (hC HB hw405_0), (hC HB hw405_1), (hC HB hw405_2), (hC HB hw405_3)⟩ (fun hHeld => ?_); refine with_tabW impl_ClearBetween.tab11 impl_ClearBetween.bits11 (fun HT_ HW_ => ?_)
           generalize w46.drew = w47 at HO_26 HO_34 BK403 HB hx405_0 hx405_1 hx405_2 hx405_3 hHeld ⊢
           refine pA (i := 1) (N := some 47) (mb 8 2) HT_ ?_
           refine pA (i := 2) (N := some 48) (mb 8 6) HT_ ?_
           refine pA (i := 3) (N := some 49) (mb 8 14) HT_ ?_
           refine tA8 (i := 0) (N := some 46) (mb 8 15) HT_ HW_ hHeld ?_
           refine oA (i := 4) (N := some 50) (mb 8 31) HT_ (fun K hK => ?_)
           refine gA Try.func119 #[.slice (some ad402) l0.length c0, .int .i64 (rd t397 x36_3)] ?_
           with_reducible refine (impl_FindPath.calls _ _ l0 (rd t397 x36_3) t404 _ ?side1 ?side2 A27.out).mono ?_
           (case side1 => exact cB HR0)
           (case side2 => exact HC0.out)
           rintro e w48 ⟨rfl, hb⟩
           refine ⟨_, rfl, ?_⟩
           replace HO_26 := Aside0.mk (Kd.R_below (rK HO_26) hb)
           replace HO_34 := Aside0.mk (Kd.R_below (rK HO_34) hb)
           replace BK403 := Aside0.mk (blk_below (g := gb403) (bK BK403) hb)
           replace HB := Aside0.mk (below_step bG hb)
           (try clear hb)
           (try clear hb2)
           (try clear hk)
           (try clear hi)
           refine hK.out _ _ ⟨bC BK403 0, bC BK403 1, bC BK403 2, bC BK403 3, (hC HB hw405_0), (hC HB hw405_1), (hC HB hw405_2), (hC HB hw405_3)⟩ (fun hHeld => ?_)
           clear hK K
           refine nB ?_
           refine pA (i := 5) (N := some 51) (mb 8 63) HT_ ?_
           refine tA8 (i := 6) (N := some 52) (mb 8 127) HT_ HW_ hHeld ?_
           refine oA (i := 7) (N := some 53) (mb 8 255) HT_ (fun K hK => ?_)
           refine gA Try.func133 #[.agg #[.int .i64 ((rd_T89 l0 t401).f0), .int .i64 ((rd_T89 l0 t401).f1), .int .i64 ((rd_T89 l0 t401).f2), .int .i64 ((rd_T89 l0 t401).f3)], .agg #[.int .i64 ((rd_T89 l0 t404).f0), .int .i64 ((rd_T89 l0 t404).f1), .int .i64 ((rd_T89 l0 t404).f2), .int .i64 ((rd_T89 l0 t404).f3)]] ?_
           with_reducible refine (impl_Conflict.calls k3 ((rd_T89 l0 t401).f0) ((rd_T89 l0 t401).f1) ((rd_T89 l0 t401).f2) ((rd_T89 l0 t401).f3) ((rd_T89 l0 t404).f0) ((rd_T89 l0 t404).f1) ((rd_T89 l0 t404).f2) ((rd_T89 l0 t404).f3) false _ A30.out).mono ?_
           rintro e w49 ⟨rfl, hb⟩
           refine ⟨_, rfl, ?_⟩
           replace HO_26 := Aside0.mk (Kd.R_below (rK HO_26) hb)
           replace HO_34 := Aside0.mk (Kd.R_below (rK HO_34) hb)
           replace BK403 := Aside0.mk (blk_below (g := gb403) (bK BK403) hb)
           replace HB := Aside0.mk (below_step bG hb)
           (try clear hb)
           (try clear hb2)
           (try clear hk)
           (try clear hi)
           refine hK.out _ _ ⟨bC BK403 0, bC BK403 1, bC BK403 2, bC BK403 3, (hC HB hw405_0), (hC HB hw405_1), (hC HB hw405_2), (hC HB hw405_3)⟩ (fun hHeld => ?_)
           clear hK K
           refine nB ?_
           refine eA HT_ ?_
           try go_wp2
           go_roundg k3
           case measure => have := HJ3.out; have := HK2.out; have := HK3.out; omega
           case rel => exact ⟨(x7_3), (wrap64 (x36_3 + 1)), rS, rS, H', ⟨by have := HJ3.out; have := HK2.out; have := HK3.out; omega⟩, ⟨rK HO_26⟩, ⟨rK HO_34⟩, ⟨bG⟩⟩
         ·
          rw [if_neg c21] at H
          have c21b0 := decide_eq_false c21
          clear c21
          have H' := Aside0.mk H
          clear H
          go_wp2
          go_roundg k3
          case measure => have := HJ3.out; have := HK2.out; have := HK3.out; omega
          case rel => exact ⟨(x7_3), (wrap64 (x28_2 + 1)), rS, rS, H', ⟨by have := HJ3.out; have := HK2.out; have := HK3.out; omega⟩, ⟨by (with_reducible repeat (first | apply Kd.R_alloc | apply Kd.R_drewN | apply Kd.R_drew)); exact Kd.R_mono HO_26.out (fun _ hk => trivial)⟩, ⟨bA⟩⟩
      ·
       rw [if_neg c15] at H
       have c15b0 := decide_eq_false c15
       clear c15
       obtain rfl := Option.some.inj H
       go_wp2
       go_ret
       exact ⟨rA, bA⟩

/-! ### impl_IsControl: function 97 -/
def impl_IsControl.j0 : Nat → List (S89) → Bool → List Int → Int → List Int → Int → Option (Bool)
 | 0, _, _, _, _, _, _ => none
 | k + 1, x0, x28, x409000, x409001, x409002, x409003 => if x28 = true then (some false) else (if (x409002.length : Int) = 0 then (some (x409003 == 0)) else ((impl_ClearBetween.f k x0 x409000 x409002).bind fun t412 => ((impl_InRange.f x409003 1 t412).bind fun t413 => (some t413))))
def impl_IsControl.f (k : Nat) (l0 : List (S89)) (l1_0 : List Int) (a1_1 : Int) (l1_2 : List Int) (a1_3 : Int) : Option (Bool) := (impl_IsTogether.f k l0 l1_0).bind fun t409 => (if t409 = true then ((impl_IsTogether.f k l0 l1_2).bind fun t410 => (if t410 = true then (if (l1_0.length : Int) = 0 then (impl_IsControl.j0 k l0 true l1_0 a1_1 l1_2 a1_3) else ((impl_InRange.f a1_1 0 1000000).bind fun t411 => (impl_IsControl.j0 k l0 (!t411) l1_0 a1_1 l1_2 a1_3))) else (impl_IsControl.j0 k l0 true l1_0 a1_1 l1_2 a1_3))) else (impl_IsControl.j0 k l0 true l1_0 a1_1 l1_2 a1_3))
theorem impl_IsControl.mono_l : ∀ k, (∀ y0 y1 y2 y3 y4 y5, LeO (impl_IsControl.j0 k y0 y1 y2 y3 y4 y5) (impl_IsControl.j0 (k + 1) y0 y1 y2 y3 y4 y5))
 | 0 => fun _ _ _ _ _ _ r h => by simp [impl_IsControl.j0] at h
 | k + 1 => by
  have ih0 := impl_IsControl.mono_l k
  ·
   intro y0 y1 y2 y3 y4 y5
   unfold impl_IsControl.j0
   repeat' first | (with_reducible first | exact LeO.refl _ | exact LeO.none _ | refine LeO.ite ?_ ?_ | refine LeO.bind ?_ (fun _ => ?_) | exact ih0 _ _ _ _ _ _ | exact impl_ClearBetween.mono _ _ _ _ | exact impl_IsTogether.mono _ _ _)
theorem impl_IsControl.mono : ∀ a0 a1 a2 a3 a4 k, LeO (impl_IsControl.f k a0 a1 a2 a3 a4) (impl_IsControl.f (k + 1) a0 a1 a2 a3 a4) := by
 intro a0 a1 a2 a3 a4 k
 have ih0 := impl_IsControl.mono_l k
 unfold impl_IsControl.f
 repeat' first | (with_reducible first | exact LeO.refl _ | exact LeO.none _ | refine LeO.ite ?_ ?_ | refine LeO.bind ?_ (fun _ => ?_) | exact ih0 _ _ _ _ _ _ | exact impl_ClearBetween.mono _ _ _ _ | exact impl_IsTogether.mono _ _ _)
def impl_IsControl.T5 : Bool × List (List Nat × List Nat) := (true, [([], []), ([0], [0]), ([], []), ([], []), ([3], [3]), ([], []), ([5], [5]), ([2, 4, 6], [2, 4, 6]), ([1, 7, 7], [1, 7]), ([8, 8, 0, 1, 2, 3, 4, 5, 6, 7, 8], [8])])
def impl_IsControl.B5 : List Nat := [0, 1, 0, 0, 8, 0, 32, 124, 255, 511]
theorem impl_IsControl.tab5 : rtab .any (opsOf Try.f97 5) = impl_IsControl.T5 := by kernel_rfl
theorem impl_IsControl.bits5 : waitsOk impl_IsControl.T5.2 impl_IsControl.B5 = true := by kernel_rfl
set_option maxHeartbeats 8000000 in
set_option maxRecDepth 100000 in
theorem impl_IsControl.calls (k : Nat) (A0 : Option Addr) (c0 : Nat) (l0 : List (S89)) (A1_0 : Option Addr) (c1_0 : Nat) (l1_0 : List Int) (a1_1 : Int) (A1_2 : Option Addr) (c1_2 : Nat) (l1_2 : List Int) (a1_3 : Int) (r : Bool) (w : World) (hr0 : Kd.C k89 w A0 l0.length l0) (hc0 : l0.length ≤ c0) (hr1_0 : Kd.C (Kd.int .i64) w A1_0 l1_0.length l1_0) (hc1_0 : l1_0.length ≤ c1_0) (hr1_2 : Kd.C (Kd.int .i64) w A1_2 l1_2.length l1_2) (hc1_2 : l1_2.length ≤ c1_2) (h : impl_IsControl.f k l0 l1_0 a1_1 l1_2 a1_3 = some r) :
  Calls Try.prog 97 #[.slice A0 l0.length c0, .agg #[.slice A1_0 l1_0.length c1_0, .int .i64 a1_1, .slice A1_2 l1_2.length c1_2, .int .i64 a1_3]] w fun e w' => e = .returned (.bool r) ∧ Below w.heap.size w w' := by
 have hu57 := Try.underlying57
 have HR0 := Aside0.mk hr0
 have HC0 := Aside0.mk hc0
 clear hr0 hc0
 have HR1_0 := Aside0.mk hr1_0
 have HC1_0 := Aside0.mk hc1_0
 clear hr1_0 hc1_0
 have HR1_2 := Aside0.mk hr1_2
 have HC1_2 := Aside0.mk hc1_2
 clear hr1_2 hc1_2
 have HB := Aside0.mk (Below.refl w.heap.size w)
 have H : ((impl_IsTogether.f k l0 l1_0).bind fun t409 => (if t409 = true then ((impl_IsTogether.f k l0 l1_2).bind fun t410 => (if t410 = true then (if (l1_0.length : Int) = 0 then (impl_IsControl.j0 k l0 true l1_0 a1_1 l1_2 a1_3) else ((impl_InRange.f a1_1 0 1000000).bind fun t411 => (impl_IsControl.j0 k l0 (!t411) l1_0 a1_1 l1_2 a1_3))) else (impl_IsControl.j0 k l0 true l1_0 a1_1 l1_2 a1_3))) else (impl_IsControl.j0 k l0 true l1_0 a1_1 l1_2 a1_3))) = some r := h
 clear h
 have HC3 := Aside0.mk H
 clear H
 go_enter Try.func97, Try.ntmps97
 go_upto_region 1 with (first | ((with_reducible refine gate_dst (N := 3) rfl ?_); (try (refine gate_guard (by rfl) ?_; dsimp only)); refine bE (N := 3) (cs := #[.slice A1_0 l1_0.length c1_0, .int .i64 a1_1, .slice A1_2 l1_2.length c1_2, .int .i64 a1_3]) (t := 57) ?_; intro gb408 hg w4 hbox hb; have n0_ := Aside0.mk (below_step bA hb); have n1_ := Aside0.mk (hbox); have n2_ := Aside0.mk ((by rw [hg]; exact (below_size bA) : w.heap.size ≤ gb408)); have n3_ := Aside0.mk ((by rw [hg]; exact (below_size bA) : w.heap.size ≤ gb408)); clear HB; have HB := n0_; have BK408 := n1_; have GW408 := n2_; have GE408 := n3_; clear n0_ n1_ n2_ n3_; clear hb hbox hg))
 (try simp only [Act.put, List.setIfInBounds_toArray, List.set_cons_zero, List.set_cons_succ])
 go_cut [28] (fun v28 wc => ∃ (kq : Nat) (x28_2 : Bool), v28 = .bool x28_2 ∧ Aside0 (impl_IsControl.j0 kq l0 x28_2 l1_0 a1_1 l1_2 a1_3 = some r) ∧ Aside0 (kq ≤ k) ∧ Aside0 (wc.heap[gb408]? = some (.cells #[(.slice A1_0 l1_0.length c1_0), .int .i64 a1_1, (.slice A1_2 l1_2.length c1_2), .int .i64 a1_3] 57 (0, 0))) ∧ Aside0 (Below w.heap.size w wc))
 case first =>
  have H := HC3.out
  clear HC3
  obtain ⟨t409, A5, H⟩ := bindE H
  try dsimp only at H
  by_cases c6 : t409 = true
  ·
   subst c6
   have H1 : ((impl_IsTogether.f k l0 l1_2).bind fun t410 => (if t410 = true then (if (l1_0.length : Int) = 0 then (impl_IsControl.j0 k l0 true l1_0 a1_1 l1_2 a1_3) else ((impl_InRange.f a1_1 0 1000000).bind fun t411 => (impl_IsControl.j0 k l0 (!t411) l1_0 a1_1 l1_2 a1_3))) else (impl_IsControl.j0 k l0 true l1_0 a1_1 l1_2 a1_3))) = some r := by rw [if_pos rfl] at H; exact H
   clear H
   have H := H1
   clear H1
   obtain ⟨t410, A7, H⟩ := bindE H
   try dsimp only at H
   by_cases c8 : t410 = true
   ·
    subst c8
    have H1 : (if (l1_0.length : Int) = 0 then (impl_IsControl.j0 k l0 true l1_0 a1_1 l1_2 a1_3) else ((impl_InRange.f a1_1 0 1000000).bind fun t411 => (impl_IsControl.j0 k l0 (!t411) l1_0 a1_1 l1_2 a1_3))) = some r := by rw [if_pos rfl] at H; exact H
    clear H
    have H := H1
    clear H1
    by_cases c9 : (l1_0.length : Int) = 0
    ·
     rw [if_pos c9] at H
     have c9b0 : ((l1_0.length : Int) == 0) = true := beq_iff_eq.mpr c9
     have c9b1 : ((l1_0.length : Int) != 0) = false := bne_eq_false_iff_eq.mpr c9
     clear c9
     (first | rw [c9b0] | (simp only [i64_w, i32_w]; rw [c9b0]) | skip)
     have H' := Aside0.mk H
     clear H
     obtain ⟨hcz10_0, hcz10_1, hcz10_2, hcz10_3, hfz10_0, hfz10_1, hfz10_2, hfz10_3⟩ := blkc4 BK408
     go_wp2_with (first | ((with_reducible refine gate_callee (f := 87) rfl ?_); refine gL (some 8) Try.func87 #[.slice A0 l0.length c0, .slice A1_0 l1_0.length c1_0] ?_; (with_reducible refine (impl_IsTogether.calls k _ _ l0 _ _ l1_0 true _ ?side1 ?side2 ?side3 ?side4 A5.out).mono ?_); (case side1 => exact cB HR0); (case side2 => exact HC0.out); (case side3 => exact cB HR1_0); (case side4 => exact HC1_0.out); rintro e w11 ⟨rfl, hb⟩; refine ⟨_, rfl, ?_⟩; replace BK408 := Aside0.mk (blk_below (g := gb408) (bK BK408) hb); replace HB := Aside0.mk (below_step bG hb); (try clear hb); have hcz12_0 : w11.cell? ⟨gb408, 0, none⟩ = some (.slice A1_0 l1_0.length c1_0) := bC BK408 0; have hcz12_1 : w11.cell? ⟨gb408, 1, none⟩ = some (.int .i64 a1_1) := bC BK408 1; have hcz12_2 : w11.cell? ⟨gb408, 2, none⟩ = some (.slice A1_2 l1_2.length c1_2) := bC BK408 2; have hcz12_3 : w11.cell? ⟨gb408, 3, none⟩ = some (.int .i64 a1_3) := bC BK408 3; have hfz12_0 := blk_frozen BK408.out 0; have hfz12_1 := blk_frozen BK408.out 1; have hfz12_2 := blk_frozen BK408.out 2; have hfz12_3 := blk_frozen BK408.out 3) | (go_at_call 87; (with_reducible refine (impl_IsTogether.calls k _ _ l0 _ _ l1_2 true _ ?side1 ?side2 ?side3 ?side4 A7.out).mono ?_); (case side1 => exact cB HR0); (case side2 => exact HC0.out); (case side3 => exact cB HR1_2); (case side4 => exact HC1_2.out); rintro e w13 ⟨rfl, hb⟩; replace BK408 := Aside0.mk (blk_below (g := gb408) (bK BK408) hb); replace HB := Aside0.mk (below_step bG hb); (try clear hb); obtain ⟨hcz14_0, hcz14_1, hcz14_2, hcz14_3, hfz14_0, hfz14_1, hfz14_2, hfz14_3⟩ := blkc4 BK408))
     go_meet
     case rel => exact ⟨_, (true), rS, H', ⟨by first | omega | exact Nat.le_refl _⟩, ⟨bK BK408⟩, ⟨bG⟩⟩
    ·
     rw [if_neg c9] at H
     have c9b0 : ((l1_0.length : Int) == 0) = false := beq_eq_false_iff_ne.mpr c9
     have c9b1 : ((l1_0.length : Int) != 0) = true := bne_iff_ne.mpr c9
     have c9b2 : ¬ (l1_0 = []) := fun h_ => c9 (by rw [h_]; rfl)
     (first | rw [c9b0] | (simp only [i64_w, i32_w]; rw [c9b0]) | skip)
     obtain ⟨t411, A15, H⟩ := bindE H
     try dsimp only at H
     have H' := Aside0.mk H
     clear H
     obtain ⟨hcz16_0, hcz16_1, hcz16_2, hcz16_3, hfz16_0, hfz16_1, hfz16_2, hfz16_3⟩ := blkc4 BK408
     go_wp2_with (first | ((with_reducible refine gate_callee (f := 87) rfl ?_); refine gL (some 8) Try.func87 #[.slice A0 l0.length c0, .slice A1_0 l1_0.length c1_0] ?_; (with_reducible refine (impl_IsTogether.calls k _ _ l0 _ _ l1_0 true _ ?side1 ?side2 ?side3 ?side4 A5.out).mono ?_); (case side1 => exact cB HR0); (case side2 => exact HC0.out); (case side3 => exact cB HR1_0); (case side4 => exact HC1_0.out); rintro e w17 ⟨rfl, hb⟩; refine ⟨_, rfl, ?_⟩; replace BK408 := Aside0.mk (blk_below (g := gb408) (bK BK408) hb); replace HB := Aside0.mk (below_step bG hb); (try clear hb); have hcz18_0 : w17.cell? ⟨gb408, 0, none⟩ = some (.slice A1_0 l1_0.length c1_0) := bC BK408 0; have hcz18_1 : w17.cell? ⟨gb408, 1, none⟩ = some (.int .i64 a1_1) := bC BK408 1; have hcz18_2 : w17.cell? ⟨gb408, 2, none⟩ = some (.slice A1_2 l1_2.length c1_2) := bC BK408 2; have hcz18_3 : w17.cell? ⟨gb408, 3, none⟩ = some (.int .i64 a1_3) := bC BK408 3; have hfz18_0 := blk_frozen BK408.out 0; have hfz18_1 := blk_frozen BK408.out 1; have hfz18_2 := blk_frozen BK408.out 2; have hfz18_3 := blk_frozen BK408.out 3) | (go_at_call 87; (with_reducible refine (impl_IsTogether.calls k _ _ l0 _ _ l1_2 true _ ?side1 ?side2 ?side3 ?side4 A7.out).mono ?_); (case side1 => exact cB HR0); (case side2 => exact HC0.out); (case side3 => exact cB HR1_2); (case side4 => exact HC1_2.out); rintro e w19 ⟨rfl, hb⟩; replace BK408 := Aside0.mk (blk_below (g := gb408) (bK BK408) hb); replace HB := Aside0.mk (below_step bG hb); (try clear hb); have hcz20_0 : w19.cell? ⟨gb408, 0, none⟩ = some (.slice A1_0 l1_0.length c1_0) := bC BK408 0; have hcz20_1 : w19.cell? ⟨gb408, 1, none⟩ = some (.int .i64 a1_1) := bC BK408 1; have hcz20_2 : w19.cell? ⟨gb408, 2, none⟩ = some (.slice A1_2 l1_2.length c1_2) := bC BK408 2; have hcz20_3 : w19.cell? ⟨gb408, 3, none⟩ = some (.int .i64 a1_3) := bC BK408 3; have hfz20_0 := blk_frozen BK408.out 0; have hfz20_1 := blk_frozen BK408.out 1; have hfz20_2 := blk_frozen BK408.out 2; have hfz20_3 := blk_frozen BK408.out 3) | (go_at_call 66; (with_reducible refine (impl_InRange.calls a1_1 0 1000000 t411 _ A15.out).mono ?_); rintro e w' ⟨rfl, ⟨nd, rfl⟩⟩))
     go_meet
     case rel => exact ⟨_, (!t411), rS, H', ⟨by first | omega | exact Nat.le_refl _⟩, ⟨bK BK408⟩, ⟨bG⟩⟩
   ·
    replace c8 := Bool.eq_false_iff.mpr c8
    subst c8
    have H1 : (impl_IsControl.j0 k l0 true l1_0 a1_1 l1_2 a1_3) = some r := by rw [if_neg (show ¬ (false = true) by decide)] at H; exact H
    clear H
    have H := H1
    clear H1
    have H' := Aside0.mk H
    clear H
    obtain ⟨hcz21_0, hcz21_1, hcz21_2, hcz21_3, hfz21_0, hfz21_1, hfz21_2, hfz21_3⟩ := blkc4 BK408
    go_wp2_with (first | ((with_reducible refine gate_callee (f := 87) rfl ?_); refine gL (some 8) Try.func87 #[.slice A0 l0.length c0, .slice A1_0 l1_0.length c1_0] ?_; (with_reducible refine (impl_IsTogether.calls k _ _ l0 _ _ l1_0 true _ ?side1 ?side2 ?side3 ?side4 A5.out).mono ?_); (case side1 => exact cB HR0); (case side2 => exact HC0.out); (case side3 => exact cB HR1_0); (case side4 => exact HC1_0.out); rintro e w22 ⟨rfl, hb⟩; refine ⟨_, rfl, ?_⟩; replace BK408 := Aside0.mk (blk_below (g := gb408) (bK BK408) hb); replace HB := Aside0.mk (below_step bG hb); (try clear hb); have hcz23_0 : w22.cell? ⟨gb408, 0, none⟩ = some (.slice A1_0 l1_0.length c1_0) := bC BK408 0; have hcz23_1 : w22.cell? ⟨gb408, 1, none⟩ = some (.int .i64 a1_1) := bC BK408 1; have hcz23_2 : w22.cell? ⟨gb408, 2, none⟩ = some (.slice A1_2 l1_2.length c1_2) := bC BK408 2; have hcz23_3 : w22.cell? ⟨gb408, 3, none⟩ = some (.int .i64 a1_3) := bC BK408 3; have hfz23_0 := blk_frozen BK408.out 0; have hfz23_1 := blk_frozen BK408.out 1; have hfz23_2 := blk_frozen BK408.out 2; have hfz23_3 := blk_frozen BK408.out 3) | (go_at_call 87; (with_reducible refine (impl_IsTogether.calls k _ _ l0 _ _ l1_2 false _ ?side1 ?side2 ?side3 ?side4 A7.out).mono ?_); (case side1 => exact cB HR0); (case side2 => exact HC0.out); (case side3 => exact cB HR1_2); (case side4 => exact HC1_2.out); rintro e w24 ⟨rfl, hb⟩; replace BK408 := Aside0.mk (blk_below (g := gb408) (bK BK408) hb); replace HB := Aside0.mk (below_step bG hb); (try clear hb)))
    go_meet
    case rel => exact ⟨_, (true), rS, H', ⟨by first | omega | exact Nat.le_refl _⟩, ⟨bK BK408⟩, ⟨bG⟩⟩
  ·
   replace c6 := Bool.eq_false_iff.mpr c6
   subst c6
   have H1 : (impl_IsControl.j0 k l0 true l1_0 a1_1 l1_2 a1_3) = some r := by rw [if_neg (show ¬ (false = true) by decide)] at H; exact H
   clear H
   have H := H1
   clear H1
   have H' := Aside0.mk H
   clear H
   obtain ⟨hcz25_0, hcz25_1, hcz25_2, hcz25_3, hfz25_0, hfz25_1, hfz25_2, hfz25_3⟩ := blkc4 BK408
   go_wp2_with (first | ((with_reducible refine gate_callee (f := 87) rfl ?_); refine gL (some 8) Try.func87 #[.slice A0 l0.length c0, .slice A1_0 l1_0.length c1_0] ?_; (with_reducible refine (impl_IsTogether.calls k _ _ l0 _ _ l1_0 false _ ?side1 ?side2 ?side3 ?side4 A5.out).mono ?_); (case side1 => exact cB HR0); (case side2 => exact HC0.out); (case side3 => exact cB HR1_0); (case side4 => exact HC1_0.out); rintro e w26 ⟨rfl, hb⟩; refine ⟨_, rfl, ?_⟩; replace BK408 := Aside0.mk (blk_below (g := gb408) (bK BK408) hb); replace HB := Aside0.mk (below_step bG hb); (try clear hb)))
   go_meet
   case rel => exact ⟨_, (true), rS, H', ⟨by first | omega | exact Nat.le_refl _⟩, ⟨bK BK408⟩, ⟨bG⟩⟩
 case rest =>
  clear HC3
  try clear c1
  try clear p2
  try clear c6
  try clear c8
  try clear c9
  try clear c9b0
  try clear c9b1
  try clear c9b2
  try clear hcz10_0
  try clear hcz10_1
  try clear hcz10_2
  try clear hcz10_3
  try clear hcz12_0
  try clear hcz12_1
  try clear hcz12_2
  try clear hcz12_3
  try clear hcz14_0
  try clear hcz14_1
  try clear hcz14_2
  try clear hcz14_3
  try clear hcz16_0
  try clear hcz16_1
  try clear hcz16_2
  try clear hcz16_3
  try clear hcz18_0
  try clear hcz18_1
  try clear hcz18_2
  try clear hcz18_3
  try clear hcz20_0
  try clear hcz20_1
  try clear hcz20_2
  try clear hcz20_3
  try clear hcz21_0
  try clear hcz21_1
  try clear hcz21_2
  try clear hcz21_3
  try clear hcz23_0
  try clear hcz23_1
  try clear hcz23_2
  try clear hcz23_3
  try clear hcz25_0
  try clear hcz25_1
  try clear hcz25_2
  try clear hcz25_3
  try clear hfz10_0
  try clear hfz10_1
  try clear hfz10_2
  try clear hfz10_3
  try clear hfz12_0
  try clear hfz12_1
  try clear hfz12_2
  try clear hfz12_3
  try clear hfz14_0
  try clear hfz14_1
  try clear hfz14_2
  try clear hfz14_3
  try clear hfz16_0
  try clear hfz16_1
  try clear hfz16_2
  try clear hfz16_3
  try clear hfz18_0
  try clear hfz18_1
  try clear hfz18_2
  try clear hfz18_3
  try clear hfz20_0
  try clear hfz20_1
  try clear hfz20_2
  try clear hfz20_3
  try clear hfz21_0
  try clear hfz21_1
  try clear hfz21_2
  try clear hfz21_3
  try clear hfz23_0
  try clear hfz23_1
  try clear hfz23_2
  try clear hfz23_3
  try clear hfz25_0
  try clear hfz25_1
  try clear hfz25_2
  try clear hfz25_3
  obtain ⟨kq, x28_2, rfl, HA, HJ2, BK408, HB⟩ := hcut
  cases kq with
  | zero => exact absurd HA.out (by simp [impl_IsControl.j0])
  | succ kj2 =>
   have H := HA.out
   clear HA
   simp only [impl_IsControl.j0] at H
   by_cases c27 : x28_2 = true
   ·
    subst c27
    have H1 : (some false) = some r := by rw [if_pos rfl] at H; exact H
    clear H
    have H := H1
    clear H1
    obtain rfl := Option.some.inj H
    go_wp2
    go_ret
    exact ⟨rA, bG⟩
   ·
    replace c27 := Bool.eq_false_iff.mpr c27
    subst c27
    have H1 : (if (l1_2.length : Int) = 0 then (some (a1_3 == 0)) else ((impl_ClearBetween.f kj2 l0 l1_0 l1_2).bind fun t412 => ((impl_InRange.f a1_3 1 t412).bind fun t413 => (some t413)))) = some r := by rw [if_neg (show ¬ (false = true) by decide)] at H; exact H
    clear H
    have H := H1
    clear H1
    by_cases c28 : (l1_2.length : Int) = 0
    ·
     rw [if_pos c28] at H
     have c28b0 : ((l1_2.length : Int) == 0) = true := beq_iff_eq.mpr c28
     have c28b1 : ((l1_2.length : Int) != 0) = false := bne_eq_false_iff_eq.mpr c28
     clear c28
     obtain rfl := Option.some.inj H
     obtain ⟨hcz29_0, hcz29_1, hcz29_2, hcz29_3, hfz29_0, hfz29_1, hfz29_2, hfz29_3⟩ := blkc4 BK408
     go_wp2
     go_ret
     exact ⟨rA, bG⟩
    ·
     rw [if_neg c28] at H
     have c28b0 : ((l1_2.length : Int) == 0) = false := beq_eq_false_iff_ne.mpr c28
     have c28b1 : ((l1_2.length : Int) != 0) = true := bne_iff_ne.mpr c28
     have c28b2 : ¬ (l1_2 = []) := fun h_ => c28 (by rw [h_]; rfl)
     obtain ⟨t412, A30, H⟩ := bindE H
     try dsimp only at H
     obtain ⟨t413, A31, H⟩ := bindE H
     try dsimp only at H
     obtain rfl := Option.some.inj H
     obtain ⟨hcz32_0, hcz32_1, hcz32_2, hcz32_3, hfz32_0, hfz32_1, hfz32_2, hfz32_3⟩ := blkc4 BK408
     try go_wp2
     replace BK408 := Aside0.mk (blk_drew BK408.out)
     have HBo := HB
     replace HB := Aside0.mk (below_drew1 HB.out)
     refine start_ (n := 10) (S := fun w' => w'.cell? ⟨gb408, 0, none⟩ = some (.slice A1_0 l1_0.length c1_0) ∧ w'.cell? ⟨gb408, 1, none⟩ = some (.int .i64 a1_1) ∧ w'.cell? ⟨gb408, 2, none⟩ = some (.slice A1_2 l1_2.length c1_2) ∧ w'.cell? ⟨gb408, 3, none⟩ = some (.int .i64 a1_3)) (ds := []) (mb 10 0) (by kernel_rfl) rfl rfl ⟨bC BK408 0, bC BK408 1, bC BK408 2, bC BK408 3⟩ (fun hHeld => ?_); refine with_tabW impl_IsControl.tab5 impl_IsControl.bits5 (fun HT_ HW_ => ?_)
     generalize wc.drew = w33 at BK408 HB hHeld ⊢
     refine pA (i := 0) (N := some 36) (mb 10 1) HT_ ?_
     refine pA (i := 2) (N := some 38) (mb 10 5) HT_ ?_
     refine pA (i := 3) (N := some 39) (mb 10 13) HT_ ?_
     refine pA (i := 5) (N := some 41) (mb 10 45) HT_ ?_
     refine tA4 (i := 1) (N := some 37) (mb 10 47) HT_ HW_ hHeld ?_
     refine tA4 (i := 4) (N := some 40) (mb 10 63) HT_ HW_ hHeld ?_
     refine tA4 (i := 6) (N := some 42) (mb 10 127) HT_ HW_ hHeld ?_
     refine oA (i := 7) (N := some 43) (mb 10 255) HT_ (fun K hK => ?_)
     refine gA Try.func89 #[.slice A0 l0.length c0, .slice A1_0 l1_0.length c1_0, .slice A1_2 l1_2.length c1_2] ?_
     with_reducible refine (impl_ClearBetween.calls kj2 _ _ l0 _ _ l1_0 _ _ l1_2 t412 _ ?side1 ?side2 ?side3 ?side4 ?side5 ?side6 A30.out).mono ?_
     (case side1 => exact cB HR0)
     (case side2 => exact HC0.out)
     (case side3 => exact cB HR1_0)
     (case side4 => exact HC1_0.out)
     (case side5 => exact cB HR1_2)
     (case side6 => exact HC1_2.out)
     rintro e w34 ⟨rfl, hb⟩
     refine ⟨_, rfl, ?_⟩
     replace BK408 := Aside0.mk (blk_below (g := gb408) (bK BK408) hb)
     replace HB := Aside0.mk (below_step bG hb)
     (try clear hb)
     (try clear hb2)
     (try clear hk)
     (try clear hi)
     refine hK.out _ _ ⟨bC BK408 0, bC BK408 1, bC BK408 2, bC BK408 3⟩ (fun hHeld => ?_)
     clear hK K
     refine nB ?_
     refine oA (i := 8) (N := some 44) (mb 10 511) HT_ (fun K hK => ?_)
     refine gA Try.func66 #[.int .i64 a1_3, .int .i64 1, .int .i64 t412] ?_
     with_reducible refine (impl_InRange.calls a1_3 1 t412 t413 _ A31.out).mono ?_
     rintro e w' ⟨rfl, ⟨nd, rfl⟩⟩
     refine ⟨_, rfl, ?_⟩
     refine hK.out _ _ ⟨bC BK408 0, bC BK408 1, bC BK408 2, bC BK408 3⟩ (fun hHeld => ?_)
     clear hK K
     refine nB ?_
     refine pA (i := 9) (N := some 4) (mb 10 1023) HT_ ?_
     refine eA HT_ ?_
     try go_wp2
     go_ret
     exact ⟨rA, bG⟩

/-! ### impl_AreWants: function 98 -/
def impl_AreWants.l0 : Nat → List (S89) → List (S115) → List (S115) → Int → Int → Option (Bool)
 | 0, _, _, _, _, _ => none
 | k + 1, x0, x1, x10, x11, x12 => if x12 < x11 then (if 0 ≤ x12 then (if x12 < (x10.length : Int) then ((impl_FindPath.f x0 ((rd_T115 x10 x12).f0)).bind fun t417 => (if t417 < 0 then (some false) else ((impl_InRange.f ((rd_T115 x10 x12).f1) 0 100000).bind fun t418 => (if t418 = true then (if x12 > 0 then (if 0 ≤ (wrap64 (x12 - 1)) then (if (wrap64 (x12 - 1)) < (x1.length : Int) then (if ((rd_T115 x10 x12).f0) ≤ ((rd_T115 x1 (wrap64 (x12 - 1))).f0) then (some false) else (impl_AreWants.l0 k x0 x1 x10 x11 (wrap64 (x12 + 1)))) else (none)) else (none)) else (impl_AreWants.l0 k x0 x1 x10 x11 (wrap64 (x12 + 1)))) else (some false))))) else (none)) else (none)) else (some true)
def impl_AreWants.f (k : Nat) (l0 : List (S89)) (l1 : List (S115)) : Option (Bool) := (impl_ArePaths.f k l0).bind fun t414 => (if t414 = true then (impl_AreWants.l0 k l0 l1 l1 (l1.length : Int) 0) else (some false))
theorem impl_AreWants.mono_l : ∀ k, (∀ y0 y1 y2 y3 y4, LeO (impl_AreWants.l0 k y0 y1 y2 y3 y4) (impl_AreWants.l0 (k + 1) y0 y1 y2 y3 y4))
 | 0 => fun _ _ _ _ _ r h => by simp [impl_AreWants.l0] at h
 | k + 1 => by
  have ih0 := impl_AreWants.mono_l k
  ·
   intro y0 y1 y2 y3 y4
   unfold impl_AreWants.l0
   repeat' first | (with_reducible first | exact LeO.refl _ | exact LeO.none _ | refine LeO.ite ?_ ?_ | refine LeO.bind ?_ (fun _ => ?_) | exact ih0 _ _ _ _ _ | exact impl_ArePaths.mono _ _)
theorem impl_AreWants.mono : ∀ a0 a1 k, LeO (impl_AreWants.f k a0 a1) (impl_AreWants.f (k + 1) a0 a1) := by
 intro a0 a1 k
 have ih0 := impl_AreWants.mono_l k
 unfold impl_AreWants.f
 repeat' first | (with_reducible first | exact LeO.refl _ | exact LeO.none _ | refine LeO.ite ?_ ?_ | refine LeO.bind ?_ (fun _ => ?_) | exact ih0 _ _ _ _ _ | exact impl_ArePaths.mono _ _)
def impl_AreWants.T6 : Bool × List (List Nat × List Nat) := (true, [([], []), ([], []), ([1], [1]), ([0, 2], [0, 2]), ([3], [3]), ([4, 3], [4]), ([5], [5]), ([6, 5], [5, 6]), ([7, 5, 5], [5, 7]), ([8, 5], [5, 8]), ([5, 9], [5, 9]), ([10, 8], [10]), ([11], [11]), ([12, 11], [11, 12]), ([13, 11, 11], [11, 13]), ([14], [14]), ([15, 14], [14, 15]), ([14], [14]), ([14], [14]), ([18, 14], [14, 18]), ([17, 19, 14], [14, 17, 19]), ([20, 14], [14, 20]), ([21, 14], [14, 21]), ([16, 22, 14], [14, 16, 22]), ([14, 23, 11], [11, 14, 23]), ([11, 24], [11, 24])])
def impl_AreWants.B6 : List Nat := [0, 0, 2, 7, 15, 31, 63, 127, 255, 511, 1023, 2047, 4095, 8191, 16383, 32767, 65535, 32767, 32767, 294911, 950271, 1998847, 4095999, 8388607, 16777215, 33554431]
theorem impl_AreWants.tab6 : rtab .any (opsOf Try.f98 6) = impl_AreWants.T6 := by kernel_rfl
theorem impl_AreWants.bits6 : waitsOk impl_AreWants.T6.2 impl_AreWants.B6 = true := by kernel_rfl
set_option maxHeartbeats 8000000 in
set_option maxRecDepth 100000 in
theorem impl_AreWants.calls (k : Nat) (A0 : Option Addr) (c0 : Nat) (l0 : List (S89)) (A1 : Option Addr) (c1 : Nat) (l1 : List (S115)) (r : Bool) (w : World) (hr0 : Kd.C k89 w A0 l0.length l0) (hc0 : l0.length ≤ c0) (hr1 : Kd.C k115 w A1 l1.length l1) (hc1 : l1.length ≤ c1) (h : impl_AreWants.f k l0 l1 = some r) :
  Calls Try.prog 98 #[.slice A0 l0.length c0, .slice A1 l1.length c1] w fun e w' => e = .returned (.bool r) ∧ Below w.heap.size w w' := by
 have hu115 := Try.underlying115
 have HR0 := Aside0.mk hr0
 have HC0 := Aside0.mk hc0
 clear hr0 hc0
 have HR1 := Aside0.mk hr1
 have HC1 := Aside0.mk hc1
 clear hr1 hc1
 have HB := Aside0.mk (Below.refl w.heap.size w)
 have H : ((impl_ArePaths.f k l0).bind fun t414 => (if t414 = true then (impl_AreWants.l0 k l0 l1 l1 (l1.length : Int) 0) else (some false))) = some r := h
 clear h
 obtain ⟨t414, A3, H⟩ := bindE H
 try dsimp only at H
 by_cases c4 : t414 = true
 ·
  subst c4
  have H1 : (impl_AreWants.l0 k l0 l1 l1 (l1.length : Int) 0) = some r := by rw [if_pos rfl] at H; exact H
  clear H
  have H := H1
  clear H1
  have H' := Aside0.mk H
  clear H
  go_enter Try.func98, Try.ntmps98
  go_wp2_with (first | ((with_reducible refine gate_callee (f := 126) rfl ?_); refine gL (some 8) Try.func126 #[.slice A0 l0.length c0] ?_; (with_reducible refine (impl_ArePaths.calls k _ _ l0 true _ ?side1 ?side2 A3.out).mono ?_); (case side1 => exact cO HR0); (case side2 => exact HC0.out); rintro e w5 ⟨rfl, hb⟩; refine ⟨_, rfl, ?_⟩; replace HB := Aside0.mk (below_step bA hb); (try clear hb)))
  go_loopg [12] k (fun kq v12 w' => ∃ (x12_1 : Int), v12 = .int .i64 x12_1 ∧ Aside0 (impl_AreWants.l0 kq l0 l1 l1 (l1.length : Int) x12_1 = some r) ∧ Aside0 (kq ≤ k) ∧ Aside0 (Below w.heap.size w w'))
  case atStart => exact ⟨(0), rS, H', ⟨Nat.le_refl _⟩, ⟨bA⟩⟩
  case round =>
   clear H'
   try clear c1
   try clear p2
   try clear c4
   obtain ⟨x12_1, rfl, HA, HK1, HB⟩ := hrel
   cases gk with
   | zero => exact absurd HA.out (by simp [impl_AreWants.l0])
   | succ k1 =>
    have H := HA.out
    clear HA
    simp only [impl_AreWants.l0] at H
    by_cases c6 : x12_1 < (l1.length : Int)
    ·
     rw [if_pos c6] at H
     have c6b0 := decide_eq_true c6
     clear c6
     have c7 : 0 ≤ x12_1 := ifN H
     replace H := ifT H
     have c7b0 := decide_eq_true c7
     clear c7
     have c8 : x12_1 < (l1.length : Int) := ifN H
     replace H := ifT H
     have c8b0 := decide_eq_true c8
     clear c8
     obtain ⟨t417, A9, H⟩ := bindE H
     try dsimp only at H
     by_cases c10 : t417 < 0
     ·
      rw [if_pos c10] at H
      have c10b0 := decide_eq_true c10
      clear c10
      obtain rfl := Option.some.inj H
      have p415 : 0 ≤ (x12_1 : Int) := dA
      have q415 : x12_1 < (l1.length : Int) := dA
      obtain ⟨ad415, e415, hx415_0, hx415_1⟩ := at_T115 HR1.out x12_1 p415 q415
      cases e415
      replace hx415_0 := hC HB hx415_0
      replace hx415_1 := hC HB hx415_1
      replace p415 := eq_true p415
      replace q415 := eq_true q415
      try go_wp2_with (first | ((with_reducible refine gate_dst (N := 6) rfl ?_); refine bE (N := 6) (cs := #[.int .i64 0, .int .i64 0]) (t := 115) ?_; intro gb416 hg w11 hbox hb; have n0_ := Aside0.mk (below_step bA hb); have n1_ := Aside0.mk (hbox); have n2_ := Aside0.mk ((by rw [hg]; exact (below_size bA) : w.heap.size ≤ gb416)); have n3_ := Aside0.mk ((by rw [hg]; exact (below_size bA) : w.heap.size ≤ gb416)); clear HB; have HB := n0_; have BK416 := n1_; have GW416 := n2_; have GE416 := n3_; clear n0_ n1_ n2_ n3_; clear hb hbox hg; obtain ⟨hcz12_0, hcz12_1, hfz12_0, hfz12_1⟩ := blkc2 BK416))
      have n0_ : Aside0 (((w11.setCell ⟨gb416, 0, none⟩ (.int .i64 ((rd_T115 l1 x12_1).f0))).setCell ⟨gb416, 1, none⟩ (.int .i64 ((rd_T115 l1 x12_1).f1))).heap[gb416]? = some (.cells #[.int .i64 ((rd_T115 l1 x12_1).f0), .int .i64 ((rd_T115 l1 x12_1).f1)] 115 (0, 0))) := ⟨by (with_reducible repeat (first | refine blk_drewN ?_ _ | refine blk_drew ?_ | refine blk_alloc ?_ _)); refine blk_put (cs := #[.int .i64 ((rd_T115 l1 x12_1).f0), .int .i64 0]) ?_ 1 _ rfl; (with_reducible repeat (first | refine blk_drewN ?_ _ | refine blk_drew ?_ | refine blk_alloc ?_ _)); refine blk_put (cs := #[.int .i64 0, .int .i64 0]) ?_ 0 _ rfl; (with_reducible repeat (first | refine blk_drewN ?_ _ | refine blk_drew ?_ | refine blk_alloc ?_ _)); exact BK416.out⟩
      have n1_ : Aside0 (Below w.heap.size w ((w11.setCell ⟨gb416, 0, none⟩ (.int .i64 ((rd_T115 l1 x12_1).f0))).setCell ⟨gb416, 1, none⟩ (.int .i64 ((rd_T115 l1 x12_1).f1)))) := ⟨bG⟩
      (try clear BK416)
      (try clear HB)
      generalize ((w11.setCell ⟨gb416, 0, none⟩ (.int .i64 ((rd_T115 l1 x12_1).f0))).setCell ⟨gb416, 1, none⟩ (.int .i64 ((rd_T115 l1 x12_1).f1))) = w13 at n0_ n1_ ⊢
      have BK416 := n0_
      have HB := n1_
      clear n0_ n1_
      replace BK416 := Aside0.mk (blk_drew BK416.out)
      have HBo := HB
      replace HB := Aside0.mk (below_drew1 HB.out)
      refine start_ (n := 26) (S := fun w' => w'.cell? ⟨gb416, 0, none⟩ = some (.int .i64 ((rd_T115 l1 x12_1).f0)) ∧ w'.cell? ⟨gb416, 1, none⟩ = some (.int .i64 ((rd_T115 l1 x12_1).f1))) (ds := []) (mb 26 0) (by kernel_rfl) rfl rfl ⟨bC BK416 0, bC BK416 1⟩ (fun hHeld => ?_); refine with_tabW impl_AreWants.tab6 impl_AreWants.bits6 (fun HT_ HW_ => ?_)
      generalize w13.drew = w14 at BK416 HB hHeld ⊢
      refine pA (i := 0) (N := some 17) (mb 26 1) HT_ ?_
      refine pA (i := 1) (N := some 18) (mb 26 3) HT_ ?_
      refine tA2 (i := 2) (N := some 19) (mb 26 7) HT_ HW_ hHeld ?_
      refine oA (i := 3) (N := some 20) (mb 26 15) HT_ (fun K hK => ?_)
      refine gA Try.func119 #[.slice A0 l0.length c0, .int .i64 ((rd_T115 l1 x12_1).f0)] ?_
      with_reducible refine (impl_FindPath.calls _ _ l0 ((rd_T115 l1 x12_1).f0) t417 _ ?side1 ?side2 A9.out).mono ?_
      (case side1 => exact cB HR0)
      (case side2 => exact HC0.out)
      rintro e w15 ⟨rfl, hb⟩
      refine ⟨_, rfl, ?_⟩
      replace BK416 := Aside0.mk (blk_below (g := gb416) (bK BK416) hb)
      replace HB := Aside0.mk (below_step bG hb)
      (try clear hb)
      (try clear hb2)
      (try clear hk)
      (try clear hi)
      refine hK.out _ _ ⟨bC BK416 0, bC BK416 1⟩ (fun hHeld => ?_)
      clear hK K
      refine nB ?_
      refine pA (i := 4) (N := some 21) (mb 26 31) HT_ ?_
      refine pA (i := 5) (N := some 22) (mb 26 63) HT_ ?_
      refine pU (i := 6) (N := some 23) (mb 26 127) HT_ ?_
      refine pU (i := 7) (N := some 24) (mb 26 255) HT_ ?_
      refine pU (i := 8) (N := some 25) (mb 26 511) HT_ ?_
      refine pU (i := 9) (N := some 26) (mb 26 1023) HT_ ?_
      refine pA (i := 10) (N := some 27) (mb 26 2047) HT_ ?_
      refine pA (i := 11) (N := some 28) (mb 26 4095) HT_ ?_
      refine pU (i := 12) (N := some 29) (mb 26 8191) HT_ ?_
      refine pU (i := 13) (N := some 30) (mb 26 16383) HT_ ?_
      refine pU (i := 14) (N := some 31) (mb 26 32767) HT_ ?_
      refine pU (i := 15) (N := some 32) (mb 26 65535) HT_ ?_
      refine pU (i := 16) (N := some 33) (mb 26 131071) HT_ ?_
      refine pU (i := 17) (N := some 34) (mb 26 262143) HT_ ?_
      refine pU (i := 18) (N := some 35) (mb 26 524287) HT_ ?_
      refine pU (i := 19) (N := some 36) (mb 26 1048575) HT_ ?_
      refine pU (i := 20) (N := some 37) (mb 26 2097151) HT_ ?_
      refine pU (i := 21) (N := some 38) (mb 26 4194303) HT_ ?_
      refine pU (i := 22) (N := some 39) (mb 26 8388607) HT_ ?_
      refine pU (i := 23) (N := some 40) (mb 26 16777215) HT_ ?_
      refine pU (i := 24) (N := some 41) (mb 26 33554431) HT_ ?_
      refine pA (i := 25) (N := some 42) (mb 26 67108863) HT_ ?_
      refine eA HT_ ?_
      try go_wp2
      go_ret
      exact ⟨rA, bG⟩
     ·
      rw [if_neg c10] at H
      have c10b0 := decide_eq_false c10
      clear c10
      obtain ⟨t418, A16, H⟩ := bindE H
      try dsimp only at H
      by_cases c17 : t418 = true
      ·
       subst c17
       have H1 : (if x12_1 > 0 then (if 0 ≤ (wrap64 (x12_1 - 1)) then (if (wrap64 (x12_1 - 1)) < (l1.length : Int) then (if ((rd_T115 l1 x12_1).f0) ≤ ((rd_T115 l1 (wrap64 (x12_1 - 1))).f0) then (some false) else (impl_AreWants.l0 k1 l0 l1 l1 (l1.length : Int) (wrap64 (x12_1 + 1)))) else (none)) else (none)) else (impl_AreWants.l0 k1 l0 l1 l1 (l1.length : Int) (wrap64 (x12_1 + 1)))) = some r := by rw [if_pos rfl] at H; exact H
       clear H
       have H := H1
       clear H1
       by_cases c18 : x12_1 > 0
       ·
        rw [if_pos c18] at H
        have c18b0 := decide_eq_true c18
        clear c18
        obtain ⟨ji19, hji19⟩ : ∃ j_ : Int, (wrap64 (x12_1 - 1)) = j_ := ⟨_, rfl⟩
        replace H : (if 0 ≤ (ji19) then (if (ji19) < (l1.length : Int) then (if ((rd_T115 l1 x12_1).f0) ≤ ((rd_T115 l1 (ji19)).f0) then (some false) else (impl_AreWants.l0 k1 l0 l1 l1 (l1.length : Int) (wrap64 (x12_1 + 1)))) else (none)) else (none)) = some r := by first | (rw [hji19] at H; exact H) | (simp only [hji19] at H ⊢; exact H)
        (try rw [hji19] at A9)
        (try rw [hji19] at A16)
        have hji19w : (IntKind.i64.wrap (x12_1 - 1)) = ji19 := (i64_w _).trans hji19
        have c20 : 0 ≤ (ji19) := ifN H
        replace H := ifT H
        have c20b0 := decide_eq_true c20
        clear c20
        have c21 : (ji19) < (l1.length : Int) := ifN H
        replace H := ifT H
        have c21b0 := decide_eq_true c21
        clear c21
        by_cases c22 : ((rd_T115 l1 x12_1).f0) ≤ ((rd_T115 l1 (ji19)).f0)
        ·
         rw [if_pos c22] at H
         have c22b0 := decide_eq_true c22
         clear c22
         obtain rfl := Option.some.inj H
         have p415 : 0 ≤ (x12_1 : Int) := dA
         have q415 : x12_1 < (l1.length : Int) := dA
         obtain ⟨ad415, e415, hx415_0, hx415_1⟩ := at_T115 HR1.out x12_1 p415 q415
         cases e415
         replace hx415_0 := hC HB hx415_0
         replace hx415_1 := hC HB hx415_1
         replace p415 := eq_true p415
         replace q415 := eq_true q415
         try go_wp2_with (first | ((with_reducible refine gate_dst (N := 6) rfl ?_); refine bE (N := 6) (cs := #[.int .i64 0, .int .i64 0]) (t := 115) ?_; intro gb416 hg w23 hbox hb; have n0_ := Aside0.mk (below_step bA hb); have n1_ := Aside0.mk (hbox); have n2_ := Aside0.mk ((by rw [hg]; exact (below_size bA) : w.heap.size ≤ gb416)); have n3_ := Aside0.mk ((by rw [hg]; exact (below_size bA) : w.heap.size ≤ gb416)); clear HB; have HB := n0_; have BK416 := n1_; have GW416 := n2_; have GE416 := n3_; clear n0_ n1_ n2_ n3_; clear hb hbox hg; obtain ⟨hcz24_0, hcz24_1, hfz24_0, hfz24_1⟩ := blkc2 BK416))
         have n0_ : Aside0 (((w23.setCell ⟨gb416, 0, none⟩ (.int .i64 ((rd_T115 l1 x12_1).f0))).setCell ⟨gb416, 1, none⟩ (.int .i64 ((rd_T115 l1 x12_1).f1))).heap[gb416]? = some (.cells #[.int .i64 ((rd_T115 l1 x12_1).f0), .int .i64 ((rd_T115 l1 x12_1).f1)] 115 (0, 0))) := ⟨by (with_reducible repeat (first | refine blk_drewN ?_ _ | refine blk_drew ?_ | refine blk_alloc ?_ _)); refine blk_put (cs := #[.int .i64 ((rd_T115 l1 x12_1).f0), .int .i64 0]) ?_ 1 _ rfl; (with_reducible repeat (first | refine blk_drewN ?_ _ | refine blk_drew ?_ | refine blk_alloc ?_ _)); refine blk_put (cs := #[.int .i64 0, .int .i64 0]) ?_ 0 _ rfl; (with_reducible repeat (first | refine blk_drewN ?_ _ | refine blk_drew ?_ | refine blk_alloc ?_ _)); exact BK416.out⟩
         have n1_ : Aside0 (Below w.heap.size w ((w23.setCell ⟨gb416, 0, none⟩ (.int .i64 ((rd_T115 l1 x12_1).f0))).setCell ⟨gb416, 1, none⟩ (.int .i64 ((rd_T115 l1 x12_1).f1)))) := ⟨bG⟩
         (try clear BK416)
         (try clear HB)
         generalize ((w23.setCell ⟨gb416, 0, none⟩ (.int .i64 ((rd_T115 l1 x12_1).f0))).setCell ⟨gb416, 1, none⟩ (.int .i64 ((rd_T115 l1 x12_1).f1))) = w25 at n0_ n1_ ⊢
         have BK416 := n0_
         have HB := n1_
         clear n0_ n1_
         replace BK416 := Aside0.mk (blk_drew BK416.out)
         have HBo := HB
         replace HB := Aside0.mk (below_drew1 HB.out)
         have p419 : 0 ≤ ((ji19) : Int) := dA
         have q419 : (ji19) < (l1.length : Int) := dA
         obtain ⟨ad419, e419, hx419_0, hx419_1⟩ := at_T115 HR1.out (ji19) p419 q419
         have hw419_1 := hx419_1
         have hw419_0 := hx419_0
         obtain rfl : ad415 = ad419 := (by injection e419)
         replace hx419_0 := hC HB hx419_0
         replace hx419_1 := hC HB hx419_1
         replace p419 := eq_true p419
         replace q419 := eq_true q419
         refine start_ (n := 26) (S := fun w' => w'.cell? ⟨gb416, 0, none⟩ = some (.int .i64 ((rd_T115 l1 x12_1).f0)) ∧ w'.cell? ⟨gb416, 1, none⟩ = some (.int .i64 ((rd_T115 l1 x12_1).f1)) ∧ w'.cell? (ad415.add (((ji19)).toNat * 2)) = some (.int .i64 ((rd_T115 l1 (ji19)).f0)) ∧ w'.cell? ⟨(ad415.add (((ji19)).toNat * 2)).block, (ad415.add (((ji19)).toNat * 2)).off + 1, none⟩ = some (.int .i64 ((rd_T115 l1 (ji19)).f1))) (ds := []) (mb 26 0) (by kernel_rfl) rfl rfl ⟨bC BK416 0, bC BK416 1, (hC HB hw419_0), (hC HB hw419_1)⟩ (fun hHeld => ?_); refine with_tabW impl_AreWants.tab6 impl_AreWants.bits6 (fun HT_ HW_ => ?_)
         generalize w25.drew = w26 at BK416 HB hx419_0 hx419_1 hHeld ⊢
         refine pA (i := 0) (N := some 17) (mb 26 1) HT_ ?_
         refine pA (i := 1) (N := some 18) (mb 26 3) HT_ ?_
         refine tA4 (i := 2) (N := some 19) (mb 26 7) HT_ HW_ hHeld ?_
         refine oA (i := 3) (N := some 20) (mb 26 15) HT_ (fun K hK => ?_)
         refine gA Try.func119 #[.slice A0 l0.length c0, .int .i64 ((rd_T115 l1 x12_1).f0)] ?_
         with_reducible refine (impl_FindPath.calls _ _ l0 ((rd_T115 l1 x12_1).f0) t417 _ ?side1 ?side2 A9.out).mono ?_
         (case side1 => exact cB HR0)
         (case side2 => exact HC0.out)
         rintro e w27 ⟨rfl, hb⟩
         refine ⟨_, rfl, ?_⟩
         replace BK416 := Aside0.mk (blk_below (g := gb416) (bK BK416) hb)
         replace HB := Aside0.mk (below_step bG hb)
         (try clear hb)
         (try clear hb2)
         (try clear hk)
         (try clear hi)
         refine hK.out _ _ ⟨bC BK416 0, bC BK416 1, (hC HB hw419_0), (hC HB hw419_1)⟩ (fun hHeld => ?_)
         clear hK K
         refine nB ?_
         refine pA (i := 4) (N := some 21) (mb 26 31) HT_ ?_
         refine pA (i := 5) (N := some 22) (mb 26 63) HT_ ?_
         refine pA (i := 6) (N := some 23) (mb 26 127) HT_ ?_
         refine tA4 (i := 7) (N := some 24) (mb 26 255) HT_ HW_ hHeld ?_
         refine oA (i := 8) (N := some 25) (mb 26 511) HT_ (fun K hK => ?_)
         refine gA Try.func66 #[.int .i64 ((rd_T115 l1 x12_1).f1), .int .i64 0, .int .i64 100000] ?_
         with_reducible refine (impl_InRange.calls ((rd_T115 l1 x12_1).f1) 0 100000 true _ A16.out).mono ?_
         rintro e w' ⟨rfl, ⟨nd, rfl⟩⟩
         refine ⟨_, rfl, ?_⟩
         refine hK.out _ _ ⟨bC BK416 0, bC BK416 1, (hC HB hw419_0), (hC HB hw419_1)⟩ (fun hHeld => ?_)
         clear hK K
         refine nB ?_
         refine pA (i := 9) (N := some 26) (mb 26 1023) HT_ ?_
         refine pA (i := 10) (N := some 27) (mb 26 2047) HT_ ?_
         refine pA (i := 11) (N := some 28) (mb 26 4095) HT_ ?_
         refine pA (i := 12) (N := some 29) (mb 26 8191) HT_ ?_
         refine pA (i := 13) (N := some 30) (mb 26 16383) HT_ ?_
         refine pA (i := 14) (N := some 31) (mb 26 32767) HT_ ?_
         refine pA (i := 15) (N := some 32) (mb 26 65535) HT_ ?_
         refine pA (i := 17) (N := some 34) (mb 26 196607) HT_ ?_
         refine pA (i := 18) (N := some 35) (mb 26 458751) HT_ ?_
         refine pA (i := 19) (N := some 36) (mb 26 983039) HT_ ?_
         refine pA (i := 20) (N := some 37) (mb 26 2031615) HT_ ?_
         refine pA (i := 21) (N := some 38) (mb 26 4128767) HT_ ?_
         refine tA4 (i := 16) (N := some 33) (mb 26 4194303) HT_ HW_ hHeld ?_
         refine tA4 (i := 22) (N := some 39) (mb 26 8388607) HT_ HW_ hHeld ?_
         refine pA (i := 23) (N := some 40) (mb 26 16777215) HT_ ?_
         refine pA (i := 24) (N := some 41) (mb 26 33554431) HT_ ?_
         refine pA (i := 25) (N := some 42) (mb 26 67108863) HT_ ?_
         refine eA HT_ ?_
         try go_wp2
         go_ret
         exact ⟨by first | rfl | (simp [errW_none, errW_some] <;> rfl) | (simp only [← hji19]; first | rfl | (simp [errW_none, errW_some] <;> rfl)) | (simp [*, errW_none, errW_some] <;> rfl), bG⟩
        ·
         rw [if_neg c22] at H
         have c22b0 := decide_eq_false c22
         clear c22
         have H' := Aside0.mk H
         clear H
         have p415 : 0 ≤ (x12_1 : Int) := dA
         have q415 : x12_1 < (l1.length : Int) := dA
         obtain ⟨ad415, e415, hx415_0, hx415_1⟩ := at_T115 HR1.out x12_1 p415 q415
         cases e415
         replace hx415_0 := hC HB hx415_0
         replace hx415_1 := hC HB hx415_1
         replace p415 := eq_true p415
         replace q415 := eq_true q415
         try go_wp2_with (first | ((with_reducible refine gate_dst (N := 6) rfl ?_); refine bE (N := 6) (cs := #[.int .i64 0, .int .i64 0]) (t := 115) ?_; intro gb416 hg w28 hbox hb; have n0_ := Aside0.mk (below_step bA hb); have n1_ := Aside0.mk (hbox); have n2_ := Aside0.mk ((by rw [hg]; exact (below_size bA) : w.heap.size ≤ gb416)); have n3_ := Aside0.mk ((by rw [hg]; exact (below_size bA) : w.heap.size ≤ gb416)); clear HB; have HB := n0_; have BK416 := n1_; have GW416 := n2_; have GE416 := n3_; clear n0_ n1_ n2_ n3_; clear hb hbox hg; obtain ⟨hcz29_0, hcz29_1, hfz29_0, hfz29_1⟩ := blkc2 BK416))
         have n0_ : Aside0 (((w28.setCell ⟨gb416, 0, none⟩ (.int .i64 ((rd_T115 l1 x12_1).f0))).setCell ⟨gb416, 1, none⟩ (.int .i64 ((rd_T115 l1 x12_1).f1))).heap[gb416]? = some (.cells #[.int .i64 ((rd_T115 l1 x12_1).f0), .int .i64 ((rd_T115 l1 x12_1).f1)] 115 (0, 0))) := ⟨by (with_reducible repeat (first | refine blk_drewN ?_ _ | refine blk_drew ?_ | refine blk_alloc ?_ _)); refine blk_put (cs := #[.int .i64 ((rd_T115 l1 x12_1).f0), .int .i64 0]) ?_ 1 _ rfl; (with_reducible repeat (first | refine blk_drewN ?_ _ | refine blk_drew ?_ | refine blk_alloc ?_ _)); refine blk_put (cs := #[.int .i64 0, .int .i64 0]) ?_ 0 _ rfl; (with_reducible repeat (first | refine blk_drewN ?_ _ | refine blk_drew ?_ | refine blk_alloc ?_ _)); exact BK416.out⟩
         have n1_ : Aside0 (Below w.heap.size w ((w28.setCell ⟨gb416, 0, none⟩ (.int .i64 ((rd_T115 l1 x12_1).f0))).setCell ⟨gb416, 1, none⟩ (.int .i64 ((rd_T115 l1 x12_1).f1)))) := ⟨bG⟩
         (try clear BK416)
         (try clear HB)
         generalize ((w28.setCell ⟨gb416, 0, none⟩ (.int .i64 ((rd_T115 l1 x12_1).f0))).setCell ⟨gb416, 1, none⟩ (.int .i64 ((rd_T115 l1 x12_1).f1))) = w30 at n0_ n1_ ⊢
         have BK416 := n0_
         have HB := n1_
         clear n0_ n1_
         replace BK416 := Aside0.mk (blk_drew BK416.out)
         have HBo := HB
         replace HB := Aside0.mk (below_drew1 HB.out)
         have p419 : 0 ≤ ((ji19) : Int) := dA
         have q419 : (ji19) < (l1.length : Int) := dA
         obtain ⟨ad419, e419, hx419_0, hx419_1⟩ := at_T115 HR1.out (ji19) p419 q419
         have hw419_1 := hx419_1
         have hw419_0 := hx419_0
         obtain rfl : ad415 = ad419 := (by injection e419)
         replace hx419_0 := hC HB hx419_0
         replace hx419_1 := hC HB hx419_1
         replace p419 := eq_true p419
         replace q419 := eq_true q419
         refine start_ (n := 26) (S := fun w' => w'.cell? ⟨gb416, 0, none⟩ = some (.int .i64 ((rd_T115 l1 x12_1).f0)) ∧ w'.cell? ⟨gb416, 1, none⟩ = some (.int .i64 ((rd_T115 l1 x12_1).f1)) ∧ w'.cell? (ad415.add (((ji19)).toNat * 2)) = some (.int .i64 ((rd_T115 l1 (ji19)).f0)) ∧ w'.cell? ⟨(ad415.add (((ji19)).toNat * 2)).block, (ad415.add (((ji19)).toNat * 2)).off + 1, none⟩ = some (.int .i64 ((rd_T115 l1 (ji19)).f1))) (ds := []) (mb 26 0) (by kernel_rfl) rfl rfl ⟨bC BK416 0, bC BK416 1, (hC HB hw419_0), (hC HB hw419_1)⟩ (fun hHeld => ?_); refine with_tabW impl_AreWants.tab6 impl_AreWants.bits6 (fun HT_ HW_ => ?_)
         generalize w30.drew = w31 at BK416 HB hx419_0 hx419_1 hHeld ⊢
         refine pA (i := 0) (N := some 17) (mb 26 1) HT_ ?_
         refine pA (i := 1) (N := some 18) (mb 26 3) HT_ ?_
         refine tA4 (i := 2) (N := some 19) (mb 26 7) HT_ HW_ hHeld ?_
         refine oA (i := 3) (N := some 20) (mb 26 15) HT_ (fun K hK => ?_)
         refine gA Try.func119 #[.slice A0 l0.length c0, .int .i64 ((rd_T115 l1 x12_1).f0)] ?_
         with_reducible refine (impl_FindPath.calls _ _ l0 ((rd_T115 l1 x12_1).f0) t417 _ ?side1 ?side2 A9.out).mono ?_
         (case side1 => exact cB HR0)
         (case side2 => exact HC0.out)
         rintro e w32 ⟨rfl, hb⟩
         refine ⟨_, rfl, ?_⟩
         replace BK416 := Aside0.mk (blk_below (g := gb416) (bK BK416) hb)
         replace HB := Aside0.mk (below_step bG hb)
         (try clear hb)
         (try clear hb2)
         (try clear hk)
         (try clear hi)
         refine hK.out _ _ ⟨bC BK416 0, bC BK416 1, (hC HB hw419_0), (hC HB hw419_1)⟩ (fun hHeld => ?_)
         clear hK K
         refine nB ?_
         refine pA (i := 4) (N := some 21) (mb 26 31) HT_ ?_
         refine pA (i := 5) (N := some 22) (mb 26 63) HT_ ?_
         refine pA (i := 6) (N := some 23) (mb 26 127) HT_ ?_
         refine tA4 (i := 7) (N := some 24) (mb 26 255) HT_ HW_ hHeld ?_
         refine oA (i := 8) (N := some 25) (mb 26 511) HT_ (fun K hK => ?_)
         refine gA Try.func66 #[.int .i64 ((rd_T115 l1 x12_1).f1), .int .i64 0, .int .i64 100000] ?_
         with_reducible refine (impl_InRange.calls ((rd_T115 l1 x12_1).f1) 0 100000 true _ A16.out).mono ?_
         rintro e w' ⟨rfl, ⟨nd, rfl⟩⟩
         refine ⟨_, rfl, ?_⟩
         refine hK.out _ _ ⟨bC BK416 0, bC BK416 1, (hC HB hw419_0), (hC HB hw419_1)⟩ (fun hHeld => ?_)
         clear hK K
         refine nB ?_
         refine pA (i := 9) (N := some 26) (mb 26 1023) HT_ ?_
         refine pA (i := 10) (N := some 27) (mb 26 2047) HT_ ?_
         refine pA (i := 11) (N := some 28) (mb 26 4095) HT_ ?_
         refine pA (i := 12) (N := some 29) (mb 26 8191) HT_ ?_
         refine pA (i := 13) (N := some 30) (mb 26 16383) HT_ ?_
         refine pA (i := 14) (N := some 31) (mb 26 32767) HT_ ?_
         refine pA (i := 15) (N := some 32) (mb 26 65535) HT_ ?_
         refine pA (i := 17) (N := some 34) (mb 26 196607) HT_ ?_
         refine pA (i := 18) (N := some 35) (mb 26 458751) HT_ ?_
         refine pA (i := 19) (N := some 36) (mb 26 983039) HT_ ?_
         refine pA (i := 20) (N := some 37) (mb 26 2031615) HT_ ?_
         refine pA (i := 21) (N := some 38) (mb 26 4128767) HT_ ?_
         refine tA4 (i := 16) (N := some 33) (mb 26 4194303) HT_ HW_ hHeld ?_
         refine tA4 (i := 22) (N := some 39) (mb 26 8388607) HT_ HW_ hHeld ?_
         refine pA (i := 23) (N := some 40) (mb 26 16777215) HT_ ?_
         refine pA (i := 24) (N := some 41) (mb 26 33554431) HT_ ?_
         refine pA (i := 25) (N := some 42) (mb 26 67108863) HT_ ?_
         refine eA HT_ ?_
         try go_wp2
         go_roundg k1
         case measure => have := HK1.out; omega
         case rel => exact ⟨(wrap64 (x12_1 + 1)), rS, H', ⟨by have := HK1.out; omega⟩, ⟨bG⟩⟩
       ·
        rw [if_neg c18] at H
        have c18b0 := decide_eq_false c18
        clear c18
        have H' := Aside0.mk H
        clear H
        have p415 : 0 ≤ (x12_1 : Int) := dA
        have q415 : x12_1 < (l1.length : Int) := dA
        obtain ⟨ad415, e415, hx415_0, hx415_1⟩ := at_T115 HR1.out x12_1 p415 q415
        cases e415
        replace hx415_0 := hC HB hx415_0
        replace hx415_1 := hC HB hx415_1
        replace p415 := eq_true p415
        replace q415 := eq_true q415
        try go_wp2_with (first | ((with_reducible refine gate_dst (N := 6) rfl ?_); refine bE (N := 6) (cs := #[.int .i64 0, .int .i64 0]) (t := 115) ?_; intro gb416 hg w33 hbox hb; have n0_ := Aside0.mk (below_step bA hb); have n1_ := Aside0.mk (hbox); have n2_ := Aside0.mk ((by rw [hg]; exact (below_size bA) : w.heap.size ≤ gb416)); have n3_ := Aside0.mk ((by rw [hg]; exact (below_size bA) : w.heap.size ≤ gb416)); clear HB; have HB := n0_; have BK416 := n1_; have GW416 := n2_; have GE416 := n3_; clear n0_ n1_ n2_ n3_; clear hb hbox hg; obtain ⟨hcz34_0, hcz34_1, hfz34_0, hfz34_1⟩ := blkc2 BK416))
        have n0_ : Aside0 (((w33.setCell ⟨gb416, 0, none⟩ (.int .i64 ((rd_T115 l1 x12_1).f0))).setCell ⟨gb416, 1, none⟩ (.int .i64 ((rd_T115 l1 x12_1).f1))).heap[gb416]? = some (.cells #[.int .i64 ((rd_T115 l1 x12_1).f0), .int .i64 ((rd_T115 l1 x12_1).f1)] 115 (0, 0))) := ⟨by (with_reducible repeat (first | refine blk_drewN ?_ _ | refine blk_drew ?_ | refine blk_alloc ?_ _)); refine blk_put (cs := #[.int .i64 ((rd_T115 l1 x12_1).f0), .int .i64 0]) ?_ 1 _ rfl; (with_reducible repeat (first | refine blk_drewN ?_ _ | refine blk_drew ?_ | refine blk_alloc ?_ _)); refine blk_put (cs := #[.int .i64 0, .int .i64 0]) ?_ 0 _ rfl; (with_reducible repeat (first | refine blk_drewN ?_ _ | refine blk_drew ?_ | refine blk_alloc ?_ _)); exact BK416.out⟩
        have n1_ : Aside0 (Below w.heap.size w ((w33.setCell ⟨gb416, 0, none⟩ (.int .i64 ((rd_T115 l1 x12_1).f0))).setCell ⟨gb416, 1, none⟩ (.int .i64 ((rd_T115 l1 x12_1).f1)))) := ⟨bG⟩
        (try clear BK416)
        (try clear HB)
        generalize ((w33.setCell ⟨gb416, 0, none⟩ (.int .i64 ((rd_T115 l1 x12_1).f0))).setCell ⟨gb416, 1, none⟩ (.int .i64 ((rd_T115 l1 x12_1).f1))) = w35 at n0_ n1_ ⊢
        have BK416 := n0_
        have HB := n1_
        clear n0_ n1_
        replace BK416 := Aside0.mk (blk_drew BK416.out)
        have HBo := HB
        replace HB := Aside0.mk (below_drew1 HB.out)
        refine start_ (n := 26) (S := fun w' => w'.cell? ⟨gb416, 0, none⟩ = some (.int .i64 ((rd_T115 l1 x12_1).f0)) ∧ w'.cell? ⟨gb416, 1, none⟩ = some (.int .i64 ((rd_T115 l1 x12_1).f1))) (ds := []) (mb 26 0) (by kernel_rfl) rfl rfl ⟨bC BK416 0, bC BK416 1⟩ (fun hHeld => ?_); refine with_tabW impl_AreWants.tab6 impl_AreWants.bits6 (fun HT_ HW_ => ?_)
        generalize w35.drew = w36 at BK416 HB hHeld ⊢
        refine pA (i := 0) (N := some 17) (mb 26 1) HT_ ?_
        refine pA (i := 1) (N := some 18) (mb 26 3) HT_ ?_
        refine tA2 (i := 2) (N := some 19) (mb 26 7) HT_ HW_ hHeld ?_
        refine oA (i := 3) (N := some 20) (mb 26 15) HT_ (fun K hK => ?_)
        refine gA Try.func119 #[.slice A0 l0.length c0, .int .i64 ((rd_T115 l1 x12_1).f0)] ?_
        with_reducible refine (impl_FindPath.calls _ _ l0 ((rd_T115 l1 x12_1).f0) t417 _ ?side1 ?side2 A9.out).mono ?_
        (case side1 => exact cB HR0)
        (case side2 => exact HC0.out)
        rintro e w37 ⟨rfl, hb⟩
        refine ⟨_, rfl, ?_⟩
        replace BK416 := Aside0.mk (blk_below (g := gb416) (bK BK416) hb)
        replace HB := Aside0.mk (below_step bG hb)
        (try clear hb)
        (try clear hb2)
        (try clear hk)
        (try clear hi)
        refine hK.out _ _ ⟨bC BK416 0, bC BK416 1⟩ (fun hHeld => ?_)
        clear hK K
        refine nB ?_
        refine pA (i := 4) (N := some 21) (mb 26 31) HT_ ?_
        refine pA (i := 5) (N := some 22) (mb 26 63) HT_ ?_
        refine pA (i := 6) (N := some 23) (mb 26 127) HT_ ?_
        refine tA2 (i := 7) (N := some 24) (mb 26 255) HT_ HW_ hHeld ?_
        refine oA (i := 8) (N := some 25) (mb 26 511) HT_ (fun K hK => ?_)
        refine gA Try.func66 #[.int .i64 ((rd_T115 l1 x12_1).f1), .int .i64 0, .int .i64 100000] ?_
        with_reducible refine (impl_InRange.calls ((rd_T115 l1 x12_1).f1) 0 100000 true _ A16.out).mono ?_
        rintro e w' ⟨rfl, ⟨nd, rfl⟩⟩
        refine ⟨_, rfl, ?_⟩
        refine hK.out _ _ ⟨bC BK416 0, bC BK416 1⟩ (fun hHeld => ?_)
        clear hK K
        refine nB ?_
        refine pA (i := 9) (N := some 26) (mb 26 1023) HT_ ?_
        refine pA (i := 10) (N := some 27) (mb 26 2047) HT_ ?_
        refine pA (i := 11) (N := some 28) (mb 26 4095) HT_ ?_
        refine pA (i := 12) (N := some 29) (mb 26 8191) HT_ ?_
        refine pA (i := 13) (N := some 30) (mb 26 16383) HT_ ?_
        refine pA (i := 14) (N := some 31) (mb 26 32767) HT_ ?_
        refine pU (i := 15) (N := some 32) (mb 26 65535) HT_ ?_
        refine pU (i := 16) (N := some 33) (mb 26 131071) HT_ ?_
        refine pU (i := 17) (N := some 34) (mb 26 262143) HT_ ?_
        refine pU (i := 18) (N := some 35) (mb 26 524287) HT_ ?_
        refine pU (i := 19) (N := some 36) (mb 26 1048575) HT_ ?_
        refine pU (i := 20) (N := some 37) (mb 26 2097151) HT_ ?_
        refine pU (i := 21) (N := some 38) (mb 26 4194303) HT_ ?_
        refine pU (i := 22) (N := some 39) (mb 26 8388607) HT_ ?_
        refine pU (i := 23) (N := some 40) (mb 26 16777215) HT_ ?_
        refine pA (i := 24) (N := some 41) (mb 26 33554431) HT_ ?_
        refine pA (i := 25) (N := some 42) (mb 26 67108863) HT_ ?_
        refine eA HT_ ?_
        try go_wp2
        go_roundg k1
        case measure => have := HK1.out; omega
        case rel => exact ⟨(wrap64 (x12_1 + 1)), rS, H', ⟨by have := HK1.out; omega⟩, ⟨bG⟩⟩
      ·
       replace c17 := Bool.eq_false_iff.mpr c17
       subst c17
       have H1 : (some false) = some r := by rw [if_neg (show ¬ (false = true) by decide)] at H; exact H
       clear H
       have H := H1
       clear H1
       obtain rfl := Option.some.inj H
       have p415 : 0 ≤ (x12_1 : Int) := dA
       have q415 : x12_1 < (l1.length : Int) := dA
       obtain ⟨ad415, e415, hx415_0, hx415_1⟩ := at_T115 HR1.out x12_1 p415 q415
       cases e415
       replace hx415_0 := hC HB hx415_0
       replace hx415_1 := hC HB hx415_1
       replace p415 := eq_true p415
       replace q415 := eq_true q415
       try go_wp2_with (first | ((with_reducible refine gate_dst (N := 6) rfl ?_); refine bE (N := 6) (cs := #[.int .i64 0, .int .i64 0]) (t := 115) ?_; intro gb416 hg w38 hbox hb; have n0_ := Aside0.mk (below_step bA hb); have n1_ := Aside0.mk (hbox); have n2_ := Aside0.mk ((by rw [hg]; exact (below_size bA) : w.heap.size ≤ gb416)); have n3_ := Aside0.mk ((by rw [hg]; exact (below_size bA) : w.heap.size ≤ gb416)); clear HB; have HB := n0_; have BK416 := n1_; have GW416 := n2_; have GE416 := n3_; clear n0_ n1_ n2_ n3_; clear hb hbox hg; obtain ⟨hcz39_0, hcz39_1, hfz39_0, hfz39_1⟩ := blkc2 BK416))
       have n0_ : Aside0 (((w38.setCell ⟨gb416, 0, none⟩ (.int .i64 ((rd_T115 l1 x12_1).f0))).setCell ⟨gb416, 1, none⟩ (.int .i64 ((rd_T115 l1 x12_1).f1))).heap[gb416]? = some (.cells #[.int .i64 ((rd_T115 l1 x12_1).f0), .int .i64 ((rd_T115 l1 x12_1).f1)] 115 (0, 0))) := ⟨by (with_reducible repeat (first | refine blk_drewN ?_ _ | refine blk_drew ?_ | refine blk_alloc ?_ _)); refine blk_put (cs := #[.int .i64 ((rd_T115 l1 x12_1).f0), .int .i64 0]) ?_ 1 _ rfl; (with_reducible repeat (first | refine blk_drewN ?_ _ | refine blk_drew ?_ | refine blk_alloc ?_ _)); refine blk_put (cs := #[.int .i64 0, .int .i64 0]) ?_ 0 _ rfl; (with_reducible repeat (first | refine blk_drewN ?_ _ | refine blk_drew ?_ | refine blk_alloc ?_ _)); exact BK416.out⟩
       have n1_ : Aside0 (Below w.heap.size w ((w38.setCell ⟨gb416, 0, none⟩ (.int .i64 ((rd_T115 l1 x12_1).f0))).setCell ⟨gb416, 1, none⟩ (.int .i64 ((rd_T115 l1 x12_1).f1)))) := ⟨bG⟩
       (try clear BK416)
       (try clear HB)
       generalize ((w38.setCell ⟨gb416, 0, none⟩ (.int .i64 ((rd_T115 l1 x12_1).f0))).setCell ⟨gb416, 1, none⟩ (.int .i64 ((rd_T115 l1 x12_1).f1))) = w40 at n0_ n1_ ⊢
       have BK416 := n0_
       have HB := n1_
       clear n0_ n1_
       replace BK416 := Aside0.mk (blk_drew BK416.out)
       have HBo := HB
       replace HB := Aside0.mk (below_drew1 HB.out)
       refine start_ (n := 26) (S := fun w' => w'.cell? ⟨gb416, 0, none⟩ = some (.int .i64 ((rd_T115 l1 x12_1).f0)) ∧ w'.cell? ⟨gb416, 1, none⟩ = some (.int .i64 ((rd_T115 l1 x12_1).f1))) (ds := []) (mb 26 0) (by kernel_rfl) rfl rfl ⟨bC BK416 0, bC BK416 1⟩ (fun hHeld => ?_); refine with_tabW impl_AreWants.tab6 impl_AreWants.bits6 (fun HT_ HW_ => ?_)
       generalize w40.drew = w41 at BK416 HB hHeld ⊢
       refine pA (i := 0) (N := some 17) (mb 26 1) HT_ ?_
       refine pA (i := 1) (N := some 18) (mb 26 3) HT_ ?_
       refine tA2 (i := 2) (N := some 19) (mb 26 7) HT_ HW_ hHeld ?_
       refine oA (i := 3) (N := some 20) (mb 26 15) HT_ (fun K hK => ?_)
       refine gA Try.func119 #[.slice A0 l0.length c0, .int .i64 ((rd_T115 l1 x12_1).f0)] ?_
       with_reducible refine (impl_FindPath.calls _ _ l0 ((rd_T115 l1 x12_1).f0) t417 _ ?side1 ?side2 A9.out).mono ?_
       (case side1 => exact cB HR0)
       (case side2 => exact HC0.out)
       rintro e w42 ⟨rfl, hb⟩
       refine ⟨_, rfl, ?_⟩
       replace BK416 := Aside0.mk (blk_below (g := gb416) (bK BK416) hb)
       replace HB := Aside0.mk (below_step bG hb)
       (try clear hb)
       (try clear hb2)
       (try clear hk)
       (try clear hi)
       refine hK.out _ _ ⟨bC BK416 0, bC BK416 1⟩ (fun hHeld => ?_)
       clear hK K
       refine nB ?_
       refine pA (i := 4) (N := some 21) (mb 26 31) HT_ ?_
       refine pA (i := 5) (N := some 22) (mb 26 63) HT_ ?_
       refine pA (i := 6) (N := some 23) (mb 26 127) HT_ ?_
       refine tA2 (i := 7) (N := some 24) (mb 26 255) HT_ HW_ hHeld ?_
       refine oA (i := 8) (N := some 25) (mb 26 511) HT_ (fun K hK => ?_)
       refine gA Try.func66 #[.int .i64 ((rd_T115 l1 x12_1).f1), .int .i64 0, .int .i64 100000] ?_
       with_reducible refine (impl_InRange.calls ((rd_T115 l1 x12_1).f1) 0 100000 false _ A16.out).mono ?_
       rintro e w' ⟨rfl, ⟨nd, rfl⟩⟩
       refine ⟨_, rfl, ?_⟩
       refine hK.out _ _ ⟨bC BK416 0, bC BK416 1⟩ (fun hHeld => ?_)
       clear hK K
       refine nB ?_
       refine pA (i := 9) (N := some 26) (mb 26 1023) HT_ ?_
       refine pA (i := 10) (N := some 27) (mb 26 2047) HT_ ?_
       refine pA (i := 11) (N := some 28) (mb 26 4095) HT_ ?_
       refine pU (i := 12) (N := some 29) (mb 26 8191) HT_ ?_
       refine pU (i := 13) (N := some 30) (mb 26 16383) HT_ ?_
       refine pU (i := 14) (N := some 31) (mb 26 32767) HT_ ?_
       refine pU (i := 15) (N := some 32) (mb 26 65535) HT_ ?_
       refine pU (i := 16) (N := some 33) (mb 26 131071) HT_ ?_
       refine pU (i := 17) (N := some 34) (mb 26 262143) HT_ ?_
       refine pU (i := 18) (N := some 35) (mb 26 524287) HT_ ?_
       refine pU (i := 19) (N := some 36) (mb 26 1048575) HT_ ?_
       refine pU (i := 20) (N := some 37) (mb 26 2097151) HT_ ?_
       refine pU (i := 21) (N := some 38) (mb 26 4194303) HT_ ?_
       refine pU (i := 22) (N := some 39) (mb 26 8388607) HT_ ?_
       refine pU (i := 23) (N := some 40) (mb 26 16777215) HT_ ?_
       refine pU (i := 24) (N := some 41) (mb 26 33554431) HT_ ?_
       refine pA (i := 25) (N := some 42) (mb 26 67108863) HT_ ?_
       refine eA HT_ ?_
       try go_wp2
       go_ret
       exact ⟨rA, bG⟩
    ·
     rw [if_neg c6] at H
     have c6b0 := decide_eq_false c6
     clear c6
     obtain rfl := Option.some.inj H
     go_wp2
     go_ret
     exact ⟨rA, bA⟩
 ·
  replace c4 := Bool.eq_false_iff.mpr c4
  subst c4
  have H1 : (some false) = some r := by rw [if_neg (show ¬ (false = true) by decide)] at H; exact H
  clear H
  have H := H1
  clear H1
  obtain rfl := Option.some.inj H
  go_enter Try.func98, Try.ntmps98
  go_wp2_with (first | ((with_reducible refine gate_callee (f := 126) rfl ?_); refine gL (some 8) Try.func126 #[.slice A0 l0.length c0] ?_; (with_reducible refine (impl_ArePaths.calls k _ _ l0 false _ ?side1 ?side2 A3.out).mono ?_); (case side1 => exact cO HR0); (case side2 => exact HC0.out); rintro e w43 ⟨rfl, hb⟩; refine ⟨_, rfl, ?_⟩; replace HB := Aside0.mk (below_step bA hb); (try clear hb)))
  go_ret
  exact ⟨rA, bA⟩

/-! ### slices_Clone_int_int: function 90 -/
def slices_Clone_int_int.f (l0 : List Int) : Option (List Int) := if l0.length < 17592186044416 then some l0 else none
theorem slices_Clone_int_int.eq0 {P : Program} (w : World) (d : Nat) (t e : TypeId) (a : Option Addr) (n c n' c' : Nat) (h : P.underlying t = some (.slice e)) : (Op.equalIn (d + 1) t (.slice a n c) (.slice none n' c')).run P w = .ok a.isNone w := by
 cases a <;> simp [Op.equalIn, run_underlying h]
theorem slices_Clone_int_int.eq1 {P : Program} (w : World) (t e : TypeId) (a : Option Addr) (n c n' c' : Nat) (h : P.underlying t = some (.slice e)) : (binOp .eql t (.slice a n c) (.slice none n' c')).run P w = .ok (.bool a.isNone) w := by
 simp only [binOp]
 simp [Op.equal, Op.maxDepth, slices_Clone_int_int.eq0 w 9999 t e a n c n' c' h]
set_option maxHeartbeats 4000000 in
set_option maxRecDepth 100000 in
theorem slices_Clone_int_int.calls (A0 : Option Addr) (c0 : Nat) (l0 : List Int) (r : List Int) (w : World) (hr0 : Kd.C (Kd.int .i64) w A0 l0.length l0) (hc0 : l0.length ≤ c0) (h : slices_Clone_int_int.f l0 = some r) :
  Calls Try.prog 90 #[.slice A0 l0.length c0] w fun e w' => ∃ v0_ : Value, e = .returned (v0_) ∧ Kd.R (Kd.int .i64) 3 w' w.heap.size (fun _ => True) v0_ r ∧ Below w.heap.size w w' := by
 unfold slices_Clone_int_int.f at h
 have hlim := ifN h
 replace h := ifT h
 obtain rfl := Option.some.inj h
 have HL := Aside0.mk hlim
 have HR0 := Aside0.mk hr0
 have HC0 := Aside0.mk hc0
 clear hr0 hc0 h hlim
 have q_ : ∀ (w : World) (a : Option Addr) (n c n' c' : Nat), (binOp .eql 41 (.slice a n c) (.slice none n' c')).run Try.prog w = .ok (.bool a.isNone) w := fun w a n c n' c' => slices_Clone_int_int.eq1 w _ _ a n c n' c' Try.underlying41
 cases A0 with
 | none =>
  have hl0 : l0 = [] := by
   rcases Nat.eq_zero_or_pos l0.length with h0 | h0
   ·
    exact List.eq_nil_of_length_eq_zero h0
   ·
    obtain ⟨ad, ha, _⟩ := HR0.out.2.2 h0
    cases ha
  subst hl0
  go_enter Try.func90, Try.ntmps90
  go_wp2
  go_ret
  exact ⟨_, rfl, Kd.R_nil _ _ _ _ _, Below.refl _ _⟩
 | some ad =>
  go_enter Try.func90, Try.ntmps90
  go_wp2_with (first
   | ((with_reducible refine gate_dst (N := 5) rfl ?_); refine Kd.R_lit (Kd.int .i64) _ 3 ?hg (N := 5) ?hd (xs := ([] : List Int)) (inner := []) (ok := fun _ => True) (okp := fun _ => True) ?hr ?hp (fun _ hk => hk) trivial (Below.refl w.heap.size w) (Nat.le_refl _) (by simp) ?_; (case hd => rfl); (case hg => rfl); (case hr => first | (go_simp; done) | (go_simp; rfl)); (case hp => exact (Reps.none _ _)); intro v304 w3 ho4 hb hg_ hnew_; have HO := Aside0.mk ho4; have HB := Aside0.mk hb; clear ho4 hb hg_ hnew_)
   | ((with_reducible refine gate_builtin (b := .append) (xs := #[.tmp 5, .tmp 6]) rfl ?_); at_builtin; refine Kd.R_append_rows (Kd.int .i64) (w0 := w) w.heap.size rfl (.tmp 5) (.tmp 6) 41 3 (.int .i64 0) 8 rfl Try.underlying41 info3 rfl (by decide) (by omega) v304 ([] : List Int) l0 _ _ _ (fun _ => True) (fun _ => False) rfl rfl ?aO ?aR (fun _ _ h => h) (fun _ h => h.elim) ?aF ?aB ?aS ?aL ?_; (case aR => exact Kd.C_below HR0.out HB.out); (case aB => exact HB.out); (case aF => exact (fun _ _ => trivial)); (case aO => exact HO.out); (case aS => exact HB.out.size); (case aL => have := HL.out; simp; omega); intro v1 w9 ho hb hg hat; rw [List.nil_append] at ho; have HO1 := Aside0.mk ho; have HB1 := Aside0.mk hb; clear ho hb hg hat))
  go_ret
  exact ⟨_, rfl, HO1.out, HB1.out⟩

/-! ### cmp_isNaN_int: function 171 -/
def cmp_isNaN_int.f (a0 : Int) : Option (Bool) := some (a0 != a0)
set_option maxHeartbeats 8000000 in
set_option maxRecDepth 100000 in
theorem cmp_isNaN_int.calls (a0 : Int) (r : Bool) (w : World) (h : cmp_isNaN_int.f a0 = some r) :
  Calls Try.prog 171 #[.int .i64 a0] w fun e w' => e = .returned (.bool r) ∧ Drawn0 w w' := by
 have H : (some (a0 != a0)) = some r := h
 clear h
 obtain rfl := Option.some.inj H
 go_enter Try.func171, Try.ntmps171
 go_wp2
 go_ret
 exact ⟨by first | rfl | (simp; done) | (simp [*]; done), by repeat (first | exact Drawn0.refl _ | apply Drawn0.step)⟩

/-! ### cmp_Less_int: function 163 -/
def cmp_Less_int.f (a0 : Int) (a1 : Int) : Option (Bool) := (cmp_isNaN_int.f a0).bind fun t420 => (if t420 = true then ((cmp_isNaN_int.f a1).bind fun t421 => (if t421 = true then (some (decide (a0 < a1))) else (some true))) else (some (decide (a0 < a1))))
set_option maxHeartbeats 8000000 in
set_option maxRecDepth 100000 in
theorem cmp_Less_int.calls (a0 : Int) (a1 : Int) (r : Bool) (w : World) (h : cmp_Less_int.f a0 a1 = some r) :
  Calls Try.prog 163 #[.int .i64 a0, .int .i64 a1] w fun e w' => e = .returned (.bool r) ∧ Drawn0 w w' := by
 have H : ((cmp_isNaN_int.f a0).bind fun t420 => (if t420 = true then ((cmp_isNaN_int.f a1).bind fun t421 => (if t421 = true then (some (decide (a0 < a1))) else (some true))) else (some (decide (a0 < a1))))) = some r := h
 clear h
 obtain ⟨t420, A3, H⟩ := bindE H
 try dsimp only at H
 by_cases c4 : t420 = true
 ·
  subst c4
  have H1 : ((cmp_isNaN_int.f a1).bind fun t421 => (if t421 = true then (some (decide (a0 < a1))) else (some true))) = some r := by rw [if_pos rfl] at H; exact H
  clear H
  have H := H1
  clear H1
  obtain ⟨t421, A5, H⟩ := bindE H
  try dsimp only at H
  by_cases c6 : t421 = true
  ·
   subst c6
   have H1 : (some (decide (a0 < a1))) = some r := by rw [if_pos rfl] at H; exact H
   clear H
   have H := H1
   clear H1
   obtain rfl := Option.some.inj H
   go_enter Try.func163, Try.ntmps163
   go_wp2_with (first | ((with_reducible refine gate_callee (f := 171) rfl ?_); refine gL (some 6) Try.func171 #[.int .i64 a0] ?_; (with_reducible refine (cmp_isNaN_int.calls a0 true _ A3.out).mono ?_); rintro e w' ⟨rfl, ⟨nd, rfl⟩⟩; refine ⟨_, rfl, ?_⟩) | (go_at_call 171; (with_reducible refine (cmp_isNaN_int.calls a1 true _ A5.out).mono ?_); rintro e w' ⟨rfl, ⟨nd, rfl⟩⟩))
   go_ret
   exact ⟨by first | rfl | (simp; done) | (simp [*]; done), by repeat (first | exact Drawn0.refl _ | apply Drawn0.step)⟩
  ·
   replace c6 := Bool.eq_false_iff.mpr c6
   subst c6
   have H1 : (some true) = some r := by rw [if_neg (show ¬ (false = true) by decide)] at H; exact H
   clear H
   have H := H1
   clear H1
   obtain rfl := Option.some.inj H
   go_enter Try.func163, Try.ntmps163
   go_wp2_with (first | ((with_reducible refine gate_callee (f := 171) rfl ?_); refine gL (some 6) Try.func171 #[.int .i64 a0] ?_; (with_reducible refine (cmp_isNaN_int.calls a0 true _ A3.out).mono ?_); rintro e w' ⟨rfl, ⟨nd, rfl⟩⟩; refine ⟨_, rfl, ?_⟩) | (go_at_call 171; (with_reducible refine (cmp_isNaN_int.calls a1 false _ A5.out).mono ?_); rintro e w' ⟨rfl, ⟨nd, rfl⟩⟩))
   go_ret
   exact ⟨by first | rfl | (simp; done) | (simp [*]; done), by repeat (first | exact Drawn0.refl _ | apply Drawn0.step)⟩
 ·
  replace c4 := Bool.eq_false_iff.mpr c4
  subst c4
  have H1 : (some (decide (a0 < a1))) = some r := by rw [if_neg (show ¬ (false = true) by decide)] at H; exact H
  clear H
  have H := H1
  clear H1
  obtain rfl := Option.some.inj H
  go_enter Try.func163, Try.ntmps163
  go_wp2_with (first | ((with_reducible refine gate_callee (f := 171) rfl ?_); refine gL (some 6) Try.func171 #[.int .i64 a0] ?_; (with_reducible refine (cmp_isNaN_int.calls a0 false _ A3.out).mono ?_); rintro e w' ⟨rfl, ⟨nd, rfl⟩⟩; refine ⟨_, rfl, ?_⟩))
  go_ret
  exact ⟨by first | rfl | (simp; done) | (simp [*]; done), by repeat (first | exact Drawn0.refl _ | apply Drawn0.step)⟩

/-! ### slices_isNaN_int: function 164 -/
def slices_isNaN_int.f (a0 : Int) : Option (Bool) := some (a0 != a0)
set_option maxHeartbeats 8000000 in
set_option maxRecDepth 100000 in
theorem slices_isNaN_int.calls (a0 : Int) (r : Bool) (w : World) (h : slices_isNaN_int.f a0 = some r) :
  Calls Try.prog 164 #[.int .i64 a0] w fun e w' => e = .returned (.bool r) ∧ Drawn0 w w' := by
 have H : (some (a0 != a0)) = some r := h
 clear h
 obtain rfl := Option.some.inj H
 go_enter Try.func164, Try.ntmps164
 go_wp2
 go_ret
 exact ⟨by first | rfl | (simp; done) | (simp [*]; done), by repeat (first | exact Drawn0.refl _ | apply Drawn0.step)⟩

/-! ### slices_BinarySearch_int_int: function 156 -/
def slices_BinarySearch_int_int.l0 : Nat → List Int → Int → Int → Int → Int → Option (Int × Bool)
 | 0, _, _, _, _, _ => none
 | k + 1, x0, x1, x6, x7, x8 => if x7 < x8 then (if 0 ≤ (wrap64 ((IntKind.u64.wrap (wrap64 (x7 + x8))) / 2)) then (if (wrap64 ((IntKind.u64.wrap (wrap64 (x7 + x8))) / 2)) < (x0.length : Int) then ((cmp_Less_int.f (rd x0 (wrap64 ((IntKind.u64.wrap (wrap64 (x7 + x8))) / 2))) x1).bind fun t423 => (if t423 = true then (slices_BinarySearch_int_int.l0 k x0 x1 x6 (wrap64 ((wrap64 ((IntKind.u64.wrap (wrap64 (x7 + x8))) / 2)) + 1)) x8) else (slices_BinarySearch_int_int.l0 k x0 x1 x6 x7 (wrap64 ((IntKind.u64.wrap (wrap64 (x7 + x8))) / 2))))) else (none)) else (none)) else (if x7 < x6 then (if 0 ≤ x7 then (if x7 < (x0.length : Int) then (if (rd x0 x7) = x1 then (some (x7, true)) else ((slices_isNaN_int.f (rd x0 x7)).bind fun t426 => (if t426 = true then ((slices_isNaN_int.f x1).bind fun t427 => (some (x7, t427))) else (some (x7, false))))) else (none)) else (none)) else (some (x7, false)))
def slices_BinarySearch_int_int.f (k : Nat) (l0 : List Int) (a1 : Int) : Option (Int × Bool) := slices_BinarySearch_int_int.l0 k l0 a1 (l0.length : Int) 0 (l0.length : Int)
theorem slices_BinarySearch_int_int.mono_l : ∀ k, (∀ y0 y1 y2 y3 y4, LeO (slices_BinarySearch_int_int.l0 k y0 y1 y2 y3 y4) (slices_BinarySearch_int_int.l0 (k + 1) y0 y1 y2 y3 y4))
 | 0 => fun _ _ _ _ _ r h => by simp [slices_BinarySearch_int_int.l0] at h
 | k + 1 => by
  have ih0 := slices_BinarySearch_int_int.mono_l k
  ·
   intro y0 y1 y2 y3 y4
   unfold slices_BinarySearch_int_int.l0
   repeat' first | (with_reducible first | exact LeO.refl _ | exact LeO.none _ | refine LeO.ite ?_ ?_ | refine LeO.bind ?_ (fun _ => ?_) | exact ih0 _ _ _ _ _)
theorem slices_BinarySearch_int_int.mono : ∀ a0 a1 k, LeO (slices_BinarySearch_int_int.f k a0 a1) (slices_BinarySearch_int_int.f (k + 1) a0 a1) := by
 intro a0 a1 k
 have ih0 := slices_BinarySearch_int_int.mono_l k
 unfold slices_BinarySearch_int_int.f
 repeat' first | (with_reducible first | exact LeO.refl _ | exact LeO.none _ | refine LeO.ite ?_ ?_ | refine LeO.bind ?_ (fun _ => ?_) | exact ih0 _ _ _ _ _)
set_option maxHeartbeats 8000000 in
set_option maxRecDepth 100000 in
theorem slices_BinarySearch_int_int.calls (k : Nat) (A0 : Option Addr) (c0 : Nat) (l0 : List Int) (a1 : Int) (r1 : Int) (r2 : Bool) (w : World) (hr0 : Kd.C (Kd.int .i64) w A0 l0.length l0) (hc0 : l0.length ≤ c0) (h : slices_BinarySearch_int_int.f k l0 a1 = some (r1, r2)) :
  Calls Try.prog 156 #[.slice A0 l0.length c0, .int .i64 a1] w fun e w' => e = .returned (.tuple #[.int .i64 r1, .bool r2]) ∧ Drawn0 w w' := by
 have HR0 := Aside0.mk hr0
 have HC0 := Aside0.mk hc0
 clear hr0 hc0
 have H : (slices_BinarySearch_int_int.l0 k l0 a1 (l0.length : Int) 0 (l0.length : Int)) = some (r1, r2) := h
 clear h
 have H' := Aside0.mk H
 clear H
 go_enter Try.func156, Try.ntmps156
 go_wp2
 go_loopg [7, 8] k (fun kq v7 v8 w' => ∃ (x7_1 : Int) (x8_1 : Int), v7 = .int .i64 x7_1 ∧ v8 = .int .i64 x8_1 ∧ Aside0 (slices_BinarySearch_int_int.l0 kq l0 a1 (l0.length : Int) x7_1 x8_1 = some (r1, r2)) ∧ Aside0 (kq ≤ k) ∧ Drawn0 w w')
 case atStart => exact ⟨(0), ((l0.length : Int)), rS, rS, H', ⟨Nat.le_refl _⟩, by repeat (first | exact Drawn0.refl _ | apply Drawn0.step)⟩
 case round =>
  clear H'
  try clear c1
  try clear p2
  obtain ⟨x7_1, x8_1, rfl, rfl, HA, HK1, ⟨m1, rfl⟩⟩ := hrel
  cases gk with
  | zero => exact absurd HA.out (by simp [slices_BinarySearch_int_int.l0])
  | succ k1 =>
   have H := HA.out
   clear HA
   simp only [slices_BinarySearch_int_int.l0] at H
   by_cases c3 : x7_1 < x8_1
   ·
    rw [if_pos c3] at H
    have c3b0 := decide_eq_true c3
    clear c3
    obtain ⟨ji4, hji4⟩ : ∃ j_ : Int, (wrap64 ((IntKind.u64.wrap (wrap64 (x7_1 + x8_1))) / 2)) = j_ := ⟨_, rfl⟩
    replace H : (if 0 ≤ (ji4) then (if (ji4) < (l0.length : Int) then ((cmp_Less_int.f (rd l0 (ji4)) a1).bind fun t423 => (if t423 = true then (slices_BinarySearch_int_int.l0 k1 l0 a1 (l0.length : Int) (wrap64 ((ji4) + 1)) x8_1) else (slices_BinarySearch_int_int.l0 k1 l0 a1 (l0.length : Int) x7_1 ji4))) else (none)) else (none)) = some (r1, r2) := by first | (rw [hji4] at H; exact H) | (simp only [hji4] at H ⊢; exact H)
    have hji4w : (IntKind.i64.wrap ((IntKind.u64.wrap (wrap64 (x7_1 + x8_1))) / 2)) = ji4 := (i64_w _).trans hji4
    have c5 : 0 ≤ (ji4) := ifN H
    replace H := ifT H
    have c5b0 := decide_eq_true c5
    clear c5
    have c6 : (ji4) < (l0.length : Int) := ifN H
    replace H := ifT H
    have c6b0 := decide_eq_true c6
    clear c6
    obtain ⟨t423, A7, H⟩ := bindE H
    try dsimp only at H
    by_cases c8 : t423 = true
    ·
     subst c8
     have H1 : (slices_BinarySearch_int_int.l0 k1 l0 a1 (l0.length : Int) (wrap64 ((ji4) + 1)) x8_1) = some (r1, r2) := by rw [if_pos rfl] at H; exact H
     clear H
     have H := H1
     clear H1
     have H' := Aside0.mk H
     clear H
     have p422 : 0 ≤ ((ji4) : Int) := dA
     have q422 : (ji4) < (l0.length : Int) := dA
     obtain ⟨ad422, e422, hx422_0⟩ := Kd.at_int HR0.out (ji4) p422 q422
     cases e422
     replace p422 := eq_true p422
     replace q422 := eq_true q422
     go_wp2_with (first | ((with_reducible refine gate_callee (f := 163) rfl ?_); refine goesL_ (some 27) rfl rfl Try.func163 (by kernel_rfl) rfl #[.int .i64 (rd l0 (ji4)), .int .i64 a1] rfl (by (try simp only [List.map_toArray, List.map_cons, List.map_nil]); first | done | (simp only [hji4]; rfl) | rfl | (simp only [List.length_drop, List.length_take]; rfl)) ?_; (with_reducible refine (cmp_Less_int.calls (rd l0 (ji4)) a1 true _ A7.out).mono ?_); rintro e w' ⟨rfl, ⟨nd, rfl⟩⟩; refine ⟨_, rfl, ?_⟩))
     go_roundg k1
     case measure => have := HK1.out; omega
     case rel => exact ⟨(wrap64 ((ji4) + 1)), (x8_1), (by first | rfl | (simp; done) | (simp only [← hji4] <;> (first | rfl | simp)) | (simp [*]; done)), rS, H', ⟨by have := HK1.out; omega⟩, by repeat (first | exact Drawn0.refl _ | apply Drawn0.step)⟩
    ·
     replace c8 := Bool.eq_false_iff.mpr c8
     subst c8
     have H1 : (slices_BinarySearch_int_int.l0 k1 l0 a1 (l0.length : Int) x7_1 ji4) = some (r1, r2) := by rw [if_neg (show ¬ (false = true) by decide)] at H; exact H
     clear H
     have H := H1
     clear H1
     have H' := Aside0.mk H
     clear H
     have p422 : 0 ≤ ((ji4) : Int) := dA
     have q422 : (ji4) < (l0.length : Int) := dA
     obtain ⟨ad422, e422, hx422_0⟩ := Kd.at_int HR0.out (ji4) p422 q422
     cases e422
     replace p422 := eq_true p422
     replace q422 := eq_true q422
     go_wp2_with (first | ((with_reducible refine gate_callee (f := 163) rfl ?_); refine goesL_ (some 27) rfl rfl Try.func163 (by kernel_rfl) rfl #[.int .i64 (rd l0 (ji4)), .int .i64 a1] rfl (by (try simp only [List.map_toArray, List.map_cons, List.map_nil]); first | done | (simp only [hji4]; rfl) | rfl | (simp only [List.length_drop, List.length_take]; rfl)) ?_; (with_reducible refine (cmp_Less_int.calls (rd l0 (ji4)) a1 false _ A7.out).mono ?_); rintro e w' ⟨rfl, ⟨nd, rfl⟩⟩; refine ⟨_, rfl, ?_⟩))
     go_roundg k1
     case measure => have := HK1.out; omega
     case rel => exact ⟨(x7_1), (ji4), rS, (by first | rfl | (simp; done) | (simp only [← hji4] <;> (first | rfl | simp)) | (simp [*]; done)), H', ⟨by have := HK1.out; omega⟩, by repeat (first | exact Drawn0.refl _ | apply Drawn0.step)⟩
   ·
    rw [if_neg c3] at H
    have c3b0 := decide_eq_false c3
    clear c3
    by_cases c9 : x7_1 < (l0.length : Int)
    ·
     rw [if_pos c9] at H
     have c9b0 := decide_eq_true c9
     clear c9
     have c10 : 0 ≤ x7_1 := ifN H
     replace H := ifT H
     have c10b0 := decide_eq_true c10
     clear c10
     have c11 : x7_1 < (l0.length : Int) := ifN H
     replace H := ifT H
     have c11b0 := decide_eq_true c11
     clear c11
     by_cases c12 : (rd l0 x7_1) = a1
     ·
      rw [if_pos c12] at H
      have c12b0 : ((rd l0 x7_1) == a1) = true := beq_iff_eq.mpr c12
      have c12b1 : ((rd l0 x7_1) != a1) = false := bne_eq_false_iff_eq.mpr c12
      clear c12
      simp only [Option.some.injEq, Prod.mk.injEq] at H
      obtain ⟨rfl, rfl⟩ := H
      have p424 : 0 ≤ (x7_1 : Int) := dA
      have q424 : x7_1 < (l0.length : Int) := dA
      obtain ⟨ad424, e424, hx424_0⟩ := Kd.at_int HR0.out x7_1 p424 q424
      cases e424
      replace p424 := eq_true p424
      replace q424 := eq_true q424
      go_wp2
      go_ret2
      exact ⟨by first | rfl | (simp; done) | (simp [*]; done), by repeat (first | exact Drawn0.refl _ | apply Drawn0.step)⟩
     ·
      rw [if_neg c12] at H
      have c12b0 : ((rd l0 x7_1) == a1) = false := beq_eq_false_iff_ne.mpr c12
      have c12b1 : ((rd l0 x7_1) != a1) = true := bne_iff_ne.mpr c12
      obtain ⟨t426, A13, H⟩ := bindE H
      try dsimp only at H
      by_cases c14 : t426 = true
      ·
       subst c14
       have H1 : ((slices_isNaN_int.f a1).bind fun t427 => (some (x7_1, t427))) = some (r1, r2) := by rw [if_pos rfl] at H; exact H
       clear H
       have H := H1
       clear H1
       obtain ⟨t427, A15, H⟩ := bindE H
       try dsimp only at H
       simp only [Option.some.injEq, Prod.mk.injEq] at H
       obtain ⟨rfl, rfl⟩ := H
       have p424 : 0 ≤ (x7_1 : Int) := dA
       have q424 : x7_1 < (l0.length : Int) := dA
       obtain ⟨ad424, e424, hx424_0⟩ := Kd.at_int HR0.out x7_1 p424 q424
       cases e424
       replace p424 := eq_true p424
       replace q424 := eq_true q424
       have p425 : 0 ≤ (x7_1 : Int) := dA
       have q425 : x7_1 < (l0.length : Int) := dA
       obtain ⟨ad425, e425, hx425_0⟩ := Kd.at_int HR0.out x7_1 p425 q425
       obtain rfl : ad424 = ad425 := (by injection e425)
       replace p425 := eq_true p425
       replace q425 := eq_true q425
       go_wp2_with (first | (go_at_call 164; (with_reducible refine (slices_isNaN_int.calls (rd l0 x7_1) true _ A13.out).mono ?_); rintro e w' ⟨rfl, ⟨nd, rfl⟩⟩) | (go_at_call 164; (with_reducible refine (slices_isNaN_int.calls a1 t427 _ A15.out).mono ?_); rintro e w' ⟨rfl, ⟨nd, rfl⟩⟩))
       go_ret2
       exact ⟨by first | rfl | (simp; done) | (simp [*]; done), by repeat (first | exact Drawn0.refl _ | apply Drawn0.step)⟩
      ·
       replace c14 := Bool.eq_false_iff.mpr c14
       subst c14
       have H1 : (some (x7_1, false)) = some (r1, r2) := by rw [if_neg (show ¬ (false = true) by decide)] at H; exact H
       clear H
       have H := H1
       clear H1
       simp only [Option.some.injEq, Prod.mk.injEq] at H
       obtain ⟨rfl, rfl⟩ := H
       have p424 : 0 ≤ (x7_1 : Int) := dA
       have q424 : x7_1 < (l0.length : Int) := dA
       obtain ⟨ad424, e424, hx424_0⟩ := Kd.at_int HR0.out x7_1 p424 q424
       cases e424
       replace p424 := eq_true p424
       replace q424 := eq_true q424
       have p425 : 0 ≤ (x7_1 : Int) := dA
       have q425 : x7_1 < (l0.length : Int) := dA
       obtain ⟨ad425, e425, hx425_0⟩ := Kd.at_int HR0.out x7_1 p425 q425
       obtain rfl : ad424 = ad425 := (by injection e425)
       replace p425 := eq_true p425
       replace q425 := eq_true q425
       go_wp2_with (first | (go_at_call 164; (with_reducible refine (slices_isNaN_int.calls (rd l0 x7_1) false _ A13.out).mono ?_); rintro e w' ⟨rfl, ⟨nd, rfl⟩⟩))
       go_ret2
       exact ⟨by first | rfl | (simp; done) | (simp [*]; done), by repeat (first | exact Drawn0.refl _ | apply Drawn0.step)⟩
    ·
     rw [if_neg c9] at H
     have c9b0 := decide_eq_false c9
     clear c9
     simp only [Option.some.injEq, Prod.mk.injEq] at H
     obtain ⟨rfl, rfl⟩ := H
     go_wp2
     go_ret2
     exact ⟨by first | rfl | (simp; done) | (simp [*]; done), by repeat (first | exact Drawn0.refl _ | apply Drawn0.step)⟩

/-! ### impl_inserted: function 136 -/
theorem impl_inserted.one {α : Type} {R : α → List Value → Prop} {size : Nat} {ps : List α} {cs : List Value} (h : Reps R size ps cs) (hs : 0 < size) (hR : ∀ p c, R p c → ∀ u ∈ c, u.oneCell' = true) : ∀ u ∈ cs, u.oneCell' = true := by
 intro u hu
 obtain ⟨q, hq, rfl⟩ := List.mem_iff_getElem.1 hu
 have hj : q / size < ps.length := by
  rw [Nat.div_lt_iff_lt_mul hs, ← h.1]
  exact hq
 refine hR _ _ (h.2 (q / size) _ (List.getElem?_eq_getElem hj)) _ (List.mem_iff_getElem?.2 ⟨q % size, ?_⟩)
 rw [List.getElem?_take, if_pos (Nat.mod_lt _ hs), List.getElem?_drop, Nat.mul_comm, Nat.div_add_mod, List.getElem?_eq_getElem hq]
theorem impl_inserted.cp {P : Program} (w : World) (t ty e : TypeId) (sz b o dLen dCap : Nat) (a : Addr) (sLen sCap q : Nat) (cs : List Value)
  (hu : P.underlying t = some (.slice e)) (hs : (P.info? e).map (·.size) = some sz) (hq : Nat.min sLen dLen = q) (hn : cs.length = q * sz)
  (hsrc : ∀ j v, cs[j]? = some v → w.cell? (a.add j) = some v) (hc : ∀ j, j < cs.length → (w.cell? ⟨b, o + j, none⟩).isSome = true) (hf : ∀ j, j < cs.length → w.frozen? ⟨b, o + j, none⟩ = false) (h1 : ∀ v ∈ cs, v.oneCell' = true) :
  (Builtin.copy_ #[t, t] ty #[.slice (some ⟨b, o, none⟩) dLen dCap, .slice (some a) sLen sCap]).run P w = .ok (goInt q) (w.setCells b o cs) := by
 have hst := run_storeCells_cells (P := P) b o cs 0 w (by simpa using hc) (by simpa using hf) h1
 simp only [Nat.add_zero] at hst
 cases hi : P.info? e with
 | none => simp [hi] at hs
 | some i =>
  have hz : i.size = sz := by simpa [hi] using hs
  subst hz
  have hfc := run_firstCells_some (P := P) w i.size q a sLen sCap cs hn hsrc
  simp [Builtin.copy_, run_underlying hu, Builtin.lenOf, sizeOf, typeInfo, hi, hq, hfc, hst]
theorem impl_inserted.az {P : Program} (w : World) (t ti ty e : TypeId) (i : TypeInfo) (z : Value) (size bytes : Nat) (ht : P.underlying t = some (.slice e)) {k : IntKind} (hti : P.underlying ti = some (.int k)) (hi : P.info? e = some i) (hz : i.zero = some z)
  (hsize : i.size = size) (hby : i.bytes = bytes) (hzs : z.cells.size = size) (hsz : 0 < size) (hb0 : 0 < bytes)
  (A : Addr) (n cap : Nat) (xs : List Value) (hxl : xs.length = n * size) (hxc : ∀ j u, xs[j]? = some u → w.cell? (A.add j) = some u) (kx : IntKind) (m : Nat) (hm : ¬ m = 0) (hcap : cap < n + m)
  (hbytes : (n + m) * bytes ≤ 140737488355328) :
  ∃ C cells, (Builtin.append_ #[t, ti] ty #[.slice (some A) n cap, .int kx m]).run P w = .ok (.slice (some ⟨w.heap.size, 0, none⟩) (n + m) C) (w.drew.alloc (.cells cells e)) ∧ n + m ≤ C ∧ C ≤ maxLen ∧ cells.size = C * size ∧ cells.toList.take (n * size) = xs := by
 subst hsize
 subst hby
 have hle : n + m ≤ 140737488355328 := Nat.le_trans (Nat.le_mul_of_pos_right _ hb0) hbytes
 have h63 : n + m ≤ maxLen := by simp only [maxLen]; omega
 have hw : IntKind.i64.wrap (m : Int) = m := by rw [IntKind.wrap_i64]; omega
 have hneg : ¬ ((m : Int) < 0) := by omega
 have hmb : m * i.bytes ≤ 140737488355328 := Nat.le_trans (Nat.mul_le_mul_right _ (Nat.le_add_left m n)) hbytes
 have hbig : ¬ (281474976710656 < (m : Int) * (i.bytes : Int)) := by
  rw [← Int.natCast_mul]
  omega
 have hsn : i.size ≠ 0 := by omega
 obtain ⟨news, hnews⟩ : ∃ news, news = (Builtin.zeroCells z.cells m).toList := ⟨_, rfl⟩
 have hl : news.length = m * i.size := by rw [hnews, Array.length_toList, size_zeroCells, hzs]
 have hna : Builtin.zeroCells z.cells m = news.toArray := by rw [hnews]
 have hge := grownCap_ge w (n + m) cap e
 have hcm : grownCap w (n + m) cap e ≤ maxLen := grownCap_le_maxLen w (n + m) cap e h63
 have hfo : (Builtin.firstCells i.size n (.slice (some A) n cap)).run P w.drew = .ok xs.toArray w.drew := run_firstCells_some (P := P) w.drew i.size n _ n cap xs hxl (by simpa using hxc)
 have runs : (Builtin.append_ #[t, ti] ty #[.slice (some A) n cap, .int kx m]).run P w =
   .ok (.slice (some ⟨w.heap.size, 0, none⟩) (n + m) (grownCap w (n + m) cap e)) (w.drew.alloc (.cells (xs.toArray ++ news.toArray ++ Builtin.zeroCells z.cells (grownCap w (n + m) cap e - (n + m))) e)) := by
  have hn : ¬ (n + m ≤ cap) := by omega
  have h63' : ¬ (9223372036854775807 < ((n : Int) + (m : Int))) := by omega
  have hfit := growslice_fits hcap hbytes
  have h48' : ¬ (281474976710656 < Builtin.nextslicecap (n + m) cap * i.bytes) := by omega
  have hmz : ¬ (m * i.size = 0) := Nat.mul_ne_zero hm hsn
  simp [Builtin.append_, run_underlying ht, run_underlying hti, sizeOf, typeInfo, zeroValue, hi, hz, asInt, asIntOf, hw, hneg, hbig, hn, h63', h48', Question.forced, hfo, newRow, grownCap, hmz, hna]
  congr 2
  apply Array.ext'
  simp [List.append_assoc]
 refine ⟨_, _, runs, hge, hcm, ?_, ?_⟩
 ·
  simp only [Array.size_append, List.size_toArray, size_zeroCells, hzs, hxl, hl, ← Nat.add_mul]
  congr 1
  omega
 ·
  simp only [Array.toList_append, List.append_assoc]
  rw [← hxl]
  exact List.take_left
theorem impl_inserted.two {e g : Nat} (w w1 : World) (cur : Array Value) (cs rest : List Value) (o : Nat) (h : w.heap[g]? = some (.cells cur e (0, 0))) (hw1 : w1.heap[g]? = (w.setCells g o cs).heap[g]?) (hl : o + cs.length + rest.length ≤ cur.size) :
  ∃ cur', (w1.setCells g (o + cs.length) rest).heap[g]? = some (.cells cur' e (0, 0)) ∧ cur'.size = cur.size ∧ cur'.toList.take (o + cs.length + rest.length) = cur.toList.take o ++ cs ++ rest := by
 obtain ⟨c1, h1, h2, h3⟩ := setCells_row cs o w cur h (by omega)
 obtain ⟨c2, h4, h5, h6⟩ := setCells_row rest (o + cs.length) w1 c1 (hw1.trans h1) (by omega)
 have hlen : (cur.toList.take o).length = o := by rw [List.length_take, Array.length_toList]; omega
 refine ⟨c2, h4, by omega, ?_⟩
 rw [h6, h3]
 have ha : (cur.toList.take o ++ cs ++ cur.toList.drop (o + cs.length)).take (o + cs.length) = cur.toList.take o ++ cs := List.take_left' (by rw [List.length_append, hlen])
 rw [ha]
 exact List.take_left' (by rw [List.length_append, List.length_append, hlen])
theorem impl_inserted.two' {e g : Nat} (w : World) (cur : Array Value) (cs rest : List Value) (o : Nat) (h : w.heap[g]? = some (.cells cur e (0, 0))) (hl : o + cs.length + rest.length ≤ cur.size) :
  ∃ cur', ((w.setCells g (o + cs.length) rest).setCells g o cs).heap[g]? = some (.cells cur' e (0, 0)) ∧ cur'.size = cur.size ∧ cur'.toList.take (o + cs.length + rest.length) = cur.toList.take o ++ cs ++ rest := by
 obtain ⟨c1, h1, h2, h3⟩ := setCells_row rest (o + cs.length) w cur h (by omega)
 obtain ⟨c2, h4, h5, h6⟩ := setCells_row cs o (w.setCells g (o + cs.length) rest) c1 h1 (by omega)
 have hlen : (cur.toList.take o).length = o := by rw [List.length_take, Array.length_toList]; omega
 have hlen2 : (cur.toList.take (o + cs.length)).length = o + cs.length := by rw [List.length_take, show cur.toList.length = cur.size from Array.length_toList]; omega
 refine ⟨c2, h4, by omega, ?_⟩
 rw [h6, h3]
 have ha : (cur.toList.take (o + cs.length) ++ rest ++ cur.toList.drop (o + cs.length + rest.length)).take o = cur.toList.take o := by
  rw [List.append_assoc, List.take_append_of_le_length (by omega), List.take_take, Nat.min_eq_left (by omega)]
 have hb : (cur.toList.take (o + cs.length) ++ rest ++ cur.toList.drop (o + cs.length + rest.length)).drop (o + cs.length) = rest ++ cur.toList.drop (o + cs.length + rest.length) := by
  rw [List.append_assoc]
  exact List.drop_left' hlen2
 rw [ha, hb, ← List.append_assoc]
 exact List.take_left' (by rw [List.length_append, List.length_append, hlen])
theorem impl_inserted.mk {α : Type} (d : Kd α) (e : Nat) (w' : World) (base g C k : Nat) (cur : Array Value) (xs : List α) (x : α) (inner cs : List Value)
  (hr : Reps (d.M w' base (fun k => True ∧ some k ≠ some g)) d.sz xs inner) (hx : d.M w' base (fun k => True ∧ some k ≠ some g) x cs) (hk : k ≤ xs.length) (hb : base ≤ g) (hg : w'.heap[g]? = some (.cells cur e (0, 0)))
  (hC : xs.length + 1 ≤ C) (hCm : C ≤ maxLen) (hcs : cur.size = C * d.sz) (ht : cur.toList.take ((xs.length + 1) * d.sz) = inner.take (k * d.sz) ++ cs ++ inner.drop (k * d.sz)) :
  d.R e w' base (fun _ => True) (.slice (some ⟨g, 0, none⟩) (xs.length + 1) C) (xs.take k ++ [x] ++ xs.drop k) := by
 have hl : (xs.take k ++ [x] ++ xs.drop k).length = xs.length + 1 := by simp; omega
 have hcl : cs.length = d.sz := d.K_len (d.K_of_M hx)
 have h1 : Reps (d.M w' base (fun k => True ∧ some k ≠ some g)) d.sz (xs.take k ++ [x] ++ xs.drop k) (inner.take (k * d.sz) ++ cs ++ inner.drop (k * d.sz)) :=
  Kd.reps_append (Reps.snoc (Kd.reps_take hr hk) hx hcl) (Kd.reps_drop hr)
 exact ⟨fun _ _ => trivial, _, ⟨h1.1, .inr ⟨g, C, cur, by rw [hl], hb, hg, by rw [hl]; exact hC, hCm, hcs, by rw [hl]; exact ht⟩⟩, h1⟩
theorem impl_inserted.wcopy {P : Program} (w : World) {ops : Array Oper} {rest : List Oper} {o : Oper} {a : Act} {Q : Exit → Act → World → Prop} (hgd : o.guard = none) (d s : Operand) (t t' : TypeId)
  (ho : o.op = .call { callee := .builtin .copy, args := #[d, s], argTypes := #[t, t'] }) (v u : Value) (hd : a.eval d = v) (hs : a.eval s = u) {v' : Value} {w' : World}
  (hr : (Builtin.copy_ #[t, t'] o.type #[v, u]).run P w = .ok v' w') (h : wpList P ops Q rest (a.put o.dst v') w') : wpList P ops Q (o :: rest) a w :=
 wpList_plain hgd fun K hK => by
  unfold Oper.wp execOp
  simp only [ho, resolve, invoke, builtin, Sem.run_bind, Sem.run_pure, Result.andThen_ok, List.map_toArray, List.map_cons, List.map_nil, hd, hs, hr]
  exact hK _ _ h
theorem impl_inserted.wapp {P : Program} (w : World) {ops : Array Oper} {rest : List Oper} {o : Oper} {a : Act} {Q : Exit → Act → World → Prop} (hgd : o.guard = none) (d s : Operand) (t t' : TypeId)
  (ho : o.op = .call { callee := .builtin .append, args := #[d, s], argTypes := #[t, t'] }) (v u : Value) (hd : a.eval d = v) (hs : a.eval s = u) {v' : Value} {w' : World}
  (hr : (Builtin.append_ #[t, t'] o.type #[v, u]).run P w = .ok v' w') (h : wpList P ops Q rest (a.put o.dst v') w') : wpList P ops Q (o :: rest) a w :=
 wpList_plain hgd fun K hK => by
  unfold Oper.wp execOp
  simp only [ho, resolve, invoke, builtin, Sem.run_bind, Sem.run_pure, Result.andThen_ok, List.map_toArray, List.map_cons, List.map_nil, hd, hs, hr]
  exact hK _ _ h
theorem impl_inserted.scopy {P : Program} {ops : Array Oper} {o : Oper} {a : Act} {w : World} {K : Act → World → Prop} {Q : Exit → Act → World → Prop} {E : Prop}
  (hg : o.guard = none) (d x : Operand) (dT sT : TypeId) (hop : o.op = Op.call { callee := Callee.builtin Builtin.copy, args := #[d, x], argTypes := #[dT, sT] })
  (v u : Value) (hd : a.eval d = v) (hx : a.eval x = u) {v' : Value} {w' : World} (hr : (Builtin.copy_ #[dT, sT] o.type #[v, u]).run P w = .ok v' w') (hK : K (a.put o.dst v') w') :
  if Region.wanted o (yielded ops a.tmps) = true then Oper.wp P o a w K Q else E := by
 have hw : Region.wanted o (yielded ops a.tmps) = true := by simp [Region.wanted, hg]
 rw [if_pos hw]
 unfold Oper.wp
 simp [execOp, hop, resolve, invoke, builtin, hd, hx, hr, Result.andThen]
 exact hK
theorem impl_inserted.flat {w w' : World} {base base' : Nat} {ok ok' : Nat → Prop} {p : Int} {cs : List Value} (h : ((Kd.int .i64)).M w base ok p cs) : ((Kd.int .i64)).M w' base' ok' p cs := h
theorem impl_inserted.end_fact (base c gv cv : Nat) (l0 : List Int) (x : Int) (ok okv : Nat → Prop) (w0 w : World) (hlim : l0.length < 8796093022208) (A : Option Addr)
  (HO : Kd.R (Kd.int .i64) 3 w base ok (.slice A l0.length c) l0) (HV : Kd.R (Kd.int .i64) 3 w base okv (.slice (some ⟨gv, 0, none⟩) 1 cv) [x]) (hb : Below base w0 w) (hbase : base ≤ w.heap.size) :
  ∃ v1 w1, (Builtin.append_ #[41, 41] 41 #[.slice A l0.length c, .slice (some ⟨gv, 0, none⟩) 1 cv]).run Try.prog w = .ok v1 w1 ∧ Kd.R (Kd.int .i64) 3 w1 base (fun _ => True) v1 (l0 ++ [x]) ∧ Below base w0 w1 := by
 obtain ⟨_, inner, hown, hr⟩ := HO
 obtain ⟨_, innv, hownv, hrv⟩ := HV
 obtain ⟨i0, hi0, hz0, hz1, hz2⟩ : ∃ i, Try.prog.info? 3 = some i ∧ i.zero = some (.int .i64 0) ∧ i.size = 1 ∧ i.bytes = 8 := by
  have h := info3
  cases hq : Try.prog.info? 3 with
  | none => rw [hq] at h; simp at h
  | some i => rw [hq] at h; simp at h; exact ⟨i, rfl, h.1, h.2.1, h.2.2⟩
 obtain ⟨v1, w1, hrun, h2, hg, _, hat⟩ := run_append_own_at (P := Try.prog) w base 41 41 3 i0 (.int .i64 0) 1 8 Try.underlying41 hi0 hz0 hz1 hz2 rfl (by decide) (.slice A l0.length c) l0.length inner hown ⟨gv, 0, none⟩ 1 cv innv (by rw [hrv.1]; rfl) (hownv.cells (g := gv) rfl) (impl_inserted.one hrv (by decide) (fun _ _ hp => ((Kd.int .i64)).K_one (((Kd.int .i64)).K_of_M hp))) (by simp only [maxLen]; omega) (by omega) hbase
 refine ⟨v1, w1, hrun, ⟨fun _ _ => trivial, inner ++ innv, by rw [List.length_append]; exact h2, Kd.reps_append (hr.imp_ (fun _ _ hp => impl_inserted.flat hp)) (hrv.imp_ (fun _ _ hp => impl_inserted.flat hp))⟩, hb.grown hg hbase (own_base hown)⟩
set_option maxHeartbeats 4000000 in
set_option maxRecDepth 100000 in
theorem impl_inserted.at_end (base c gv cv : Nat) (l0 : List Int) (x : Int) (ok okv : Nat → Prop) (w0 w : World) (hlim : l0.length < 8796093022208) (A : Option Addr)
  (HO : Kd.R (Kd.int .i64) 3 w base ok (.slice A l0.length c) l0) (HV : Kd.R (Kd.int .i64) 3 w base okv (.slice (some ⟨gv, 0, none⟩) 1 cv) [x]) (hb : Below base w0 w) (hbase : base ≤ w.heap.size) :
  Calls Try.prog 157 #[.slice A l0.length c, .int .i64 (l0.length : Int), .slice (some ⟨gv, 0, none⟩) 1 cv] w fun e w' => ∃ v0_ : Value, e = .returned v0_ ∧ Kd.R (Kd.int .i64) 3 w' base (fun _ => True) v0_ (l0 ++ [x]) ∧ Below base w0 w' := by
 obtain ⟨v1, w1, hap, ho1, hb1⟩ := impl_inserted.end_fact base c gv cv l0 x ok okv w0 w hlim A HO HV hb hbase
 have HO1 := Aside0.mk ho1
 have HB1 := Aside0.mk hb1
 have HO0 := Aside0.mk HO
 have HV0 := Aside0.mk HV
 have HL := Aside0.mk hlim
 have HB := Aside0.mk hb
 have HS := Aside0.mk hbase
 clear HO HV hlim hb hbase ho1 hb1
 go_enter Try.func157, Try.ntmps157
 go_wp2_with (at_builtin; refine impl_inserted.wapp _ rfl _ _ _ _ rfl _ _ rfl rfl hap ?_)
 all_goals
  go_ret
  exact ⟨_, rfl, HO1.out, HB1.out⟩
set_option maxHeartbeats 4000000 in
set_option maxRecDepth 100000 in
theorem impl_inserted.grow_facts (base g gv cv k : Nat) (l0 : List Int) (x : Int) (ok okv : Nat → Prop) (w0 w : World) (hlim : l0.length < 4398046511104) (hk : k < l0.length) (hne : gv ≠ g)
  (HO : Kd.R (Kd.int .i64) 3 w base ok (.slice (some ⟨g, 0, none⟩) l0.length l0.length) l0) (HV : Kd.R (Kd.int .i64) 3 w base okv (.slice (some ⟨gv, 0, none⟩) 1 cv) [x]) (hb : Below base w0 w) (hbase : base ≤ w.heap.size) :
  ∃ (C : Nat) (W1 W2 W3 : World), l0.length + 1 ≤ C ∧
   (Builtin.append_ #[41, 3] 41 #[.slice (some ⟨g, 0, none⟩) k l0.length, .int .i64 ((l0.length : Int) + 1 - (k : Int))]).run Try.prog w = .ok (.slice (some ⟨w.heap.size, 0, none⟩) (l0.length + 1) C) W1 ∧
   (∀ ty dc, (Builtin.copy_ #[41, 41] ty #[.slice (some ⟨w.heap.size, k * 1, none⟩) (l0.length + 1 - k) dc, .slice (some ⟨gv, 0, none⟩) 1 cv]).run Try.prog W1 = .ok (goInt ((1 : Nat) : Int)) W2) ∧
   (∀ ty dc sc, (Builtin.copy_ #[41, 41] ty #[.slice (some ⟨w.heap.size, (k + 1) * 1, none⟩) (l0.length - k) dc, .slice (some ⟨g, k * 1, none⟩) (l0.length - k) sc]).run Try.prog W2.drew = .ok (goInt ((l0.length - k : Nat) : Int)) W3) ∧
   Kd.R (Kd.int .i64) 3 W3 base (fun _ => True) (.slice (some ⟨w.heap.size, 0, none⟩) (l0.length + 1) C) (l0.take k ++ [x] ++ l0.drop k) ∧ Below base w0 W3 := by
 obtain ⟨_, inner, hown, hr⟩ := HO
 obtain ⟨_, innv, hownv, hrv⟩ := HV
 rcases hown.2 with ⟨hv, _⟩ | ⟨g', c', cur, hv, hbg, hh, _, hcm, hcs, htake⟩
 ·
  cases hv
 injection hv with ha _ hcc
 injection ha with ha
 injection ha with hgg
 subst hgg; subst hcc
 rcases hownv.2 with ⟨hv, _⟩ | ⟨g', c', curv, hv, hbgv, hhv, hv1, hcmv, hcsv, htakev⟩
 ·
  cases hv
 injection hv with ha _ hcc
 injection ha with ha
 injection ha with hgg
 subst hgg; subst hcc
 have hil : inner.length = l0.length * 1 := hr.1
 have hivl : innv.length = 1 := by rw [hrv.1]; rfl
 have hx0 := hrv.2 0 x rfl
 have hx1 : (innv.drop (0 * ((Kd.int .i64)).sz)).take ((Kd.int .i64)).sz = innv := by rw [Nat.zero_mul, List.drop_zero]; exact List.take_of_length_le (Nat.le_of_eq hivl)
 rw [hx1] at hx0
 have hsz : (Try.prog.info? 3).map (·.size) = some 1 := by
  have h := info3
  cases hq : Try.prog.info? 3 with
  | none => rw [hq] at h; simp at h
  | some i => rw [hq] at h; simp at h; simp [h]
 have h1i : ∀ u ∈ inner, u.oneCell' = true := impl_inserted.one hr (by decide) (fun _ _ hp => ((Kd.int .i64)).K_one (((Kd.int .i64)).K_of_M hp))
 have h1v : ∀ u ∈ innv, u.oneCell' = true := ((Kd.int .i64)).K_one (((Kd.int .i64)).K_of_M hx0)
 have hsc : cur.size = l0.length * 1 := hcs
 have hscv : curv.size = cv * 1 := hcsv
 have hcur : ∀ q, q < l0.length * 1 → cur.toList[q]? = inner[q]? := by
  intro q hq
  rw [← (show cur.toList.take (l0.length * 1) = inner from htake), List.getElem?_take, if_pos hq]
 have hcv : ∀ (W : World), W.heap[gv]? = some (.cells curv 3 (0, 0)) → ∀ j v, innv[j]? = some v → W.cell? ((⟨gv, 0, none⟩ : Addr).add j) = some v := by
  intro W hW j v hj
  have hlt : j < innv.length := (List.getElem?_eq_some_iff.1 hj).1
  rw [add_plain, cell_of_row W gv _ curv 3 (0, 0) hW, ← Array.getElem?_toList]
  rw [← (show curv.toList.take ([x].length * 1) = innv from htakev), List.getElem?_take] at hj
  rw [if_pos (by simp; omega)] at hj
  exact hj
 have hdl : (inner.drop (k * 1)).length = (l0.length - k) * 1 := by rw [List.length_drop, hil]; omega
 have htl : (inner.take (k * 1)).length = k * 1 := by rw [List.length_take, hil]; omega
 have hgl : g < w.heap.size := blk_lt hh
 have hgvl : gv < w.heap.size := blk_lt hhv
 obtain ⟨i0, hi0, hz0, hz1, hz2⟩ : ∃ i, Try.prog.info? 3 = some i ∧ i.zero = some (.int .i64 0) ∧ i.size = 1 ∧ i.bytes = 8 := by
  have h := info3
  cases hq : Try.prog.info? 3 with
  | none => rw [hq] at h; simp at h
  | some i => rw [hq] at h; simp at h; exact ⟨i, rfl, h.1, h.2.1, h.2.2⟩
 obtain ⟨C, cells, hap, hC, hCm, hCs, hCt⟩ := impl_inserted.az (P := Try.prog) w 41 3 41 3 i0 (.int .i64 0) 1 8 Try.underlying41 Try.underlying3 hi0 hz0 hz1 hz2 rfl (by decide) (by decide) ⟨g, 0, none⟩ k l0.length (inner.take (k * 1)) htl
  (fun j u hu => by
   have hlt : j < (inner.take (k * 1)).length := (List.getElem?_eq_some_iff.1 hu).1
   rw [add_plain, cell_of_row w g _ cur 3 (0, 0) hh, ← Array.getElem?_toList, hcur _ (by omega)]
   rw [List.getElem?_take, if_pos (by omega)] at hu
   exact hu) .i64 (l0.length + 1 - k) (by omega) (by omega) (by omega)
 have hkn : k + (l0.length + 1 - k) = l0.length + 1 := by omega
 have hcast : ((l0.length + 1 - k : Nat) : Int) = (l0.length : Int) + 1 - (k : Int) := by omega
 rw [hkn, hcast] at hap
 rw [hkn] at hC
 obtain ⟨W1, hW1⟩ : ∃ W1, W1 = w.drew.alloc (.cells cells 3) := ⟨_, rfl⟩
 have hG : W1.heap[w.heap.size]? = some (.cells cells 3 (0, 0)) := by rw [hW1]; exact heap_alloc_new w.drew _
 have hold : ∀ q, q < w.heap.size → W1.heap[q]? = w.heap[q]? := fun q hq => by rw [hW1]; exact heap_alloc_old w.drew _ hq
 have hgr1 : w.grownBy W1 none := by rw [hW1]; exact ⟨rfl, rfl, rfl, by simp, fun q hq _ => heap_alloc_old w.drew _ hq⟩
 rw [← hW1] at hap
 have hcp2 : ∀ ty dc, (Builtin.copy_ #[41, 41] ty #[.slice (some ⟨w.heap.size, k * 1, none⟩) (l0.length + 1 - k) dc, .slice (some ⟨gv, 0, none⟩) 1 cv]).run Try.prog W1 = .ok (goInt ((1 : Nat) : Int)) (W1.setCells w.heap.size (k * 1) innv) := fun ty dc =>
  impl_inserted.cp W1 41 ty 3 1 w.heap.size (k * 1) (l0.length + 1 - k) dc ⟨gv, 0, none⟩ 1 cv 1 innv Try.underlying41 hsz (by simp only [Nat.min_def]; split <;> omega) (by rw [hivl])
   (hcv W1 ((hold gv hgvl).trans hhv))
   (fun j hj => by rw [cell_of_row W1 w.heap.size _ cells 3 (0, 0) hG]; simp; omega) (fun j _ => blk_frozen (w := W1) hG _) h1v
 obtain ⟨W2, hW2⟩ : ∃ W2, W2 = W1.setCells w.heap.size (k * 1) innv := ⟨_, rfl⟩
 obtain ⟨c1, hd1, hd2, hd3⟩ := setCells_row innv (k * 1) W1 cells hG (by omega)
 rw [← hW2] at hcp2 hd1
 have hg2 : W2.drew.heap[g]? = some (.cells cur 3 (0, 0)) := by
  show W2.heap[g]? = _
  rw [hW2, setCells_far _ _ g (by omega), hold g hgl, hh]
 have hcp1 : ∀ ty dc sc, (Builtin.copy_ #[41, 41] ty #[.slice (some ⟨w.heap.size, (k + 1) * 1, none⟩) (l0.length - k) dc, .slice (some ⟨g, k * 1, none⟩) (l0.length - k) sc]).run Try.prog W2.drew = .ok (goInt ((l0.length - k : Nat) : Int)) (W2.drew.setCells w.heap.size ((k + 1) * 1) (inner.drop (k * 1))) := fun ty dc sc =>
  impl_inserted.cp W2.drew 41 ty 3 1 w.heap.size ((k + 1) * 1) (l0.length - k) dc ⟨g, k * 1, none⟩ (l0.length - k) sc (l0.length - k) (inner.drop (k * 1)) Try.underlying41 hsz (by simp only [Nat.min_def]; split <;> omega) hdl
   (fun j v hj => by
    have hlt : j < (inner.drop (k * 1)).length := (List.getElem?_eq_some_iff.1 hj).1
    rw [add_at, cell_of_row W2.drew g _ cur 3 (0, 0) hg2, ← Array.getElem?_toList, hcur _ (by omega)]
    rwa [List.getElem?_drop] at hj)
   (fun j hj => by rw [cell_of_row W2.drew w.heap.size _ c1 3 (0, 0) hd1]; simp; omega) (fun j _ => blk_frozen (w := W2.drew) hd1 _) (fun v hv => h1i v (List.mem_of_mem_drop hv))
 have hin2 : k * 1 + innv.length = (k + 1) * 1 := by omega
 obtain ⟨c2, he1, he2, he3⟩ := impl_inserted.two (e := 3) (g := w.heap.size) W1 W2.drew cells innv (inner.drop (k * 1)) (k * 1) hG (by rw [hW2]; rfl) (by omega)
 rw [hin2] at he1
 obtain ⟨W3, hW3⟩ : ∃ W3, W3 = W2.drew.setCells w.heap.size ((k + 1) * 1) (inner.drop (k * 1)) := ⟨_, rfl⟩
 rw [← hW3] at hcp1 he1
 have hB3 : Below base w0 W3 := by
  refine Below.grown hb ?_ hbase (row := none) (fun q hq => by cases hq)
  obtain ⟨s1, s2, s3, s4⟩ := setCells_same w.heap.size (inner.drop (k * 1)) ((k + 1) * 1) W2.drew
  obtain ⟨t1, t2, t3, t4⟩ := setCells_same w.heap.size innv (k * 1) W1
  rw [hW3]
  refine ⟨s1.trans ?_, s2.trans ?_, s3.trans ?_, ?_, fun q hql _ => ?_⟩
  ·
   show W2.os = _; rw [hW2]; exact t1.trans hgr1.os
  ·
   show W2.tape = _; rw [hW2]; exact t2.trans hgr1.tape
  ·
   show W2.output = _; rw [hW2]; exact t3.trans hgr1.output
  ·
   rw [s4]; show _ ≤ W2.heap.size; rw [hW2, t4]; exact hgr1.size
  ·
   rw [setCells_far _ _ q (by omega)]; show W2.heap[q]? = _; rw [hW2, setCells_far _ _ q (by omega)]; exact hold q hql
 have hR3 : Kd.R (Kd.int .i64) 3 W3 base (fun _ => True) (.slice (some ⟨w.heap.size, 0, none⟩) (l0.length + 1) C) (l0.take k ++ [x] ++ l0.drop k) :=
  impl_inserted.mk (Kd.int .i64) 3 W3 base w.heap.size C k c2 l0 x inner innv (hr.imp_ (fun _ _ hp => impl_inserted.flat hp)) (impl_inserted.flat hx0) (by omega) hbase he1 hC hCm (by rw [he2]; exact hCs) (by
   have h6 : k * 1 + innv.length + (inner.drop (k * 1)).length = (l0.length + 1) * 1 := by omega
   rw [h6, hCt] at he3
   exact he3)
 exact ⟨C, W1, W2, W3, hC, hap, hcp2, hcp1, hR3, hB3⟩
set_option maxHeartbeats 4000000 in
set_option maxRecDepth 100000 in
theorem impl_inserted.at_grow (base g gv cv k : Nat) (l0 : List Int) (x : Int) (ok okv : Nat → Prop) (w0 w : World) (hlim : l0.length < 4398046511104) (hk : k < l0.length) (hne : gv ≠ g)
  (HO : Kd.R (Kd.int .i64) 3 w base ok (.slice (some ⟨g, 0, none⟩) l0.length l0.length) l0) (HV : Kd.R (Kd.int .i64) 3 w base okv (.slice (some ⟨gv, 0, none⟩) 1 cv) [x]) (hb : Below base w0 w) (hbase : base ≤ w.heap.size) :
  Calls Try.prog 157 #[.slice (some ⟨g, 0, none⟩) l0.length l0.length, .int .i64 (k : Int), .slice (some ⟨gv, 0, none⟩) 1 cv] w fun e w' => ∃ v0_ : Value, e = .returned v0_ ∧ Kd.R (Kd.int .i64) 3 w' base (fun _ => True) v0_ (l0.take k ++ [x] ++ l0.drop k) ∧ Below base w0 w' := by
 obtain ⟨C, W1, W2, W3, hC, hap, hcp2, hcp1, hR3, hB3⟩ := impl_inserted.grow_facts base g gv cv k l0 x ok okv w0 w hlim hk hne HO HV hb hbase
 have HR3 := Aside0.mk hR3
 have HB3 := Aside0.mk hB3
 simp only [Nat.mul_one] at hcp1 hcp2
 have hlen : l0.length ≤ 9223372036854775807 := by omega
 have n1 : (l0.length = k) = False := eq_false (by omega)
 have n1b : (C = k) = False := eq_false (by omega)
 have n1c : (C = k + 1) = False := eq_false (by omega)
 have n2 : (k = l0.length) = False := eq_false (by omega)
 have n3 : ((k : Int) == (l0.length : Int)) = false := by simp; omega
 have n4 : IntKind.i64.wrap ((l0.length : Int) + 1) = (l0.length : Int) + 1 := by rw [IntKind.wrap_i64]; omega
 have n5 : IntKind.i64.wrap ((l0.length : Int) + 1 - (k : Int)) = (l0.length : Int) + 1 - (k : Int) := by rw [IntKind.wrap_i64]; omega
 have n6 : IntKind.i64.wrap ((k : Int) + 1) = (k : Int) + 1 := by rw [IntKind.wrap_i64]; omega
 have n7 : k ≤ l0.length := by omega
 have n8 : decide ((l0.length : Int) < (l0.length : Int) + 1) = true := decide_eq_true (by omega)
 have n9 : (0 : Int) ≤ (l0.length : Int) + 1 := by omega
 have n12 : ((k : Int) + 1).toNat = k + 1 := by omega
 have n13 : (0 : Int) ≤ (k : Int) + 1 := by omega
 have n14 : (k : Int) ≤ (l0.length : Int) + 1 := by omega
 have n15 : k ≤ l0.length + 1 := by omega
 have mixed : Try.prog.follows Departure.mixedOrders = true := by kernel_rfl
 clear hR3 hB3 HO HV hb hbase hne hk hlim hC
 go_enter Try.func157, Try.ntmps157
 go_wp2_with (first
  | (at_builtin; refine impl_inserted.wapp _ rfl _ _ _ _ rfl _ _ rfl rfl hap ?_)
  | (at_builtin; refine impl_inserted.wcopy _ rfl _ _ 41 41 rfl _ _ rfl rfl (hcp2 _ _) ?_))
 go_region_law_o (refine impl_inserted.scopy rfl _ _ 41 41 rfl _ _ (by simp [Act.eval, Act.put]) (by simp [Act.eval, Act.put]) (hcp1 _ _ _) ?_)
 go_wp2
 go_ret
 exact ⟨_, rfl, HR3.out, HB3.out⟩
set_option maxHeartbeats 4000000 in
set_option maxRecDepth 100000 in
theorem impl_inserted.room_facts (base g c gv cv k : Nat) (l0 : List Int) (x : Int) (ok okv : Nat → Prop) (w0 w : World) (hlim : l0.length < 8796093022208) (hk : k < l0.length) (hc : l0.length < c) (hne : gv ≠ g)
  (HO : Kd.R (Kd.int .i64) 3 w base ok (.slice (some ⟨g, 0, none⟩) l0.length c) l0) (HV : Kd.R (Kd.int .i64) 3 w base okv (.slice (some ⟨gv, 0, none⟩) 1 cv) [x]) (hb : Below base w0 w) (hbase : base ≤ w.heap.size) :
  ∃ W1 W2 : World, (∀ ty dc sc, (Builtin.copy_ #[41, 41] ty #[.slice (some ⟨g, (k + 1) * 1, none⟩) (l0.length - k) dc, .slice (some ⟨g, k * 1, none⟩) (l0.length + 1 - k) sc]).run Try.prog w.drew = .ok (goInt ((l0.length - k : Nat) : Int)) W1) ∧
   (∀ ty dc, (Builtin.copy_ #[41, 41] ty #[.slice (some ⟨g, k * 1, none⟩) (l0.length + 1 - k) dc, .slice (some ⟨gv, 0, none⟩) 1 cv]).run Try.prog W1 = .ok (goInt ((1 : Nat) : Int)) W2) ∧
   Kd.R (Kd.int .i64) 3 W2 base (fun _ => True) (.slice (some ⟨g, 0, none⟩) (l0.length + 1) c) (l0.take k ++ [x] ++ l0.drop k) ∧ Below base w0 W2 ∧
   (∀ lb cb, (callFunc 165 #[.slice (some ⟨gv, 0, none⟩) 1 cv, .slice (some ⟨g, (k + 1) * 1, none⟩) lb cb]).run Try.prog w = .ok (.value (.bool false)) w) := by
 obtain ⟨_, inner, hown, hr⟩ := HO
 obtain ⟨_, innv, hownv, hrv⟩ := HV
 rcases hown.2 with ⟨hv, _⟩ | ⟨g', c', cur, hv, hbg, hh, _, hcm, hcs, htake⟩
 ·
  cases hv
 injection hv with ha _ hcc
 injection ha with ha
 injection ha with hgg
 subst hgg; subst hcc
 rcases hownv.2 with ⟨hv, _⟩ | ⟨g', c', curv, hv, hbgv, hhv, hv1, hcmv, hcsv, htakev⟩
 ·
  cases hv
 injection hv with ha _ hcc
 injection ha with ha
 injection ha with hgg
 subst hgg; subst hcc
 have hil : inner.length = l0.length * 1 := hr.1
 have hivl : innv.length = 1 := by rw [hrv.1]; rfl
 have hx0 := hrv.2 0 x rfl
 have hx1 : (innv.drop (0 * ((Kd.int .i64)).sz)).take ((Kd.int .i64)).sz = innv := by rw [Nat.zero_mul, List.drop_zero]; exact List.take_of_length_le (Nat.le_of_eq hivl)
 rw [hx1] at hx0
 have hsz : (Try.prog.info? 3).map (·.size) = some 1 := by
  have h := info3
  cases hq : Try.prog.info? 3 with
  | none => rw [hq] at h; simp at h
  | some i => rw [hq] at h; simp at h; simp [h]
 have h1i : ∀ u ∈ inner, u.oneCell' = true := impl_inserted.one hr (by decide) (fun _ _ hp => ((Kd.int .i64)).K_one (((Kd.int .i64)).K_of_M hp))
 have h1v : ∀ u ∈ innv, u.oneCell' = true := ((Kd.int .i64)).K_one (((Kd.int .i64)).K_of_M hx0)
 have hsc : cur.size = c * 1 := hcs
 have hscv : curv.size = cv * 1 := hcsv
 have hcur : ∀ q, q < l0.length * 1 → cur.toList[q]? = inner[q]? := by
  intro q hq
  rw [← (show cur.toList.take (l0.length * 1) = inner from htake), List.getElem?_take, if_pos hq]
 have hcv : ∀ (W : World), W.heap[gv]? = some (.cells curv 3 (0, 0)) → ∀ j v, innv[j]? = some v → W.cell? ((⟨gv, 0, none⟩ : Addr).add j) = some v := by
  intro W hW j v hj
  have hlt : j < innv.length := (List.getElem?_eq_some_iff.1 hj).1
  rw [add_plain, cell_of_row W gv _ curv 3 (0, 0) hW, ← Array.getElem?_toList]
  rw [← (show curv.toList.take ([x].length * 1) = innv from htakev), List.getElem?_take] at hj
  rw [if_pos (by simp; omega)] at hj
  exact hj
 have hdl : (inner.drop (k * 1)).length = (l0.length - k) * 1 := by rw [List.length_drop, hil]; omega
 have hcp1 : ∀ ty dc sc, (Builtin.copy_ #[41, 41] ty #[.slice (some ⟨g, (k + 1) * 1, none⟩) (l0.length - k) dc, .slice (some ⟨g, k * 1, none⟩) (l0.length + 1 - k) sc]).run Try.prog w.drew = .ok (goInt ((l0.length - k : Nat) : Int)) (w.drew.setCells g ((k + 1) * 1) (inner.drop (k * 1))) := fun ty dc sc =>
  impl_inserted.cp w.drew 41 ty 3 1 g ((k + 1) * 1) (l0.length - k) dc ⟨g, k * 1, none⟩ (l0.length + 1 - k) sc (l0.length - k) (inner.drop (k * 1)) Try.underlying41 hsz (by simp only [Nat.min_def]; split <;> omega) hdl
   (fun j v hj => by
    have hlt : j < (inner.drop (k * 1)).length := (List.getElem?_eq_some_iff.1 hj).1
    rw [add_at, cell_of_row w.drew g _ cur 3 (0, 0) hh, ← Array.getElem?_toList, hcur _ (by omega)]
    rwa [List.getElem?_drop] at hj)
   (fun j hj => by rw [cell_of_row w.drew g _ cur 3 (0, 0) hh]; simp; omega) (fun j _ => blk_frozen (w := w.drew) hh _) (fun v hv => h1i v (List.mem_of_mem_drop hv))
 obtain ⟨c1, hd1, hd2, hd3⟩ := setCells_row (inner.drop (k * 1)) ((k + 1) * 1) w.drew cur hh (by omega)
 have hfv : (w.drew.setCells g ((k + 1) * 1) (inner.drop (k * 1))).heap[gv]? = some (.cells curv 3 (0, 0)) := (setCells_far _ _ gv hne).trans hhv
 obtain ⟨W1, hW1⟩ : ∃ W1, W1 = w.drew.setCells g ((k + 1) * 1) (inner.drop (k * 1)) := ⟨_, rfl⟩
 rw [← hW1] at hcp1 hd1 hfv
 have hcp2 : ∀ ty dc, (Builtin.copy_ #[41, 41] ty #[.slice (some ⟨g, k * 1, none⟩) (l0.length + 1 - k) dc, .slice (some ⟨gv, 0, none⟩) 1 cv]).run Try.prog W1 = .ok (goInt ((1 : Nat) : Int)) (W1.setCells g (k * 1) innv) := fun ty dc =>
  impl_inserted.cp W1 41 ty 3 1 g (k * 1) (l0.length + 1 - k) dc ⟨gv, 0, none⟩ 1 cv 1 innv Try.underlying41 hsz (by simp only [Nat.min_def]; split <;> omega) (by rw [hivl])
   (hcv W1 hfv)
   (fun j hj => by rw [cell_of_row W1 g _ c1 3 (0, 0) hd1]; simp; omega) (fun j _ => blk_frozen (w := W1) hd1 _) h1v
 have hin2 : k * 1 + innv.length = (k + 1) * 1 := by omega
 obtain ⟨c2, he1, he2, he3⟩ := impl_inserted.two' (e := 3) (g := g) w.drew cur innv (inner.drop (k * 1)) (k * 1) hh (by omega)
 rw [hin2, ← hW1] at he1
 obtain ⟨W2, hW2⟩ : ∃ W2, W2 = W1.setCells g (k * 1) innv := ⟨_, rfl⟩
 rw [← hW2] at hcp2 he1
 have hB2 : Below base w0 W2 := by
  refine Below.grown hb ?_ hbase (row := some g) (fun q hq => by injection hq with hq; omega)
  obtain ⟨s1, s2, s3, s4⟩ := setCells_same g innv (k * 1) W1
  obtain ⟨t1, t2, t3, t4⟩ := setCells_same g (inner.drop (k * 1)) ((k + 1) * 1) w.drew
  rw [hW2]
  refine ⟨s1.trans (by rw [hW1]; exact t1), s2.trans (by rw [hW1]; exact t2), s3.trans (by rw [hW1]; exact t3), by rw [s4, hW1, t4]; exact Nat.le_refl _, fun q _ hq => ?_⟩
  rw [setCells_far _ _ q (fun he => hq (by rw [he])), hW1, setCells_far _ _ q (fun he => hq (by rw [he]))]
  rfl
 have hR2 : Kd.R (Kd.int .i64) 3 W2 base (fun _ => True) (.slice (some ⟨g, 0, none⟩) (l0.length + 1) c) (l0.take k ++ [x] ++ l0.drop k) :=
  impl_inserted.mk (Kd.int .i64) 3 W2 base g c k c2 l0 x inner innv (hr.imp_ (fun _ _ hp => impl_inserted.flat hp)) (impl_inserted.flat hx0) (by omega) hbg he1 (by omega) hcm (by rw [he2, hcs]) (by
   have h5 : cur.toList.take (k * 1) = inner.take (k * 1) := by
    rw [← (show cur.toList.take (l0.length * 1) = inner from htake), List.take_take, Nat.min_eq_left (by omega)]
   have h6 : k * 1 + innv.length + (inner.drop (k * 1)).length = (l0.length + 1) * 1 := by omega
   rw [h6, h5] at he3
   exact he3)
 have hov : ∀ lb cb, (callFunc 165 #[.slice (some ⟨gv, 0, none⟩) 1 cv, .slice (some ⟨g, (k + 1) * 1, none⟩) lb cb]).run Try.prog w = .ok (.value (.bool false)) w := fun lb cb => by
  rw [run_callFunc_extern Try.func165 (by kernel_rfl) (by kernel_rfl) (by kernel_rfl) (e := Extern.SlicesOverlaps.overlaps #[41, 41] #[4]) (by kernel_rfl),
   Lib.run_overlaps_apart w 41 4 3 Try.underlying41 1 Try.sizeOf3 ⟨gv, 0, none⟩ ⟨g, (k + 1) * 1, none⟩ 1 cv lb cb hne 3 3 curv.size cur.size (by simp [World.shape?, hhv]) (by simp [World.shape?, hh]) (by omega) (blk_frozen hhv _) (blk_frozen hhv _)]
  rfl
 exact ⟨W1, W2, hcp1, hcp2, hR2, hB2, hov⟩
set_option maxHeartbeats 4000000 in
set_option maxRecDepth 100000 in
theorem impl_inserted.at_room (base g c gv cv k : Nat) (l0 : List Int) (x : Int) (ok okv : Nat → Prop) (w0 w : World) (hlim : l0.length < 8796093022208) (hk : k < l0.length) (hc : l0.length < c) (hne : gv ≠ g)
  (HO : Kd.R (Kd.int .i64) 3 w base ok (.slice (some ⟨g, 0, none⟩) l0.length c) l0) (HV : Kd.R (Kd.int .i64) 3 w base okv (.slice (some ⟨gv, 0, none⟩) 1 cv) [x]) (hb : Below base w0 w) (hbase : base ≤ w.heap.size) :
  Calls Try.prog 157 #[.slice (some ⟨g, 0, none⟩) l0.length c, .int .i64 (k : Int), .slice (some ⟨gv, 0, none⟩) 1 cv] w fun e w' => ∃ v0_ : Value, e = .returned v0_ ∧ Kd.R (Kd.int .i64) 3 w' base (fun _ => True) v0_ (l0.take k ++ [x] ++ l0.drop k) ∧ Below base w0 w' := by
 obtain ⟨W1, W2, hcp1, hcp2, hR2, hB2, hov⟩ := impl_inserted.room_facts base g c gv cv k l0 x ok okv w0 w hlim hk hc hne HO HV hb hbase
 have HR2 := Aside0.mk hR2
 have HB2 := Aside0.mk hB2
 have HK := Aside0.mk hk
 simp only [Nat.mul_one] at hcp1 hcp2 hov
 have hlen : l0.length ≤ 9223372036854775807 := by omega
 have n1 : (c = k) = False := eq_false (by omega)
 have n1b : (c = k + 1) = False := eq_false (by omega)
 have n2 : (k = l0.length) = False := eq_false (by omega)
 have n3 : ((k : Int) == (l0.length : Int)) = false := by simp; omega
 have n4 : IntKind.i64.wrap ((l0.length : Int) + 1) = (l0.length : Int) + 1 := by rw [IntKind.wrap_i64]; omega
 have n6 : IntKind.i64.wrap ((k : Int) + 1) = (k : Int) + 1 := by rw [IntKind.wrap_i64]; omega
 have n7 : k ≤ l0.length := by omega
 have n8 : decide ((c : Int) < (l0.length : Int) + 1) = false := decide_eq_false (by omega)
 have n9 : (0 : Int) ≤ (l0.length : Int) + 1 := by omega
 have n10 : (l0.length : Int) + 1 ≤ (c : Int) := by omega
 have n11 : ((l0.length : Int) + 1).toNat = l0.length + 1 := by omega
 have n12 : ((k : Int) + 1).toNat = k + 1 := by omega
 have n13 : (0 : Int) ≤ (k : Int) + 1 := by omega
 have n14 : (k : Int) ≤ (l0.length : Int) + 1 := by omega
 have n15 : k ≤ l0.length + 1 := by omega
 have n16 : l0.length + 1 ≤ c := by omega
 have mixed : Try.prog.follows Departure.mixedOrders = true := by kernel_rfl
 clear hR2 hB2 HO HV hb hbase hne hk hc hlim
 go_enter Try.func157, Try.ntmps157
 go_wp2_with (simp only [hov])
 go_region_law_o (refine impl_inserted.scopy rfl _ _ 41 41 rfl _ _ (by simp [Act.eval, Act.put]) (by simp [Act.eval, Act.put]) (hcp1 _ _ _) ?_)
 go_wp2_with (at_builtin; refine impl_inserted.wcopy _ rfl _ _ 41 41 rfl _ _ rfl rfl (hcp2 _ _) ?_)
 go_ret
 exact ⟨_, rfl, HR2.out, HB2.out⟩
set_option maxHeartbeats 4000000 in
theorem impl_inserted.ins (base c gv cv k : Nat) (l0 : List Int) (x : Int) (ok okv : Nat → Prop) (w0 w : World) (hlim : l0.length < 4398046511104) (A : Option Addr) (hk : k ≤ l0.length) (hne : ∀ q, (Value.slice A l0.length c).ownBlock = some q → gv ≠ q)
  (HO : Kd.R (Kd.int .i64) 3 w base ok (.slice A l0.length c) l0) (HV : Kd.R (Kd.int .i64) 3 w base okv (.slice (some ⟨gv, 0, none⟩) 1 cv) [x]) (hb : Below base w0 w) (hbase : base ≤ w.heap.size) :
  Calls Try.prog 157 #[.slice A l0.length c, .int .i64 (k : Int), .slice (some ⟨gv, 0, none⟩) 1 cv] w fun e w' => ∃ v0_ : Value, e = .returned v0_ ∧ Kd.R (Kd.int .i64) 3 w' base (fun _ => True) v0_ (l0.take k ++ [x] ++ l0.drop k) ∧ Below base w0 w' := by
 by_cases hkl : k = l0.length
 ·
  subst hkl
  rw [List.take_length, List.drop_length, List.append_nil]
  exact impl_inserted.at_end base c gv cv l0 x ok okv w0 w (by omega) A HO HV hb hbase
 ·
  obtain ⟨g, cap, he, _, _, _⟩ := Kd.R_form HO (by omega)
  injection he with ha _ hcc
  subst ha; subst hcc
  have hg := hne g (by simp [Value.ownBlock])
  have hc := (Kd.R_reads' HO).2.1
  by_cases hcl : c = l0.length
  ·
   subst hcl
   exact impl_inserted.at_grow base g gv cv k l0 x ok okv w0 w hlim (by omega) hg HO HV hb hbase
  ·
   exact impl_inserted.at_room base g c gv cv k l0 x ok okv w0 w (by omega) (by omega) (by omega) hg HO HV hb hbase
def impl_inserted.f (k : Nat) (l0 : List Int) (a1 : Int) : Option (List Int) :=
 if l0.length < 4398046511104 then ((slices_BinarySearch_int_int.f k l0 a1).bind fun r => if 0 ≤ r.1 ∧ r.1.toNat ≤ l0.length then some (l0.take r.1.toNat ++ [a1] ++ l0.drop r.1.toNat) else none) else none
theorem impl_inserted.mono : ∀ a0 a1 k, LeO (impl_inserted.f k a0 a1) (impl_inserted.f (k + 1) a0 a1) := by
 intro a0 a1 k
 unfold impl_inserted.f
 exact LeO.ite (LeO.bind (slices_BinarySearch_int_int.mono _ _ _) (fun _ => LeO.refl _)) (LeO.none _)
set_option maxHeartbeats 4000000 in
set_option maxRecDepth 100000 in
theorem impl_inserted.calls (k : Nat) (A0 : Option Addr) (c0 : Nat) (l0 : List Int) (a1 : Int) (r : List Int) (w : World) (hr0 : Kd.C (Kd.int .i64) w A0 l0.length l0) (hc0 : l0.length ≤ c0) (h : impl_inserted.f k l0 a1 = some r) :
  Calls Try.prog 136 #[.slice A0 l0.length c0, .int .i64 a1] w fun e w' => ∃ v0_ : Value, e = .returned (v0_) ∧ Kd.R (Kd.int .i64) 3 w' w.heap.size (fun _ => True) v0_ r ∧ Below w.heap.size w w' := by
 have HR0 := Aside0.mk hr0
 have HC0 := Aside0.mk hc0
 have hlen : l0.length ≤ 9223372036854775807 := hr0.2.1
 have mixed : Try.prog.follows Departure.mixedOrders = true := by kernel_rfl
 clear hr0 hc0
 unfold impl_inserted.f at h
 have hlim := ifN h
 replace h := ifT h
 obtain ⟨⟨p, b⟩, hbs, h⟩ := Option.bind_eq_some_iff.1 h
 have hp : 0 ≤ p ∧ p.toNat ≤ l0.length := ifN h
 replace h := ifT h
 obtain ⟨kk, rfl⟩ := Int.eq_ofNat_of_zero_le hp.1
 replace hp : kk ≤ l0.length := hp.2
 replace h := Option.some.inj h
 rw [show (((kk : Nat) : Int), b).1.toNat = kk from rfl] at h
 have HE := Aside0.mk h
 have HL := Aside0.mk hlim
 have HK := Aside0.mk hp
 have HBS := Aside0.mk hbs
 have hcl : slices_Clone_int_int.f l0 = some l0 := by
  unfold slices_Clone_int_int.f
  exact if_pos (by omega)
 have HCL := Aside0.mk hcl
 clear h hlim hp hbs hcl
 go_enter Try.func136, Try.ntmps136
 go_wp2_with (first
  | (go_at_call 156; refine (slices_BinarySearch_int_int.calls k A0 c0 l0 a1 kk b _ HR0.out HC0.out HBS.out).mono ?_; rintro e w1 ⟨rfl, hb1⟩; have B1 := Aside0.mk (show Below w.heap.size w w1 from hb1.below); clear hb1)
  | (go_at_call 90; refine (slices_Clone_int_int.calls A0 c0 l0 l0 _ ?s1 HC0.out HCL.out).mono ?_; (case s1 => exact Kd.C_below HR0.out B1.out); rintro e w2 ⟨v2, rfl, ho2, hb2⟩; obtain ⟨Ao, co, eo⟩ := Kd.R_slice ho2; subst eo; have B2 := Aside0.mk (below_step B1.out hb2); have O2 := Aside0.mk (Kd.R_lower ho2 B1.out.size); have V2 := Aside0.mk (show Kd.R (Kd.int .i64) 3 (w2.alloc (.cells #[.int .i64 a1] 3)) w.heap.size (fun _ => True) (.slice (some ⟨w2.heap.size, 0, none⟩) 1 1) [a1] from ⟨fun _ _ => trivial, [.int .i64 a1], World.ownsRow_lit w2 _ 1 B2.out.size (by decide) rfl, Reps.front rfl rfl (Reps.none _ _) rfl⟩); clear ho2 hb2)
  | (go_at_call 157; refine (impl_inserted.ins w.heap.size co w2.heap.size 1 kk l0 a1 (fun _ => True) (fun _ => True) w _ HL.out Ao HK.out ?t2 ?t3 ?t4 ?t5 ?t6).mono ?_; (case t2 => (intro q hq he; have h1 := Kd.R_lt O2.out q hq; omega)); (case t3 => exact Kd.R_alloc O2.out _); (case t4 => exact V2.out); (case t5 => exact below_alloc B2.out _); (case t6 => exact (below_alloc B2.out _).size); rintro e w5 ⟨v5, rfl, ho5, hb5⟩; rw [HE.out] at ho5; have O5 := Aside0.mk ho5; have B5 := Aside0.mk hb5; clear ho5 hb5))
 go_ret
 exact ⟨_, rfl, O5.out, B5.out⟩

/-! ### impl_AddToStage: function 99 -/
def impl_AddToStage.l0 : Nat → List (S89) → List Int → List (S89) → Int → Int → Option (List Int)
 | 0, _, _, _, _, _ => none
 | k + 1, x0, x5, x16, x17, x18 => if x18 < x17 then (if 0 ≤ x18 then (if x18 < (x16.length : Int) then ((slices_Contains_int_int.f k x5 ((rd_T89 x16 x18).f0)).bind fun t449 => (if t449 = true then (impl_AddToStage.l0 k x0 x5 x16 x17 (wrap64 (x18 + 1))) else ((impl_inserted.f k x5 ((rd_T89 x16 x18).f0)).bind fun t450 => ((impl_IsTogether.f k x0 t450).bind fun t453 => (if t453 = true then (impl_AddToStage.l0 k x0 t450 x16 x17 (wrap64 (x18 + 1))) else (impl_AddToStage.l0 k x0 x5 x16 x17 (wrap64 (x18 + 1)))))))) else (none)) else (none)) else (some x5)
def impl_AddToStage.f (k : Nat) (l0 : List (S89)) (l1 : List Int) : Option (List Int) := (slices_Clone_int_int.f l1).bind fun t443 => ((impl_IsTogether.f k l0 l1).bind fun t446 => (if t446 = true then (impl_AddToStage.l0 k l0 t443 l0 (l0.length : Int) 0) else (some t443)))
theorem impl_AddToStage.mono_l : ∀ k, (∀ y0 y1 y2 y3 y4, LeO (impl_AddToStage.l0 k y0 y1 y2 y3 y4) (impl_AddToStage.l0 (k + 1) y0 y1 y2 y3 y4))
 | 0 => fun _ _ _ _ _ r h => by simp [impl_AddToStage.l0] at h
 | k + 1 => by
  have ih0 := impl_AddToStage.mono_l k
  ·
   intro y0 y1 y2 y3 y4
   unfold impl_AddToStage.l0
   repeat' first | (with_reducible first | exact LeO.refl _ | exact LeO.none _ | refine LeO.ite ?_ ?_ | refine LeO.bind ?_ (fun _ => ?_) | exact ih0 _ _ _ _ _ | exact impl_IsTogether.mono _ _ _ | exact impl_inserted.mono _ _ _ | exact slices_Contains_int_int.mono _ _ _)
theorem impl_AddToStage.mono : ∀ a0 a1 k, LeO (impl_AddToStage.f k a0 a1) (impl_AddToStage.f (k + 1) a0 a1) := by
 intro a0 a1 k
 have ih0 := impl_AddToStage.mono_l k
 unfold impl_AddToStage.f
 repeat' first | (with_reducible first | exact LeO.refl _ | exact LeO.none _ | refine LeO.ite ?_ ?_ | refine LeO.bind ?_ (fun _ => ?_) | exact ih0 _ _ _ _ _ | exact impl_IsTogether.mono _ _ _ | exact impl_inserted.mono _ _ _ | exact slices_Contains_int_int.mono _ _ _)
set_option maxHeartbeats 8000000 in
set_option maxRecDepth 100000 in
theorem impl_AddToStage.calls (k : Nat) (A0 : Option Addr) (c0 : Nat) (l0 : List (S89)) (A1 : Option Addr) (c1 : Nat) (l1 : List Int) (r : List Int) (w : World) (hr0 : Kd.C k89 w A0 l0.length l0) (hc0 : l0.length ≤ c0) (hr1 : Kd.C (Kd.int .i64) w A1 l1.length l1) (hc1 : l1.length ≤ c1) (h : impl_AddToStage.f k l0 l1 = some r) :
  Calls Try.prog 99 #[.slice A0 l0.length c0, .slice A1 l1.length c1] w fun e w' => ∃ v0_ : Value, e = .returned (v0_) ∧ Kd.R (Kd.int .i64) 3 w' w.heap.size (fun _ => True) v0_ r ∧ Below w.heap.size w w' := by
 have hu89 := Try.underlying89
 have HR0 := Aside0.mk hr0
 have HC0 := Aside0.mk hc0
 clear hr0 hc0
 have HR1 := Aside0.mk hr1
 have HC1 := Aside0.mk hc1
 clear hr1 hc1
 have HB := Aside0.mk (Below.refl w.heap.size w)
 have H : ((slices_Clone_int_int.f l1).bind fun t443 => ((impl_IsTogether.f k l0 l1).bind fun t446 => (if t446 = true then (impl_AddToStage.l0 k l0 t443 l0 (l0.length : Int) 0) else (some t443)))) = some r := h
 clear h
 obtain ⟨t443, A3, H⟩ := bindE H
 try dsimp only at H
 obtain ⟨t446, A4, H⟩ := bindE H
 try dsimp only at H
 by_cases c5 : t446 = true
 ·
  subst c5
  have H1 : (impl_AddToStage.l0 k l0 t443 l0 (l0.length : Int) 0) = some r := by rw [if_pos rfl] at H; exact H
  clear H
  have H := H1
  clear H1
  have H' := Aside0.mk H
  clear H
  go_enter Try.func99, Try.ntmps99
  go_wp2_with (first | ((with_reducible refine gate_callee (f := 90) rfl ?_); refine gL (some 10) Try.func90 #[.slice A1 l1.length c1] ?_; (with_reducible refine (slices_Clone_int_int.calls _ _ l1 t443 _ ?side1 ?side2 A3.out).mono ?_); (case side1 => exact cO HR1); (case side2 => exact HC1.out); rintro e w6 ⟨v444, rfl, ho0, hb⟩; refine ⟨_, rfl, ?_⟩; have HO445 := Aside0.mk (Kd.R_lower ho0 (below_size bA)); replace HB := Aside0.mk (below_step bA hb); (try clear hb); (try clear ho0)) | ((with_reducible refine gate_callee (f := 87) rfl ?_); refine gL (some 13) Try.func87 #[.slice A0 l0.length c0, .slice A1 l1.length c1] ?_; (with_reducible refine (impl_IsTogether.calls k _ _ l0 _ _ l1 true _ ?side1 ?side2 ?side3 ?side4 A4.out).mono ?_); (case side1 => exact cB HR0); (case side2 => exact HC0.out); (case side3 => exact cB HR1); (case side4 => exact HC1.out); rintro e w7 ⟨rfl, hb⟩; refine ⟨_, rfl, ?_⟩; replace HO445 := Aside0.mk (Kd.R_below (rK HO445) hb); replace HB := Aside0.mk (below_step bA hb); (try clear hb)))
  go_loopg [5, 18] k (fun kq v5 v18 w' => ∃ (x5_1 : List Int) (x18_1 : Int), v18 = .int .i64 x18_1 ∧ Aside0 (impl_AddToStage.l0 kq l0 x5_1 l0 (l0.length : Int) x18_1 = some r) ∧ Aside0 (kq ≤ k) ∧ Aside0 (Kd.R (Kd.int .i64) 3 w' w.heap.size (fun _ => True) v5 x5_1) ∧ Aside0 (Below w.heap.size w w'))
  case atStart => exact ⟨(t443), (0), rS, H', ⟨Nat.le_refl _⟩, ⟨rK HO445⟩, ⟨bA⟩⟩
  case round =>
   clear H'
   try clear c1
   try clear p2
   try clear c5
   obtain ⟨x5_1, x18_1, rfl, HA, HK1, HO_5, HB⟩ := hrel
   cases gk with
   | zero => exact absurd HA.out (by simp [impl_AddToStage.l0])
   | succ k1 =>
    have H := HA.out
    clear HA
    simp only [impl_AddToStage.l0] at H
    by_cases c8 : x18_1 < (l0.length : Int)
    ·
     rw [if_pos c8] at H
     have c8b0 := decide_eq_true c8
     clear c8
     have c9 : 0 ≤ x18_1 := ifN H
     replace H := ifT H
     have c9b0 := decide_eq_true c9
     clear c9
     have c10 : x18_1 < (l0.length : Int) := ifN H
     replace H := ifT H
     have c10b0 := decide_eq_true c10
     clear c10
     obtain ⟨t449, A11, H⟩ := bindE H
     try dsimp only at H
     by_cases c12 : t449 = true
     ·
      subst c12
      have H1 : (impl_AddToStage.l0 k1 l0 x5_1 l0 (l0.length : Int) (wrap64 (x18_1 + 1))) = some r := by rw [if_pos rfl] at H; exact H
      clear H
      have H := H1
      clear H1
      have H' := Aside0.mk H
      clear H
      have p447 : 0 ≤ (x18_1 : Int) := dA
      have q447 : x18_1 < (l0.length : Int) := dA
      obtain ⟨ad447, e447, hx447_0, hx447_1, hx447_2, hx447_3⟩ := at_T89 HR0.out x18_1 p447 q447
      cases e447
      replace hx447_0 := hC HB hx447_0
      replace hx447_1 := hC HB hx447_1
      replace hx447_2 := hC HB hx447_2
      replace hx447_3 := hC HB hx447_3
      replace p447 := eq_true p447
      replace q447 := eq_true q447
      go_wp2_with (first | ((with_reducible refine gate_dst (N := 7) rfl ?_); refine bE (N := 7) (cs := #[.int .i64 0, .int .i64 0, .int .i64 0, .int .i64 0]) (t := 89) ?_; intro gb448 hg w13 hbox hb; have n0_ := Aside0.mk (Kd.R_below (rK HO_5) hb); have n1_ := Aside0.mk (below_step bA hb); have n2_ := Aside0.mk (hbox); have n3_ := Aside0.mk ((by rw [hg]; exact (below_size bA) : w.heap.size ≤ gb448)); have n4_ := Aside0.mk ((by rw [hg]; exact (below_size bA) : w.heap.size ≤ gb448)); clear HO_5; clear HB; have HO_5 := n0_; have HB := n1_; have BK448 := n2_; have GW448 := n3_; have GE448 := n4_; clear n0_ n1_ n2_ n3_ n4_; clear hb hbox hg; obtain ⟨hcz14_0, hcz14_1, hcz14_2, hcz14_3, hfz14_0, hfz14_1, hfz14_2, hfz14_3⟩ := blkc4 BK448; obtain ⟨Ao15, co15, eo15⟩ := Kd.R_slice HO_5.out; subst eo15) | ((with_reducible refine gate_callee (f := 104) rfl ?_); refine gL (some 25) Try.func104 #[.slice Ao15 x5_1.length co15, .int .i64 ((rd_T89 l0 x18_1).f0)] ?_; (with_reducible refine (slices_Contains_int_int.calls k1 _ _ x5_1 ((rd_T89 l0 x18_1).f0) true _ ?side1 ?side2 A11.out).mono ?_); (case side1 => refine (Kd.R_reads' (e := 3) (base := w.heap.size) (ok := fun k_ => True) (n := x5_1.length) (c := co15) ?_).2.2; exact (by (with_reducible repeat (first | apply Kd.R_alloc | apply Kd.R_drewN | apply Kd.R_drew)); exact (Kd.R_mono (Kd.R_far (p := ⟨gb448, 3, none⟩) (Kd.R_far (p := ⟨gb448, 2, none⟩) (Kd.R_far (p := ⟨gb448, 1, none⟩) (Kd.R_far (p := ⟨gb448, 0, none⟩) (Kd.R_types HO_5.out BK448.out (by decide)) (fun _ hk => hk.2) (.int .i64 ((rd_T89 l0 x18_1).f0))) (fun _ hk => hk.2) (.int .i64 ((rd_T89 l0 x18_1).f1))) (fun _ hk => hk.2) (.int .i64 ((rd_T89 l0 x18_1).f2))) (fun _ hk => hk.2) (.int .i64 ((rd_T89 l0 x18_1).f3))) (fun _ h_ => h_.1)))); (case side2 => exact (Kd.R_reads' HO_5.out).2.1); rintro e w' ⟨rfl, ⟨nd, rfl⟩⟩; refine ⟨_, rfl, ?_⟩))
      go_roundg k1
      case measure => have := HK1.out; omega
      case rel => exact ⟨(x5_1), (wrap64 (x18_1 + 1)), rS, H', ⟨by have := HK1.out; omega⟩, ⟨by (with_reducible repeat (first | apply Kd.R_alloc | apply Kd.R_drewN | apply Kd.R_drew)); exact Kd.R_mono (Kd.R_far (p := ⟨gb448, 3, none⟩) (Kd.R_far (p := ⟨gb448, 2, none⟩) (Kd.R_far (p := ⟨gb448, 1, none⟩) (Kd.R_far (p := ⟨gb448, 0, none⟩) (Kd.R_types HO_5.out BK448.out (by decide)) (fun _ hk => hk.2) (.int .i64 ((rd_T89 l0 x18_1).f0))) (fun _ hk => hk.2) (.int .i64 ((rd_T89 l0 x18_1).f1))) (fun _ hk => hk.2) (.int .i64 ((rd_T89 l0 x18_1).f2))) (fun _ hk => hk.2) (.int .i64 ((rd_T89 l0 x18_1).f3))) (fun _ hk => trivial)⟩, ⟨bG⟩⟩
     ·
      replace c12 := Bool.eq_false_iff.mpr c12
      subst c12
      have H1 : ((impl_inserted.f k1 x5_1 ((rd_T89 l0 x18_1).f0)).bind fun t450 => ((impl_IsTogether.f k1 l0 t450).bind fun t453 => (if t453 = true then (impl_AddToStage.l0 k1 l0 t450 l0 (l0.length : Int) (wrap64 (x18_1 + 1))) else (impl_AddToStage.l0 k1 l0 x5_1 l0 (l0.length : Int) (wrap64 (x18_1 + 1)))))) = some r := by rw [if_neg (show ¬ (false = true) by decide)] at H; exact H
      clear H
      have H := H1
      clear H1
      obtain ⟨t450, A16, H⟩ := bindE H
      try dsimp only at H
      obtain ⟨t453, A17, H⟩ := bindE H
      try dsimp only at H
      by_cases c18 : t453 = true
      ·
       subst c18
       have H1 : (impl_AddToStage.l0 k1 l0 t450 l0 (l0.length : Int) (wrap64 (x18_1 + 1))) = some r := by rw [if_pos rfl] at H; exact H
       clear H
       have H := H1
       clear H1
       have H' := Aside0.mk H
       clear H
       have p447 : 0 ≤ (x18_1 : Int) := dA
       have q447 : x18_1 < (l0.length : Int) := dA
       obtain ⟨ad447, e447, hx447_0, hx447_1, hx447_2, hx447_3⟩ := at_T89 HR0.out x18_1 p447 q447
       cases e447
       replace hx447_0 := hC HB hx447_0
       replace hx447_1 := hC HB hx447_1
       replace hx447_2 := hC HB hx447_2
       replace hx447_3 := hC HB hx447_3
       replace p447 := eq_true p447
       replace q447 := eq_true q447
       go_wp2_with (first | ((with_reducible refine gate_dst (N := 7) rfl ?_); refine bE (N := 7) (cs := #[.int .i64 0, .int .i64 0, .int .i64 0, .int .i64 0]) (t := 89) ?_; intro gb448 hg w19 hbox hb; have n0_ := Aside0.mk (Kd.R_below (rK HO_5) hb); have n1_ := Aside0.mk (below_step bA hb); have n2_ := Aside0.mk (hbox); have n3_ := Aside0.mk ((by rw [hg]; exact (below_size bA) : w.heap.size ≤ gb448)); have n4_ := Aside0.mk ((by rw [hg]; exact (below_size bA) : w.heap.size ≤ gb448)); clear HO_5; clear HB; have HO_5 := n0_; have HB := n1_; have BK448 := n2_; have GW448 := n3_; have GE448 := n4_; clear n0_ n1_ n2_ n3_ n4_; clear hb hbox hg; obtain ⟨hcz20_0, hcz20_1, hcz20_2, hcz20_3, hfz20_0, hfz20_1, hfz20_2, hfz20_3⟩ := blkc4 BK448; obtain ⟨Ao21, co21, eo21⟩ := Kd.R_slice HO_5.out; subst eo21) | ((with_reducible refine gate_callee (f := 104) rfl ?_); refine gL (some 25) Try.func104 #[.slice Ao21 x5_1.length co21, .int .i64 ((rd_T89 l0 x18_1).f0)] ?_; (with_reducible refine (slices_Contains_int_int.calls k1 _ _ x5_1 ((rd_T89 l0 x18_1).f0) false _ ?side1 ?side2 A11.out).mono ?_); (case side1 => refine (Kd.R_reads' (e := 3) (base := w.heap.size) (ok := fun k_ => True) (n := x5_1.length) (c := co21) ?_).2.2; exact (by (with_reducible repeat (first | apply Kd.R_alloc | apply Kd.R_drewN | apply Kd.R_drew)); exact (Kd.R_mono (Kd.R_far (p := ⟨gb448, 3, none⟩) (Kd.R_far (p := ⟨gb448, 2, none⟩) (Kd.R_far (p := ⟨gb448, 1, none⟩) (Kd.R_far (p := ⟨gb448, 0, none⟩) (Kd.R_types HO_5.out BK448.out (by decide)) (fun _ hk => hk.2) (.int .i64 ((rd_T89 l0 x18_1).f0))) (fun _ hk => hk.2) (.int .i64 ((rd_T89 l0 x18_1).f1))) (fun _ hk => hk.2) (.int .i64 ((rd_T89 l0 x18_1).f2))) (fun _ hk => hk.2) (.int .i64 ((rd_T89 l0 x18_1).f3))) (fun _ h_ => h_.1)))); (case side2 => exact (Kd.R_reads' HO_5.out).2.1); rintro e w' ⟨rfl, ⟨nd, rfl⟩⟩; refine ⟨_, rfl, ?_⟩) | ((with_reducible refine gate_callee (f := 136) rfl ?_); refine gL (some 29) Try.func136 #[.slice Ao21 x5_1.length co21, .int .i64 ((rd_T89 l0 x18_1).f0)] ?_; (with_reducible refine (impl_inserted.calls k1 _ _ x5_1 ((rd_T89 l0 x18_1).f0) t450 _ ?side1 ?side2 A16.out).mono ?_); (case side1 => refine (Kd.R_reads' (e := 3) (base := w.heap.size) (ok := fun k_ => True) (n := x5_1.length) (c := co21) ?_).2.2; exact (by (with_reducible repeat (first | apply Kd.R_alloc | apply Kd.R_drewN | apply Kd.R_drew)); exact (Kd.R_mono (Kd.R_far (p := ⟨gb448, 3, none⟩) (Kd.R_far (p := ⟨gb448, 2, none⟩) (Kd.R_far (p := ⟨gb448, 1, none⟩) (Kd.R_far (p := ⟨gb448, 0, none⟩) (Kd.R_types HO_5.out BK448.out (by decide)) (fun _ hk => hk.2) (.int .i64 ((rd_T89 l0 x18_1).f0))) (fun _ hk => hk.2) (.int .i64 ((rd_T89 l0 x18_1).f1))) (fun _ hk => hk.2) (.int .i64 ((rd_T89 l0 x18_1).f2))) (fun _ hk => hk.2) (.int .i64 ((rd_T89 l0 x18_1).f3))) (fun _ h_ => h_.1)))); (case side2 => exact (Kd.R_reads' HO_5.out).2.1); rintro e w22 ⟨v451, rfl, ho0, hb⟩; refine ⟨_, rfl, ?_⟩; have n0_ := Aside0.mk (Kd.R_elder' (by (with_reducible repeat (first | apply Kd.R_alloc | apply Kd.R_drewN | apply Kd.R_drew)); exact (Kd.R_mono (Kd.R_far (p := ⟨gb448, 3, none⟩) (Kd.R_far (p := ⟨gb448, 2, none⟩) (Kd.R_far (p := ⟨gb448, 1, none⟩) (Kd.R_far (p := ⟨gb448, 0, none⟩) (Kd.R_types HO_5.out BK448.out (by decide)) (fun _ hk => hk.2) (.int .i64 ((rd_T89 l0 x18_1).f0))) (fun _ hk => hk.2) (.int .i64 ((rd_T89 l0 x18_1).f1))) (fun _ hk => hk.2) (.int .i64 ((rd_T89 l0 x18_1).f2))) (fun _ hk => hk.2) (.int .i64 ((rd_T89 l0 x18_1).f3))) (fun _ h_ => h_.1))) (Kd.R_base ho0) hb); have n1_ := Aside0.mk (Kd.R_lower (Kd.R_new' ho0 (Kd.R_lt (by (with_reducible repeat (first | apply Kd.R_alloc | apply Kd.R_drewN | apply Kd.R_drew)); exact (Kd.R_mono (Kd.R_far (p := ⟨gb448, 3, none⟩) (Kd.R_far (p := ⟨gb448, 2, none⟩) (Kd.R_far (p := ⟨gb448, 1, none⟩) (Kd.R_far (p := ⟨gb448, 0, none⟩) (Kd.R_types HO_5.out BK448.out (by decide)) (fun _ hk => hk.2) (.int .i64 ((rd_T89 l0 x18_1).f0))) (fun _ hk => hk.2) (.int .i64 ((rd_T89 l0 x18_1).f1))) (fun _ hk => hk.2) (.int .i64 ((rd_T89 l0 x18_1).f2))) (fun _ hk => hk.2) (.int .i64 ((rd_T89 l0 x18_1).f3))) (fun _ h_ => h_.1))))) (below_size bG)); have n2_ := Aside0.mk (blk_below (g := gb448) (o := .cells #[.int .i64 ((rd_T89 l0 x18_1).f0), .int .i64 ((rd_T89 l0 x18_1).f1), .int .i64 ((rd_T89 l0 x18_1).f2), .int .i64 ((rd_T89 l0 x18_1).f3)] 89 (0, 0)) (by (with_reducible repeat (first | refine blk_drewN ?_ _ | refine blk_drew ?_ | refine blk_alloc ?_ _)); refine blk_put (cs := #[.int .i64 ((rd_T89 l0 x18_1).f0), .int .i64 ((rd_T89 l0 x18_1).f1), .int .i64 ((rd_T89 l0 x18_1).f2), .int .i64 0]) ?_ 3 _ rfl; (with_reducible repeat (first | refine blk_drewN ?_ _ | refine blk_drew ?_ | refine blk_alloc ?_ _)); refine blk_put (cs := #[.int .i64 ((rd_T89 l0 x18_1).f0), .int .i64 ((rd_T89 l0 x18_1).f1), .int .i64 0, .int .i64 0]) ?_ 2 _ rfl; (with_reducible repeat (first | refine blk_drewN ?_ _ | refine blk_drew ?_ | refine blk_alloc ?_ _)); refine blk_put (cs := #[.int .i64 ((rd_T89 l0 x18_1).f0), .int .i64 0, .int .i64 0, .int .i64 0]) ?_ 1 _ rfl; (with_reducible repeat (first | refine blk_drewN ?_ _ | refine blk_drew ?_ | refine blk_alloc ?_ _)); refine blk_put (cs := #[.int .i64 0, .int .i64 0, .int .i64 0, .int .i64 0]) ?_ 0 _ rfl; (with_reducible repeat (first | refine blk_drewN ?_ _ | refine blk_drew ?_ | refine blk_alloc ?_ _)); exact BK448.out) hb); have n3_ := Aside0.mk (below_step bG hb); clear HO_5; clear BK448; clear HB; have HO_5 := n0_; have HO452 := n1_; have BK448 := n2_; have HB := n3_; clear n0_ n1_ n2_ n3_; (try clear hb); (try clear ho0); obtain ⟨Ao23, co23, eo23⟩ := Kd.R_slice HO452.out; subst eo23) | ((with_reducible refine gate_callee (f := 87) rfl ?_); refine gL (some 32) Try.func87 #[.slice (some ad447) l0.length c0, .slice Ao23 t450.length co23] ?_; (with_reducible refine (impl_IsTogether.calls k1 _ _ l0 _ _ t450 true _ ?side1 ?side2 ?side3 ?side4 A17.out).mono ?_); (case side1 => exact cB HR0); (case side2 => exact HC0.out); (case side3 => exact cO ⟨(Kd.R_reads' HO452.out).2.2⟩); (case side4 => exact (Kd.R_reads' HO452.out).2.1); rintro e w24 ⟨rfl, hb⟩; refine ⟨_, rfl, ?_⟩; replace HO_5 := Aside0.mk (Kd.R_below (rK HO_5) hb); replace HO452 := Aside0.mk (Kd.R_below (rK HO452) hb); replace BK448 := Aside0.mk (blk_below (g := gb448) (bK BK448) hb); replace HB := Aside0.mk (below_step bG hb); (try clear hb)))
       go_roundg k1
       case measure => have := HK1.out; omega
       case rel => exact ⟨(t450), (wrap64 (x18_1 + 1)), rS, H', ⟨by have := HK1.out; omega⟩, ⟨by (with_reducible repeat (first | apply Kd.R_alloc | apply Kd.R_drewN | apply Kd.R_drew)); exact Kd.R_mono HO452.out (fun _ hk => trivial)⟩, ⟨bG⟩⟩
      ·
       replace c18 := Bool.eq_false_iff.mpr c18
       subst c18
       have H1 : (impl_AddToStage.l0 k1 l0 x5_1 l0 (l0.length : Int) (wrap64 (x18_1 + 1))) = some r := by rw [if_neg (show ¬ (false = true) by decide)] at H; exact H
       clear H
       have H := H1
       clear H1
       have H' := Aside0.mk H
       clear H
       have p447 : 0 ≤ (x18_1 : Int) := dA
       have q447 : x18_1 < (l0.length : Int) := dA
       obtain ⟨ad447, e447, hx447_0, hx447_1, hx447_2, hx447_3⟩ := at_T89 HR0.out x18_1 p447 q447
       cases e447
       replace hx447_0 := hC HB hx447_0
       replace hx447_1 := hC HB hx447_1
       replace hx447_2 := hC HB hx447_2
       replace hx447_3 := hC HB hx447_3
       replace p447 := eq_true p447
       replace q447 := eq_true q447
       go_wp2_with (first | ((with_reducible refine gate_dst (N := 7) rfl ?_); refine bE (N := 7) (cs := #[.int .i64 0, .int .i64 0, .int .i64 0, .int .i64 0]) (t := 89) ?_; intro gb448 hg w25 hbox hb; have n0_ := Aside0.mk (Kd.R_below (rK HO_5) hb); have n1_ := Aside0.mk (below_step bA hb); have n2_ := Aside0.mk (hbox); have n3_ := Aside0.mk ((by rw [hg]; exact (below_size bA) : w.heap.size ≤ gb448)); have n4_ := Aside0.mk ((by rw [hg]; exact (below_size bA) : w.heap.size ≤ gb448)); clear HO_5; clear HB; have HO_5 := n0_; have HB := n1_; have BK448 := n2_; have GW448 := n3_; have GE448 := n4_; clear n0_ n1_ n2_ n3_ n4_; clear hb hbox hg; obtain ⟨hcz26_0, hcz26_1, hcz26_2, hcz26_3, hfz26_0, hfz26_1, hfz26_2, hfz26_3⟩ := blkc4 BK448; obtain ⟨Ao27, co27, eo27⟩ := Kd.R_slice HO_5.out; subst eo27) | ((with_reducible refine gate_callee (f := 104) rfl ?_); refine gL (some 25) Try.func104 #[.slice Ao27 x5_1.length co27, .int .i64 ((rd_T89 l0 x18_1).f0)] ?_; (with_reducible refine (slices_Contains_int_int.calls k1 _ _ x5_1 ((rd_T89 l0 x18_1).f0) false _ ?side1 ?side2 A11.out).mono ?_); (case side1 => refine (Kd.R_reads' (e := 3) (base := w.heap.size) (ok := fun k_ => True) (n := x5_1.length) (c := co27) ?_).2.2; exact (by (with_reducible repeat (first | apply Kd.R_alloc | apply Kd.R_drewN | apply Kd.R_drew)); exact (Kd.R_mono (Kd.R_far (p := ⟨gb448, 3, none⟩) (Kd.R_far (p := ⟨gb448, 2, none⟩) (Kd.R_far (p := ⟨gb448, 1, none⟩) (Kd.R_far (p := ⟨gb448, 0, none⟩) (Kd.R_types HO_5.out BK448.out (by decide)) (fun _ hk => hk.2) (.int .i64 ((rd_T89 l0 x18_1).f0))) (fun _ hk => hk.2) (.int .i64 ((rd_T89 l0 x18_1).f1))) (fun _ hk => hk.2) (.int .i64 ((rd_T89 l0 x18_1).f2))) (fun _ hk => hk.2) (.int .i64 ((rd_T89 l0 x18_1).f3))) (fun _ h_ => h_.1)))); (case side2 => exact (Kd.R_reads' HO_5.out).2.1); rintro e w' ⟨rfl, ⟨nd, rfl⟩⟩; refine ⟨_, rfl, ?_⟩) | ((with_reducible refine gate_callee (f := 136) rfl ?_); refine gL (some 29) Try.func136 #[.slice Ao27 x5_1.length co27, .int .i64 ((rd_T89 l0 x18_1).f0)] ?_; (with_reducible refine (impl_inserted.calls k1 _ _ x5_1 ((rd_T89 l0 x18_1).f0) t450 _ ?side1 ?side2 A16.out).mono ?_); (case side1 => refine (Kd.R_reads' (e := 3) (base := w.heap.size) (ok := fun k_ => True) (n := x5_1.length) (c := co27) ?_).2.2; exact (by (with_reducible repeat (first | apply Kd.R_alloc | apply Kd.R_drewN | apply Kd.R_drew)); exact (Kd.R_mono (Kd.R_far (p := ⟨gb448, 3, none⟩) (Kd.R_far (p := ⟨gb448, 2, none⟩) (Kd.R_far (p := ⟨gb448, 1, none⟩) (Kd.R_far (p := ⟨gb448, 0, none⟩) (Kd.R_types HO_5.out BK448.out (by decide)) (fun _ hk => hk.2) (.int .i64 ((rd_T89 l0 x18_1).f0))) (fun _ hk => hk.2) (.int .i64 ((rd_T89 l0 x18_1).f1))) (fun _ hk => hk.2) (.int .i64 ((rd_T89 l0 x18_1).f2))) (fun _ hk => hk.2) (.int .i64 ((rd_T89 l0 x18_1).f3))) (fun _ h_ => h_.1)))); (case side2 => exact (Kd.R_reads' HO_5.out).2.1); rintro e w28 ⟨v451, rfl, ho0, hb⟩; refine ⟨_, rfl, ?_⟩; have n0_ := Aside0.mk (Kd.R_elder' (by (with_reducible repeat (first | apply Kd.R_alloc | apply Kd.R_drewN | apply Kd.R_drew)); exact (Kd.R_mono (Kd.R_far (p := ⟨gb448, 3, none⟩) (Kd.R_far (p := ⟨gb448, 2, none⟩) (Kd.R_far (p := ⟨gb448, 1, none⟩) (Kd.R_far (p := ⟨gb448, 0, none⟩) (Kd.R_types HO_5.out BK448.out (by decide)) (fun _ hk => hk.2) (.int .i64 ((rd_T89 l0 x18_1).f0))) (fun _ hk => hk.2) (.int .i64 ((rd_T89 l0 x18_1).f1))) (fun _ hk => hk.2) (.int .i64 ((rd_T89 l0 x18_1).f2))) (fun _ hk => hk.2) (.int .i64 ((rd_T89 l0 x18_1).f3))) (fun _ h_ => h_.1))) (Kd.R_base ho0) hb); have n1_ := Aside0.mk (Kd.R_lower (Kd.R_new' ho0 (Kd.R_lt (by (with_reducible repeat (first | apply Kd.R_alloc | apply Kd.R_drewN | apply Kd.R_drew)); exact (Kd.R_mono (Kd.R_far (p := ⟨gb448, 3, none⟩) (Kd.R_far (p := ⟨gb448, 2, none⟩) (Kd.R_far (p := ⟨gb448, 1, none⟩) (Kd.R_far (p := ⟨gb448, 0, none⟩) (Kd.R_types HO_5.out BK448.out (by decide)) (fun _ hk => hk.2) (.int .i64 ((rd_T89 l0 x18_1).f0))) (fun _ hk => hk.2) (.int .i64 ((rd_T89 l0 x18_1).f1))) (fun _ hk => hk.2) (.int .i64 ((rd_T89 l0 x18_1).f2))) (fun _ hk => hk.2) (.int .i64 ((rd_T89 l0 x18_1).f3))) (fun _ h_ => h_.1))))) (below_size bG)); have n2_ := Aside0.mk (blk_below (g := gb448) (o := .cells #[.int .i64 ((rd_T89 l0 x18_1).f0), .int .i64 ((rd_T89 l0 x18_1).f1), .int .i64 ((rd_T89 l0 x18_1).f2), .int .i64 ((rd_T89 l0 x18_1).f3)] 89 (0, 0)) (by (with_reducible repeat (first | refine blk_drewN ?_ _ | refine blk_drew ?_ | refine blk_alloc ?_ _)); refine blk_put (cs := #[.int .i64 ((rd_T89 l0 x18_1).f0), .int .i64 ((rd_T89 l0 x18_1).f1), .int .i64 ((rd_T89 l0 x18_1).f2), .int .i64 0]) ?_ 3 _ rfl; (with_reducible repeat (first | refine blk_drewN ?_ _ | refine blk_drew ?_ | refine blk_alloc ?_ _)); refine blk_put (cs := #[.int .i64 ((rd_T89 l0 x18_1).f0), .int .i64 ((rd_T89 l0 x18_1).f1), .int .i64 0, .int .i64 0]) ?_ 2 _ rfl; (with_reducible repeat (first | refine blk_drewN ?_ _ | refine blk_drew ?_ | refine blk_alloc ?_ _)); refine blk_put (cs := #[.int .i64 ((rd_T89 l0 x18_1).f0), .int .i64 0, .int .i64 0, .int .i64 0]) ?_ 1 _ rfl; (with_reducible repeat (first | refine blk_drewN ?_ _ | refine blk_drew ?_ | refine blk_alloc ?_ _)); refine blk_put (cs := #[.int .i64 0, .int .i64 0, .int .i64 0, .int .i64 0]) ?_ 0 _ rfl; (with_reducible repeat (first | refine blk_drewN ?_ _ | refine blk_drew ?_ | refine blk_alloc ?_ _)); exact BK448.out) hb); have n3_ := Aside0.mk (below_step bG hb); clear HO_5; clear BK448; clear HB; have HO_5 := n0_; have HO452 := n1_; have BK448 := n2_; have HB := n3_; clear n0_ n1_ n2_ n3_; (try clear hb); (try clear ho0); obtain ⟨Ao29, co29, eo29⟩ := Kd.R_slice HO452.out; subst eo29) | ((with_reducible refine gate_callee (f := 87) rfl ?_); refine gL (some 32) Try.func87 #[.slice (some ad447) l0.length c0, .slice Ao29 t450.length co29] ?_; (with_reducible refine (impl_IsTogether.calls k1 _ _ l0 _ _ t450 false _ ?side1 ?side2 ?side3 ?side4 A17.out).mono ?_); (case side1 => exact cB HR0); (case side2 => exact HC0.out); (case side3 => exact cO ⟨(Kd.R_reads' HO452.out).2.2⟩); (case side4 => exact (Kd.R_reads' HO452.out).2.1); rintro e w30 ⟨rfl, hb⟩; refine ⟨_, rfl, ?_⟩; replace HO_5 := Aside0.mk (Kd.R_below (rK HO_5) hb); replace HO452 := Aside0.mk (Kd.R_below (rK HO452) hb); replace BK448 := Aside0.mk (blk_below (g := gb448) (bK BK448) hb); replace HB := Aside0.mk (below_step bG hb); (try clear hb)))
       go_roundg k1
       case measure => have := HK1.out; omega
       case rel => exact ⟨(x5_1), (wrap64 (x18_1 + 1)), rS, H', ⟨by have := HK1.out; omega⟩, ⟨by (with_reducible repeat (first | apply Kd.R_alloc | apply Kd.R_drewN | apply Kd.R_drew)); exact Kd.R_mono HO_5.out (fun _ hk => trivial)⟩, ⟨bG⟩⟩
    ·
     rw [if_neg c8] at H
     have c8b0 := decide_eq_false c8
     clear c8
     obtain rfl := Option.some.inj H
     go_wp2
     go_ret
     exact ⟨_, by first | rfl | (simp [errW_none, errW_some] <;> rfl) | (simp [*, errW_none, errW_some] <;> rfl), by (with_reducible repeat (first | apply Kd.R_alloc | apply Kd.R_drewN | apply Kd.R_drew)); exact HO_5.out, bA⟩
 ·
  replace c5 := Bool.eq_false_iff.mpr c5
  subst c5
  have H1 : (some t443) = some r := by rw [if_neg (show ¬ (false = true) by decide)] at H; exact H
  clear H
  have H := H1
  clear H1
  obtain rfl := Option.some.inj H
  go_enter Try.func99, Try.ntmps99
  go_wp2_with (first | ((with_reducible refine gate_callee (f := 90) rfl ?_); refine gL (some 10) Try.func90 #[.slice A1 l1.length c1] ?_; (with_reducible refine (slices_Clone_int_int.calls _ _ l1 t443 _ ?side1 ?side2 A3.out).mono ?_); (case side1 => exact cO HR1); (case side2 => exact HC1.out); rintro e w31 ⟨v444, rfl, ho0, hb⟩; refine ⟨_, rfl, ?_⟩; have HO445 := Aside0.mk (Kd.R_lower ho0 (below_size bA)); replace HB := Aside0.mk (below_step bA hb); (try clear hb); (try clear ho0)) | ((with_reducible refine gate_callee (f := 87) rfl ?_); refine gL (some 13) Try.func87 #[.slice A0 l0.length c0, .slice A1 l1.length c1] ?_; (with_reducible refine (impl_IsTogether.calls k _ _ l0 _ _ l1 false _ ?side1 ?side2 ?side3 ?side4 A4.out).mono ?_); (case side1 => exact cB HR0); (case side2 => exact HC0.out); (case side3 => exact cB HR1); (case side4 => exact HC1.out); rintro e w32 ⟨rfl, hb⟩; refine ⟨_, rfl, ?_⟩; replace HO445 := Aside0.mk (Kd.R_below (rK HO445) hb); replace HB := Aside0.mk (below_step bA hb); (try clear hb)))
  go_ret
  exact ⟨_, by first | rfl | (simp [errW_none, errW_some] <;> rfl) | (simp [*, errW_none, errW_some] <;> rfl), by (with_reducible repeat (first | apply Kd.R_alloc | apply Kd.R_drewN | apply Kd.R_drew)); exact HO445.out, bA⟩

/-! ### impl_NextStage: function 49 -/
def impl_NextStage.f (k : Nat) (l0 : List (S89)) (l1_0 : List Int) (a1_1 : Int) (l1_2 : List Int) (a1_3 : Int) (l2 : List (S115)) : Option (List Int) := (impl_LongestWant.f k l2 l1_0).bind fun t455 => (if t455 = 0 then (some (([] : List Int))) else ((impl_IsControl.f k l0 l1_0 a1_1 l1_2 a1_3).bind fun t459 => (if t459 = true then ((impl_AreWants.f k l0 l2).bind fun t460 => (if t460 = true then ((impl_AddToStage.f k l0 (([t455] : List Int))).bind fun t464 => (some t464)) else (some (([] : List Int))))) else (some (([] : List Int))))))
theorem impl_NextStage.mono : ∀ a0 a1 a2 a3 a4 a5 k, LeO (impl_NextStage.f k a0 a1 a2 a3 a4 a5) (impl_NextStage.f (k + 1) a0 a1 a2 a3 a4 a5) := by
 intro a0 a1 a2 a3 a4 a5 k
 unfold impl_NextStage.f
 repeat' first | (with_reducible first | exact LeO.refl _ | exact LeO.none _ | refine LeO.ite ?_ ?_ | refine LeO.bind ?_ (fun _ => ?_) | exact impl_AddToStage.mono _ _ _ | exact impl_AreWants.mono _ _ _ | exact impl_IsControl.mono _ _ _ _ _ _ | exact impl_LongestWant.mono _ _ _)
set_option maxHeartbeats 8000000 in
set_option maxRecDepth 100000 in
theorem impl_NextStage.calls (k : Nat) (A0 : Option Addr) (c0 : Nat) (l0 : List (S89)) (A1_0 : Option Addr) (c1_0 : Nat) (l1_0 : List Int) (a1_1 : Int) (A1_2 : Option Addr) (c1_2 : Nat) (l1_2 : List Int) (a1_3 : Int) (A2 : Option Addr) (c2 : Nat) (l2 : List (S115)) (r : List Int) (w : World) (hr0 : Kd.C k89 w A0 l0.length l0) (hc0 : l0.length ≤ c0) (hr1_0 : Kd.C (Kd.int .i64) w A1_0 l1_0.length l1_0) (hc1_0 : l1_0.length ≤ c1_0) (hr1_2 : Kd.C (Kd.int .i64) w A1_2 l1_2.length l1_2) (hc1_2 : l1_2.length ≤ c1_2) (hr2 : Kd.C k115 w A2 l2.length l2) (hc2 : l2.length ≤ c2) (h : impl_NextStage.f k l0 l1_0 a1_1 l1_2 a1_3 l2 = some r) :
  Calls Try.prog 49 #[.slice A0 l0.length c0, .agg #[.slice A1_0 l1_0.length c1_0, .int .i64 a1_1, .slice A1_2 l1_2.length c1_2, .int .i64 a1_3], .slice A2 l2.length c2] w fun e w' => ∃ v0_ : Value, e = .returned (v0_) ∧ Kd.R (Kd.int .i64) 3 w' w.heap.size (fun _ => True) v0_ r ∧ Below w.heap.size w w' := by
 have hu57 := Try.underlying57
 have HR0 := Aside0.mk hr0
 have HC0 := Aside0.mk hc0
 clear hr0 hc0
 have HR1_0 := Aside0.mk hr1_0
 have HC1_0 := Aside0.mk hc1_0
 clear hr1_0 hc1_0
 have HR1_2 := Aside0.mk hr1_2
 have HC1_2 := Aside0.mk hc1_2
 clear hr1_2 hc1_2
 have HR2 := Aside0.mk hr2
 have HC2 := Aside0.mk hc2
 clear hr2 hc2
 have HB := Aside0.mk (Below.refl w.heap.size w)
 have H : ((impl_LongestWant.f k l2 l1_0).bind fun t455 => (if t455 = 0 then (some (([] : List Int))) else ((impl_IsControl.f k l0 l1_0 a1_1 l1_2 a1_3).bind fun t459 => (if t459 = true then ((impl_AreWants.f k l0 l2).bind fun t460 => (if t460 = true then ((impl_AddToStage.f k l0 (([t455] : List Int))).bind fun t464 => (some t464)) else (some (([] : List Int))))) else (some (([] : List Int))))))) = some r := h
 clear h
 obtain ⟨t455, A4, H⟩ := bindE H
 try dsimp only at H
 by_cases c5 : t455 = 0
 ·
  rw [if_pos c5] at H
  have c5b0 : (t455 == 0) = true := beq_iff_eq.mpr c5
  have c5b1 : (t455 != 0) = false := bne_eq_false_iff_eq.mpr c5
  clear c5
  obtain ⟨y456, hy456⟩ : ∃ y_ : List Int, y_ = (([] : List Int)) := ⟨_, rfl⟩
  replace H : (some y456) = some r := by first | (rw [hy456]; with_reducible exact H) | (have H2_ := (Option.bind_some _ _).symm.trans H; rw [hy456]; with_reducible exact H2_) | (have H2_ := (Option.bind_some _ _).symm.trans H; with_reducible exact H2_) | with_reducible exact H | (rw [hy456]; exact H) | exact H
  have Ny456 := Aside0.mk hy456
  clear hy456
  obtain rfl := Option.some.inj H
  go_enter Try.func49, Try.ntmps49
  go_wp2_with (first | ((with_reducible refine gate_dst (N := 4) rfl ?_); refine bE (N := 4) (cs := #[.slice A1_0 l1_0.length c1_0, .int .i64 a1_1, .slice A1_2 l1_2.length c1_2, .int .i64 a1_3]) (t := 57) ?_; intro gb454 hg w6 hbox hb; have n0_ := Aside0.mk (below_step bA hb); have n1_ := Aside0.mk (hbox); have n2_ := Aside0.mk ((by rw [hg]; exact (below_size bA) : w.heap.size ≤ gb454)); have n3_ := Aside0.mk ((by rw [hg]; exact (below_size bA) : w.heap.size ≤ gb454)); clear HB; have HB := n0_; have BK454 := n1_; have GW454 := n2_; have GE454 := n3_; clear n0_ n1_ n2_ n3_; clear hb hbox hg; have hcz7_0 : w6.cell? ⟨gb454, 0, none⟩ = some (.slice A1_0 l1_0.length c1_0) := bC BK454 0; have hcz7_1 : w6.cell? ⟨gb454, 1, none⟩ = some (.int .i64 a1_1) := bC BK454 1; have hcz7_2 : w6.cell? ⟨gb454, 2, none⟩ = some (.slice A1_2 l1_2.length c1_2) := bC BK454 2; have hcz7_3 : w6.cell? ⟨gb454, 3, none⟩ = some (.int .i64 a1_3) := bC BK454 3; have hfz7_0 := blk_frozen BK454.out 0; have hfz7_1 := blk_frozen BK454.out 1; have hfz7_2 := blk_frozen BK454.out 2; have hfz7_3 := blk_frozen BK454.out 3) | ((with_reducible refine gate_callee (f := 96) rfl ?_); refine gL (some 11) Try.func96 #[.slice A2 l2.length c2, .slice A1_0 l1_0.length c1_0] ?_; (with_reducible refine (impl_LongestWant.calls k _ _ l2 _ _ l1_0 t455 _ ?side1 ?side2 ?side3 ?side4 A4.out).mono ?_); (case side1 => exact cB HR2); (case side2 => exact HC2.out); (case side3 => exact cB HR1_0); (case side4 => exact HC1_0.out); rintro e w8 ⟨rfl, hb⟩; refine ⟨_, rfl, ?_⟩; replace BK454 := Aside0.mk (blk_below (g := gb454) (bK BK454) hb); replace HB := Aside0.mk (below_step bG hb); (try clear hb)) | ((with_reducible refine gate_dst (N := 26) rfl ?_); refine Kd.R_lit (Kd.int .i64) _ 3 ?hg (N := 26) ?hd (xs := ([] : List Int)) (inner := []) (ok := fun _ => True) (okp := fun _ => True) ?hr ?hp (fun _ hk => hk) trivial (Below.refl _ _) (Nat.le_refl _) (by simp) ?_; (case hd => rfl); (case hg => rfl); (case hr => first | (go_simp; done) | (go_simp; rfl)); (case hp => exact (Reps.none _ _)); intro v457 w9 ho10 hb hg_ hnew_; clear hg_ hnew_; (first | rw [← Ny456.out] at ho10 | (simp only [Int.reduceToNat] at ho10; rw [← Ny456.out] at ho10)); have HO458 := Aside0.mk (Kd.R_lower ho10 (below_size bG)); replace BK454 := Aside0.mk (blk_below (g := gb454) (bK BK454) hb); replace HB := Aside0.mk (below_step bG hb); clear hb ho10))
  go_ret
  exact ⟨_, by first | rfl | (simp [errW_none, errW_some] <;> rfl) | (simp [*, errW_none, errW_some] <;> rfl), by (with_reducible repeat (first | apply Kd.R_alloc | apply Kd.R_drewN | apply Kd.R_drew)); exact HO458.out, bG⟩
 ·
  rw [if_neg c5] at H
  have c5b0 : (t455 == 0) = false := beq_eq_false_iff_ne.mpr c5
  have c5b1 : (t455 != 0) = true := bne_iff_ne.mpr c5
  obtain ⟨t459, A11, H⟩ := bindE H
  try dsimp only at H
  by_cases c12 : t459 = true
  ·
   subst c12
   have H1 : ((impl_AreWants.f k l0 l2).bind fun t460 => (if t460 = true then ((impl_AddToStage.f k l0 (([t455] : List Int))).bind fun t464 => (some t464)) else (some (([] : List Int))))) = some r := by rw [if_pos rfl] at H; exact H
   clear H
   have H := H1
   clear H1
   obtain ⟨t460, A13, H⟩ := bindE H
   try dsimp only at H
   by_cases c14 : t460 = true
   ·
    subst c14
    have H1 : ((impl_AddToStage.f k l0 (([t455] : List Int))).bind fun t464 => (some t464)) = some r := by rw [if_pos rfl] at H; exact H
    clear H
    have H := H1
    clear H1
    obtain ⟨y461, hy461⟩ : ∃ y_ : List Int, y_ = (([t455] : List Int)) := ⟨_, rfl⟩
    replace H : ((impl_AddToStage.f k l0 y461).bind fun t464 => (some t464)) = some r := by first | (rw [hy461]; with_reducible exact H) | (have H2_ := (Option.bind_some _ _).symm.trans H; rw [hy461]; with_reducible exact H2_) | (have H2_ := (Option.bind_some _ _).symm.trans H; with_reducible exact H2_) | with_reducible exact H | (rw [hy461]; exact H) | exact H
    have Ny461 := Aside0.mk hy461
    clear hy461
    obtain ⟨t464, A15, H⟩ := bindE H
    try dsimp only at H
    obtain rfl := Option.some.inj H
    go_enter Try.func49, Try.ntmps49
    go_wp2_with (first | ((with_reducible refine gate_dst (N := 4) rfl ?_); refine bE (N := 4) (cs := #[.slice A1_0 l1_0.length c1_0, .int .i64 a1_1, .slice A1_2 l1_2.length c1_2, .int .i64 a1_3]) (t := 57) ?_; intro gb454 hg w16 hbox hb; have n0_ := Aside0.mk (below_step bA hb); have n1_ := Aside0.mk (hbox); have n2_ := Aside0.mk ((by rw [hg]; exact (below_size bA) : w.heap.size ≤ gb454)); have n3_ := Aside0.mk ((by rw [hg]; exact (below_size bA) : w.heap.size ≤ gb454)); clear HB; have HB := n0_; have BK454 := n1_; have GW454 := n2_; have GE454 := n3_; clear n0_ n1_ n2_ n3_; clear hb hbox hg; have hcz17_0 : w16.cell? ⟨gb454, 0, none⟩ = some (.slice A1_0 l1_0.length c1_0) := bC BK454 0; have hcz17_1 : w16.cell? ⟨gb454, 1, none⟩ = some (.int .i64 a1_1) := bC BK454 1; have hcz17_2 : w16.cell? ⟨gb454, 2, none⟩ = some (.slice A1_2 l1_2.length c1_2) := bC BK454 2; have hcz17_3 : w16.cell? ⟨gb454, 3, none⟩ = some (.int .i64 a1_3) := bC BK454 3; have hfz17_0 := blk_frozen BK454.out 0; have hfz17_1 := blk_frozen BK454.out 1; have hfz17_2 := blk_frozen BK454.out 2; have hfz17_3 := blk_frozen BK454.out 3) | ((with_reducible refine gate_callee (f := 96) rfl ?_); refine gL (some 11) Try.func96 #[.slice A2 l2.length c2, .slice A1_0 l1_0.length c1_0] ?_; (with_reducible refine (impl_LongestWant.calls k _ _ l2 _ _ l1_0 t455 _ ?side1 ?side2 ?side3 ?side4 A4.out).mono ?_); (case side1 => exact cB HR2); (case side2 => exact HC2.out); (case side3 => exact cB HR1_0); (case side4 => exact HC1_0.out); rintro e w18 ⟨rfl, hb⟩; refine ⟨_, rfl, ?_⟩; replace BK454 := Aside0.mk (blk_below (g := gb454) (bK BK454) hb); replace HB := Aside0.mk (below_step bG hb); (try clear hb); have hcz19_0 : w18.cell? ⟨gb454, 0, none⟩ = some (.slice A1_0 l1_0.length c1_0) := bC BK454 0; have hcz19_1 : w18.cell? ⟨gb454, 1, none⟩ = some (.int .i64 a1_1) := bC BK454 1; have hcz19_2 : w18.cell? ⟨gb454, 2, none⟩ = some (.slice A1_2 l1_2.length c1_2) := bC BK454 2; have hcz19_3 : w18.cell? ⟨gb454, 3, none⟩ = some (.int .i64 a1_3) := bC BK454 3; have hfz19_0 := blk_frozen BK454.out 0; have hfz19_1 := blk_frozen BK454.out 1; have hfz19_2 := blk_frozen BK454.out 2; have hfz19_3 := blk_frozen BK454.out 3) | (go_at_call 97; (with_reducible refine (impl_IsControl.calls k _ _ l0 _ _ l1_0 a1_1 _ _ l1_2 a1_3 true _ ?side1 ?side2 ?side3 ?side4 ?side5 ?side6 A11.out).mono ?_); (case side1 => exact cB HR0); (case side2 => exact HC0.out); (case side3 => exact cB HR1_0); (case side4 => exact HC1_0.out); (case side5 => exact cB HR1_2); (case side6 => exact HC1_2.out); rintro e w20 ⟨rfl, hb⟩; replace BK454 := Aside0.mk (blk_below (g := gb454) (bK BK454) hb); replace HB := Aside0.mk (below_step bG hb); (try clear hb)) | (go_at_call 98; (with_reducible refine (impl_AreWants.calls k _ _ l0 _ _ l2 true _ ?side1 ?side2 ?side3 ?side4 A13.out).mono ?_); (case side1 => exact cB HR0); (case side2 => exact HC0.out); (case side3 => exact cB HR2); (case side4 => exact HC2.out); rintro e w21 ⟨rfl, hb⟩; replace BK454 := Aside0.mk (blk_below (g := gb454) (bK BK454) hb); replace HB := Aside0.mk (below_step bG hb); (try clear hb)) | ((with_reducible refine gate_dst (N := 29) rfl ?_); refine Kd.R_lit (Kd.int .i64) _ 3 ?hg (N := 29) ?hd (xs := ([t455] : List Int)) (inner := [.int .i64 t455]) (ok := fun _ => True) (okp := fun _ => True) ?hr ?hp (fun _ hk => hk) trivial (Below.refl _ _) (Nat.le_refl _) (by simp) ?_; (case hd => rfl); (case hg => rfl); (case hr => first | (go_simp; done) | (go_simp; rfl)); (case hp => exact (Reps.one (show Kd.M (Kd.int .i64) _ _ _ t455 [.int .i64 t455] from rfl) (Reps.none _ _))); intro v462 w22 ho23 hb hg_ hnew_; clear hg_ hnew_; (first | rw [← Ny461.out] at ho23 | (simp only [Int.reduceToNat] at ho23; rw [← Ny461.out] at ho23)); have HO463 := Aside0.mk (Kd.R_lower ho23 (below_size bG)); replace BK454 := Aside0.mk (blk_below (g := gb454) (bK BK454) hb); replace HB := Aside0.mk (below_step bG hb); clear hb ho23; obtain ⟨Ao24, co24, eo24⟩ := Kd.R_slice HO463.out; subst eo24) | ((with_reducible refine gate_callee (f := 99) rfl ?_); refine gL (some 30) Try.func99 #[.slice A0 l0.length c0, .slice Ao24 y461.length co24] ?_; (with_reducible refine (impl_AddToStage.calls k _ _ l0 _ _ y461 t464 _ ?side1 ?side2 ?side3 ?side4 A15.out).mono ?_); (case side1 => exact cB HR0); (case side2 => exact HC0.out); (case side3 => exact cO ⟨(Kd.R_reads' HO463.out).2.2⟩); (case side4 => exact (Kd.R_reads' HO463.out).2.1); rintro e w25 ⟨v465, rfl, ho0, hb⟩; refine ⟨_, rfl, ?_⟩; have HO466 := Aside0.mk (Kd.R_lower (Kd.R_new' ho0 (Kd.R_lt (rK HO463))) (below_size bG)); replace HO463 := Aside0.mk (Kd.R_elder' (rK HO463) (Kd.R_base ho0) hb); replace BK454 := Aside0.mk (blk_below (g := gb454) (bK BK454) hb); replace HB := Aside0.mk (below_step bG hb); (try clear hb); (try clear ho0)))
    go_ret
    exact ⟨_, by first | rfl | (simp [errW_none, errW_some] <;> rfl) | (simp [*, errW_none, errW_some] <;> rfl), by (with_reducible repeat (first | apply Kd.R_alloc | apply Kd.R_drewN | apply Kd.R_drew)); exact Kd.R_mono HO466.out (fun _ hk => trivial), bG⟩
   ·
    replace c14 := Bool.eq_false_iff.mpr c14
    subst c14
    have H1 : (some (([] : List Int))) = some r := by rw [if_neg (show ¬ (false = true) by decide)] at H; exact H
    clear H
    have H := H1
    clear H1
    obtain ⟨y467, hy467⟩ : ∃ y_ : List Int, y_ = (([] : List Int)) := ⟨_, rfl⟩
    replace H : (some y467) = some r := by first | (rw [hy467]; with_reducible exact H) | (have H2_ := (Option.bind_some _ _).symm.trans H; rw [hy467]; with_reducible exact H2_) | (have H2_ := (Option.bind_some _ _).symm.trans H; with_reducible exact H2_) | with_reducible exact H | (rw [hy467]; exact H) | exact H
    have Ny467 := Aside0.mk hy467
    clear hy467
    obtain rfl := Option.some.inj H
    go_enter Try.func49, Try.ntmps49
    go_wp2_with (first | ((with_reducible refine gate_dst (N := 4) rfl ?_); refine bE (N := 4) (cs := #[.slice A1_0 l1_0.length c1_0, .int .i64 a1_1, .slice A1_2 l1_2.length c1_2, .int .i64 a1_3]) (t := 57) ?_; intro gb454 hg w26 hbox hb; have n0_ := Aside0.mk (below_step bA hb); have n1_ := Aside0.mk (hbox); have n2_ := Aside0.mk ((by rw [hg]; exact (below_size bA) : w.heap.size ≤ gb454)); have n3_ := Aside0.mk ((by rw [hg]; exact (below_size bA) : w.heap.size ≤ gb454)); clear HB; have HB := n0_; have BK454 := n1_; have GW454 := n2_; have GE454 := n3_; clear n0_ n1_ n2_ n3_; clear hb hbox hg; have hcz27_0 : w26.cell? ⟨gb454, 0, none⟩ = some (.slice A1_0 l1_0.length c1_0) := bC BK454 0; have hcz27_1 : w26.cell? ⟨gb454, 1, none⟩ = some (.int .i64 a1_1) := bC BK454 1; have hcz27_2 : w26.cell? ⟨gb454, 2, none⟩ = some (.slice A1_2 l1_2.length c1_2) := bC BK454 2; have hcz27_3 : w26.cell? ⟨gb454, 3, none⟩ = some (.int .i64 a1_3) := bC BK454 3; have hfz27_0 := blk_frozen BK454.out 0; have hfz27_1 := blk_frozen BK454.out 1; have hfz27_2 := blk_frozen BK454.out 2; have hfz27_3 := blk_frozen BK454.out 3) | ((with_reducible refine gate_callee (f := 96) rfl ?_); refine gL (some 11) Try.func96 #[.slice A2 l2.length c2, .slice A1_0 l1_0.length c1_0] ?_; (with_reducible refine (impl_LongestWant.calls k _ _ l2 _ _ l1_0 t455 _ ?side1 ?side2 ?side3 ?side4 A4.out).mono ?_); (case side1 => exact cB HR2); (case side2 => exact HC2.out); (case side3 => exact cB HR1_0); (case side4 => exact HC1_0.out); rintro e w28 ⟨rfl, hb⟩; refine ⟨_, rfl, ?_⟩; replace BK454 := Aside0.mk (blk_below (g := gb454) (bK BK454) hb); replace HB := Aside0.mk (below_step bG hb); (try clear hb); have hcz29_0 : w28.cell? ⟨gb454, 0, none⟩ = some (.slice A1_0 l1_0.length c1_0) := bC BK454 0; have hcz29_1 : w28.cell? ⟨gb454, 1, none⟩ = some (.int .i64 a1_1) := bC BK454 1; have hcz29_2 : w28.cell? ⟨gb454, 2, none⟩ = some (.slice A1_2 l1_2.length c1_2) := bC BK454 2; have hcz29_3 : w28.cell? ⟨gb454, 3, none⟩ = some (.int .i64 a1_3) := bC BK454 3; have hfz29_0 := blk_frozen BK454.out 0; have hfz29_1 := blk_frozen BK454.out 1; have hfz29_2 := blk_frozen BK454.out 2; have hfz29_3 := blk_frozen BK454.out 3) | (go_at_call 97; (with_reducible refine (impl_IsControl.calls k _ _ l0 _ _ l1_0 a1_1 _ _ l1_2 a1_3 true _ ?side1 ?side2 ?side3 ?side4 ?side5 ?side6 A11.out).mono ?_); (case side1 => exact cB HR0); (case side2 => exact HC0.out); (case side3 => exact cB HR1_0); (case side4 => exact HC1_0.out); (case side5 => exact cB HR1_2); (case side6 => exact HC1_2.out); rintro e w30 ⟨rfl, hb⟩; replace BK454 := Aside0.mk (blk_below (g := gb454) (bK BK454) hb); replace HB := Aside0.mk (below_step bG hb); (try clear hb)) | (go_at_call 98; (with_reducible refine (impl_AreWants.calls k _ _ l0 _ _ l2 false _ ?side1 ?side2 ?side3 ?side4 A13.out).mono ?_); (case side1 => exact cB HR0); (case side2 => exact HC0.out); (case side3 => exact cB HR2); (case side4 => exact HC2.out); rintro e w31 ⟨rfl, hb⟩; replace BK454 := Aside0.mk (blk_below (g := gb454) (bK BK454) hb); replace HB := Aside0.mk (below_step bG hb); (try clear hb)) | ((with_reducible refine gate_dst (N := 26) rfl ?_); refine Kd.R_lit (Kd.int .i64) _ 3 ?hg (N := 26) ?hd (xs := ([] : List Int)) (inner := []) (ok := fun _ => True) (okp := fun _ => True) ?hr ?hp (fun _ hk => hk) trivial (Below.refl _ _) (Nat.le_refl _) (by simp) ?_; (case hd => rfl); (case hg => rfl); (case hr => first | (go_simp; done) | (go_simp; rfl)); (case hp => exact (Reps.none _ _)); intro v468 w32 ho33 hb hg_ hnew_; clear hg_ hnew_; (first | rw [← Ny467.out] at ho33 | (simp only [Int.reduceToNat] at ho33; rw [← Ny467.out] at ho33)); have HO469 := Aside0.mk (Kd.R_lower ho33 (below_size bG)); replace BK454 := Aside0.mk (blk_below (g := gb454) (bK BK454) hb); replace HB := Aside0.mk (below_step bG hb); clear hb ho33))
    go_ret
    exact ⟨_, by first | rfl | (simp [errW_none, errW_some] <;> rfl) | (simp [*, errW_none, errW_some] <;> rfl), by (with_reducible repeat (first | apply Kd.R_alloc | apply Kd.R_drewN | apply Kd.R_drew)); exact HO469.out, bG⟩
  ·
   replace c12 := Bool.eq_false_iff.mpr c12
   subst c12
   have H1 : (some (([] : List Int))) = some r := by rw [if_neg (show ¬ (false = true) by decide)] at H; exact H
   clear H
   have H := H1
   clear H1
   obtain ⟨y470, hy470⟩ : ∃ y_ : List Int, y_ = (([] : List Int)) := ⟨_, rfl⟩
   replace H : (some y470) = some r := by first | (rw [hy470]; with_reducible exact H) | (have H2_ := (Option.bind_some _ _).symm.trans H; rw [hy470]; with_reducible exact H2_) | (have H2_ := (Option.bind_some _ _).symm.trans H; with_reducible exact H2_) | with_reducible exact H | (rw [hy470]; exact H) | exact H
   have Ny470 := Aside0.mk hy470
   clear hy470
   obtain rfl := Option.some.inj H
   go_enter Try.func49, Try.ntmps49
   go_wp2_with (first | ((with_reducible refine gate_dst (N := 4) rfl ?_); refine bE (N := 4) (cs := #[.slice A1_0 l1_0.length c1_0, .int .i64 a1_1, .slice A1_2 l1_2.length c1_2, .int .i64 a1_3]) (t := 57) ?_; intro gb454 hg w34 hbox hb; have n0_ := Aside0.mk (below_step bA hb); have n1_ := Aside0.mk (hbox); have n2_ := Aside0.mk ((by rw [hg]; exact (below_size bA) : w.heap.size ≤ gb454)); have n3_ := Aside0.mk ((by rw [hg]; exact (below_size bA) : w.heap.size ≤ gb454)); clear HB; have HB := n0_; have BK454 := n1_; have GW454 := n2_; have GE454 := n3_; clear n0_ n1_ n2_ n3_; clear hb hbox hg; have hcz35_0 : w34.cell? ⟨gb454, 0, none⟩ = some (.slice A1_0 l1_0.length c1_0) := bC BK454 0; have hcz35_1 : w34.cell? ⟨gb454, 1, none⟩ = some (.int .i64 a1_1) := bC BK454 1; have hcz35_2 : w34.cell? ⟨gb454, 2, none⟩ = some (.slice A1_2 l1_2.length c1_2) := bC BK454 2; have hcz35_3 : w34.cell? ⟨gb454, 3, none⟩ = some (.int .i64 a1_3) := bC BK454 3; have hfz35_0 := blk_frozen BK454.out 0; have hfz35_1 := blk_frozen BK454.out 1; have hfz35_2 := blk_frozen BK454.out 2; have hfz35_3 := blk_frozen BK454.out 3) | ((with_reducible refine gate_callee (f := 96) rfl ?_); refine gL (some 11) Try.func96 #[.slice A2 l2.length c2, .slice A1_0 l1_0.length c1_0] ?_; (with_reducible refine (impl_LongestWant.calls k _ _ l2 _ _ l1_0 t455 _ ?side1 ?side2 ?side3 ?side4 A4.out).mono ?_); (case side1 => exact cB HR2); (case side2 => exact HC2.out); (case side3 => exact cB HR1_0); (case side4 => exact HC1_0.out); rintro e w36 ⟨rfl, hb⟩; refine ⟨_, rfl, ?_⟩; replace BK454 := Aside0.mk (blk_below (g := gb454) (bK BK454) hb); replace HB := Aside0.mk (below_step bG hb); (try clear hb); have hcz37_0 : w36.cell? ⟨gb454, 0, none⟩ = some (.slice A1_0 l1_0.length c1_0) := bC BK454 0; have hcz37_1 : w36.cell? ⟨gb454, 1, none⟩ = some (.int .i64 a1_1) := bC BK454 1; have hcz37_2 : w36.cell? ⟨gb454, 2, none⟩ = some (.slice A1_2 l1_2.length c1_2) := bC BK454 2; have hcz37_3 : w36.cell? ⟨gb454, 3, none⟩ = some (.int .i64 a1_3) := bC BK454 3; have hfz37_0 := blk_frozen BK454.out 0; have hfz37_1 := blk_frozen BK454.out 1; have hfz37_2 := blk_frozen BK454.out 2; have hfz37_3 := blk_frozen BK454.out 3) | (go_at_call 97; (with_reducible refine (impl_IsControl.calls k _ _ l0 _ _ l1_0 a1_1 _ _ l1_2 a1_3 false _ ?side1 ?side2 ?side3 ?side4 ?side5 ?side6 A11.out).mono ?_); (case side1 => exact cB HR0); (case side2 => exact HC0.out); (case side3 => exact cB HR1_0); (case side4 => exact HC1_0.out); (case side5 => exact cB HR1_2); (case side6 => exact HC1_2.out); rintro e w38 ⟨rfl, hb⟩; replace BK454 := Aside0.mk (blk_below (g := gb454) (bK BK454) hb); replace HB := Aside0.mk (below_step bG hb); (try clear hb)) | ((with_reducible refine gate_dst (N := 26) rfl ?_); refine Kd.R_lit (Kd.int .i64) _ 3 ?hg (N := 26) ?hd (xs := ([] : List Int)) (inner := []) (ok := fun _ => True) (okp := fun _ => True) ?hr ?hp (fun _ hk => hk) trivial (Below.refl _ _) (Nat.le_refl _) (by simp) ?_; (case hd => rfl); (case hg => rfl); (case hr => first | (go_simp; done) | (go_simp; rfl)); (case hp => exact (Reps.none _ _)); intro v471 w39 ho40 hb hg_ hnew_; clear hg_ hnew_; (first | rw [← Ny470.out] at ho40 | (simp only [Int.reduceToNat] at ho40; rw [← Ny470.out] at ho40)); have HO472 := Aside0.mk (Kd.R_lower ho40 (below_size bG)); replace BK454 := Aside0.mk (blk_below (g := gb454) (bK BK454) hb); replace HB := Aside0.mk (below_step bG hb); clear hb ho40))
   go_ret
   exact ⟨_, by first | rfl | (simp [errW_none, errW_some] <;> rfl) | (simp [*, errW_none, errW_some] <;> rfl), by (with_reducible repeat (first | apply Kd.R_alloc | apply Kd.R_drewN | apply Kd.R_drew)); exact HO472.out, bG⟩

/-! ### impl_LeastGreen: function 77 -/
def impl_LeastGreen.l0 : Nat → List (S89) → List Int → Int → Int → Option (Int)
 | 0, _, _, _, _ => none
 | k + 1, x0, x8, x9, x10 => if x10 < x9 then (if 0 ≤ x10 then (if x10 < (x8.length : Int) then ((impl_FindPath.f x0 (rd x8 x10)).bind fun t474 => (if t474 ≥ 0 then (if 0 ≤ t474 then (if t474 < (x0.length : Int) then (if ((rd_T89 x0 t474).f1) = 2 then (some 7) else (impl_LeastGreen.l0 k x0 x8 x9 (wrap64 (x10 + 1)))) else (none)) else (none)) else (impl_LeastGreen.l0 k x0 x8 x9 (wrap64 (x10 + 1))))) else (none)) else (none)) else (some 5)
def impl_LeastGreen.f (k : Nat) (l0 : List (S89)) (l1 : List Int) : Option (Int) := impl_LeastGreen.l0 k l0 l1 (l1.length : Int) 0
theorem impl_LeastGreen.mono_l : ∀ k, (∀ y0 y1 y2 y3, LeO (impl_LeastGreen.l0 k y0 y1 y2 y3) (impl_LeastGreen.l0 (k + 1) y0 y1 y2 y3))
 | 0 => fun _ _ _ _ r h => by simp [impl_LeastGreen.l0] at h
 | k + 1 => by
  have ih0 := impl_LeastGreen.mono_l k
  ·
   intro y0 y1 y2 y3
   unfold impl_LeastGreen.l0
   repeat' first | (with_reducible first | exact LeO.refl _ | exact LeO.none _ | refine LeO.ite ?_ ?_ | refine LeO.bind ?_ (fun _ => ?_) | exact ih0 _ _ _ _)
theorem impl_LeastGreen.mono : ∀ a0 a1 k, LeO (impl_LeastGreen.f k a0 a1) (impl_LeastGreen.f (k + 1) a0 a1) := by
 intro a0 a1 k
 have ih0 := impl_LeastGreen.mono_l k
 unfold impl_LeastGreen.f
 repeat' first | (with_reducible first | exact LeO.refl _ | exact LeO.none _ | refine LeO.ite ?_ ?_ | refine LeO.bind ?_ (fun _ => ?_) | exact ih0 _ _ _ _)
set_option maxHeartbeats 8000000 in
set_option maxRecDepth 100000 in
theorem impl_LeastGreen.calls (k : Nat) (A0 : Option Addr) (c0 : Nat) (l0 : List (S89)) (A1 : Option Addr) (c1 : Nat) (l1 : List Int) (r : Int) (w : World) (hr0 : Kd.C k89 w A0 l0.length l0) (hc0 : l0.length ≤ c0) (hr1 : Kd.C (Kd.int .i64) w A1 l1.length l1) (hc1 : l1.length ≤ c1) (h : impl_LeastGreen.f k l0 l1 = some r) :
  Calls Try.prog 77 #[.slice A0 l0.length c0, .slice A1 l1.length c1] w fun e w' => e = .returned (.int .i64 r) ∧ Below w.heap.size w w' := by
 have HR0 := Aside0.mk hr0
 have HC0 := Aside0.mk hc0
 clear hr0 hc0
 have HR1 := Aside0.mk hr1
 have HC1 := Aside0.mk hc1
 clear hr1 hc1
 have HB := Aside0.mk (Below.refl w.heap.size w)
 have H : (impl_LeastGreen.l0 k l0 l1 (l1.length : Int) 0) = some r := h
 clear h
 have H' := Aside0.mk H
 clear H
 go_enter Try.func77, Try.ntmps77
 go_wp2
 go_loopg [10] k (fun kq v10 w' => ∃ (x10_1 : Int), v10 = .int .i64 x10_1 ∧ Aside0 (impl_LeastGreen.l0 kq l0 l1 (l1.length : Int) x10_1 = some r) ∧ Aside0 (kq ≤ k) ∧ Aside0 (Below w.heap.size w w'))
 case atStart => exact ⟨(0), rS, H', ⟨Nat.le_refl _⟩, ⟨bA⟩⟩
 case round =>
  clear H'
  try clear c1
  try clear p2
  obtain ⟨x10_1, rfl, HA, HK1, HB⟩ := hrel
  cases gk with
  | zero => exact absurd HA.out (by simp [impl_LeastGreen.l0])
  | succ k1 =>
   have H := HA.out
   clear HA
   simp only [impl_LeastGreen.l0] at H
   by_cases c3 : x10_1 < (l1.length : Int)
   ·
    rw [if_pos c3] at H
    have c3b0 := decide_eq_true c3
    clear c3
    have c4 : 0 ≤ x10_1 := ifN H
    replace H := ifT H
    have c4b0 := decide_eq_true c4
    clear c4
    have c5 : x10_1 < (l1.length : Int) := ifN H
    replace H := ifT H
    have c5b0 := decide_eq_true c5
    clear c5
    obtain ⟨t474, A6, H⟩ := bindE H
    try dsimp only at H
    by_cases c7 : t474 ≥ 0
    ·
     rw [if_pos c7] at H
     have c7b0 := decide_eq_true c7
     clear c7
     have c8 : 0 ≤ t474 := ifN H
     replace H := ifT H
     have c8b0 := decide_eq_true c8
     clear c8
     have c9 : t474 < (l0.length : Int) := ifN H
     replace H := ifT H
     have c9b0 := decide_eq_true c9
     clear c9
     by_cases c10 : ((rd_T89 l0 t474).f1) = 2
     ·
      rw [if_pos c10] at H
      have c10b0 : (((rd_T89 l0 t474).f1) == 2) = true := beq_iff_eq.mpr c10
      have c10b1 : (((rd_T89 l0 t474).f1) != 2) = false := bne_eq_false_iff_eq.mpr c10
      clear c10
      obtain rfl := Option.some.inj H
      have p473 : 0 ≤ (x10_1 : Int) := dA
      have q473 : x10_1 < (l1.length : Int) := dA
      obtain ⟨ad473, e473, hx473_0⟩ := Kd.at_int HR1.out x10_1 p473 q473
      cases e473
      replace hx473_0 := hC HB hx473_0
      replace p473 := eq_true p473
      replace q473 := eq_true q473
      go_wp2_with (first | ((with_reducible refine gate_callee (f := 119) rfl ?_); refine gL (some 16) Try.func119 #[.slice A0 l0.length c0, .int .i64 (rd l1 x10_1)] ?_; (with_reducible refine (impl_FindPath.calls _ _ l0 (rd l1 x10_1) t474 _ ?side1 ?side2 A6.out).mono ?_); (case side1 => exact cB HR0); (case side2 => exact HC0.out); rintro e w11 ⟨rfl, hb⟩; refine ⟨_, rfl, ?_⟩; replace HB := Aside0.mk (below_step bA hb); (try clear hb); have p475 : 0 ≤ (t474 : Int) := dA; have q475 : t474 < (l0.length : Int) := dA; obtain ⟨ad475, e475, hx475_0, hx475_1, hx475_2, hx475_3⟩ := at_T89 HR0.out t474 p475 q475; cases e475; replace hx475_0 := hC HB hx475_0; replace hx475_1 := hC HB hx475_1; replace hx475_2 := hC HB hx475_2; replace hx475_3 := hC HB hx475_3; replace p475 := eq_true p475; replace q475 := eq_true q475))
      go_ret
      exact ⟨rA, bA⟩
     ·
      rw [if_neg c10] at H
      have c10b0 : (((rd_T89 l0 t474).f1) == 2) = false := beq_eq_false_iff_ne.mpr c10
      have c10b1 : (((rd_T89 l0 t474).f1) != 2) = true := bne_iff_ne.mpr c10
      have H' := Aside0.mk H
      clear H
      have p473 : 0 ≤ (x10_1 : Int) := dA
      have q473 : x10_1 < (l1.length : Int) := dA
      obtain ⟨ad473, e473, hx473_0⟩ := Kd.at_int HR1.out x10_1 p473 q473
      cases e473
      replace hx473_0 := hC HB hx473_0
      replace p473 := eq_true p473
      replace q473 := eq_true q473
      go_wp2_with (first | ((with_reducible refine gate_callee (f := 119) rfl ?_); refine gL (some 16) Try.func119 #[.slice A0 l0.length c0, .int .i64 (rd l1 x10_1)] ?_; (with_reducible refine (impl_FindPath.calls _ _ l0 (rd l1 x10_1) t474 _ ?side1 ?side2 A6.out).mono ?_); (case side1 => exact cB HR0); (case side2 => exact HC0.out); rintro e w12 ⟨rfl, hb⟩; refine ⟨_, rfl, ?_⟩; replace HB := Aside0.mk (below_step bA hb); (try clear hb); have p475 : 0 ≤ (t474 : Int) := dA; have q475 : t474 < (l0.length : Int) := dA; obtain ⟨ad475, e475, hx475_0, hx475_1, hx475_2, hx475_3⟩ := at_T89 HR0.out t474 p475 q475; cases e475; replace hx475_0 := hC HB hx475_0; replace hx475_1 := hC HB hx475_1; replace hx475_2 := hC HB hx475_2; replace hx475_3 := hC HB hx475_3; replace p475 := eq_true p475; replace q475 := eq_true q475))
      go_roundg k1
      case measure => have := HK1.out; omega
      case rel => exact ⟨(wrap64 (x10_1 + 1)), rS, H', ⟨by have := HK1.out; omega⟩, ⟨bA⟩⟩
    ·
     rw [if_neg c7] at H
     have c7b0 := decide_eq_false c7
     clear c7
     have H' := Aside0.mk H
     clear H
     have p473 : 0 ≤ (x10_1 : Int) := dA
     have q473 : x10_1 < (l1.length : Int) := dA
     obtain ⟨ad473, e473, hx473_0⟩ := Kd.at_int HR1.out x10_1 p473 q473
     cases e473
     replace hx473_0 := hC HB hx473_0
     replace p473 := eq_true p473
     replace q473 := eq_true q473
     go_wp2_with (first | ((with_reducible refine gate_callee (f := 119) rfl ?_); refine gL (some 16) Try.func119 #[.slice A0 l0.length c0, .int .i64 (rd l1 x10_1)] ?_; (with_reducible refine (impl_FindPath.calls _ _ l0 (rd l1 x10_1) t474 _ ?side1 ?side2 A6.out).mono ?_); (case side1 => exact cB HR0); (case side2 => exact HC0.out); rintro e w13 ⟨rfl, hb⟩; refine ⟨_, rfl, ?_⟩; replace HB := Aside0.mk (below_step bA hb); (try clear hb)))
     go_roundg k1
     case measure => have := HK1.out; omega
     case rel => exact ⟨(wrap64 (x10_1 + 1)), rS, H', ⟨by have := HK1.out; omega⟩, ⟨bA⟩⟩
   ·
    rw [if_neg c3] at H
    have c3b0 := decide_eq_false c3
    clear c3
    obtain rfl := Option.some.inj H
    go_wp2
    go_ret
    exact ⟨rA, bA⟩

/-! ### impl_CanEnd: function 86 -/
def impl_CanEnd.f (k : Nat) (l0 : List (S89)) (l1_0 : List Int) (a1_1 : Int) (l1_2 : List Int) (a1_3 : Int) : Option (Bool) := (impl_IsControl.f k l0 l1_0 a1_1 l1_2 a1_3).bind fun t477 => (if t477 = true then (if (l1_2.length : Int) = 0 then ((impl_LeastGreen.f k l0 l1_0).bind fun t478 => (some (decide (a1_1 ≥ t478)))) else (some false)) else (some false))
theorem impl_CanEnd.mono : ∀ a0 a1 a2 a3 a4 k, LeO (impl_CanEnd.f k a0 a1 a2 a3 a4) (impl_CanEnd.f (k + 1) a0 a1 a2 a3 a4) := by
 intro a0 a1 a2 a3 a4 k
 unfold impl_CanEnd.f
 repeat' first | (with_reducible first | exact LeO.refl _ | exact LeO.none _ | refine LeO.ite ?_ ?_ | refine LeO.bind ?_ (fun _ => ?_) | exact impl_IsControl.mono _ _ _ _ _ _ | exact impl_LeastGreen.mono _ _ _)
def impl_CanEnd.T1 : Bool × List (List Nat × List Nat) := (true, [([], []), ([], []), ([0, 1], [0, 1]), ([2, 2], [2]), ([3], [3]), ([4, 3], [3, 4]), ([5, 3], [3, 5]), ([6, 3], [3, 6]), ([3, 7], [3, 7]), ([8, 3], [8]), ([9], [9]), ([10, 9], [9, 10]), ([9], [9]), ([9], [9]), ([13, 9], [9, 13]), ([12, 14, 9, 9], [9, 12, 14]), ([11, 15, 9], [9, 11, 15]), ([9, 16], [9, 16]), ([17, 15, 0, 1, 2, 3, 4, 5, 6, 7, 8, 9, 10, 11, 12, 13, 14, 15, 16, 17], [17])])
def impl_CanEnd.B1 : List Nat := [0, 0, 3, 7, 15, 31, 63, 127, 255, 511, 1023, 2047, 1023, 1023, 9215, 29695, 65535, 131071, 262143]
theorem impl_CanEnd.tab1 : rtab .any (opsOf Try.f86 1) = impl_CanEnd.T1 := by kernel_rfl
theorem impl_CanEnd.bits1 : waitsOk impl_CanEnd.T1.2 impl_CanEnd.B1 = true := by kernel_rfl
set_option maxHeartbeats 8000000 in
set_option maxRecDepth 100000 in
theorem impl_CanEnd.calls (k : Nat) (A0 : Option Addr) (c0 : Nat) (l0 : List (S89)) (A1_0 : Option Addr) (c1_0 : Nat) (l1_0 : List Int) (a1_1 : Int) (A1_2 : Option Addr) (c1_2 : Nat) (l1_2 : List Int) (a1_3 : Int) (r : Bool) (w : World) (hr0 : Kd.C k89 w A0 l0.length l0) (hc0 : l0.length ≤ c0) (hr1_0 : Kd.C (Kd.int .i64) w A1_0 l1_0.length l1_0) (hc1_0 : l1_0.length ≤ c1_0) (hr1_2 : Kd.C (Kd.int .i64) w A1_2 l1_2.length l1_2) (hc1_2 : l1_2.length ≤ c1_2) (h : impl_CanEnd.f k l0 l1_0 a1_1 l1_2 a1_3 = some r) :
  Calls Try.prog 86 #[.slice A0 l0.length c0, .agg #[.slice A1_0 l1_0.length c1_0, .int .i64 a1_1, .slice A1_2 l1_2.length c1_2, .int .i64 a1_3]] w fun e w' => e = .returned (.bool r) ∧ Below w.heap.size w w' := by
 have hu57 := Try.underlying57
 have HR0 := Aside0.mk hr0
 have HC0 := Aside0.mk hc0
 clear hr0 hc0
 have HR1_0 := Aside0.mk hr1_0
 have HC1_0 := Aside0.mk hc1_0
 clear hr1_0 hc1_0
 have HR1_2 := Aside0.mk hr1_2
 have HC1_2 := Aside0.mk hc1_2
 clear hr1_2 hc1_2
 have HB := Aside0.mk (Below.refl w.heap.size w)
 have H : ((impl_IsControl.f k l0 l1_0 a1_1 l1_2 a1_3).bind fun t477 => (if t477 = true then (if (l1_2.length : Int) = 0 then ((impl_LeastGreen.f k l0 l1_0).bind fun t478 => (some (decide (a1_1 ≥ t478)))) else (some false)) else (some false))) = some r := h
 clear h
 obtain ⟨t477, A3, H⟩ := bindE H
 try dsimp only at H
 by_cases c4 : t477 = true
 ·
  subst c4
  have H1 : (if (l1_2.length : Int) = 0 then ((impl_LeastGreen.f k l0 l1_0).bind fun t478 => (some (decide (a1_1 ≥ t478)))) else (some false)) = some r := by rw [if_pos rfl] at H; exact H
  clear H
  have H := H1
  clear H1
  by_cases c5 : (l1_2.length : Int) = 0
  ·
   rw [if_pos c5] at H
   have c5b0 : ((l1_2.length : Int) == 0) = true := beq_iff_eq.mpr c5
   have c5b1 : ((l1_2.length : Int) != 0) = false := bne_eq_false_iff_eq.mpr c5
   clear c5
   obtain ⟨t478, A6, H⟩ := bindE H
   try dsimp only at H
   obtain rfl := Option.some.inj H
   go_enter Try.func86, Try.ntmps86
   try go_wp2_with (first | ((with_reducible refine gate_dst (N := 3) rfl ?_); (try (refine gate_guard (by rfl) ?_; dsimp only)); refine bE (N := 3) (cs := #[.slice A1_0 l1_0.length c1_0, .int .i64 a1_1, .slice A1_2 l1_2.length c1_2, .int .i64 a1_3]) (t := 57) ?_; intro gb476 hg w7 hbox hb; have n0_ := Aside0.mk (below_step bA hb); have n1_ := Aside0.mk (hbox); have n2_ := Aside0.mk ((by rw [hg]; exact (below_size bA) : w.heap.size ≤ gb476)); have n3_ := Aside0.mk ((by rw [hg]; exact (below_size bA) : w.heap.size ≤ gb476)); clear HB; have HB := n0_; have BK476 := n1_; have GW476 := n2_; have GE476 := n3_; clear n0_ n1_ n2_ n3_; clear hb hbox hg))
   replace BK476 := Aside0.mk (blk_drew BK476.out)
   have HBo := HB
   replace HB := Aside0.mk (below_drew1 HB.out)
   refine start_ (n := 19) (S := fun w' => w'.cell? ⟨gb476, 0, none⟩ = some (.slice A1_0 l1_0.length c1_0) ∧ w'.cell? ⟨gb476, 1, none⟩ = some (.int .i64 a1_1) ∧ w'.cell? ⟨gb476, 2, none⟩ = some (.slice A1_2 l1_2.length c1_2) ∧ w'.cell? ⟨gb476, 3, none⟩ = some (.int .i64 a1_3)) (ds := []) (mb 19 0) (by kernel_rfl) rfl rfl ⟨bC BK476 0, bC BK476 1, bC BK476 2, bC BK476 3⟩ (fun hHeld => ?_); refine with_tabW impl_CanEnd.tab1 impl_CanEnd.bits1 (fun HT_ HW_ => ?_)
   generalize w7.drew = w8 at BK476 HB hHeld ⊢
   refine pA (i := 0) (N := some 5) (mb 19 1) HT_ ?_
   refine tA4 (i := 1) (N := some 6) (mb 19 3) HT_ HW_ hHeld ?_
   refine oA (i := 2) (N := some 7) (mb 19 7) HT_ (fun K hK => ?_)
   refine gA Try.func97 #[.slice A0 l0.length c0, .agg #[.slice A1_0 l1_0.length c1_0, .int .i64 a1_1, .slice A1_2 l1_2.length c1_2, .int .i64 a1_3]] ?_
   with_reducible refine (impl_IsControl.calls k _ _ l0 _ _ l1_0 a1_1 _ _ l1_2 a1_3 true _ ?side1 ?side2 ?side3 ?side4 ?side5 ?side6 A3.out).mono ?_
   (case side1 => exact cB HR0)
   (case side2 => exact HC0.out)
   (case side3 => exact cB HR1_0)
   (case side4 => exact HC1_0.out)
   (case side5 => exact cB HR1_2)
   (case side6 => exact HC1_2.out)
   rintro e w9 ⟨rfl, hb⟩
   refine ⟨_, rfl, ?_⟩
   replace BK476 := Aside0.mk (blk_below (g := gb476) (bK BK476) hb)
   replace HB := Aside0.mk (below_step bG hb)
   (try clear hb)
   (try clear hb2)
   (try clear hk)
   (try clear hi)
   refine hK.out _ _ ⟨bC BK476 0, bC BK476 1, bC BK476 2, bC BK476 3⟩ (fun hHeld => ?_)
   clear hK K
   refine nB ?_
   refine pA (i := 3) (N := some 8) (mb 19 15) HT_ ?_
   refine pA (i := 4) (N := some 9) (mb 19 31) HT_ ?_
   refine tA4 (i := 5) (N := some 10) (mb 19 63) HT_ HW_ hHeld ?_
   refine pA (i := 6) (N := some 11) (mb 19 127) HT_ ?_
   refine pA (i := 7) (N := some 12) (mb 19 255) HT_ ?_
   refine pA (i := 8) (N := some 13) (mb 19 511) HT_ ?_
   refine pA (i := 9) (N := some 14) (mb 19 1023) HT_ ?_
   refine pA (i := 10) (N := some 15) (mb 19 2047) HT_ ?_
   refine pA (i := 12) (N := some 17) (mb 19 6143) HT_ ?_
   refine pA (i := 13) (N := some 18) (mb 19 14335) HT_ ?_
   refine tA4 (i := 11) (N := some 16) (mb 19 16383) HT_ HW_ hHeld ?_
   refine tA4 (i := 14) (N := some 19) (mb 19 32767) HT_ HW_ hHeld ?_
   refine oA (i := 15) (N := some 20) (mb 19 65535) HT_ (fun K hK => ?_)
   refine gA Try.func77 #[.slice A0 l0.length c0, .slice A1_0 l1_0.length c1_0] ?_
   with_reducible refine (impl_LeastGreen.calls k _ _ l0 _ _ l1_0 t478 _ ?side1 ?side2 ?side3 ?side4 A6.out).mono ?_
   (case side1 => exact cB HR0)
   (case side2 => exact HC0.out)
   (case side3 => exact cB HR1_0)
   (case side4 => exact HC1_0.out)
   rintro e w10 ⟨rfl, hb⟩
   refine ⟨_, rfl, ?_⟩
   replace BK476 := Aside0.mk (blk_below (g := gb476) (bK BK476) hb)
   replace HB := Aside0.mk (below_step bG hb)
   (try clear hb)
   (try clear hb2)
   (try clear hk)
   (try clear hi)
   refine hK.out _ _ ⟨bC BK476 0, bC BK476 1, bC BK476 2, bC BK476 3⟩ (fun hHeld => ?_)
   clear hK K
   refine nB ?_
   refine pA (i := 16) (N := some 21) (mb 19 131071) HT_ ?_
   refine pA (i := 17) (N := some 22) (mb 19 262143) HT_ ?_
   refine pA (i := 18) (N := some 4) (mb 19 524287) HT_ ?_
   refine eA HT_ ?_
   try go_wp2
   go_ret
   exact ⟨rA, bG⟩
  ·
   rw [if_neg c5] at H
   have c5b0 : ((l1_2.length : Int) == 0) = false := beq_eq_false_iff_ne.mpr c5
   have c5b1 : ((l1_2.length : Int) != 0) = true := bne_iff_ne.mpr c5
   have c5b2 : ¬ (l1_2 = []) := fun h_ => c5 (by rw [h_]; rfl)
   obtain rfl := Option.some.inj H
   go_enter Try.func86, Try.ntmps86
   try go_wp2_with (first | ((with_reducible refine gate_dst (N := 3) rfl ?_); (try (refine gate_guard (by rfl) ?_; dsimp only)); refine bE (N := 3) (cs := #[.slice A1_0 l1_0.length c1_0, .int .i64 a1_1, .slice A1_2 l1_2.length c1_2, .int .i64 a1_3]) (t := 57) ?_; intro gb476 hg w11 hbox hb; have n0_ := Aside0.mk (below_step bA hb); have n1_ := Aside0.mk (hbox); have n2_ := Aside0.mk ((by rw [hg]; exact (below_size bA) : w.heap.size ≤ gb476)); have n3_ := Aside0.mk ((by rw [hg]; exact (below_size bA) : w.heap.size ≤ gb476)); clear HB; have HB := n0_; have BK476 := n1_; have GW476 := n2_; have GE476 := n3_; clear n0_ n1_ n2_ n3_; clear hb hbox hg))
   replace BK476 := Aside0.mk (blk_drew BK476.out)
   have HBo := HB
   replace HB := Aside0.mk (below_drew1 HB.out)
   refine start_ (n := 19) (S := fun w' => w'.cell? ⟨gb476, 0, none⟩ = some (.slice A1_0 l1_0.length c1_0) ∧ w'.cell? ⟨gb476, 1, none⟩ = some (.int .i64 a1_1) ∧ w'.cell? ⟨gb476, 2, none⟩ = some (.slice A1_2 l1_2.length c1_2) ∧ w'.cell? ⟨gb476, 3, none⟩ = some (.int .i64 a1_3)) (ds := []) (mb 19 0) (by kernel_rfl) rfl rfl ⟨bC BK476 0, bC BK476 1, bC BK476 2, bC BK476 3⟩ (fun hHeld => ?_); refine with_tabW impl_CanEnd.tab1 impl_CanEnd.bits1 (fun HT_ HW_ => ?_)
   generalize w11.drew = w12 at BK476 HB hHeld ⊢
   refine pA (i := 0) (N := some 5) (mb 19 1) HT_ ?_
   refine tA4 (i := 1) (N := some 6) (mb 19 3) HT_ HW_ hHeld ?_
   refine oA (i := 2) (N := some 7) (mb 19 7) HT_ (fun K hK => ?_)
   refine gA Try.func97 #[.slice A0 l0.length c0, .agg #[.slice A1_0 l1_0.length c1_0, .int .i64 a1_1, .slice A1_2 l1_2.length c1_2, .int .i64 a1_3]] ?_
   with_reducible refine (impl_IsControl.calls k _ _ l0 _ _ l1_0 a1_1 _ _ l1_2 a1_3 true _ ?side1 ?side2 ?side3 ?side4 ?side5 ?side6 A3.out).mono ?_
   (case side1 => exact cB HR0)
   (case side2 => exact HC0.out)
   (case side3 => exact cB HR1_0)
   (case side4 => exact HC1_0.out)
   (case side5 => exact cB HR1_2)
   (case side6 => exact HC1_2.out)
   rintro e w13 ⟨rfl, hb⟩
   refine ⟨_, rfl, ?_⟩
   replace BK476 := Aside0.mk (blk_below (g := gb476) (bK BK476) hb)
   replace HB := Aside0.mk (below_step bG hb)
   (try clear hb)
   (try clear hb2)
   (try clear hk)
   (try clear hi)
   refine hK.out _ _ ⟨bC BK476 0, bC BK476 1, bC BK476 2, bC BK476 3⟩ (fun hHeld => ?_)
   clear hK K
   refine nB ?_
   refine pA (i := 3) (N := some 8) (mb 19 15) HT_ ?_
   refine pA (i := 4) (N := some 9) (mb 19 31) HT_ ?_
   refine tA4 (i := 5) (N := some 10) (mb 19 63) HT_ HW_ hHeld ?_
   refine pA (i := 6) (N := some 11) (mb 19 127) HT_ ?_
   refine pA (i := 7) (N := some 12) (mb 19 255) HT_ ?_
   refine pA (i := 8) (N := some 13) (mb 19 511) HT_ ?_
   refine pA (i := 9) (N := some 14) (mb 19 1023) HT_ ?_
   refine pU (i := 10) (N := some 15) (mb 19 2047) HT_ ?_
   refine pU (i := 11) (N := some 16) (mb 19 4095) HT_ ?_
   refine pU (i := 12) (N := some 17) (mb 19 8191) HT_ ?_
   refine pU (i := 13) (N := some 18) (mb 19 16383) HT_ ?_
   refine pU (i := 14) (N := some 19) (mb 19 32767) HT_ ?_
   refine pU (i := 15) (N := some 20) (mb 19 65535) HT_ ?_
   refine pU (i := 16) (N := some 21) (mb 19 131071) HT_ ?_
   refine pA (i := 17) (N := some 22) (mb 19 262143) HT_ ?_
   refine pA (i := 18) (N := some 4) (mb 19 524287) HT_ ?_
   refine eA HT_ ?_
   try go_wp2
   go_ret
   exact ⟨rA, bG⟩
 ·
  replace c4 := Bool.eq_false_iff.mpr c4
  subst c4
  have H1 : (some false) = some r := by rw [if_neg (show ¬ (false = true) by decide)] at H; exact H
  clear H
  have H := H1
  clear H1
  obtain rfl := Option.some.inj H
  go_enter Try.func86, Try.ntmps86
  try go_wp2_with (first | ((with_reducible refine gate_dst (N := 3) rfl ?_); (try (refine gate_guard (by rfl) ?_; dsimp only)); refine bE (N := 3) (cs := #[.slice A1_0 l1_0.length c1_0, .int .i64 a1_1, .slice A1_2 l1_2.length c1_2, .int .i64 a1_3]) (t := 57) ?_; intro gb476 hg w14 hbox hb; have n0_ := Aside0.mk (below_step bA hb); have n1_ := Aside0.mk (hbox); have n2_ := Aside0.mk ((by rw [hg]; exact (below_size bA) : w.heap.size ≤ gb476)); have n3_ := Aside0.mk ((by rw [hg]; exact (below_size bA) : w.heap.size ≤ gb476)); clear HB; have HB := n0_; have BK476 := n1_; have GW476 := n2_; have GE476 := n3_; clear n0_ n1_ n2_ n3_; clear hb hbox hg))
  replace BK476 := Aside0.mk (blk_drew BK476.out)
  have HBo := HB
  replace HB := Aside0.mk (below_drew1 HB.out)
  refine start_ (n := 19) (S := fun w' => w'.cell? ⟨gb476, 0, none⟩ = some (.slice A1_0 l1_0.length c1_0) ∧ w'.cell? ⟨gb476, 1, none⟩ = some (.int .i64 a1_1) ∧ w'.cell? ⟨gb476, 2, none⟩ = some (.slice A1_2 l1_2.length c1_2) ∧ w'.cell? ⟨gb476, 3, none⟩ = some (.int .i64 a1_3)) (ds := []) (mb 19 0) (by kernel_rfl) rfl rfl ⟨bC BK476 0, bC BK476 1, bC BK476 2, bC BK476 3⟩ (fun hHeld => ?_); refine with_tabW impl_CanEnd.tab1 impl_CanEnd.bits1 (fun HT_ HW_ => ?_)
  generalize w14.drew = w15 at BK476 HB hHeld ⊢
  refine pA (i := 0) (N := some 5) (mb 19 1) HT_ ?_
  refine tA4 (i := 1) (N := some 6) (mb 19 3) HT_ HW_ hHeld ?_
  refine oA (i := 2) (N := some 7) (mb 19 7) HT_ (fun K hK => ?_)
  refine gA Try.func97 #[.slice A0 l0.length c0, .agg #[.slice A1_0 l1_0.length c1_0, .int .i64 a1_1, .slice A1_2 l1_2.length c1_2, .int .i64 a1_3]] ?_
  with_reducible refine (impl_IsControl.calls k _ _ l0 _ _ l1_0 a1_1 _ _ l1_2 a1_3 false _ ?side1 ?side2 ?side3 ?side4 ?side5 ?side6 A3.out).mono ?_
  (case side1 => exact cB HR0)
  (case side2 => exact HC0.out)
  (case side3 => exact cB HR1_0)
  (case side4 => exact HC1_0.out)
  (case side5 => exact cB HR1_2)
  (case side6 => exact HC1_2.out)
  rintro e w16 ⟨rfl, hb⟩
  refine ⟨_, rfl, ?_⟩
  replace BK476 := Aside0.mk (blk_below (g := gb476) (bK BK476) hb)
  replace HB := Aside0.mk (below_step bG hb)
  (try clear hb)
  (try clear hb2)
  (try clear hk)
  (try clear hi)
  refine hK.out _ _ ⟨bC BK476 0, bC BK476 1, bC BK476 2, bC BK476 3⟩ (fun hHeld => ?_)
  clear hK K
  refine nB ?_
  refine pA (i := 3) (N := some 8) (mb 19 15) HT_ ?_
  refine pU (i := 4) (N := some 9) (mb 19 31) HT_ ?_
  refine pU (i := 5) (N := some 10) (mb 19 63) HT_ ?_
  refine pU (i := 6) (N := some 11) (mb 19 127) HT_ ?_
  refine pU (i := 7) (N := some 12) (mb 19 255) HT_ ?_
  refine pA (i := 8) (N := some 13) (mb 19 511) HT_ ?_
  refine pA (i := 9) (N := some 14) (mb 19 1023) HT_ ?_
  refine pU (i := 10) (N := some 15) (mb 19 2047) HT_ ?_
  refine pU (i := 11) (N := some 16) (mb 19 4095) HT_ ?_
  refine pU (i := 12) (N := some 17) (mb 19 8191) HT_ ?_
  refine pU (i := 13) (N := some 18) (mb 19 16383) HT_ ?_
  refine pU (i := 14) (N := some 19) (mb 19 32767) HT_ ?_
  refine pU (i := 15) (N := some 20) (mb 19 65535) HT_ ?_
  refine pU (i := 16) (N := some 21) (mb 19 131071) HT_ ?_
  refine pA (i := 17) (N := some 22) (mb 19 262143) HT_ ?_
  refine pA (i := 18) (N := some 4) (mb 19 524287) HT_ ?_
  refine eA HT_ ?_
  try go_wp2
  go_ret
  exact ⟨rA, bG⟩

end Go.Proofs.Ytdkmmefmhfbgkaa.P
