/- Printed by myprint.py (wip/tools) over the kit's print: what Go's functions compute, and that they do. Lean checks it. -/
import Derived.Test.YtbpnbflfpgakmaaF0
import Derived.Test.YtbpnbflfpgakmaaFX00
import Derived.Test.YtbpnbflfpgakmaaFX00b
import Derived.Test.YtbpnbflfpgakmaaFX00c
namespace Go.Proofs.Ytbpnbflfpgakmaa.P
open Go.RowKit Go.Proofs.YtbpnbflfpgakmaaW.PrintWords Go.Proofs.YtbpnbflfpgakmaaW.PrintLast Go.Proofs.YtbpnbflfpgakmaaW.PrintMore Go.Proofs.Ytbpnbflfpgakmaa.Sq
attribute [local go_sem] max2_int min2_int max_two min_two max_three min_three max_four min_four
set_option linter.unusedVariables false
set_option linter.unusedSimpArgs false

/-! ### impl_ClearOf: function 90 -/
def impl_ClearOf.f (a0_0 : Int) (a0_1 : Int) (a0_2 : Int) (a0_3 : Int) : Option (Int) := (impl_IsPath.f a0_0 a0_1 a0_2 a0_3).bind fun t344 => (if t344 = true then (if a0_1 = 1 then (some 2) else (if a0_1 = 3 then (some 3) else (some 5))) else (some 0))
set_option maxHeartbeats 8000000 in
set_option maxRecDepth 100000 in
theorem impl_ClearOf.calls (a0_0 : Int) (a0_1 : Int) (a0_2 : Int) (a0_3 : Int) (r : Int) (w : World) (h : impl_ClearOf.f a0_0 a0_1 a0_2 a0_3 = some r) :
  Calls Try.prog 90 #[.agg #[.int .i64 a0_0, .int .i64 a0_1, .int .i64 a0_2, .int .i64 a0_3]] w fun e w' => e = .returned (.int .i64 r) ∧ Below w.heap.size w w' := by
 have hu58 := Try.underlying58
 have HB := Aside0.mk (Below.refl w.heap.size w)
 have H : ((impl_IsPath.f a0_0 a0_1 a0_2 a0_3).bind fun t344 => (if t344 = true then (if a0_1 = 1 then (some 2) else (if a0_1 = 3 then (some 3) else (some 5))) else (some 0))) = some r := h
 clear h
 obtain ⟨t344, A2, H⟩ := bindE H
 try dsimp only at H
 by_cases c3 : t344 = true
 ·
  subst c3
  have H1 : (if a0_1 = 1 then (some 2) else (if a0_1 = 3 then (some 3) else (some 5))) = some r := by rw [if_pos rfl] at H; exact H
  clear H
  have H := H1
  clear H1
  by_cases c4 : a0_1 = 1
  ·
   rw [if_pos c4] at H
   have c4b0 : (a0_1 == 1) = true := beq_iff_eq.mpr c4
   have c4b1 : (a0_1 != 1) = false := bne_eq_false_iff_eq.mpr c4
   clear c4
   obtain rfl := Option.some.inj H
   go_enter Try.func90, Try.ntmps90
   go_wp2_with (first | ((with_reducible refine gate_dst (N := 1) rfl ?_); refine bE (N := 1) (cs := #[.int .i64 a0_0, .int .i64 a0_1, .int .i64 a0_2, .int .i64 a0_3]) (t := 58) ?_; intro gb343 hg w5 hbox hb; have n0_ := Aside0.mk (below_step bA hb); have n1_ := Aside0.mk (hbox); have n2_ := Aside0.mk ((by rw [hg]; exact (below_size bA) : w.heap.size ≤ gb343)); have n3_ := Aside0.mk ((by rw [hg]; exact (below_size bA) : w.heap.size ≤ gb343)); clear HB; have HB := n0_; have BK343 := n1_; have GW343 := n2_; have GE343 := n3_; clear n0_ n1_ n2_ n3_; clear hb hbox hg; have hcz6_0 : w5.cell? ⟨gb343, 0, none⟩ = some (.int .i64 a0_0) := bC BK343 0; have hcz6_1 : w5.cell? ⟨gb343, 1, none⟩ = some (.int .i64 a0_1) := bC BK343 1; have hcz6_2 : w5.cell? ⟨gb343, 2, none⟩ = some (.int .i64 a0_2) := bC BK343 2; have hcz6_3 : w5.cell? ⟨gb343, 3, none⟩ = some (.int .i64 a0_3) := bC BK343 3; have hfz6_0 := blk_frozen BK343.out 0; have hfz6_1 := blk_frozen BK343.out 1; have hfz6_2 := blk_frozen BK343.out 2; have hfz6_3 := blk_frozen BK343.out 3) | ((with_reducible refine gate_callee (f := 95) rfl ?_); refine gL (some 4) Try.func95 #[.agg #[.int .i64 a0_0, .int .i64 a0_1, .int .i64 a0_2, .int .i64 a0_3]] ?_; (with_reducible refine (impl_IsPath.calls a0_0 a0_1 a0_2 a0_3 true _ A2.out).mono ?_); rintro e w7 ⟨rfl, hb⟩; refine ⟨_, rfl, ?_⟩; replace BK343 := Aside0.mk (blk_below (g := gb343) (bK BK343) hb); replace HB := Aside0.mk (below_step bG hb); (try clear hb); (try clear hb2); (try clear hk); (try clear hi); obtain ⟨hcz8_0, hcz8_1, hcz8_2, hcz8_3, hfz8_0, hfz8_1, hfz8_2, hfz8_3⟩ := blkc4 BK343))
   go_ret
   exact ⟨rA, bG⟩
  ·
   rw [if_neg c4] at H
   have c4b0 : (a0_1 == 1) = false := beq_eq_false_iff_ne.mpr c4
   have c4b1 : (a0_1 != 1) = true := bne_iff_ne.mpr c4
   by_cases c9 : a0_1 = 3
   ·
    rw [if_pos c9] at H
    have c9b0 : (a0_1 == 3) = true := beq_iff_eq.mpr c9
    have c9b1 : (a0_1 != 3) = false := bne_eq_false_iff_eq.mpr c9
    clear c9
    obtain rfl := Option.some.inj H
    go_enter Try.func90, Try.ntmps90
    go_wp2_with (first | ((with_reducible refine gate_dst (N := 1) rfl ?_); refine bE (N := 1) (cs := #[.int .i64 a0_0, .int .i64 a0_1, .int .i64 a0_2, .int .i64 a0_3]) (t := 58) ?_; intro gb343 hg w10 hbox hb; have n0_ := Aside0.mk (below_step bA hb); have n1_ := Aside0.mk (hbox); have n2_ := Aside0.mk ((by rw [hg]; exact (below_size bA) : w.heap.size ≤ gb343)); have n3_ := Aside0.mk ((by rw [hg]; exact (below_size bA) : w.heap.size ≤ gb343)); clear HB; have HB := n0_; have BK343 := n1_; have GW343 := n2_; have GE343 := n3_; clear n0_ n1_ n2_ n3_; clear hb hbox hg; have hcz11_0 : w10.cell? ⟨gb343, 0, none⟩ = some (.int .i64 a0_0) := bC BK343 0; have hcz11_1 : w10.cell? ⟨gb343, 1, none⟩ = some (.int .i64 a0_1) := bC BK343 1; have hcz11_2 : w10.cell? ⟨gb343, 2, none⟩ = some (.int .i64 a0_2) := bC BK343 2; have hcz11_3 : w10.cell? ⟨gb343, 3, none⟩ = some (.int .i64 a0_3) := bC BK343 3; have hfz11_0 := blk_frozen BK343.out 0; have hfz11_1 := blk_frozen BK343.out 1; have hfz11_2 := blk_frozen BK343.out 2; have hfz11_3 := blk_frozen BK343.out 3) | ((with_reducible refine gate_callee (f := 95) rfl ?_); refine gL (some 4) Try.func95 #[.agg #[.int .i64 a0_0, .int .i64 a0_1, .int .i64 a0_2, .int .i64 a0_3]] ?_; (with_reducible refine (impl_IsPath.calls a0_0 a0_1 a0_2 a0_3 true _ A2.out).mono ?_); rintro e w12 ⟨rfl, hb⟩; refine ⟨_, rfl, ?_⟩; replace BK343 := Aside0.mk (blk_below (g := gb343) (bK BK343) hb); replace HB := Aside0.mk (below_step bG hb); (try clear hb); (try clear hb2); (try clear hk); (try clear hi); obtain ⟨hcz13_0, hcz13_1, hcz13_2, hcz13_3, hfz13_0, hfz13_1, hfz13_2, hfz13_3⟩ := blkc4 BK343))
    go_ret
    exact ⟨rA, bG⟩
   ·
    rw [if_neg c9] at H
    have c9b0 : (a0_1 == 3) = false := beq_eq_false_iff_ne.mpr c9
    have c9b1 : (a0_1 != 3) = true := bne_iff_ne.mpr c9
    obtain rfl := Option.some.inj H
    go_enter Try.func90, Try.ntmps90
    go_wp2_with (first | ((with_reducible refine gate_dst (N := 1) rfl ?_); refine bE (N := 1) (cs := #[.int .i64 a0_0, .int .i64 a0_1, .int .i64 a0_2, .int .i64 a0_3]) (t := 58) ?_; intro gb343 hg w14 hbox hb; have n0_ := Aside0.mk (below_step bA hb); have n1_ := Aside0.mk (hbox); have n2_ := Aside0.mk ((by rw [hg]; exact (below_size bA) : w.heap.size ≤ gb343)); have n3_ := Aside0.mk ((by rw [hg]; exact (below_size bA) : w.heap.size ≤ gb343)); clear HB; have HB := n0_; have BK343 := n1_; have GW343 := n2_; have GE343 := n3_; clear n0_ n1_ n2_ n3_; clear hb hbox hg; have hcz15_0 : w14.cell? ⟨gb343, 0, none⟩ = some (.int .i64 a0_0) := bC BK343 0; have hcz15_1 : w14.cell? ⟨gb343, 1, none⟩ = some (.int .i64 a0_1) := bC BK343 1; have hcz15_2 : w14.cell? ⟨gb343, 2, none⟩ = some (.int .i64 a0_2) := bC BK343 2; have hcz15_3 : w14.cell? ⟨gb343, 3, none⟩ = some (.int .i64 a0_3) := bC BK343 3; have hfz15_0 := blk_frozen BK343.out 0; have hfz15_1 := blk_frozen BK343.out 1; have hfz15_2 := blk_frozen BK343.out 2; have hfz15_3 := blk_frozen BK343.out 3) | ((with_reducible refine gate_callee (f := 95) rfl ?_); refine gL (some 4) Try.func95 #[.agg #[.int .i64 a0_0, .int .i64 a0_1, .int .i64 a0_2, .int .i64 a0_3]] ?_; (with_reducible refine (impl_IsPath.calls a0_0 a0_1 a0_2 a0_3 true _ A2.out).mono ?_); rintro e w16 ⟨rfl, hb⟩; refine ⟨_, rfl, ?_⟩; replace BK343 := Aside0.mk (blk_below (g := gb343) (bK BK343) hb); replace HB := Aside0.mk (below_step bG hb); (try clear hb); (try clear hb2); (try clear hk); (try clear hi); obtain ⟨hcz17_0, hcz17_1, hcz17_2, hcz17_3, hfz17_0, hfz17_1, hfz17_2, hfz17_3⟩ := blkc4 BK343))
    go_ret
    exact ⟨rA, bG⟩
 ·
  replace c3 := Bool.eq_false_iff.mpr c3
  subst c3
  have H1 : (some 0) = some r := by rw [if_neg (show ¬ (false = true) by decide)] at H; exact H
  clear H
  have H := H1
  clear H1
  obtain rfl := Option.some.inj H
  go_enter Try.func90, Try.ntmps90
  go_wp2_with (first | ((with_reducible refine gate_dst (N := 1) rfl ?_); refine bE (N := 1) (cs := #[.int .i64 a0_0, .int .i64 a0_1, .int .i64 a0_2, .int .i64 a0_3]) (t := 58) ?_; intro gb343 hg w18 hbox hb; have n0_ := Aside0.mk (below_step bA hb); have n1_ := Aside0.mk (hbox); have n2_ := Aside0.mk ((by rw [hg]; exact (below_size bA) : w.heap.size ≤ gb343)); have n3_ := Aside0.mk ((by rw [hg]; exact (below_size bA) : w.heap.size ≤ gb343)); clear HB; have HB := n0_; have BK343 := n1_; have GW343 := n2_; have GE343 := n3_; clear n0_ n1_ n2_ n3_; clear hb hbox hg; have hcz19_0 : w18.cell? ⟨gb343, 0, none⟩ = some (.int .i64 a0_0) := bC BK343 0; have hcz19_1 : w18.cell? ⟨gb343, 1, none⟩ = some (.int .i64 a0_1) := bC BK343 1; have hcz19_2 : w18.cell? ⟨gb343, 2, none⟩ = some (.int .i64 a0_2) := bC BK343 2; have hcz19_3 : w18.cell? ⟨gb343, 3, none⟩ = some (.int .i64 a0_3) := bC BK343 3; have hfz19_0 := blk_frozen BK343.out 0; have hfz19_1 := blk_frozen BK343.out 1; have hfz19_2 := blk_frozen BK343.out 2; have hfz19_3 := blk_frozen BK343.out 3) | ((with_reducible refine gate_callee (f := 95) rfl ?_); refine gL (some 4) Try.func95 #[.agg #[.int .i64 a0_0, .int .i64 a0_1, .int .i64 a0_2, .int .i64 a0_3]] ?_; (with_reducible refine (impl_IsPath.calls a0_0 a0_1 a0_2 a0_3 false _ A2.out).mono ?_); rintro e w20 ⟨rfl, hb⟩; refine ⟨_, rfl, ?_⟩; replace BK343 := Aside0.mk (blk_below (g := gb343) (bK BK343) hb); replace HB := Aside0.mk (below_step bG hb); (try clear hb); (try clear hb2); (try clear hk); (try clear hi)))
  go_ret
  exact ⟨rA, bG⟩

/-! ### impl_sieve: function 104 -/
def impl_sieve.l0 : Nat → List Int → Bool → List Int → List Int → Int → Int → Option (List Int)
 | 0, _, _, _, _, _, _ => none
 | k + 1, x1, x2, x7, x11, x12, x13 => if x13 < x12 then (if 0 ≤ x13 then (if x13 < (x11.length : Int) then ((slices_Contains_int_int.f k x1 (rd x11 x13)).bind fun t351 => (if (t351 == x2) = true then (if x7.length < 17592186044416 then (impl_sieve.l0 k x1 x2 (x7 ++ [rd x11 x13]) x11 x12 (wrap64 (x13 + 1))) else (none)) else (impl_sieve.l0 k x1 x2 x7 x11 x12 (wrap64 (x13 + 1))))) else (none)) else (none)) else (some x7)
def impl_sieve.f (k : Nat) (l0 : List Int) (l1 : List Int) (a2 : Bool) : Option (List Int) := impl_sieve.l0 k l1 a2 (([] : List Int)) l0 (l0.length : Int) 0
theorem impl_sieve.mono_l : ∀ k, (∀ y0 y1 y2 y3 y4 y5, LeO (impl_sieve.l0 k y0 y1 y2 y3 y4 y5) (impl_sieve.l0 (k + 1) y0 y1 y2 y3 y4 y5))
 | 0 => fun _ _ _ _ _ _ r h => by simp [impl_sieve.l0] at h
 | k + 1 => by
  have ih0 := impl_sieve.mono_l k
  ·
   intro y0 y1 y2 y3 y4 y5
   unfold impl_sieve.l0
   repeat' first | (with_reducible first | exact LeO.refl _ | exact LeO.none _ | refine LeO.ite ?_ ?_ | refine LeO.bind ?_ (fun _ => ?_) | exact ih0 _ _ _ _ _ _ | exact slices_Contains_int_int.mono _ _ _) | exact LeO.none _ | refine LeO.ite ?_ ?_ | refine LeO.bind ?_ (fun _ => ?_) | exact ih0 _ _ _ _ _ _ | exact slices_Contains_int_int.mono _ _ _
theorem impl_sieve.mono : ∀ a0 a1 a2 k, LeO (impl_sieve.f k a0 a1 a2) (impl_sieve.f (k + 1) a0 a1 a2) := by
 intro a0 a1 a2 k
 have ih0 := impl_sieve.mono_l k
 unfold impl_sieve.f
 repeat' first | (with_reducible first | exact LeO.refl _ | exact LeO.none _ | refine LeO.ite ?_ ?_ | refine LeO.bind ?_ (fun _ => ?_) | exact ih0 _ _ _ _ _ _ | exact slices_Contains_int_int.mono _ _ _) | exact LeO.none _ | refine LeO.ite ?_ ?_ | refine LeO.bind ?_ (fun _ => ?_) | exact ih0 _ _ _ _ _ _ | exact slices_Contains_int_int.mono _ _ _
set_option maxHeartbeats 8000000 in
set_option maxRecDepth 100000 in
theorem impl_sieve.calls (k : Nat) (A0 : Option Addr) (c0 : Nat) (l0 : List Int) (A1 : Option Addr) (c1 : Nat) (l1 : List Int) (a2 : Bool) (r : List Int) (w : World) (hr0 : Kd.C (Kd.int .i64) w A0 l0.length l0) (hc0 : l0.length ≤ c0) (hr1 : Kd.C (Kd.int .i64) w A1 l1.length l1) (hc1 : l1.length ≤ c1) (h : impl_sieve.f k l0 l1 a2 = some r) :
  Calls Try.prog 104 #[.slice A0 l0.length c0, .slice A1 l1.length c1, .bool a2] w fun e w' => ∃ v0_ : Value, e = .returned (v0_) ∧ Kd.R (Kd.int .i64) 3 w' w.heap.size (fun _ => True) v0_ r ∧ Below w.heap.size w w' := by
 have HR0 := Aside0.mk hr0
 have HC0 := Aside0.mk hc0
 clear hr0 hc0
 have HR1 := Aside0.mk hr1
 have HC1 := Aside0.mk hc1
 clear hr1 hc1
 have HB := Aside0.mk (Below.refl w.heap.size w)
 have H : (impl_sieve.l0 k l1 a2 (([] : List Int)) l0 (l0.length : Int) 0) = some r := h
 clear h
 obtain ⟨y347, hy347⟩ : ∃ y_ : List Int, y_ = (([] : List Int)) := ⟨_, rfl⟩
 replace H : (impl_sieve.l0 k l1 a2 y347 l0 (l0.length : Int) 0) = some r := by first | (rw [hy347]; with_reducible exact H) | (have H2_ := (Option.bind_some _ _).symm.trans H; rw [hy347]; with_reducible exact H2_) | (have H2_ := (Option.bind_some _ _).symm.trans H; with_reducible exact H2_) | with_reducible exact H | (rw [hy347]; exact H) | exact H
 have Ny347 := Aside0.mk hy347
 clear hy347
 have H' := Aside0.mk H
 clear H
 go_enter Try.func104, Try.ntmps104
 go_wp2_with (first | ((with_reducible refine gate_dst (N := 10) rfl ?_); refine Kd.R_lit (Kd.int .i64) _ 3 ?hg (N := 10) ?hd (xs := ([] : List Int)) (inner := []) (ok := fun _ => True) (okp := fun _ => True) ?hr ?hp (fun _ hk => hk) trivial (Below.refl _ _) (Nat.le_refl _) (by simp) ?_; (case hd => rfl); (case hg => rfl); (case hr => first | (go_simp; done) | (go_simp; rfl)); (case hp => exact (Reps.none _ _)); intro v348 w4 ho5 hb hg_ hnew_; clear hg_ hnew_; (first | rw [← Ny347.out] at ho5 | (simp only [Int.reduceToNat] at ho5; rw [← Ny347.out] at ho5)); have HO349 := Aside0.mk (Kd.R_lower ho5 (below_size bA)); replace HB := Aside0.mk (below_step bA hb); clear hb ho5))
 go_loopg [7, 13] k (fun kq v7 v13 w' => ∃ (x7_1 : List Int) (x13_1 : Int), v13 = .int .i64 x13_1 ∧ Aside0 (impl_sieve.l0 kq l1 a2 x7_1 l0 (l0.length : Int) x13_1 = some r) ∧ Aside0 (kq ≤ k) ∧ Aside0 (Kd.R (Kd.int .i64) 3 w' w.heap.size (fun _ => True) v7 x7_1) ∧ Aside0 (Below w.heap.size w w'))
 case atStart => exact ⟨(y347), (0), rS, H', ⟨Nat.le_refl _⟩, ⟨rK HO349⟩, ⟨bA⟩⟩
 case round =>
  clear H'
  try clear c1
  try clear p2
  obtain ⟨x7_1, x13_1, rfl, HA, HK1, HO_7, HB⟩ := hrel
  cases gk with
  | zero => exact absurd HA.out (by simp [impl_sieve.l0])
  | succ k1 =>
   have H := HA.out
   clear HA
   simp only [impl_sieve.l0] at H
   by_cases c6 : x13_1 < (l0.length : Int)
   ·
    rw [if_pos c6] at H
    have c6b0 : decide (x13_1 < (l0.length : Int)) = true := decide_eq_true c6
    clear c6
    have c7 : 0 ≤ x13_1 := ifN H
    replace H := ifT H
    have c7b0 : decide (0 ≤ x13_1) = true := decide_eq_true c7
    clear c7
    have c8 : x13_1 < (l0.length : Int) := ifN H
    replace H := ifT H
    have c8b0 : decide (x13_1 < (l0.length : Int)) = true := decide_eq_true c8
    clear c8
    obtain ⟨t351, A9, H⟩ := bindE H
    try dsimp only at H
    by_cases c10 : (t351 == a2) = true
    ·
     rw [if_pos c10] at H
     have c10b0 : (t351 == a2) = true := c10
     (try (have c10b1 : decide (t351 = a2) = true := by simpa using c10))
     (try (have c10b2 : (t351 == a2) = true := by simpa using c10))
     clear c10
     have c11 : x7_1.length < 17592186044416 := ifN H
     replace H := ifT H
     have LMc11 := Aside0.mk c11
     clear c11
     obtain ⟨y352, hy352⟩ : ∃ y_ : List Int, y_ = (x7_1 ++ [rd l0 x13_1]) := ⟨_, rfl⟩
     replace H : (impl_sieve.l0 k1 l1 a2 y352 l0 (l0.length : Int) (wrap64 (x13_1 + 1))) = some r := by first | (rw [hy352]; with_reducible exact H) | (have H2_ := (Option.bind_some _ _).symm.trans H; rw [hy352]; with_reducible exact H2_) | (have H2_ := (Option.bind_some _ _).symm.trans H; with_reducible exact H2_) | with_reducible exact H | (rw [hy352]; exact H) | exact H
     have Ny352 := Aside0.mk hy352
     clear hy352
     have H' := Aside0.mk H
     clear H
     have p350 : 0 ≤ (x13_1 : Int) := dA
     have q350 : x13_1 < (l0.length : Int) := dA
     obtain ⟨ad350, e350, hx350_0⟩ := Kd.at_int HR0.out x13_1 p350 q350
     cases e350
     replace hx350_0 := hC HB hx350_0
     replace p350 := eq_true p350
     replace q350 := eq_true q350
     go_wp2_with (first | ((with_reducible refine gate_callee (f := 89) rfl ?_); refine gL (some 19) Try.func89 #[.slice A1 l1.length c1, .int .i64 (rd l0 x13_1)] ?_; (with_reducible refine (slices_Contains_int_int.calls k1 _ _ l1 (rd l0 x13_1) t351 _ ?side1 ?side2 A9.out).mono ?_); (case side1 => exact cB HR1); (case side2 => exact HC1.out); rintro e w' ⟨rfl, ⟨nd, rfl⟩⟩; refine ⟨_, rfl, ?_⟩) | ((with_reducible refine gate_builtin (b := .append) (xs := #[.tmp 22, .tmp 24]) rfl ?_); at_builtin; refine Kd.R_append (Kd.int .i64) (w0 := w) w.heap.size rfl (.tmp 22) (.tmp 24) 41 3 (.int .i64 0) 8 rfl Try.underlying41 info3 rfl (by decide) (by omega) u7 x7_1 (rd l0 x13_1) [.int .i64 (rd l0 x13_1)] (fun _ => True) (fun _ => False) rfl rfl ?aP (fun _ hk => hk.elim) ?aF ?aO ?aB ?aS ?aL ?_; (case aP => exact rfl); (case aB => exact bA); (case aF => exact (fun _ _ => trivial)); (case aO => exact (rK HO_7)); (case aS => exact (below_size bA)); (case aL => have := LMc11.out; omega); intro v353 w12 ho hb hg hat; rw [← Ny352.out] at ho; have n0_ := Aside0.mk (hb); have n1_ := Aside0.mk (ho); clear HB; clear HO_7; have HB := n0_; have HO354 := n1_; clear n0_ n1_; clear ho hb hg hat))
     go_roundg k1
     case measure => have := HK1.out; omega
     case rel => exact ⟨(y352), (wrap64 (x13_1 + 1)), rS, H', ⟨by have := HK1.out; omega⟩, ⟨rK HO354⟩, ⟨bA⟩⟩
    ·
     rw [if_neg c10] at H
     have c10b0 : (t351 == a2) = false := by simpa using c10
     (try (have c10b1 : decide (t351 = a2) = false := by simpa using c10))
     (try (have c10b2 : (t351 == a2) = false := by simpa using c10))
     (try (have c10b3 : ¬ (t351 = a2) := by simpa using c10))
     clear c10
     have H' := Aside0.mk H
     clear H
     have p350 : 0 ≤ (x13_1 : Int) := dA
     have q350 : x13_1 < (l0.length : Int) := dA
     obtain ⟨ad350, e350, hx350_0⟩ := Kd.at_int HR0.out x13_1 p350 q350
     cases e350
     replace hx350_0 := hC HB hx350_0
     replace p350 := eq_true p350
     replace q350 := eq_true q350
     go_wp2_with (first | ((with_reducible refine gate_callee (f := 89) rfl ?_); refine gL (some 19) Try.func89 #[.slice A1 l1.length c1, .int .i64 (rd l0 x13_1)] ?_; (with_reducible refine (slices_Contains_int_int.calls k1 _ _ l1 (rd l0 x13_1) t351 _ ?side1 ?side2 A9.out).mono ?_); (case side1 => exact cB HR1); (case side2 => exact HC1.out); rintro e w' ⟨rfl, ⟨nd, rfl⟩⟩; refine ⟨_, rfl, ?_⟩))
     go_roundg k1
     case measure => have := HK1.out; omega
     case rel => exact ⟨(x7_1), (wrap64 (x13_1 + 1)), rS, H', ⟨by have := HK1.out; omega⟩, ⟨rK HO_7⟩, ⟨bA⟩⟩
   ·
    rw [if_neg c6] at H
    have c6b0 : decide (x13_1 < (l0.length : Int)) = false := decide_eq_false c6
    clear c6
    obtain rfl := Option.some.inj H
    go_wp2
    go_ret
    exact ⟨_, by first | rfl | (simp [errW_none, errW_some] <;> rfl) | (simp [*, errW_none, errW_some] <;> rfl), by (with_reducible repeat (first | apply Kd.R_alloc | apply Kd.R_drewN | apply Kd.R_drew)); exact HO_7.out, bA⟩

/-! ### impl_Closes: function 101 -/
def impl_Closes.f (k : Nat) (l0 : List Int) (l1 : List Int) : Option (List Int) := (impl_sieve.f k l0 l1 false).bind fun t355 => (some t355)
theorem impl_Closes.mono : ∀ a0 a1 k, LeO (impl_Closes.f k a0 a1) (impl_Closes.f (k + 1) a0 a1) := by
 intro a0 a1 k
 unfold impl_Closes.f
 repeat' first | (with_reducible first | exact LeO.refl _ | exact LeO.none _ | refine LeO.ite ?_ ?_ | refine LeO.bind ?_ (fun _ => ?_) | exact impl_sieve.mono _ _ _ _) | exact LeO.none _ | refine LeO.ite ?_ ?_ | refine LeO.bind ?_ (fun _ => ?_) | exact impl_sieve.mono _ _ _ _
set_option maxHeartbeats 8000000 in
set_option maxRecDepth 100000 in
theorem impl_Closes.calls (k : Nat) (A0 : Option Addr) (c0 : Nat) (l0 : List Int) (A1 : Option Addr) (c1 : Nat) (l1 : List Int) (r : List Int) (w : World) (hr0 : Kd.C (Kd.int .i64) w A0 l0.length l0) (hc0 : l0.length ≤ c0) (hr1 : Kd.C (Kd.int .i64) w A1 l1.length l1) (hc1 : l1.length ≤ c1) (h : impl_Closes.f k l0 l1 = some r) :
  Calls Try.prog 101 #[.slice A0 l0.length c0, .slice A1 l1.length c1] w fun e w' => ∃ v0_ : Value, e = .returned (v0_) ∧ Kd.R (Kd.int .i64) 3 w' w.heap.size (fun _ => True) v0_ r ∧ Below w.heap.size w w' := by
 have HR0 := Aside0.mk hr0
 have HC0 := Aside0.mk hc0
 clear hr0 hc0
 have HR1 := Aside0.mk hr1
 have HC1 := Aside0.mk hc1
 clear hr1 hc1
 have HB := Aside0.mk (Below.refl w.heap.size w)
 have H : ((impl_sieve.f k l0 l1 false).bind fun t355 => (some t355)) = some r := h
 clear h
 obtain ⟨t355, A3, H⟩ := bindE H
 try dsimp only at H
 obtain rfl := Option.some.inj H
 go_enter Try.func101, Try.ntmps101
 go_wp2_with (first | ((with_reducible refine gate_callee (f := 104) rfl ?_); refine gL (some 7) Try.func104 #[.slice A0 l0.length c0, .slice A1 l1.length c1, .bool false] ?_; (with_reducible refine (impl_sieve.calls k _ _ l0 _ _ l1 false t355 _ ?side1 ?side2 ?side3 ?side4 A3.out).mono ?_); (case side1 => exact cO HR0); (case side2 => exact HC0.out); (case side3 => exact cO HR1); (case side4 => exact HC1.out); rintro e w4 ⟨v356, rfl, ho0, hb⟩; refine ⟨_, rfl, ?_⟩; have HO357 := Aside0.mk (Kd.R_lower ho0 (below_size bA)); replace HB := Aside0.mk (below_step bA hb); (try clear hb); (try clear hb2); (try clear hk); (try clear hi); (try clear ho0)))
 go_ret
 exact ⟨_, by first | rfl | (simp [errW_none, errW_some] <;> rfl) | (simp [*, errW_none, errW_some] <;> rfl), by (with_reducible repeat (first | apply Kd.R_alloc | apply Kd.R_drewN | apply Kd.R_drew)); exact HO357.out, bA⟩

/-! ### impl_ClearBetween: function 83 -/
mutual
def impl_ClearBetween.j0 : Nat → List (S58) → List Int → List Int → Int → Bool → Option (Int)
 | 0, _, _, _, _, _ => none
 | k + 1, x0, x1, x2, x7, x22 => if x22 = true then (some x7) else ((impl_Closes.f k x1 x2).bind fun t360 => (impl_ClearBetween.l0 k x0 x1 x2 x7 t360 (t360.length : Int) 0))
def impl_ClearBetween.l0 : Nat → List (S58) → List Int → List Int → Int → List Int → Int → Int → Option (Int)
 | 0, _, _, _, _, _, _, _ => none
 | k + 1, x0, x1, x2, x7, x26, x27, x28 => if x28 < x27 then (if 0 ≤ x28 then (if x28 < (x26.length : Int) then ((impl_Closes.f k x2 x1).bind fun t364 => (impl_ClearBetween.l1 k x0 x1 x2 x7 (rd x26 x28) x26 x27 x28 t364 (t364.length : Int) 0)) else (none)) else (none)) else (some x7)
def impl_ClearBetween.l1 : Nat → List (S58) → List Int → List Int → Int → Int → List Int → Int → Int → List Int → Int → Int → Option (Int)
 | 0, _, _, _, _, _, _, _, _, _, _, _ => none
 | k + 1, x0, x1, x2, x7, x9, x26, x27, x28, x34, x35, x36 => if x36 < x35 then (if 0 ≤ x36 then (if x36 < (x34.length : Int) then ((impl_FindPath.f x0 x9).bind fun t368 => (if 0 ≤ t368 then (if t368 < (x0.length : Int) then ((impl_FindPath.f x0 (rd x34 x36)).bind fun t371 => (if 0 ≤ t371 then (if t371 < (x0.length : Int) then ((impl_Conflict.f k ((rd_T58 x0 t368).f0) ((rd_T58 x0 t368).f1) ((rd_T58 x0 t368).f2) ((rd_T58 x0 t368).f3) ((rd_T58 x0 t371).f0) ((rd_T58 x0 t371).f1) ((rd_T58 x0 t371).f2) ((rd_T58 x0 t371).f3)).bind fun t373 => (if t373 = true then ((impl_ClearOf.f ((rd_T58 x0 t368).f0) ((rd_T58 x0 t368).f1) ((rd_T58 x0 t368).f2) ((rd_T58 x0 t368).f3)).bind fun t374 => (impl_ClearBetween.l1 k x0 x1 x2 (mx x7 t374) x9 x26 x27 x28 x34 x35 (wrap64 (x36 + 1)))) else (impl_ClearBetween.l1 k x0 x1 x2 x7 x9 x26 x27 x28 x34 x35 (wrap64 (x36 + 1))))) else (none)) else (none))) else (none)) else (none))) else (none)) else (none)) else (impl_ClearBetween.l0 k x0 x1 x2 x7 x26 x27 (wrap64 (x28 + 1)))
end
def impl_ClearBetween.f (k : Nat) (l0 : List (S58)) (l1 : List Int) (l2 : List Int) : Option (Int) := (impl_IsTogether.f k l0 l1).bind fun t358 => (if t358 = true then ((impl_IsTogether.f k l0 l2).bind fun t359 => (impl_ClearBetween.j0 k l0 l1 l2 0 (!t359))) else (impl_ClearBetween.j0 k l0 l1 l2 0 true))
theorem impl_ClearBetween.mono_l : ∀ k, (∀ y0 y1 y2 y3 y4, LeO (impl_ClearBetween.j0 k y0 y1 y2 y3 y4) (impl_ClearBetween.j0 (k + 1) y0 y1 y2 y3 y4)) ∧ (∀ y0 y1 y2 y3 y4 y5 y6, LeO (impl_ClearBetween.l0 k y0 y1 y2 y3 y4 y5 y6) (impl_ClearBetween.l0 (k + 1) y0 y1 y2 y3 y4 y5 y6)) ∧ (∀ y0 y1 y2 y3 y4 y5 y6 y7 y8 y9 y10, LeO (impl_ClearBetween.l1 k y0 y1 y2 y3 y4 y5 y6 y7 y8 y9 y10) (impl_ClearBetween.l1 (k + 1) y0 y1 y2 y3 y4 y5 y6 y7 y8 y9 y10))
 | 0 => ⟨fun _ _ _ _ _ r h => by simp [impl_ClearBetween.j0] at h, fun _ _ _ _ _ _ _ r h => by simp [impl_ClearBetween.l0] at h, fun _ _ _ _ _ _ _ _ _ _ _ r h => by simp [impl_ClearBetween.l1] at h⟩
 | k + 1 => by
  obtain ⟨ih0, ih1, ih2⟩ := impl_ClearBetween.mono_l k
  refine ⟨?_, ?_, ?_⟩
  ·
   intro y0 y1 y2 y3 y4
   unfold impl_ClearBetween.j0
   repeat' first | (with_reducible first | exact LeO.refl _ | exact LeO.none _ | refine LeO.ite ?_ ?_ | refine LeO.bind ?_ (fun _ => ?_) | exact ih0 _ _ _ _ _ | exact ih1 _ _ _ _ _ _ _ | exact ih2 _ _ _ _ _ _ _ _ _ _ _ | exact impl_Closes.mono _ _ _ | exact impl_Conflict.mono _ _ _ _ _ _ _ _ _ | exact impl_IsTogether.mono _ _ _) | exact LeO.none _ | refine LeO.ite ?_ ?_ | refine LeO.bind ?_ (fun _ => ?_) | exact ih0 _ _ _ _ _ | exact ih1 _ _ _ _ _ _ _ | exact ih2 _ _ _ _ _ _ _ _ _ _ _ | exact impl_Closes.mono _ _ _ | exact impl_Conflict.mono _ _ _ _ _ _ _ _ _ | exact impl_IsTogether.mono _ _ _
  ·
   intro y0 y1 y2 y3 y4 y5 y6
   unfold impl_ClearBetween.l0
   repeat' first | (with_reducible first | exact LeO.refl _ | exact LeO.none _ | refine LeO.ite ?_ ?_ | refine LeO.bind ?_ (fun _ => ?_) | exact ih0 _ _ _ _ _ | exact ih1 _ _ _ _ _ _ _ | exact ih2 _ _ _ _ _ _ _ _ _ _ _ | exact impl_Closes.mono _ _ _ | exact impl_Conflict.mono _ _ _ _ _ _ _ _ _ | exact impl_IsTogether.mono _ _ _) | exact LeO.none _ | refine LeO.ite ?_ ?_ | refine LeO.bind ?_ (fun _ => ?_) | exact ih0 _ _ _ _ _ | exact ih1 _ _ _ _ _ _ _ | exact ih2 _ _ _ _ _ _ _ _ _ _ _ | exact impl_Closes.mono _ _ _ | exact impl_Conflict.mono _ _ _ _ _ _ _ _ _ | exact impl_IsTogether.mono _ _ _
  ·
   intro y0 y1 y2 y3 y4 y5 y6 y7 y8 y9 y10
   unfold impl_ClearBetween.l1
   repeat' first | (with_reducible first | exact LeO.refl _ | exact LeO.none _ | refine LeO.ite ?_ ?_ | refine LeO.bind ?_ (fun _ => ?_) | exact ih0 _ _ _ _ _ | exact ih1 _ _ _ _ _ _ _ | exact ih2 _ _ _ _ _ _ _ _ _ _ _ | exact impl_Closes.mono _ _ _ | exact impl_Conflict.mono _ _ _ _ _ _ _ _ _ | exact impl_IsTogether.mono _ _ _) | exact LeO.none _ | refine LeO.ite ?_ ?_ | refine LeO.bind ?_ (fun _ => ?_) | exact ih0 _ _ _ _ _ | exact ih1 _ _ _ _ _ _ _ | exact ih2 _ _ _ _ _ _ _ _ _ _ _ | exact impl_Closes.mono _ _ _ | exact impl_Conflict.mono _ _ _ _ _ _ _ _ _ | exact impl_IsTogether.mono _ _ _
theorem impl_ClearBetween.mono : ∀ a0 a1 a2 k, LeO (impl_ClearBetween.f k a0 a1 a2) (impl_ClearBetween.f (k + 1) a0 a1 a2) := by
 intro a0 a1 a2 k
 obtain ⟨ih0, ih1, ih2⟩ := impl_ClearBetween.mono_l k
 unfold impl_ClearBetween.f
 repeat' first | (with_reducible first | exact LeO.refl _ | exact LeO.none _ | refine LeO.ite ?_ ?_ | refine LeO.bind ?_ (fun _ => ?_) | exact ih0 _ _ _ _ _ | exact ih1 _ _ _ _ _ _ _ | exact ih2 _ _ _ _ _ _ _ _ _ _ _ | exact impl_Closes.mono _ _ _ | exact impl_Conflict.mono _ _ _ _ _ _ _ _ _ | exact impl_IsTogether.mono _ _ _) | exact LeO.none _ | refine LeO.ite ?_ ?_ | refine LeO.bind ?_ (fun _ => ?_) | exact ih0 _ _ _ _ _ | exact ih1 _ _ _ _ _ _ _ | exact ih2 _ _ _ _ _ _ _ _ _ _ _ | exact impl_Closes.mono _ _ _ | exact impl_Conflict.mono _ _ _ _ _ _ _ _ _ | exact impl_IsTogether.mono _ _ _
def impl_ClearBetween.T11 : Bool × List (List Nat × List Nat) := (true, [([], []), ([], []), ([], []), ([], []), ([2, 3], [2, 3]), ([1, 4], [1, 4]), ([5], [5]), ([0, 6, 4], [0, 6])])
def impl_ClearBetween.B11 : List Nat := [0, 0, 0, 0, 12, 30, 62, 127]
theorem impl_ClearBetween.tab11 : rtab .any (opsOf Try.f83 11) = impl_ClearBetween.T11 := by kernel_rfl
theorem impl_ClearBetween.bits11 : waitsOk impl_ClearBetween.T11.2 impl_ClearBetween.B11 = true := by kernel_rfl
set_option maxHeartbeats 8000000 in
set_option maxRecDepth 100000 in
theorem impl_ClearBetween.calls (k : Nat) (A0 : Option Addr) (c0 : Nat) (l0 : List (S58)) (A1 : Option Addr) (c1 : Nat) (l1 : List Int) (A2 : Option Addr) (c2 : Nat) (l2 : List Int) (r : Int) (w : World) (hr0 : Kd.C k58 w A0 l0.length l0) (hc0 : l0.length ≤ c0) (hr1 : Kd.C (Kd.int .i64) w A1 l1.length l1) (hc1 : l1.length ≤ c1) (hr2 : Kd.C (Kd.int .i64) w A2 l2.length l2) (hc2 : l2.length ≤ c2) (h : impl_ClearBetween.f k l0 l1 l2 = some r) :
  Calls Try.prog 83 #[.slice A0 l0.length c0, .slice A1 l1.length c1, .slice A2 l2.length c2] w fun e w' => e = .returned (.int .i64 r) ∧ Below w.heap.size w w' := by
 have hu58 := Try.underlying58
 have HR0 := Aside0.mk hr0
 have HC0 := Aside0.mk hc0
 clear hr0 hc0
 have HR1 := Aside0.mk hr1
 have HC1 := Aside0.mk hc1
 clear hr1 hc1
 have HR2 := Aside0.mk hr2
 have HC2 := Aside0.mk hc2
 clear hr2 hc2
 have HB := Aside0.mk (Below.refl w.heap.size w)
 have H : ((impl_IsTogether.f k l0 l1).bind fun t358 => (if t358 = true then ((impl_IsTogether.f k l0 l2).bind fun t359 => (impl_ClearBetween.j0 k l0 l1 l2 0 (!t359))) else (impl_ClearBetween.j0 k l0 l1 l2 0 true))) = some r := h
 clear h
 have HC4 := Aside0.mk H
 clear H
 go_enter Try.func83, Try.ntmps83
 go_upto_region 2 with (fail)
 go_cut [22] (fun v22 wc => ∃ (kq : Nat) (x22_3 : Bool), v22 = .bool x22_3 ∧ Aside0 (impl_ClearBetween.j0 kq l0 l1 l2 0 x22_3 = some r) ∧ Aside0 (kq ≤ k) ∧ Aside0 (Below w.heap.size w wc))
 case first =>
  have H := HC4.out
  clear HC4
  obtain ⟨t358, A5, H⟩ := bindE H
  try dsimp only at H
  by_cases c6 : t358 = true
  ·
   subst c6
   have H1 : ((impl_IsTogether.f k l0 l2).bind fun t359 => (impl_ClearBetween.j0 k l0 l1 l2 0 (!t359))) = some r := by rw [if_pos rfl] at H; exact H
   clear H
   have H := H1
   clear H1
   obtain ⟨t359, A7, H⟩ := bindE H
   try dsimp only at H
   have H' := Aside0.mk H
   clear H
   go_wp2_with (first | ((with_reducible refine gate_callee (f := 59) rfl ?_); refine gL (some 15) Try.func59 #[.slice A0 l0.length c0, .slice A1 l1.length c1] ?_; (with_reducible refine (impl_IsTogether.calls k _ _ l0 _ _ l1 true _ ?side1 ?side2 ?side3 ?side4 A5.out).mono ?_); (case side1 => exact cB HR0); (case side2 => exact HC0.out); (case side3 => exact cB HR1); (case side4 => exact HC1.out); rintro e w8 ⟨rfl, hb⟩; refine ⟨_, rfl, ?_⟩; replace HB := Aside0.mk (below_step bA hb); (try clear hb); (try clear hb2); (try clear hk); (try clear hi)) | (go_at_call 59; (with_reducible refine (impl_IsTogether.calls k _ _ l0 _ _ l2 t359 _ ?side1 ?side2 ?side3 ?side4 A7.out).mono ?_); (case side1 => exact cB HR0); (case side2 => exact HC0.out); (case side3 => exact cB HR2); (case side4 => exact HC2.out); rintro e w9 ⟨rfl, hb⟩; replace HB := Aside0.mk (below_step bA hb); (try clear hb); (try clear hb2); (try clear hk); (try clear hi)))
   go_meet
   case rel => exact ⟨_, (!t359), rS, H', ⟨by first | omega | exact Nat.le_refl _⟩, ⟨bA⟩⟩
  ·
   replace c6 := Bool.eq_false_iff.mpr c6
   subst c6
   have H1 : (impl_ClearBetween.j0 k l0 l1 l2 0 true) = some r := by rw [if_neg (show ¬ (false = true) by decide)] at H; exact H
   clear H
   have H := H1
   clear H1
   have H' := Aside0.mk H
   clear H
   go_wp2_with (first | ((with_reducible refine gate_callee (f := 59) rfl ?_); refine gL (some 15) Try.func59 #[.slice A0 l0.length c0, .slice A1 l1.length c1] ?_; (with_reducible refine (impl_IsTogether.calls k _ _ l0 _ _ l1 false _ ?side1 ?side2 ?side3 ?side4 A5.out).mono ?_); (case side1 => exact cB HR0); (case side2 => exact HC0.out); (case side3 => exact cB HR1); (case side4 => exact HC1.out); rintro e w10 ⟨rfl, hb⟩; refine ⟨_, rfl, ?_⟩; replace HB := Aside0.mk (below_step bA hb); (try clear hb); (try clear hb2); (try clear hk); (try clear hi)))
   go_meet
   case rel => exact ⟨_, (true), rS, H', ⟨by first | omega | exact Nat.le_refl _⟩, ⟨bA⟩⟩
 case rest =>
  clear HC4
  try clear c1
  try clear c2
  try clear p2
  try clear c5
  try clear c6
  try clear c8
  obtain ⟨kq, x22_3, rfl, HA, HJ3, HB⟩ := hcut
  cases kq with
  | zero => exact absurd HA.out (by simp [impl_ClearBetween.j0])
  | succ kj3 =>
   have H := HA.out
   clear HA
   simp only [impl_ClearBetween.j0] at H
   by_cases c11 : x22_3 = true
   ·
    subst c11
    have H1 : (some 0) = some r := by rw [if_pos rfl] at H; exact H
    clear H
    have H := H1
    clear H1
    obtain rfl := Option.some.inj H
    go_wp2
    go_ret
    exact ⟨rA, bA⟩
   ·
    replace c11 := Bool.eq_false_iff.mpr c11
    subst c11
    have H1 : ((impl_Closes.f kj3 l1 l2).bind fun t360 => (impl_ClearBetween.l0 kj3 l0 l1 l2 0 t360 (t360.length : Int) 0)) = some r := by rw [if_neg (show ¬ (false = true) by decide)] at H; exact H
    clear H
    have H := H1
    clear H1
    obtain ⟨t360, A12, H⟩ := bindE H
    try dsimp only at H
    have H' := Aside0.mk H
    clear H
    go_wp2_with (first | ((with_reducible refine gate_callee (f := 101) rfl ?_); refine gL (some 26) Try.func101 #[.slice A1 l1.length c1, .slice A2 l2.length c2] ?_; (with_reducible refine (impl_Closes.calls kj3 _ _ l1 _ _ l2 t360 _ ?side1 ?side2 ?side3 ?side4 A12.out).mono ?_); (case side1 => exact cB HR1); (case side2 => exact HC1.out); (case side3 => exact cB HR2); (case side4 => exact HC2.out); rintro e w13 ⟨v361, rfl, ho0, hb⟩; refine ⟨_, rfl, ?_⟩; have HO362 := Aside0.mk (Kd.R_lower ho0 (below_size bA)); replace HB := Aside0.mk (below_step bA hb); (try clear hb); (try clear hb2); (try clear hk); (try clear hi); (try clear ho0); obtain ⟨Ao14, co14, eo14⟩ := Kd.R_slice HO362.out; subst eo14))
    go_loopg [7, 28] kj3 (fun kq v7 v28 w' => ∃ (x7_2 : Int) (x28_2 : Int), v7 = .int .i64 x7_2 ∧ v28 = .int .i64 x28_2 ∧ Aside0 (impl_ClearBetween.l0 kq l0 l1 l2 x7_2 t360 (t360.length : Int) x28_2 = some r) ∧ Aside0 (kq ≤ kj3) ∧ Aside0 (Kd.R (Kd.int .i64) 3 w' w.heap.size (fun _ => True) (.slice Ao14 t360.length co14) t360) ∧ Aside0 (Below w.heap.size w w'))
    case atStart => exact ⟨(0), (0), rS, rS, H', ⟨Nat.le_refl _⟩, ⟨rK HO362⟩, ⟨bA⟩⟩
    case round =>
     clear H'
     try clear c1
     try clear c2
     try clear p2
     try clear c5
     try clear c6
     try clear c8
     try clear c10
     try clear c11
     try clear p2
     obtain ⟨x7_2, x28_2, rfl, rfl, HA, HK2, HO_26, HB⟩ := hrel
     cases gk with
     | zero => exact absurd HA.out (by simp [impl_ClearBetween.l0])
     | succ k2 =>
      have H := HA.out
      clear HA
      simp only [impl_ClearBetween.l0] at H
      by_cases c15 : x28_2 < (t360.length : Int)
      ·
       rw [if_pos c15] at H
       have c15b0 : decide (x28_2 < (t360.length : Int)) = true := decide_eq_true c15
       clear c15
       have c16 : 0 ≤ x28_2 := ifN H
       replace H := ifT H
       have c16b0 : decide (0 ≤ x28_2) = true := decide_eq_true c16
       clear c16
       have c17 : x28_2 < (t360.length : Int) := ifN H
       replace H := ifT H
       have c17b0 : decide (x28_2 < (t360.length : Int)) = true := decide_eq_true c17
       clear c17
       obtain ⟨t364, A18, H⟩ := bindE H
       try dsimp only at H
       have H' := Aside0.mk H
       clear H
       have p363 : 0 ≤ (x28_2 : Int) := dA
       have q363 : x28_2 < (t360.length : Int) := dA
       obtain ⟨ad363, e363, hx363_0⟩ := Kd.at_int (Kd.R_reads' HO_26.out).2.2 x28_2 p363 q363
       cases e363
       replace p363 := eq_true p363
       replace q363 := eq_true q363
       go_wp2_with (first | ((with_reducible refine gate_callee (f := 101) rfl ?_); refine gL (some 34) Try.func101 #[.slice A2 l2.length c2, .slice A1 l1.length c1] ?_; (with_reducible refine (impl_Closes.calls k2 _ _ l2 _ _ l1 t364 _ ?side1 ?side2 ?side3 ?side4 A18.out).mono ?_); (case side1 => exact cB HR2); (case side2 => exact HC2.out); (case side3 => exact cB HR1); (case side4 => exact HC1.out); rintro e w19 ⟨v365, rfl, ho0, hb⟩; refine ⟨_, rfl, ?_⟩; have HO366 := Aside0.mk (Kd.R_lower (Kd.R_new' ho0 (Kd.R_lt (rK HO_26))) (below_size bA)); replace HO_26 := Aside0.mk (Kd.R_elder' (rK HO_26) (Kd.R_base ho0) hb); replace HB := Aside0.mk (below_step bA hb); (try clear hb); (try clear hb2); (try clear hk); (try clear hi); (try clear ho0); obtain ⟨Ao20, co20, eo20⟩ := Kd.R_slice HO366.out; subst eo20))
       go_loopg [7, 36] k2 (fun kq v7 v36 w' => ∃ (x7_3 : Int) (x36_3 : Int), v7 = .int .i64 x7_3 ∧ v36 = .int .i64 x36_3 ∧ Aside0 (impl_ClearBetween.l1 kq l0 l1 l2 x7_3 (rd t360 x28_2) t360 (t360.length : Int) x28_2 t364 (t364.length : Int) x36_3 = some r) ∧ Aside0 (kq ≤ k2) ∧ Aside0 (Kd.R (Kd.int .i64) 3 w' w.heap.size (fun k_ => some k_ ≠ ((.slice Ao20 t364.length co20) : Value).ownBlock) (.slice (some ad363) t360.length co14) t360) ∧ Aside0 (Kd.R (Kd.int .i64) 3 w' w.heap.size (fun k_ => some k_ ≠ ((.slice (some ad363) t360.length co14) : Value).ownBlock) (.slice Ao20 t364.length co20) t364) ∧ Aside0 (Below w.heap.size w w'))
       case atStart => exact ⟨(x7_2), (0), rS, rS, H', ⟨Nat.le_refl _⟩, ⟨by (with_reducible repeat (first | apply Kd.R_alloc | apply Kd.R_drewN | apply Kd.R_drew)); exact Kd.R_mono HO_26.out (fun _ hk => hk.2)⟩, ⟨by (with_reducible repeat (first | apply Kd.R_alloc | apply Kd.R_drewN | apply Kd.R_drew)); exact Kd.R_mono HO366.out (fun _ hk => hk.2)⟩, ⟨bA⟩⟩
       case round =>
        clear H'
        try clear c1
        try clear c2
        try clear p2
        try clear p3
        try clear q3
        try clear hx3
        try clear c5
        try clear c6
        try clear c8
        try clear c10
        try clear c11
        try clear c15
        try clear c15b0
        try clear c16
        try clear c16b0
        try clear c17
        try clear c17b0
        try clear hx363_0
        try clear p2
        try clear p363
        try clear q363
        obtain ⟨x7_3, x36_3, rfl, rfl, HA, HK3, HO_26, HO_34, HB⟩ := hrel
        cases gk with
        | zero => exact absurd HA.out (by simp [impl_ClearBetween.l1])
        | succ k3 =>
         have H := HA.out
         clear HA
         simp only [impl_ClearBetween.l1] at H
         by_cases c21 : x36_3 < (t364.length : Int)
         ·
          rw [if_pos c21] at H
          have c21b0 : decide (x36_3 < (t364.length : Int)) = true := decide_eq_true c21
          clear c21
          have c22 : 0 ≤ x36_3 := ifN H
          replace H := ifT H
          have c22b0 : decide (0 ≤ x36_3) = true := decide_eq_true c22
          clear c22
          have c23 : x36_3 < (t364.length : Int) := ifN H
          replace H := ifT H
          have c23b0 : decide (x36_3 < (t364.length : Int)) = true := decide_eq_true c23
          clear c23
          obtain ⟨t368, A24, H⟩ := bindE H
          try dsimp only at H
          have c25 : 0 ≤ t368 := ifN H
          replace H := ifT H
          have c25b0 : decide (0 ≤ t368) = true := decide_eq_true c25
          clear c25
          have c26 : t368 < (l0.length : Int) := ifN H
          replace H := ifT H
          have c26b0 : decide (t368 < (l0.length : Int)) = true := decide_eq_true c26
          clear c26
          obtain ⟨t371, A27, H⟩ := bindE H
          try dsimp only at H
          have c28 : 0 ≤ t371 := ifN H
          replace H := ifT H
          have c28b0 : decide (0 ≤ t371) = true := decide_eq_true c28
          clear c28
          have c29 : t371 < (l0.length : Int) := ifN H
          replace H := ifT H
          have c29b0 : decide (t371 < (l0.length : Int)) = true := decide_eq_true c29
          clear c29
          obtain ⟨t373, A30, H⟩ := bindE H
          try dsimp only at H
          by_cases c31 : t373 = true
          ·
           subst c31
           have H1 : ((impl_ClearOf.f ((rd_T58 l0 t368).f0) ((rd_T58 l0 t368).f1) ((rd_T58 l0 t368).f2) ((rd_T58 l0 t368).f3)).bind fun t374 => (impl_ClearBetween.l1 k3 l0 l1 l2 (mx x7_3 t374) (rd t360 x28_2) t360 (t360.length : Int) x28_2 t364 (t364.length : Int) (wrap64 (x36_3 + 1)))) = some r := by rw [if_pos rfl] at H; exact H
           clear H
           have H := H1
           clear H1
           obtain ⟨t374, A32, H⟩ := bindE H
           try dsimp only at H
           obtain ⟨ji33, hji33⟩ : ∃ j_ : Int, (mx x7_3 t374) = j_ := ⟨_, rfl⟩
           replace H : (impl_ClearBetween.l1 k3 l0 l1 l2 ji33 (rd t360 x28_2) t360 (t360.length : Int) x28_2 t364 (t364.length : Int) (wrap64 (x36_3 + 1))) = some r := by first | (rw [hji33] at H; exact H) | (simp only [hji33] at H ⊢; exact H)
           (try rw [hji33] at A24)
           (try rw [hji33] at A27)
           (try rw [hji33] at A30)
           (try rw [hji33] at A32)
           have hji33_ : (if x7_3 < t374 then t374 else x7_3) = ji33 := hji33
           have H' := Aside0.mk H
           clear H
           have p367 : 0 ≤ (x36_3 : Int) := dA
           have q367 : x36_3 < (t364.length : Int) := dA
           obtain ⟨ad367, e367, hx367_0⟩ := Kd.at_int (Kd.R_reads' HO_34.out).2.2 x36_3 p367 q367
           cases e367
           replace p367 := eq_true p367
           replace q367 := eq_true q367
           try go_wp2_with (first | ((with_reducible refine gate_callee (f := 70) rfl ?_); refine gL (some 43) Try.func70 #[.slice A0 l0.length c0, .int .i64 (rd t360 x28_2)] ?_; (with_reducible refine (impl_FindPath.calls _ _ l0 (rd t360 x28_2) t368 _ ?side1 ?side2 A24.out).mono ?_); (case side1 => exact cB HR0); (case side2 => exact HC0.out); rintro e w34 ⟨rfl, hb⟩; refine ⟨_, rfl, ?_⟩; replace HO_26 := Aside0.mk (Kd.R_below (rK HO_26) hb); replace HO_34 := Aside0.mk (Kd.R_below (rK HO_34) hb); replace HB := Aside0.mk (below_step bA hb); (try clear hb); (try clear hb2); (try clear hk); (try clear hi); have p369 : 0 ≤ (t368 : Int) := dA; have q369 : t368 < (l0.length : Int) := dA; obtain ⟨ad369, e369, hx369_0, hx369_1, hx369_2, hx369_3⟩ := at_T58 HR0.out t368 p369 q369; cases e369; replace hx369_0 := hC HB hx369_0; replace hx369_1 := hC HB hx369_1; replace hx369_2 := hC HB hx369_2; replace hx369_3 := hC HB hx369_3; replace p369 := eq_true p369; replace q369 := eq_true q369) | ((with_reducible refine gate_dst (N := 12) rfl ?_); refine bE (N := 12) (cs := #[.int .i64 0, .int .i64 0, .int .i64 0, .int .i64 0]) (t := 58) ?_; intro gb370 hg w35 hbox hb; have n0_ := Aside0.mk (Kd.R_below (rK HO_26) hb); have n1_ := Aside0.mk (Kd.R_below (rK HO_34) hb); have n2_ := Aside0.mk (below_step bA hb); have n3_ := Aside0.mk (hbox); have n4_ := Aside0.mk ((by rw [hg]; exact (below_size bA) : w.heap.size ≤ gb370)); have n5_ := Aside0.mk ((by rw [hg]; exact (below_size bA) : w.heap.size ≤ gb370)); clear HO_26; clear HO_34; clear HB; have HO_26 := n0_; have HO_34 := n1_; have HB := n2_; have BK370 := n3_; have GW370 := n4_; have GE370 := n5_; clear n0_ n1_ n2_ n3_ n4_ n5_; clear hb hbox hg; obtain ⟨hcz36_0, hcz36_1, hcz36_2, hcz36_3, hfz36_0, hfz36_1, hfz36_2, hfz36_3⟩ := blkc4 BK370))
           have n0_ : Aside0 (Kd.R (Kd.int .i64) 3 ((((w35.setCell ⟨gb370, 0, none⟩ (.int .i64 ((rd_T58 l0 t368).f0))).setCell ⟨gb370, 1, none⟩ (.int .i64 ((rd_T58 l0 t368).f1))).setCell ⟨gb370, 2, none⟩ (.int .i64 ((rd_T58 l0 t368).f2))).setCell ⟨gb370, 3, none⟩ (.int .i64 ((rd_T58 l0 t368).f3))) w.heap.size (fun k_ => some k_ ≠ (.slice (some ad367) t364.length co20 : Value).ownBlock) (.slice (some ad363) t360.length co14) t360) := ⟨by (with_reducible repeat (first | apply Kd.R_alloc | apply Kd.R_drewN | apply Kd.R_drew)); exact Kd.R_mono (Kd.R_far (p := ⟨gb370, 3, none⟩) (Kd.R_far (p := ⟨gb370, 2, none⟩) (Kd.R_far (p := ⟨gb370, 1, none⟩) (Kd.R_far (p := ⟨gb370, 0, none⟩) (Kd.R_types HO_26.out BK370.out (by decide)) (fun _ hk => hk.2) (.int .i64 ((rd_T58 l0 t368).f0))) (fun _ hk => hk.2) (.int .i64 ((rd_T58 l0 t368).f1))) (fun _ hk => hk.2) (.int .i64 ((rd_T58 l0 t368).f2))) (fun _ hk => hk.2) (.int .i64 ((rd_T58 l0 t368).f3))) (fun _ hk => hk.1)⟩
           have n1_ : Aside0 (Kd.R (Kd.int .i64) 3 ((((w35.setCell ⟨gb370, 0, none⟩ (.int .i64 ((rd_T58 l0 t368).f0))).setCell ⟨gb370, 1, none⟩ (.int .i64 ((rd_T58 l0 t368).f1))).setCell ⟨gb370, 2, none⟩ (.int .i64 ((rd_T58 l0 t368).f2))).setCell ⟨gb370, 3, none⟩ (.int .i64 ((rd_T58 l0 t368).f3))) w.heap.size (fun k_ => some k_ ≠ (.slice (some ad363) t360.length co14 : Value).ownBlock) (.slice (some ad367) t364.length co20) t364) := ⟨by (with_reducible repeat (first | apply Kd.R_alloc | apply Kd.R_drewN | apply Kd.R_drew)); exact Kd.R_mono (Kd.R_far (p := ⟨gb370, 3, none⟩) (Kd.R_far (p := ⟨gb370, 2, none⟩) (Kd.R_far (p := ⟨gb370, 1, none⟩) (Kd.R_far (p := ⟨gb370, 0, none⟩) (Kd.R_types HO_34.out BK370.out (by decide)) (fun _ hk => hk.2) (.int .i64 ((rd_T58 l0 t368).f0))) (fun _ hk => hk.2) (.int .i64 ((rd_T58 l0 t368).f1))) (fun _ hk => hk.2) (.int .i64 ((rd_T58 l0 t368).f2))) (fun _ hk => hk.2) (.int .i64 ((rd_T58 l0 t368).f3))) (fun _ hk => hk.1)⟩
           have n2_ : Aside0 (((((w35.setCell ⟨gb370, 0, none⟩ (.int .i64 ((rd_T58 l0 t368).f0))).setCell ⟨gb370, 1, none⟩ (.int .i64 ((rd_T58 l0 t368).f1))).setCell ⟨gb370, 2, none⟩ (.int .i64 ((rd_T58 l0 t368).f2))).setCell ⟨gb370, 3, none⟩ (.int .i64 ((rd_T58 l0 t368).f3))).heap[gb370]? = some (.cells #[.int .i64 ((rd_T58 l0 t368).f0), .int .i64 ((rd_T58 l0 t368).f1), .int .i64 ((rd_T58 l0 t368).f2), .int .i64 ((rd_T58 l0 t368).f3)] 58 (0, 0))) := ⟨by (with_reducible repeat (first | refine blk_drewN ?_ _ | refine blk_drew ?_ | refine blk_alloc ?_ _)); refine blk_put (cs := #[.int .i64 ((rd_T58 l0 t368).f0), .int .i64 ((rd_T58 l0 t368).f1), .int .i64 ((rd_T58 l0 t368).f2), .int .i64 0]) ?_ 3 _ rfl; (with_reducible repeat (first | refine blk_drewN ?_ _ | refine blk_drew ?_ | refine blk_alloc ?_ _)); refine blk_put (cs := #[.int .i64 ((rd_T58 l0 t368).f0), .int .i64 ((rd_T58 l0 t368).f1), .int .i64 0, .int .i64 0]) ?_ 2 _ rfl; (with_reducible repeat (first | refine blk_drewN ?_ _ | refine blk_drew ?_ | refine blk_alloc ?_ _)); refine blk_put (cs := #[.int .i64 ((rd_T58 l0 t368).f0), .int .i64 0, .int .i64 0, .int .i64 0]) ?_ 1 _ rfl; (with_reducible repeat (first | refine blk_drewN ?_ _ | refine blk_drew ?_ | refine blk_alloc ?_ _)); refine blk_put (cs := #[.int .i64 0, .int .i64 0, .int .i64 0, .int .i64 0]) ?_ 0 _ rfl; (with_reducible repeat (first | refine blk_drewN ?_ _ | refine blk_drew ?_ | refine blk_alloc ?_ _)); exact BK370.out⟩
           have n3_ : Aside0 (Below w.heap.size w ((((w35.setCell ⟨gb370, 0, none⟩ (.int .i64 ((rd_T58 l0 t368).f0))).setCell ⟨gb370, 1, none⟩ (.int .i64 ((rd_T58 l0 t368).f1))).setCell ⟨gb370, 2, none⟩ (.int .i64 ((rd_T58 l0 t368).f2))).setCell ⟨gb370, 3, none⟩ (.int .i64 ((rd_T58 l0 t368).f3)))) := ⟨bG⟩
           (try clear HO_26)
           (try clear HO_34)
           (try clear BK370)
           (try clear HB)
           generalize ((((w35.setCell ⟨gb370, 0, none⟩ (.int .i64 ((rd_T58 l0 t368).f0))).setCell ⟨gb370, 1, none⟩ (.int .i64 ((rd_T58 l0 t368).f1))).setCell ⟨gb370, 2, none⟩ (.int .i64 ((rd_T58 l0 t368).f2))).setCell ⟨gb370, 3, none⟩ (.int .i64 ((rd_T58 l0 t368).f3))) = w37 at n0_ n1_ n2_ n3_ ⊢
           have HO_26 := n0_
           have HO_34 := n1_
           have BK370 := n2_
           have HB := n3_
           clear n0_ n1_ n2_ n3_
           replace HO_26 := Aside0.mk (Kd.R_drew HO_26.out)
           replace HO_34 := Aside0.mk (Kd.R_drew HO_34.out)
           replace BK370 := Aside0.mk (blk_drew BK370.out)
           have HBo := HB
           replace HB := Aside0.mk (below_drew1 HB.out)
           have p372 : 0 ≤ (t371 : Int) := dA
           have q372 : t371 < (l0.length : Int) := dA
           obtain ⟨ad372, e372, hx372_0, hx372_1, hx372_2, hx372_3⟩ := at_T58 HR0.out t371 p372 q372
           have hw372_3 := hx372_3
           have hw372_2 := hx372_2
           have hw372_1 := hx372_1
           have hw372_0 := hx372_0
           obtain rfl : ad369 = ad372 := (by injection e372)
           replace hx372_0 := hC HB hx372_0
           replace hx372_1 := hC HB hx372_1
           replace hx372_2 := hC HB hx372_2
           replace hx372_3 := hC HB hx372_3
           replace p372 := eq_true p372
           replace q372 := eq_true q372
           refine start_ (n := 8) (S := fun w' => w'.cell? ⟨gb370, 0, none⟩ = some (.int .i64 ((rd_T58 l0 t368).f0)) ∧ w'.cell? ⟨gb370, 1, none⟩ = some (.int .i64 ((rd_T58 l0 t368).f1)) ∧ w'.cell? ⟨gb370, 2, none⟩ = some (.int .i64 ((rd_T58 l0 t368).f2)) ∧ w'.cell? ⟨gb370, 3, none⟩ = some (.int .i64 ((rd_T58 l0 t368).f3)) ∧ w'.cell? (ad369.add ((t371).toNat * 4)) = some (.int .i64 ((rd_T58 l0 t371).f0)) ∧ w'.cell? ⟨(ad369.add ((t371).toNat * 4)).block, (ad369.add ((t371).toNat * 4)).off + 1, none⟩ = some (.int .i64 ((rd_T58 l0 t371).f1)) ∧ w'.cell? ⟨(ad369.add ((t371).toNat * 4)).block, (ad369.add ((t371).toNat * 4)).off + 2, none⟩ = some (.int .i64 ((rd_T58 l0 t371).f2)) ∧ w'.cell? ⟨(ad369.add ((t371).toNat * 4)).block, (ad369.add ((t371).toNat * 4)).off + 3, none⟩ = some (.int .i64 ((rd_T58 l0 t371).f3))) (ds := []) (mb 8 0) (by kernel_rfl) rfl rfl ⟨bC BK370 0, bC BK370 1, bC BK370 2, bC BK370 3, (hC HB hw372_0), (hC HB hw372_1), (hC HB hw372_2), (hC HB hw372_3)⟩ (fun hHeld => ?_); refine with_tabW impl_ClearBetween.tab11 impl_ClearBetween.bits11 (fun HT_ HW_ => ?_)
           generalize w37.drew = w38 at HO_26 HO_34 BK370 HB hx372_0 hx372_1 hx372_2 hx372_3 hHeld ⊢
           refine pA (i := 1) (N := some 47) (mb 8 2) HT_ ?_
           refine pA (i := 2) (N := some 48) (mb 8 6) HT_ ?_
           refine pA (i := 3) (N := some 49) (mb 8 14) HT_ ?_
           refine tA8 (i := 0) (N := some 46) (mb 8 15) HT_ HW_ hHeld ?_
           refine oA (i := 4) (N := some 50) (mb 8 31) HT_ (fun K hK => ?_)
           refine gA Try.func70 #[.slice (some ad369) l0.length c0, .int .i64 (rd t364 x36_3)] ?_
           with_reducible refine (impl_FindPath.calls _ _ l0 (rd t364 x36_3) t371 _ ?side1 ?side2 A27.out).mono ?_
           (case side1 => exact cB HR0)
           (case side2 => exact HC0.out)
           rintro e w39 ⟨rfl, hb⟩
           refine ⟨_, rfl, ?_⟩
           replace HO_26 := Aside0.mk (Kd.R_below (rK HO_26) hb)
           replace HO_34 := Aside0.mk (Kd.R_below (rK HO_34) hb)
           replace BK370 := Aside0.mk (blk_below (g := gb370) (bK BK370) hb)
           replace HB := Aside0.mk (below_step bG hb)
           (try clear hb)
           (try clear hb2)
           (try clear hk)
           (try clear hi)
           refine hK.out _ _ ⟨bC BK370 0, bC BK370 1, bC BK370 2, bC BK370 3, (hC HB hw372_0), (hC HB hw372_1), (hC HB hw372_2), (hC HB hw372_3)⟩ (fun hHeld => ?_)
           clear hK K
           refine nB ?_
           refine pA (i := 5) (N := some 51) (mb 8 63) HT_ ?_
           refine tA8 (i := 6) (N := some 52) (mb 8 127) HT_ HW_ hHeld ?_
           refine oA (i := 7) (N := some 53) (mb 8 255) HT_ (fun K hK => ?_)
           refine gA Try.func81 #[.agg #[.int .i64 ((rd_T58 l0 t368).f0), .int .i64 ((rd_T58 l0 t368).f1), .int .i64 ((rd_T58 l0 t368).f2), .int .i64 ((rd_T58 l0 t368).f3)], .agg #[.int .i64 ((rd_T58 l0 t371).f0), .int .i64 ((rd_T58 l0 t371).f1), .int .i64 ((rd_T58 l0 t371).f2), .int .i64 ((rd_T58 l0 t371).f3)]] ?_
           with_reducible refine (impl_Conflict.calls k3 ((rd_T58 l0 t368).f0) ((rd_T58 l0 t368).f1) ((rd_T58 l0 t368).f2) ((rd_T58 l0 t368).f3) ((rd_T58 l0 t371).f0) ((rd_T58 l0 t371).f1) ((rd_T58 l0 t371).f2) ((rd_T58 l0 t371).f3) true _ A30.out).mono ?_
           rintro e w40 ⟨rfl, hb⟩
           refine ⟨_, rfl, ?_⟩
           replace HO_26 := Aside0.mk (Kd.R_below (rK HO_26) hb)
           replace HO_34 := Aside0.mk (Kd.R_below (rK HO_34) hb)
           replace BK370 := Aside0.mk (blk_below (g := gb370) (bK BK370) hb)
           replace HB := Aside0.mk (below_step bG hb)
           (try clear hb)
           (try clear hb2)
           (try clear hk)
           (try clear hi)
           refine hK.out _ _ ⟨bC BK370 0, bC BK370 1, bC BK370 2, bC BK370 3, (hC HB hw372_0), (hC HB hw372_1), (hC HB hw372_2), (hC HB hw372_3)⟩ (fun hHeld => ?_)
           clear hK K
           refine nB ?_
           refine eA HT_ ?_
           obtain ⟨hcz41_0, hcz41_1, hcz41_2, hcz41_3, hfz41_0, hfz41_1, hfz41_2, hfz41_3⟩ := blkc4 BK370
           try go_wp2_with (first | ((with_reducible refine gate_callee (f := 90) rfl ?_); refine gL (some 56) Try.func90 #[.agg #[.int .i64 ((rd_T58 l0 t368).f0), .int .i64 ((rd_T58 l0 t368).f1), .int .i64 ((rd_T58 l0 t368).f2), .int .i64 ((rd_T58 l0 t368).f3)]] ?_; (with_reducible refine (impl_ClearOf.calls ((rd_T58 l0 t368).f0) ((rd_T58 l0 t368).f1) ((rd_T58 l0 t368).f2) ((rd_T58 l0 t368).f3) t374 _ A32.out).mono ?_); rintro e w42 ⟨rfl, hb⟩; refine ⟨_, rfl, ?_⟩; replace HO_26 := Aside0.mk (Kd.R_below (rK HO_26) hb); replace HO_34 := Aside0.mk (Kd.R_below (rK HO_34) hb); replace BK370 := Aside0.mk (blk_below (g := gb370) (bK BK370) hb); replace HB := Aside0.mk (below_step bG hb); (try clear hb); (try clear hb2); (try clear hk); (try clear hi)))
           go_roundg k3
           case measure => have := HJ3.out; have := HK2.out; have := HK3.out; omega
           case rel => exact ⟨(ji33), (wrap64 (x36_3 + 1)), (by first | rfl | (simp; done) | (simp only [← hji33] <;> (first | rfl | simp)) | (simp [*]; done)), rS, H', ⟨by have := HJ3.out; have := HK2.out; have := HK3.out; omega⟩, ⟨rK HO_26⟩, ⟨rK HO_34⟩, ⟨bG⟩⟩
          ·
           replace c31 := Bool.eq_false_iff.mpr c31
           subst c31
           have H1 : (impl_ClearBetween.l1 k3 l0 l1 l2 x7_3 (rd t360 x28_2) t360 (t360.length : Int) x28_2 t364 (t364.length : Int) (wrap64 (x36_3 + 1))) = some r := by rw [if_neg (show ¬ (false = true) by decide)] at H; exact H
           clear H
           have H := H1
           clear H1
           have H' := Aside0.mk H
           clear H
           have p367 : 0 ≤ (x36_3 : Int) := dA
           have q367 : x36_3 < (t364.length : Int) := dA
           obtain ⟨ad367, e367, hx367_0⟩ := Kd.at_int (Kd.R_reads' HO_34.out).2.2 x36_3 p367 q367
           cases e367
           replace p367 := eq_true p367
           replace q367 := eq_true q367
           try go_wp2_with (first | ((with_reducible refine gate_callee (f := 70) rfl ?_); refine gL (some 43) Try.func70 #[.slice A0 l0.length c0, .int .i64 (rd t360 x28_2)] ?_; (with_reducible refine (impl_FindPath.calls _ _ l0 (rd t360 x28_2) t368 _ ?side1 ?side2 A24.out).mono ?_); (case side1 => exact cB HR0); (case side2 => exact HC0.out); rintro e w43 ⟨rfl, hb⟩; refine ⟨_, rfl, ?_⟩; replace HO_26 := Aside0.mk (Kd.R_below (rK HO_26) hb); replace HO_34 := Aside0.mk (Kd.R_below (rK HO_34) hb); replace HB := Aside0.mk (below_step bA hb); (try clear hb); (try clear hb2); (try clear hk); (try clear hi); have p369 : 0 ≤ (t368 : Int) := dA; have q369 : t368 < (l0.length : Int) := dA; obtain ⟨ad369, e369, hx369_0, hx369_1, hx369_2, hx369_3⟩ := at_T58 HR0.out t368 p369 q369; cases e369; replace hx369_0 := hC HB hx369_0; replace hx369_1 := hC HB hx369_1; replace hx369_2 := hC HB hx369_2; replace hx369_3 := hC HB hx369_3; replace p369 := eq_true p369; replace q369 := eq_true q369) | ((with_reducible refine gate_dst (N := 12) rfl ?_); refine bE (N := 12) (cs := #[.int .i64 0, .int .i64 0, .int .i64 0, .int .i64 0]) (t := 58) ?_; intro gb370 hg w44 hbox hb; have n0_ := Aside0.mk (Kd.R_below (rK HO_26) hb); have n1_ := Aside0.mk (Kd.R_below (rK HO_34) hb); have n2_ := Aside0.mk (below_step bA hb); have n3_ := Aside0.mk (hbox); have n4_ := Aside0.mk ((by rw [hg]; exact (below_size bA) : w.heap.size ≤ gb370)); have n5_ := Aside0.mk ((by rw [hg]; exact (below_size bA) : w.heap.size ≤ gb370)); clear HO_26; clear HO_34; clear HB; have HO_26 := n0_; have HO_34 := n1_; have HB := n2_; have BK370 := n3_; have GW370 := n4_; have GE370 := n5_; clear n0_ n1_ n2_ n3_ n4_ n5_; clear hb hbox hg; obtain ⟨hcz45_0, hcz45_1, hcz45_2, hcz45_3, hfz45_0, hfz45_1, hfz45_2, hfz45_3⟩ := blkc4 BK370))
           have n0_ : Aside0 (Kd.R (Kd.int .i64) 3 ((((w44.setCell ⟨gb370, 0, none⟩ (.int .i64 ((rd_T58 l0 t368).f0))).setCell ⟨gb370, 1, none⟩ (.int .i64 ((rd_T58 l0 t368).f1))).setCell ⟨gb370, 2, none⟩ (.int .i64 ((rd_T58 l0 t368).f2))).setCell ⟨gb370, 3, none⟩ (.int .i64 ((rd_T58 l0 t368).f3))) w.heap.size (fun k_ => some k_ ≠ (.slice (some ad367) t364.length co20 : Value).ownBlock) (.slice (some ad363) t360.length co14) t360) := ⟨by (with_reducible repeat (first | apply Kd.R_alloc | apply Kd.R_drewN | apply Kd.R_drew)); exact Kd.R_mono (Kd.R_far (p := ⟨gb370, 3, none⟩) (Kd.R_far (p := ⟨gb370, 2, none⟩) (Kd.R_far (p := ⟨gb370, 1, none⟩) (Kd.R_far (p := ⟨gb370, 0, none⟩) (Kd.R_types HO_26.out BK370.out (by decide)) (fun _ hk => hk.2) (.int .i64 ((rd_T58 l0 t368).f0))) (fun _ hk => hk.2) (.int .i64 ((rd_T58 l0 t368).f1))) (fun _ hk => hk.2) (.int .i64 ((rd_T58 l0 t368).f2))) (fun _ hk => hk.2) (.int .i64 ((rd_T58 l0 t368).f3))) (fun _ hk => hk.1)⟩
           have n1_ : Aside0 (Kd.R (Kd.int .i64) 3 ((((w44.setCell ⟨gb370, 0, none⟩ (.int .i64 ((rd_T58 l0 t368).f0))).setCell ⟨gb370, 1, none⟩ (.int .i64 ((rd_T58 l0 t368).f1))).setCell ⟨gb370, 2, none⟩ (.int .i64 ((rd_T58 l0 t368).f2))).setCell ⟨gb370, 3, none⟩ (.int .i64 ((rd_T58 l0 t368).f3))) w.heap.size (fun k_ => some k_ ≠ (.slice (some ad363) t360.length co14 : Value).ownBlock) (.slice (some ad367) t364.length co20) t364) := ⟨by (with_reducible repeat (first | apply Kd.R_alloc | apply Kd.R_drewN | apply Kd.R_drew)); exact Kd.R_mono (Kd.R_far (p := ⟨gb370, 3, none⟩) (Kd.R_far (p := ⟨gb370, 2, none⟩) (Kd.R_far (p := ⟨gb370, 1, none⟩) (Kd.R_far (p := ⟨gb370, 0, none⟩) (Kd.R_types HO_34.out BK370.out (by decide)) (fun _ hk => hk.2) (.int .i64 ((rd_T58 l0 t368).f0))) (fun _ hk => hk.2) (.int .i64 ((rd_T58 l0 t368).f1))) (fun _ hk => hk.2) (.int .i64 ((rd_T58 l0 t368).f2))) (fun _ hk => hk.2) (.int .i64 ((rd_T58 l0 t368).f3))) (fun _ hk => hk.1)⟩
           have n2_ : Aside0 (((((w44.setCell ⟨gb370, 0, none⟩ (.int .i64 ((rd_T58 l0 t368).f0))).setCell ⟨gb370, 1, none⟩ (.int .i64 ((rd_T58 l0 t368).f1))).setCell ⟨gb370, 2, none⟩ (.int .i64 ((rd_T58 l0 t368).f2))).setCell ⟨gb370, 3, none⟩ (.int .i64 ((rd_T58 l0 t368).f3))).heap[gb370]? = some (.cells #[.int .i64 ((rd_T58 l0 t368).f0), .int .i64 ((rd_T58 l0 t368).f1), .int .i64 ((rd_T58 l0 t368).f2), .int .i64 ((rd_T58 l0 t368).f3)] 58 (0, 0))) := ⟨by (with_reducible repeat (first | refine blk_drewN ?_ _ | refine blk_drew ?_ | refine blk_alloc ?_ _)); refine blk_put (cs := #[.int .i64 ((rd_T58 l0 t368).f0), .int .i64 ((rd_T58 l0 t368).f1), .int .i64 ((rd_T58 l0 t368).f2), .int .i64 0]) ?_ 3 _ rfl; (with_reducible repeat (first | refine blk_drewN ?_ _ | refine blk_drew ?_ | refine blk_alloc ?_ _)); refine blk_put (cs := #[.int .i64 ((rd_T58 l0 t368).f0), .int .i64 ((rd_T58 l0 t368).f1), .int .i64 0, .int .i64 0]) ?_ 2 _ rfl; (with_reducible repeat (first | refine blk_drewN ?_ _ | refine blk_drew ?_ | refine blk_alloc ?_ _)); refine blk_put (cs := #[.int .i64 ((rd_T58 l0 t368).f0), .int .i64 0, .int .i64 0, .int .i64 0]) ?_ 1 _ rfl; (with_reducible repeat (first | refine blk_drewN ?_ _ | refine blk_drew ?_ | refine blk_alloc ?_ _)); refine blk_put (cs := #[.int .i64 0, .int .i64 0, .int .i64 0, .int .i64 0]) ?_ 0 _ rfl; (with_reducible repeat (first | refine blk_drewN ?_ _ | refine blk_drew ?_ | refine blk_alloc ?_ _)); exact BK370.out⟩
           have n3_ : Aside0 (Below w.heap.size w ((((w44.setCell ⟨gb370, 0, none⟩ (.int .i64 ((rd_T58 l0 t368).f0))).setCell ⟨gb370, 1, none⟩ (.int .i64 ((rd_T58 l0 t368).f1))).setCell ⟨gb370, 2, none⟩ (.int .i64 ((rd_T58 l0 t368).f2))).setCell ⟨gb370, 3, none⟩ (.int .i64 ((rd_T58 l0 t368).f3)))) := ⟨bG⟩
           (try clear HO_26)
           (try clear HO_34)
           (try clear BK370)
           (try clear HB)
           generalize ((((w44.setCell ⟨gb370, 0, none⟩ (.int .i64 ((rd_T58 l0 t368).f0))).setCell ⟨gb370, 1, none⟩ (.int .i64 ((rd_T58 l0 t368).f1))).setCell ⟨gb370, 2, none⟩ (.int .i64 ((rd_T58 l0 t368).f2))).setCell ⟨gb370, 3, none⟩ (.int .i64 ((rd_T58 l0 t368).f3))) = w46 at n0_ n1_ n2_ n3_ ⊢
           have HO_26 := n0_
           have HO_34 := n1_
           have BK370 := n2_
           have HB := n3_
           clear n0_ n1_ n2_ n3_
           replace HO_26 := Aside0.mk (Kd.R_drew HO_26.out)
           replace HO_34 := Aside0.mk (Kd.R_drew HO_34.out)
           replace BK370 := Aside0.mk (blk_drew BK370.out)
           have HBo := HB
           replace HB := Aside0.mk (below_drew1 HB.out)
           have p372 : 0 ≤ (t371 : Int) := dA
           have q372 : t371 < (l0.length : Int) := dA
           obtain ⟨ad372, e372, hx372_0, hx372_1, hx372_2, hx372_3⟩ := at_T58 HR0.out t371 p372 q372
           have hw372_3 := hx372_3
           have hw372_2 := hx372_2
           have hw372_1 := hx372_1
           have hw372_0 := hx372_0
           obtain rfl : ad369 = ad372 := (by injection e372)
           replace hx372_0 := hC HB hx372_0
           replace hx372_1 := hC HB hx372_1
           replace hx372_2 := hC HB hx372_2
           replace hx372_3 := hC HB hx372_3
           replace p372 := eq_true p372
           replace q372 := eq_true q372
           refine start_ (n := 8) (S := fun w' => w'.cell? ⟨gb370, 0, none⟩ = some (.int .i64 ((rd_T58 l0 t368).f0)) ∧ w'.cell? ⟨gb370, 1, none⟩ = some (.int .i64 ((rd_T58 l0 t368).f1)) ∧ w'.cell? ⟨gb370, 2, none⟩ = some (.int .i64 ((rd_T58 l0 t368).f2)) ∧ w'.cell? ⟨gb370, 3, none⟩ = some (.int .i64 ((rd_T58 l0 t368).f3)) ∧ w'.cell? (ad369.add ((t371).toNat * 4)) = some (.int .i64 ((rd_T58 l0 t371).f0)) ∧ w'.cell? ⟨(ad369.add ((t371).toNat * 4)).block, (ad369.add ((t371).toNat * 4)).off + 1, none⟩ = some (.int .i64 ((rd_T58 l0 t371).f1)) ∧ w'.cell? ⟨(ad369.add ((t371).toNat * 4)).block, (ad369.add ((t371).toNat * 4)).off + 2, none⟩ = some (.int .i64 ((rd_T58 l0 t371).f2)) ∧ w'.cell? ⟨(ad369.add ((t371).toNat * 4)).block, (ad369.add ((t371).toNat * 4)).off + 3, none⟩ = some (.int .i64 ((rd_T58 l0 t371).f3))) (ds := []) (mb 8 0) (by kernel_rfl) rfl rfl ⟨bC BK370 0, bC BK370 1, bC BK370 2, bC BK370 3, (hC HB hw372_0), (hC HB hw372_1), (hC HB hw372_2), (hC HB hw372_3)⟩ (fun hHeld => ?_); refine with_tabW impl_ClearBetween.tab11 impl_ClearBetween.bits11 (fun HT_ HW_ => ?_)
           generalize w46.drew = w47 at HO_26 HO_34 BK370 HB hx372_0 hx372_1 hx372_2 hx372_3 hHeld ⊢
           refine pA (i := 1) (N := some 47) (mb 8 2) HT_ ?_
           refine pA (i := 2) (N := some 48) (mb 8 6) HT_ ?_
           refine pA (i := 3) (N := some 49) (mb 8 14) HT_ ?_
           refine tA8 (i := 0) (N := some 46) (mb 8 15) HT_ HW_ hHeld ?_
           refine oA (i := 4) (N := some 50) (mb 8 31) HT_ (fun K hK => ?_)
           refine gA Try.func70 #[.slice (some ad369) l0.length c0, .int .i64 (rd t364 x36_3)] ?_
           with_reducible refine (impl_FindPath.calls _ _ l0 (rd t364 x36_3) t371 _ ?side1 ?side2 A27.out).mono ?_
           (case side1 => exact cB HR0)
           (case side2 => exact HC0.out)
           rintro e w48 ⟨rfl, hb⟩
           refine ⟨_, rfl, ?_⟩
           replace HO_26 := Aside0.mk (Kd.R_below (rK HO_26) hb)
           replace HO_34 := Aside0.mk (Kd.R_below (rK HO_34) hb)
           replace BK370 := Aside0.mk (blk_below (g := gb370) (bK BK370) hb)
           replace HB := Aside0.mk (below_step bG hb)
           (try clear hb)
           (try clear hb2)
           (try clear hk)
           (try clear hi)
           refine hK.out _ _ ⟨bC BK370 0, bC BK370 1, bC BK370 2, bC BK370 3, (hC HB hw372_0), (hC HB hw372_1), (hC HB hw372_2), (hC HB hw372_3)⟩ (fun hHeld => ?_)
           clear hK K
           refine nB ?_
           refine pA (i := 5) (N := some 51) (mb 8 63) HT_ ?_
           refine tA8 (i := 6) (N := some 52) (mb 8 127) HT_ HW_ hHeld ?_
           refine oA (i := 7) (N := some 53) (mb 8 255) HT_ (fun K hK => ?_)
           refine gA Try.func81 #[.agg #[.int .i64 ((rd_T58 l0 t368).f0), .int .i64 ((rd_T58 l0 t368).f1), .int .i64 ((rd_T58 l0 t368).f2), .int .i64 ((rd_T58 l0 t368).f3)], .agg #[.int .i64 ((rd_T58 l0 t371).f0), .int .i64 ((rd_T58 l0 t371).f1), .int .i64 ((rd_T58 l0 t371).f2), .int .i64 ((rd_T58 l0 t371).f3)]] ?_
           with_reducible refine (impl_Conflict.calls k3 ((rd_T58 l0 t368).f0) ((rd_T58 l0 t368).f1) ((rd_T58 l0 t368).f2) ((rd_T58 l0 t368).f3) ((rd_T58 l0 t371).f0) ((rd_T58 l0 t371).f1) ((rd_T58 l0 t371).f2) ((rd_T58 l0 t371).f3) false _ A30.out).mono ?_
           rintro e w49 ⟨rfl, hb⟩
           refine ⟨_, rfl, ?_⟩
           replace HO_26 := Aside0.mk (Kd.R_below (rK HO_26) hb)
           replace HO_34 := Aside0.mk (Kd.R_below (rK HO_34) hb)
           replace BK370 := Aside0.mk (blk_below (g := gb370) (bK BK370) hb)
           replace HB := Aside0.mk (below_step bG hb)
           (try clear hb)
           (try clear hb2)
           (try clear hk)
           (try clear hi)
           refine hK.out _ _ ⟨bC BK370 0, bC BK370 1, bC BK370 2, bC BK370 3, (hC HB hw372_0), (hC HB hw372_1), (hC HB hw372_2), (hC HB hw372_3)⟩ (fun hHeld => ?_)
           clear hK K
           refine nB ?_
           refine eA HT_ ?_
           try go_wp2
           go_roundg k3
           case measure => have := HJ3.out; have := HK2.out; have := HK3.out; omega
           case rel => exact ⟨(x7_3), (wrap64 (x36_3 + 1)), rS, rS, H', ⟨by have := HJ3.out; have := HK2.out; have := HK3.out; omega⟩, ⟨rK HO_26⟩, ⟨rK HO_34⟩, ⟨bG⟩⟩
         ·
          rw [if_neg c21] at H
          have c21b0 : decide (x36_3 < (t364.length : Int)) = false := decide_eq_false c21
          clear c21
          have H' := Aside0.mk H
          clear H
          go_wp2
          go_roundg k3
          case measure => have := HJ3.out; have := HK2.out; have := HK3.out; omega
          case rel => exact ⟨(x7_3), (wrap64 (x28_2 + 1)), rS, rS, H', ⟨by have := HJ3.out; have := HK2.out; have := HK3.out; omega⟩, ⟨by (with_reducible repeat (first | apply Kd.R_alloc | apply Kd.R_drewN | apply Kd.R_drew)); exact Kd.R_mono HO_26.out (fun _ hk => trivial)⟩, ⟨bA⟩⟩
      ·
       rw [if_neg c15] at H
       have c15b0 : decide (x28_2 < (t360.length : Int)) = false := decide_eq_false c15
       clear c15
       obtain rfl := Option.some.inj H
       go_wp2
       go_ret
       exact ⟨rA, bA⟩

/-! ### impl_nextStage: function 84 -/
def impl_nextStage.f (l0 : List (S51)) (a1 : Int) : Option (List Int) := if (l0.length : Int) = 0 then (none) else (if 0 ≤ (Int.tmod (wrap64 (a1 + 1)) (l0.length : Int)) then (if (Int.tmod (wrap64 (a1 + 1)) (l0.length : Int)) < (l0.length : Int) then (some ((rd_T51 l0 (Int.tmod (wrap64 (a1 + 1)) (l0.length : Int))).f0)) else (none)) else (none))
set_option maxHeartbeats 8000000 in
set_option maxRecDepth 100000 in
theorem impl_nextStage.calls (P0_ : Nat → Prop) (A0 : Option Addr) (c0 : Nat) (l0 : List (S51)) (a1 : Int) (r : List Int) (w : World) (hs0 : Kd.V k51 51 w w.heap.size (fun k_ => P0_ k_) (.slice A0 l0.length c0) l0) (h : impl_nextStage.f l0 a1 = some r) :
  Calls Try.prog 84 #[.slice A0 l0.length c0, .int .i64 a1] w fun e w' => ∃ v0_ : Value, e = .returned (v0_) ∧ Kd.V (Kd.int .i64) 3 w' w.heap.size (fun k_ => (P0_ k_ ∨ w.heap.size ≤ k_)) v0_ r ∧ Below w.heap.size w w' := by
 have HO0 := Aside0.mk (show Kd.V k51 51 w w.heap.size (fun k_ => (P0_ k_ ∨ w.heap.size ≤ k_)) (.slice A0 l0.length c0) l0 from Kd.V_mono hs0 (fun k_ hk => .inl hk))
 have HB := Aside0.mk (Below.refl w.heap.size w)
 have H : (if (l0.length : Int) = 0 then (none) else (if 0 ≤ (Int.tmod (wrap64 (a1 + 1)) (l0.length : Int)) then (if (Int.tmod (wrap64 (a1 + 1)) (l0.length : Int)) < (l0.length : Int) then (some ((rd_T51 l0 (Int.tmod (wrap64 (a1 + 1)) (l0.length : Int))).f0)) else (none)) else (none))) = some r := h
 clear h
 have c3 : ¬ ((l0.length : Int) = 0) := ifN' H
 replace H := ifT' H
 have c3b0 : ((l0.length : Int) == 0) = false := beq_eq_false_iff_ne.mpr c3
 have c3b1 : ((l0.length : Int) != 0) = true := bne_iff_ne.mpr c3
 have c3b2 : ¬ (l0 = []) := fun h_ => c3 (by rw [h_]; rfl)
 obtain ⟨ji4, hji4⟩ : ∃ j_ : Int, (Int.tmod (wrap64 (a1 + 1)) (l0.length : Int)) = j_ := ⟨_, rfl⟩
 replace H : (if 0 ≤ (ji4) then (if (ji4) < (l0.length : Int) then (some ((rd_T51 l0 (ji4)).f0)) else (none)) else (none)) = some r := by first | (rw [hji4] at H; exact H) | (simp only [hji4] at H ⊢; exact H)
 have c5 : 0 ≤ (ji4) := ifN H
 replace H := ifT H
 have c5b0 : decide (0 ≤ (ji4)) = true := decide_eq_true c5
 clear c5
 have c6 : (ji4) < (l0.length : Int) := ifN H
 replace H := ifT H
 have c6b0 : decide ((ji4) < (l0.length : Int)) = true := decide_eq_true c6
 clear c6
 obtain rfl := Option.some.inj H
 have p375 : 0 ≤ ((ji4) : Int) := dA
 have q375 : (ji4) < (l0.length : Int) := dA
 obtain ⟨ad375, A375_0, c375_0, e375, hx375_0, hx375_1, hl375_0, hi375_0⟩ := at_T51 (Kd.V_reads' HO0.out).2.2 (ji4) p375 q375
 cases e375
 obtain ⟨ce375, hce375, hMe375, hcc375⟩ := Kd.V_get HO0.out z51 (ji4) p375 (by first | exact q375 | exact dA | (have e_ := (Kd.V_reads' HO0.out).1; omega))
 obtain ⟨ua375_0, uc375_0, rfl, ul375_0, ge375_0⟩ := k51_openF hMe375
 have hv375_0 := hcc375 0 _ rfl
 rw [Nat.add_zero] at hv375_0
 replace hv375_0 := Option.some.inj (hv375_0.symm.trans hx375_0)
 injection hv375_0 with hva_ hvn_ hvc_
 rw [hva_] at ge375_0
 rw [hvc_] at ul375_0
 have HL375_0 := Aside0.mk (show Kd.V (Kd.int .i64) 3 _ w.heap.size _ _ ((rd_T51 l0 (ji4)).f0) from Kd.V_mk ul375_0 ge375_0)
 clear hva_ hvn_ hvc_ ge375_0 ul375_0
 clear hcc375 hce375
 have HR375_0 := Aside0.mk hi375_0
 have HC375_0 := Aside0.mk hl375_0
 clear hi375_0 hl375_0
 replace p375 := eq_true p375
 replace q375 := eq_true q375
 go_enter Try.func84, Try.ntmps84
 go_wp2
 go_ret
 exact ⟨_, by first | rfl | (simp [errW_none, errW_some] <;> rfl) | (simp only [← hji4]; first | rfl | (simp [errW_none, errW_some] <;> rfl)) | (simp [*, errW_none, errW_some] <;> rfl), by (with_reducible repeat (first | apply Kd.V_alloc | apply Kd.V_drewN | apply Kd.V_drew)); exact HL375_0.out, bA⟩

/-! ### impl_longOf: function 65 -/
def impl_longOf.f (k : Nat) (l0 : List (S58)) (l1 : List (S51)) (a2 : Int) : Option (Int) := if 0 ≤ a2 then (if a2 < (l1.length : Int) then ((impl_nextStage.f l1 a2).bind fun t378 => ((impl_ClearBetween.f k l0 ((rd_T51 l1 a2).f0) t378).bind fun t381 => (some (wrap64 (((rd_T51 l1 a2).f1) + t381))))) else (none)) else (none)
theorem impl_longOf.mono : ∀ a0 a1 a2 k, LeO (impl_longOf.f k a0 a1 a2) (impl_longOf.f (k + 1) a0 a1 a2) := by
 intro a0 a1 a2 k
 unfold impl_longOf.f
 repeat' first | (with_reducible first | exact LeO.refl _ | exact LeO.none _ | refine LeO.ite ?_ ?_ | refine LeO.bind ?_ (fun _ => ?_) | exact impl_ClearBetween.mono _ _ _ _) | exact LeO.none _ | refine LeO.ite ?_ ?_ | refine LeO.bind ?_ (fun _ => ?_) | exact impl_ClearBetween.mono _ _ _ _
def impl_longOf.T1 : Bool × List (List Nat × List Nat) := (true, [([], []), ([], []), ([0, 1], [0, 1]), ([2], [2]), ([3], [3]), ([], []), ([], []), ([], []), ([6, 7], [6, 7]), ([8], [8]), ([9], [9]), ([], []), ([], []), ([11, 12], [11, 12]), ([5, 10, 13, 13], [5, 10, 13]), ([4, 14], [4, 14]), ([15, 14, 0, 1, 2, 3, 4, 5, 6, 7, 8, 9, 10, 11, 12, 13, 14, 15], [15])])
def impl_longOf.B1 : List Nat := [0, 0, 3, 7, 15, 0, 0, 0, 192, 448, 960, 0, 0, 6144, 16352, 32767, 65535]
theorem impl_longOf.tab1 : rtab .any (opsOf Try.f65 1) = impl_longOf.T1 := by kernel_rfl
theorem impl_longOf.bits1 : waitsOk impl_longOf.T1.2 impl_longOf.B1 = true := by kernel_rfl
set_option maxHeartbeats 8000000 in
set_option maxRecDepth 100000 in
theorem impl_longOf.calls (k : Nat) (A0 : Option Addr) (c0 : Nat) (l0 : List (S58)) (A1 : Option Addr) (c1 : Nat) (l1 : List (S51)) (a2 : Int) (r : Int) (w : World) (hr0 : Kd.C k58 w A0 l0.length l0) (hc0 : l0.length ≤ c0) (hr1 : Kd.C k51 w A1 l1.length l1) (hc1 : l1.length ≤ c1) (h : impl_longOf.f k l0 l1 a2 = some r) :
  Calls Try.prog 65 #[.slice A0 l0.length c0, .slice A1 l1.length c1, .int .i64 a2] w fun e w' => e = .returned (.int .i64 r) ∧ Below w.heap.size w w' := by
 have HR0 := Aside0.mk hr0
 have HC0 := Aside0.mk hc0
 clear hr0 hc0
 have HR1 := Aside0.mk hr1
 have HC1 := Aside0.mk hc1
 clear hr1 hc1
 have HB := Aside0.mk (Below.refl w.heap.size w)
 have H : (if 0 ≤ a2 then (if a2 < (l1.length : Int) then ((impl_nextStage.f l1 a2).bind fun t378 => ((impl_ClearBetween.f k l0 ((rd_T51 l1 a2).f0) t378).bind fun t381 => (some (wrap64 (((rd_T51 l1 a2).f1) + t381))))) else (none)) else (none)) = some r := h
 clear h
 have c4 : 0 ≤ a2 := ifN H
 replace H := ifT H
 have c4b0 : decide (0 ≤ a2) = true := decide_eq_true c4
 clear c4
 have c5 : a2 < (l1.length : Int) := ifN H
 replace H := ifT H
 have c5b0 : decide (a2 < (l1.length : Int)) = true := decide_eq_true c5
 clear c5
 obtain ⟨t378, A6, H⟩ := bindE H
 try dsimp only at H
 obtain ⟨t381, A7, H⟩ := bindE H
 try dsimp only at H
 obtain rfl := Option.some.inj H
 go_enter Try.func65, Try.ntmps65
 try go_wp2
 have HBo := HB
 replace HB := Aside0.mk (below_drew1 HB.out)
 have p376 : 0 ≤ (a2 : Int) := dA
 have q376 : a2 < (l1.length : Int) := dA
 obtain ⟨ad376, A376_0, c376_0, e376, hx376_0, hx376_1, hl376_0, hi376_0⟩ := at_T51 HR1.out a2 p376 q376
 have hw376_1 := hx376_1
 have hw376_0 := hx376_0
 cases e376
 replace hx376_0 := hC HB hx376_0
 replace hx376_1 := hC HB hx376_1
 have HR376_0 := Aside0.mk hi376_0
 have HC376_0 := Aside0.mk hl376_0
 clear hi376_0 hl376_0
 replace p376 := eq_true p376
 replace q376 := eq_true q376
 have p377 : 0 ≤ (a2 : Int) := dA
 have q377 : a2 < (l1.length : Int) := dA
 obtain ⟨ad377, A377_0, c377_0, e377, hx377_0, hx377_1, hl377_0, hi377_0⟩ := at_T51 HR1.out a2 p377 q377
 have hw377_1 := hx377_1
 have hw377_0 := hx377_0
 obtain rfl : ad376 = ad377 := (by injection e377)
 replace hx377_0 := hC HB hx377_0
 replace hx377_1 := hC HB hx377_1
 have HR377_0 := Aside0.mk hi377_0
 have HC377_0 := Aside0.mk hl377_0
 clear hi377_0 hl377_0
 replace p377 := eq_true p377
 replace q377 := eq_true q377
 have ea_ := Option.some.inj (hx376_0.symm.trans hx377_0)
 injection ea_ with ea_ en_ ec_
 subst ea_
 subst ec_
 clear en_
 refine start_ (n := 17) (S := fun w' => w'.cell? (ad376.add ((a2).toNat * 2)) = some (.slice A376_0 ((rd_T51 l1 a2).f0).length c376_0) ∧ w'.cell? ⟨(ad376.add ((a2).toNat * 2)).block, (ad376.add ((a2).toNat * 2)).off + 1, none⟩ = some (.int .i64 ((rd_T51 l1 a2).f1)) ∧ w'.cell? (ad376.add ((a2).toNat * 2)) = some (.slice A376_0 ((rd_T51 l1 a2).f0).length c376_0) ∧ w'.cell? ⟨(ad376.add ((a2).toNat * 2)).block, (ad376.add ((a2).toNat * 2)).off + 1, none⟩ = some (.int .i64 ((rd_T51 l1 a2).f1))) (ds := []) (mb 17 0) (by kernel_rfl) rfl rfl ⟨(hC HB hw376_0), (hC HB hw376_1), (hC HB hw377_0), (hC HB hw377_1)⟩ (fun hHeld => ?_); refine with_tabW impl_longOf.tab1 impl_longOf.bits1 (fun HT_ HW_ => ?_)
 generalize w.drew = w8 at HB HR376_0 HR377_0 hx376_0 hx376_1 hx377_0 hx377_1 hHeld ⊢
 refine pA (i := 0) (N := some 7) (mb 17 1) HT_ ?_
 refine pA (i := 1) (N := some 8) (mb 17 3) HT_ ?_
 refine pA (i := 2) (N := some 9) (mb 17 7) HT_ ?_
 refine pA (i := 3) (N := some 10) (mb 17 15) HT_ ?_
 refine pA (i := 5) (N := some 12) (mb 17 47) HT_ ?_
 refine pA (i := 6) (N := some 13) (mb 17 111) HT_ ?_
 refine pA (i := 7) (N := some 14) (mb 17 239) HT_ ?_
 refine pA (i := 8) (N := some 15) (mb 17 495) HT_ ?_
 refine pA (i := 9) (N := some 16) (mb 17 1007) HT_ ?_
 refine pA (i := 11) (N := some 18) (mb 17 3055) HT_ ?_
 refine pA (i := 12) (N := some 19) (mb 17 7151) HT_ ?_
 refine tA4 (i := 4) (N := some 11) (mb 17 7167) HT_ HW_ hHeld ?_
 refine tA4 (i := 10) (N := some 17) (mb 17 8191) HT_ HW_ hHeld ?_
 refine oA (i := 13) (N := some 20) (mb 17 16383) HT_ (fun K hK => ?_)
 refine gA Try.func84 #[.slice (some ad376) l1.length c1, .int .i64 a2] ?_
 with_reducible refine (impl_nextStage.calls (fun k_ => k_ < w.heap.size) _ _ l1 a2 t378 _ ?side1 A6.out).mono ?_
 (case side1 => exact Kd.V_mk HC1.out (Kd.F_below (Kd.C_F k51_heap HR1.out) bA))
 rintro e w9 ⟨v379, rfl, ho0, hb⟩
 refine ⟨_, rfl, ?_⟩
 have HO380 := Aside0.mk (Kd.V_lower (Kd.V_mono (ok' := fun k_ => True) ho0 (fun k_ hk_ => trivial)) (below_size bA))
 replace HB := Aside0.mk (below_step bA hb)
 (try clear hb)
 (try clear hb2)
 (try clear hk)
 (try clear hi)
 (try clear ho0)
 obtain ⟨Ao10, co10, eo10⟩ := Kd.V_slice HO380.out
 (first | subst eo10 | (injection eo10 with f1_ f2_ f3_; have f4_ := f1_.symm; have f5_ := f3_.symm; clear f1_ f2_ f3_; subst f4_; subst f5_))
 refine hK.out _ _ ⟨(hC HB hw376_0), (hC HB hw376_1), (hC HB hw377_0), (hC HB hw377_1)⟩ (fun hHeld => ?_)
 clear hK K
 refine nB ?_
 refine oA (i := 14) (N := some 21) (mb 17 32767) HT_ (fun K hK => ?_)
 refine gA Try.func83 #[.slice A0 l0.length c0, .slice A376_0 ((rd_T51 l1 a2).f0).length c376_0, .slice Ao10 t378.length co10] ?_
 with_reducible refine (impl_ClearBetween.calls k _ _ l0 _ _ ((rd_T51 l1 a2).f0) _ _ t378 t381 _ ?side1 ?side2 ?side3 ?side4 ?side5 ?side6 A7.out).mono ?_
 (case side1 => exact cB HR0)
 (case side2 => exact HC0.out)
 (case side3 => exact cB HR377_0)
 (case side4 => exact HC377_0.out)
 (case side5 => repeat (first | exact (Kd.V_reads' HO380.out).2.2 | (with_reducible refine Kd.C_alloc ?_ _) | (with_reducible refine Kd.C_drewN ?_ _) | (with_reducible refine Kd.C_drew ?_)))
 (case side6 => exact (Kd.V_reads' HO380.out).2.1)
 rintro e w11 ⟨rfl, hb⟩
 refine ⟨_, rfl, ?_⟩
 replace HO380 := Aside0.mk (Kd.V_below (by (with_reducible repeat (first | apply Kd.V_alloc | apply Kd.V_drewN | apply Kd.V_drew)); exact HO380.out) hb)
 replace HB := Aside0.mk (below_step bA hb)
 (try clear hb)
 (try clear hb2)
 (try clear hk)
 (try clear hi)
 refine hK.out _ _ ⟨(hC HB hw376_0), (hC HB hw376_1), (hC HB hw377_0), (hC HB hw377_1)⟩ (fun hHeld => ?_)
 clear hK K
 refine nB ?_
 refine pA (i := 15) (N := some 22) (mb 17 65535) HT_ ?_
 refine pA (i := 16) (N := some 6) (mb 17 131071) HT_ ?_
 refine eA HT_ ?_
 try go_wp2
 go_ret
 exact ⟨rA, bA⟩

/-! ### impl_Cycle: function 24 -/
def impl_Cycle.l0 : Nat → List (S58) → List (S51) → Int → Int → Int → Option (Int)
 | 0, _, _, _, _, _ => none
 | k + 1, x0, x1, x5, x12, x13 => if x13 < x12 then ((impl_longOf.f k x0 x1 x13).bind fun t383 => (impl_Cycle.l0 k x0 x1 (wrap64 (x5 + t383)) x12 (wrap64 (x13 + 1)))) else (some x5)
def impl_Cycle.f (k : Nat) (l0 : List (S58)) (l1 : List (S51)) : Option (Int) := (impl_IsPlan.f k l0 l1).bind fun t382 => (if t382 = true then (impl_Cycle.l0 k l0 l1 0 (l1.length : Int) 0) else (some 0))
theorem impl_Cycle.mono_l : ∀ k, (∀ y0 y1 y2 y3 y4, LeO (impl_Cycle.l0 k y0 y1 y2 y3 y4) (impl_Cycle.l0 (k + 1) y0 y1 y2 y3 y4))
 | 0 => fun _ _ _ _ _ r h => by simp [impl_Cycle.l0] at h
 | k + 1 => by
  have ih0 := impl_Cycle.mono_l k
  ·
   intro y0 y1 y2 y3 y4
   unfold impl_Cycle.l0
   repeat' first | (with_reducible first | exact LeO.refl _ | exact LeO.none _ | refine LeO.ite ?_ ?_ | refine LeO.bind ?_ (fun _ => ?_) | exact ih0 _ _ _ _ _ | exact impl_IsPlan.mono _ _ _ | exact impl_longOf.mono _ _ _ _) | exact LeO.none _ | refine LeO.ite ?_ ?_ | refine LeO.bind ?_ (fun _ => ?_) | exact ih0 _ _ _ _ _ | exact impl_IsPlan.mono _ _ _ | exact impl_longOf.mono _ _ _ _
theorem impl_Cycle.mono : ∀ a0 a1 k, LeO (impl_Cycle.f k a0 a1) (impl_Cycle.f (k + 1) a0 a1) := by
 intro a0 a1 k
 have ih0 := impl_Cycle.mono_l k
 unfold impl_Cycle.f
 repeat' first | (with_reducible first | exact LeO.refl _ | exact LeO.none _ | refine LeO.ite ?_ ?_ | refine LeO.bind ?_ (fun _ => ?_) | exact ih0 _ _ _ _ _ | exact impl_IsPlan.mono _ _ _ | exact impl_longOf.mono _ _ _ _) | exact LeO.none _ | refine LeO.ite ?_ ?_ | refine LeO.bind ?_ (fun _ => ?_) | exact ih0 _ _ _ _ _ | exact impl_IsPlan.mono _ _ _ | exact impl_longOf.mono _ _ _ _
set_option maxHeartbeats 8000000 in
set_option maxRecDepth 100000 in
theorem impl_Cycle.calls (k : Nat) (A0 : Option Addr) (c0 : Nat) (l0 : List (S58)) (A1 : Option Addr) (c1 : Nat) (l1 : List (S51)) (r : Int) (w : World) (hr0 : Kd.C k58 w A0 l0.length l0) (hc0 : l0.length ≤ c0) (hr1 : Kd.C k51 w A1 l1.length l1) (hc1 : l1.length ≤ c1) (h : impl_Cycle.f k l0 l1 = some r) :
  Calls Try.prog 24 #[.slice A0 l0.length c0, .slice A1 l1.length c1] w fun e w' => e = .returned (.int .i64 r) ∧ Below w.heap.size w w' := by
 have HR0 := Aside0.mk hr0
 have HC0 := Aside0.mk hc0
 clear hr0 hc0
 have HR1 := Aside0.mk hr1
 have HC1 := Aside0.mk hc1
 clear hr1 hc1
 have HB := Aside0.mk (Below.refl w.heap.size w)
 have H : ((impl_IsPlan.f k l0 l1).bind fun t382 => (if t382 = true then (impl_Cycle.l0 k l0 l1 0 (l1.length : Int) 0) else (some 0))) = some r := h
 clear h
 obtain ⟨t382, A3, H⟩ := bindE H
 try dsimp only at H
 by_cases c4 : t382 = true
 ·
  subst c4
  have H1 : (impl_Cycle.l0 k l0 l1 0 (l1.length : Int) 0) = some r := by rw [if_pos rfl] at H; exact H
  clear H
  have H := H1
  clear H1
  have H' := Aside0.mk H
  clear H
  go_enter Try.func24, Try.ntmps24
  go_wp2_with (first | ((with_reducible refine gate_callee (f := 20) rfl ?_); refine gL (some 9) Try.func20 #[.slice A0 l0.length c0, .slice A1 l1.length c1] ?_; (with_reducible refine (impl_IsPlan.calls k _ _ l0 (fun k_ => k_ < w.heap.size) _ _ l1 true _ ?side1 ?side2 ?side3 A3.out).mono ?_); (case side1 => exact cO HR0); (case side2 => exact HC0.out); (case side3 => exact Kd.V_mk HC1.out (Kd.F_below (Kd.C_F k51_heap HR1.out) bA)); rintro e w5 ⟨rfl, hb⟩; refine ⟨_, rfl, ?_⟩; replace HB := Aside0.mk (below_step bA hb); (try clear hb); (try clear hb2); (try clear hk); (try clear hi)))
  go_loopg [5, 13] k (fun kq v5 v13 w' => ∃ (x5_1 : Int) (x13_1 : Int), v5 = .int .i64 x5_1 ∧ v13 = .int .i64 x13_1 ∧ Aside0 (impl_Cycle.l0 kq l0 l1 x5_1 (l1.length : Int) x13_1 = some r) ∧ Aside0 (kq ≤ k) ∧ Aside0 (Below w.heap.size w w'))
  case atStart => exact ⟨(0), (0), rS, rS, H', ⟨Nat.le_refl _⟩, ⟨bA⟩⟩
  case round =>
   clear H'
   try clear c1
   try clear c2
   try clear p2
   try clear c4
   obtain ⟨x5_1, x13_1, rfl, rfl, HA, HK1, HB⟩ := hrel
   cases gk with
   | zero => exact absurd HA.out (by simp [impl_Cycle.l0])
   | succ k1 =>
    have H := HA.out
    clear HA
    simp only [impl_Cycle.l0] at H
    by_cases c6 : x13_1 < (l1.length : Int)
    ·
     rw [if_pos c6] at H
     have c6b0 : decide (x13_1 < (l1.length : Int)) = true := decide_eq_true c6
     clear c6
     obtain ⟨t383, A7, H⟩ := bindE H
     try dsimp only at H
     have H' := Aside0.mk H
     clear H
     go_wp2_with (first | ((with_reducible refine gate_callee (f := 65) rfl ?_); refine gL (some 20) Try.func65 #[.slice A0 l0.length c0, .slice A1 l1.length c1, .int .i64 x13_1] ?_; (with_reducible refine (impl_longOf.calls k1 _ _ l0 _ _ l1 x13_1 t383 _ ?side1 ?side2 ?side3 ?side4 A7.out).mono ?_); (case side1 => exact cB HR0); (case side2 => exact HC0.out); (case side3 => exact cB HR1); (case side4 => exact HC1.out); rintro e w8 ⟨rfl, hb⟩; refine ⟨_, rfl, ?_⟩; replace HB := Aside0.mk (below_step bA hb); (try clear hb); (try clear hb2); (try clear hk); (try clear hi)))
     go_roundg k1
     case measure => have := HK1.out; omega
     case rel => exact ⟨(wrap64 (x5_1 + t383)), (wrap64 (x13_1 + 1)), rS, rS, H', ⟨by have := HK1.out; omega⟩, ⟨bA⟩⟩
    ·
     rw [if_neg c6] at H
     have c6b0 : decide (x13_1 < (l1.length : Int)) = false := decide_eq_false c6
     clear c6
     obtain rfl := Option.some.inj H
     go_wp2
     go_ret
     exact ⟨rA, bA⟩
 ·
  replace c4 := Bool.eq_false_iff.mpr c4
  subst c4
  have H1 : (some 0) = some r := by rw [if_neg (show ¬ (false = true) by decide)] at H; exact H
  clear H
  have H := H1
  clear H1
  obtain rfl := Option.some.inj H
  go_enter Try.func24, Try.ntmps24
  go_wp2_with (first | ((with_reducible refine gate_callee (f := 20) rfl ?_); refine gL (some 9) Try.func20 #[.slice A0 l0.length c0, .slice A1 l1.length c1] ?_; (with_reducible refine (impl_IsPlan.calls k _ _ l0 (fun k_ => k_ < w.heap.size) _ _ l1 false _ ?side1 ?side2 ?side3 A3.out).mono ?_); (case side1 => exact cO HR0); (case side2 => exact HC0.out); (case side3 => exact Kd.V_mk HC1.out (Kd.F_below (Kd.C_F k51_heap HR1.out) bA)); rintro e w9 ⟨rfl, hb⟩; refine ⟨_, rfl, ?_⟩; replace HB := Aside0.mk (below_step bA hb); (try clear hb); (try clear hb2); (try clear hk); (try clear hi)))
  go_ret
  exact ⟨rA, bA⟩

/-! ### impl_PartAt: function 32 -/
mutual
def impl_PartAt.j0 : Nat → List (S58) → List (S51) → Int → Int → Bool → Option (Int × Int)
 | 0, _, _, _, _, _ => none
 | k + 1, x0, x1, x2, x8, x20 => if x20 = true then (some ((-1), 0)) else (if x8 = 0 then (none) else (impl_PartAt.l0 k x0 x1 (Int.tmod x2 x8) 0))
def impl_PartAt.l0 : Nat → List (S58) → List (S51) → Int → Int → Option (Int × Int)
 | 0, _, _, _, _ => none
 | k + 1, x0, x1, x9, x10 => (impl_longOf.f k x0 x1 x10).bind fun t386 => (if x9 ≥ t386 then ((impl_longOf.f k x0 x1 x10).bind fun t387 => (impl_PartAt.l0 k x0 x1 (wrap64 (x9 - t387)) (wrap64 (x10 + 1)))) else (some (x10, x9)))
end
def impl_PartAt.f (k : Nat) (l0 : List (S58)) (l1 : List (S51)) (a2 : Int) : Option (Int × Int) := (impl_Cycle.f k l0 l1).bind fun t384 => (if t384 = 0 then (impl_PartAt.j0 k l0 l1 a2 t384 true) else ((impl_InRange.f a2 0 1000000).bind fun t385 => (impl_PartAt.j0 k l0 l1 a2 t384 (!t385))))
theorem impl_PartAt.mono_l : ∀ k, (∀ y0 y1 y2 y3 y4, LeO (impl_PartAt.j0 k y0 y1 y2 y3 y4) (impl_PartAt.j0 (k + 1) y0 y1 y2 y3 y4)) ∧ (∀ y0 y1 y2 y3, LeO (impl_PartAt.l0 k y0 y1 y2 y3) (impl_PartAt.l0 (k + 1) y0 y1 y2 y3))
 | 0 => ⟨fun _ _ _ _ _ r h => by simp [impl_PartAt.j0] at h, fun _ _ _ _ r h => by simp [impl_PartAt.l0] at h⟩
 | k + 1 => by
  obtain ⟨ih0, ih1⟩ := impl_PartAt.mono_l k
  refine ⟨?_, ?_⟩
  ·
   intro y0 y1 y2 y3 y4
   unfold impl_PartAt.j0
   repeat' first | (with_reducible first | exact LeO.refl _ | exact LeO.none _ | refine LeO.ite ?_ ?_ | refine LeO.bind ?_ (fun _ => ?_) | exact ih0 _ _ _ _ _ | exact ih1 _ _ _ _ | exact impl_Cycle.mono _ _ _ | exact impl_longOf.mono _ _ _ _) | exact LeO.none _ | refine LeO.ite ?_ ?_ | refine LeO.bind ?_ (fun _ => ?_) | exact ih0 _ _ _ _ _ | exact ih1 _ _ _ _ | exact impl_Cycle.mono _ _ _ | exact impl_longOf.mono _ _ _ _
  ·
   intro y0 y1 y2 y3
   unfold impl_PartAt.l0
   repeat' first | (with_reducible first | exact LeO.refl _ | exact LeO.none _ | refine LeO.ite ?_ ?_ | refine LeO.bind ?_ (fun _ => ?_) | exact ih0 _ _ _ _ _ | exact ih1 _ _ _ _ | exact impl_Cycle.mono _ _ _ | exact impl_longOf.mono _ _ _ _) | exact LeO.none _ | refine LeO.ite ?_ ?_ | refine LeO.bind ?_ (fun _ => ?_) | exact ih0 _ _ _ _ _ | exact ih1 _ _ _ _ | exact impl_Cycle.mono _ _ _ | exact impl_longOf.mono _ _ _ _
theorem impl_PartAt.mono : ∀ a0 a1 a2 k, LeO (impl_PartAt.f k a0 a1 a2) (impl_PartAt.f (k + 1) a0 a1 a2) := by
 intro a0 a1 a2 k
 obtain ⟨ih0, ih1⟩ := impl_PartAt.mono_l k
 unfold impl_PartAt.f
 repeat' first | (with_reducible first | exact LeO.refl _ | exact LeO.none _ | refine LeO.ite ?_ ?_ | refine LeO.bind ?_ (fun _ => ?_) | exact ih0 _ _ _ _ _ | exact ih1 _ _ _ _ | exact impl_Cycle.mono _ _ _ | exact impl_longOf.mono _ _ _ _) | exact LeO.none _ | refine LeO.ite ?_ ?_ | refine LeO.bind ?_ (fun _ => ?_) | exact ih0 _ _ _ _ _ | exact ih1 _ _ _ _ | exact impl_Cycle.mono _ _ _ | exact impl_longOf.mono _ _ _ _
set_option maxHeartbeats 8000000 in
set_option maxRecDepth 100000 in
theorem impl_PartAt.calls (k : Nat) (A0 : Option Addr) (c0 : Nat) (l0 : List (S58)) (A1 : Option Addr) (c1 : Nat) (l1 : List (S51)) (a2 : Int) (r1 : Int) (r2 : Int) (w : World) (hr0 : Kd.C k58 w A0 l0.length l0) (hc0 : l0.length ≤ c0) (hr1 : Kd.C k51 w A1 l1.length l1) (hc1 : l1.length ≤ c1) (h : impl_PartAt.f k l0 l1 a2 = some (r1, r2)) :
  Calls Try.prog 32 #[.slice A0 l0.length c0, .slice A1 l1.length c1, .int .i64 a2] w fun e w' => e = .returned (.tuple #[.int .i64 r1, .int .i64 r2]) ∧ Below w.heap.size w w' := by
 have HR0 := Aside0.mk hr0
 have HC0 := Aside0.mk hc0
 clear hr0 hc0
 have HR1 := Aside0.mk hr1
 have HC1 := Aside0.mk hc1
 clear hr1 hc1
 have HB := Aside0.mk (Below.refl w.heap.size w)
 have H : ((impl_Cycle.f k l0 l1).bind fun t384 => (if t384 = 0 then (impl_PartAt.j0 k l0 l1 a2 t384 true) else ((impl_InRange.f a2 0 1000000).bind fun t385 => (impl_PartAt.j0 k l0 l1 a2 t384 (!t385))))) = some (r1, r2) := h
 clear h
 obtain ⟨t384, A4, H⟩ := bindE H
 try dsimp only at H
 have HC5 := Aside0.mk H
 clear H
 go_enter Try.func32, Try.ntmps32
 go_upto_region 2 with (first | ((with_reducible refine gate_callee (f := 24) rfl ?_); refine gL (some 13) Try.func24 #[.slice A0 l0.length c0, .slice A1 l1.length c1] ?_; (with_reducible refine (impl_Cycle.calls k _ _ l0 _ _ l1 t384 _ ?side1 ?side2 ?side3 ?side4 A4.out).mono ?_); (case side1 => exact cO HR0); (case side2 => exact HC0.out); (case side3 => exact cO HR1); (case side4 => exact HC1.out); rintro e w6 ⟨rfl, hb⟩; refine ⟨_, rfl, ?_⟩; replace HB := Aside0.mk (below_step bA hb); (try clear hb); (try clear hb2); (try clear hk); (try clear hi)))
 (try simp only [Act.put, List.setIfInBounds_toArray, List.set_cons_zero, List.set_cons_succ])
 go_cut [20] (fun v20 wc => ∃ (kq : Nat) (x20_4 : Bool), v20 = .bool x20_4 ∧ Aside0 (impl_PartAt.j0 kq l0 l1 a2 t384 x20_4 = some (r1, r2)) ∧ Aside0 (kq ≤ k) ∧ Aside0 (Below w.heap.size w wc))
 case first =>
  have H := HC5.out
  clear HC5
  by_cases c7 : t384 = 0
  ·
   rw [if_pos c7] at H
   have c7b0 : (t384 == 0) = true := beq_iff_eq.mpr c7
   have c7b1 : (t384 != 0) = false := bne_eq_false_iff_eq.mpr c7
   clear c7
   (first | rw [c7b0] | (simp only [i64_w, i32_w]; rw [c7b0]) | skip)
   have H' := Aside0.mk H
   clear H
   go_wp2
   go_meet
   case rel => exact ⟨_, (true), rS, H', ⟨by first | omega | exact Nat.le_refl _⟩, ⟨bA⟩⟩
  ·
   rw [if_neg c7] at H
   have c7b0 : (t384 == 0) = false := beq_eq_false_iff_ne.mpr c7
   have c7b1 : (t384 != 0) = true := bne_iff_ne.mpr c7
   (first | rw [c7b0] | (simp only [i64_w, i32_w]; rw [c7b0]) | skip)
   obtain ⟨t385, A8, H⟩ := bindE H
   try dsimp only at H
   have H' := Aside0.mk H
   clear H
   go_wp2_with (first | (go_at_call 58; (with_reducible refine (impl_InRange.calls a2 0 1000000 t385 _ A8.out).mono ?_); rintro e w' ⟨rfl, ⟨nd, rfl⟩⟩))
   go_meet
   case rel => exact ⟨_, (!t385), rS, H', ⟨by first | omega | exact Nat.le_refl _⟩, ⟨bA⟩⟩
 case rest =>
  clear HC5
  try clear c1
  try clear c2
  try clear p2
  try clear c3
  try clear c7
  try clear c7b0
  try clear c7b1
  obtain ⟨kq, x20_4, rfl, HA, HJ4, HB⟩ := hcut
  cases kq with
  | zero => exact absurd HA.out (by simp [impl_PartAt.j0])
  | succ kj4 =>
   have H := HA.out
   clear HA
   simp only [impl_PartAt.j0] at H
   by_cases c9 : x20_4 = true
   ·
    subst c9
    have H1 : (some ((-1), 0)) = some (r1, r2) := by rw [if_pos rfl] at H; exact H
    clear H
    have H := H1
    clear H1
    simp only [Option.some.injEq, Prod.mk.injEq] at H
    obtain ⟨rfl, rfl⟩ := H
    go_wp2
    go_ret2
    exact ⟨rA, bA⟩
   ·
    replace c9 := Bool.eq_false_iff.mpr c9
    subst c9
    have H1 : (if t384 = 0 then (none) else (impl_PartAt.l0 kj4 l0 l1 (Int.tmod a2 t384) 0)) = some (r1, r2) := by rw [if_neg (show ¬ (false = true) by decide)] at H; exact H
    clear H
    have H := H1
    clear H1
    have c10 : ¬ (t384 = 0) := ifN' H
    replace H := ifT' H
    have c10b0 : (t384 == 0) = false := beq_eq_false_iff_ne.mpr c10
    have c10b1 : (t384 != 0) = true := bne_iff_ne.mpr c10
    have H' := Aside0.mk H
    clear H
    go_wp2
    go_loopg [9, 10] kj4 (fun kq v9 v10 w' => ∃ (x9_2 : Int) (x10_2 : Int), v9 = .int .i64 x9_2 ∧ v10 = .int .i64 x10_2 ∧ Aside0 (impl_PartAt.l0 kq l0 l1 x9_2 x10_2 = some (r1, r2)) ∧ Aside0 (kq ≤ kj4) ∧ Aside0 (Below w.heap.size w w'))
    case atStart => exact ⟨(Int.tmod a2 t384), (0), rS, rS, H', ⟨Nat.le_refl _⟩, ⟨bA⟩⟩
    case round =>
     clear H'
     try clear c1
     try clear c2
     try clear p2
     try clear c3
     try clear c7
     try clear c7b0
     try clear c7b1
     try clear c9
     try clear c10
     try clear c10b0
     try clear c10b1
     try clear p2
     obtain ⟨x9_2, x10_2, rfl, rfl, HA, HK2, HB⟩ := hrel
     cases gk with
     | zero => exact absurd HA.out (by simp [impl_PartAt.l0])
     | succ k2 =>
      have H := HA.out
      clear HA
      simp only [impl_PartAt.l0] at H
      obtain ⟨t386, A11, H⟩ := bindE H
      try dsimp only at H
      by_cases c12 : x9_2 ≥ t386
      ·
       rw [if_pos c12] at H
       have c12b0 : decide (t386 ≤ x9_2) = true := decide_eq_true c12
       clear c12
       obtain ⟨t387, A13, H⟩ := bindE H
       try dsimp only at H
       have H' := Aside0.mk H
       clear H
       go_wp2_with (first | ((with_reducible refine gate_callee (f := 65) rfl ?_); refine gL (some 28) Try.func65 #[.slice A0 l0.length c0, .slice A1 l1.length c1, .int .i64 x10_2] ?_; (with_reducible refine (impl_longOf.calls k2 _ _ l0 _ _ l1 x10_2 t386 _ ?side1 ?side2 ?side3 ?side4 A11.out).mono ?_); (case side1 => exact cB HR0); (case side2 => exact HC0.out); (case side3 => exact cB HR1); (case side4 => exact HC1.out); rintro e w14 ⟨rfl, hb⟩; refine ⟨_, rfl, ?_⟩; replace HB := Aside0.mk (below_step bA hb); (try clear hb); (try clear hb2); (try clear hk); (try clear hi)) | ((with_reducible refine gate_callee (f := 65) rfl ?_); refine gL (some 34) Try.func65 #[.slice A0 l0.length c0, .slice A1 l1.length c1, .int .i64 x10_2] ?_; (with_reducible refine (impl_longOf.calls k2 _ _ l0 _ _ l1 x10_2 t387 _ ?side1 ?side2 ?side3 ?side4 A13.out).mono ?_); (case side1 => exact cB HR0); (case side2 => exact HC0.out); (case side3 => exact cB HR1); (case side4 => exact HC1.out); rintro e w15 ⟨rfl, hb⟩; refine ⟨_, rfl, ?_⟩; replace HB := Aside0.mk (below_step bA hb); (try clear hb); (try clear hb2); (try clear hk); (try clear hi)))
       go_roundg k2
       case measure => have := HJ4.out; have := HK2.out; omega
       case rel => exact ⟨(wrap64 (x9_2 - t387)), (wrap64 (x10_2 + 1)), rS, rS, H', ⟨by have := HJ4.out; have := HK2.out; omega⟩, ⟨bA⟩⟩
      ·
       rw [if_neg c12] at H
       have c12b0 : decide (t386 ≤ x9_2) = false := decide_eq_false c12
       clear c12
       simp only [Option.some.injEq, Prod.mk.injEq] at H
       obtain ⟨rfl, rfl⟩ := H
       go_wp2_with (first | ((with_reducible refine gate_callee (f := 65) rfl ?_); refine gL (some 28) Try.func65 #[.slice A0 l0.length c0, .slice A1 l1.length c1, .int .i64 x10_2] ?_; (with_reducible refine (impl_longOf.calls k2 _ _ l0 _ _ l1 x10_2 t386 _ ?side1 ?side2 ?side3 ?side4 A11.out).mono ?_); (case side1 => exact cB HR0); (case side2 => exact HC0.out); (case side3 => exact cB HR1); (case side4 => exact HC1.out); rintro e w16 ⟨rfl, hb⟩; refine ⟨_, rfl, ?_⟩; replace HB := Aside0.mk (below_step bA hb); (try clear hb); (try clear hb2); (try clear hk); (try clear hi)))
       go_ret2
       exact ⟨rA, bA⟩

/-! ### impl_shown: function 71 -/
mutual
def impl_shown.j0 : Nat → List (S51) → Int → Int → Bool → Int → Int → Int → Int → Option (Int)
 | 0, _, _, _, _, _, _, _, _ => none
 | k + 1, x1, x9, x10, x30, x389000, x389001, x389002, x389003 => if x30 = true then (some 0) else (if 0 ≤ x9 then (if x9 < (x1.length : Int) then (if x10 < ((rd_T51 x1 x9).f1) then (impl_shown.j1 k x1 x9 x10 true x389000 x389001 x389002 x389003) else ((impl_nextStage.f x1 x9).bind fun t394 => ((slices_Contains_int_int.f k t394 x389000).bind fun t397 => (impl_shown.j1 k x1 x9 x10 t397 x389000 x389001 x389002 x389003)))) else (none)) else (none))
def impl_shown.j1 : Nat → List (S51) → Int → Int → Bool → Int → Int → Int → Int → Option (Int)
 | 0, _, _, _, _, _, _, _, _ => none
 | k + 1, x1, x9, x10, x31, x389000, x389001, x389002, x389003 => if x31 = true then (some 1) else (if 0 ≤ x9 then (if x9 < (x1.length : Int) then ((impl_ClearOf.f x389000 x389001 x389002 x389003).bind fun t399 => (if x10 < (wrap64 (((rd_T51 x1 x9).f1) + t399)) then (some 2) else (some 0))) else (none)) else (none))
end
def impl_shown.f (k : Nat) (l0 : List (S58)) (l1 : List (S51)) (a2 : Int) (a3_0 : Int) (a3_1 : Int) (a3_2 : Int) (a3_3 : Int) : Option (Int) := (impl_PartAt.f k l0 l1 a2).bind fun bt389 => (if bt389.1 < 0 then (impl_shown.j0 k l1 bt389.1 bt389.2 true a3_0 a3_1 a3_2 a3_3) else (if 0 ≤ bt389.1 then (if bt389.1 < (l1.length : Int) then ((slices_Contains_int_int.f k ((rd_T51 l1 bt389.1).f0) a3_0).bind fun t392 => (impl_shown.j0 k l1 bt389.1 bt389.2 (!t392) a3_0 a3_1 a3_2 a3_3)) else (none)) else (none)))
theorem impl_shown.mono_l : ∀ k, (∀ y0 y1 y2 y3 y4 y5 y6 y7, LeO (impl_shown.j0 k y0 y1 y2 y3 y4 y5 y6 y7) (impl_shown.j0 (k + 1) y0 y1 y2 y3 y4 y5 y6 y7)) ∧ (∀ y0 y1 y2 y3 y4 y5 y6 y7, LeO (impl_shown.j1 k y0 y1 y2 y3 y4 y5 y6 y7) (impl_shown.j1 (k + 1) y0 y1 y2 y3 y4 y5 y6 y7))
 | 0 => ⟨fun _ _ _ _ _ _ _ _ r h => by simp [impl_shown.j0] at h, fun _ _ _ _ _ _ _ _ r h => by simp [impl_shown.j1] at h⟩
 | k + 1 => by
  obtain ⟨ih0, ih1⟩ := impl_shown.mono_l k
  refine ⟨?_, ?_⟩
  ·
   intro y0 y1 y2 y3 y4 y5 y6 y7
   unfold impl_shown.j0
   repeat' first | (with_reducible first | exact LeO.refl _ | exact LeO.none _ | refine LeO.ite ?_ ?_ | refine LeO.bind ?_ (fun _ => ?_) | exact ih0 _ _ _ _ _ _ _ _ | exact ih1 _ _ _ _ _ _ _ _ | exact impl_PartAt.mono _ _ _ _ | exact slices_Contains_int_int.mono _ _ _) | exact LeO.none _ | refine LeO.ite ?_ ?_ | refine LeO.bind ?_ (fun _ => ?_) | exact ih0 _ _ _ _ _ _ _ _ | exact ih1 _ _ _ _ _ _ _ _ | exact impl_PartAt.mono _ _ _ _ | exact slices_Contains_int_int.mono _ _ _
  ·
   intro y0 y1 y2 y3 y4 y5 y6 y7
   unfold impl_shown.j1
   repeat' first | (with_reducible first | exact LeO.refl _ | exact LeO.none _ | refine LeO.ite ?_ ?_ | refine LeO.bind ?_ (fun _ => ?_) | exact ih0 _ _ _ _ _ _ _ _ | exact ih1 _ _ _ _ _ _ _ _ | exact impl_PartAt.mono _ _ _ _ | exact slices_Contains_int_int.mono _ _ _) | exact LeO.none _ | refine LeO.ite ?_ ?_ | refine LeO.bind ?_ (fun _ => ?_) | exact ih0 _ _ _ _ _ _ _ _ | exact ih1 _ _ _ _ _ _ _ _ | exact impl_PartAt.mono _ _ _ _ | exact slices_Contains_int_int.mono _ _ _
theorem impl_shown.mono : ∀ a0 a1 a2 a3 a4 a5 a6 k, LeO (impl_shown.f k a0 a1 a2 a3 a4 a5 a6) (impl_shown.f (k + 1) a0 a1 a2 a3 a4 a5 a6) := by
 intro a0 a1 a2 a3 a4 a5 a6 k
 obtain ⟨ih0, ih1⟩ := impl_shown.mono_l k
 unfold impl_shown.f
 repeat' first | (with_reducible first | exact LeO.refl _ | exact LeO.none _ | refine LeO.ite ?_ ?_ | refine LeO.bind ?_ (fun _ => ?_) | exact ih0 _ _ _ _ _ _ _ _ | exact ih1 _ _ _ _ _ _ _ _ | exact impl_PartAt.mono _ _ _ _ | exact slices_Contains_int_int.mono _ _ _) | exact LeO.none _ | refine LeO.ite ?_ ?_ | refine LeO.bind ?_ (fun _ => ?_) | exact ih0 _ _ _ _ _ _ _ _ | exact ih1 _ _ _ _ _ _ _ _ | exact impl_PartAt.mono _ _ _ _ | exact slices_Contains_int_int.mono _ _ _
def impl_shown.T2 : Bool × List (List Nat × List Nat) := (true, [([], []), ([0], [0]), ([1], [1]), ([2], [2]), ([2], [2]), ([3, 4, 2], [2, 3, 4]), ([5, 2], [2, 5]), ([6, 2], [2, 6]), ([2], [2]), ([8, 2], [2, 8]), ([7, 9, 2, 2], [2, 7, 9]), ([10, 2], [2, 10]), ([2, 11], [2, 11])])
def impl_shown.B2 : List Nat := [0, 1, 3, 7, 7, 31, 63, 127, 7, 263, 1023, 2047, 4095]
theorem impl_shown.tab2 : rtab .any (opsOf Try.f71 2) = impl_shown.T2 := by kernel_rfl
theorem impl_shown.bits2 : waitsOk impl_shown.T2.2 impl_shown.B2 = true := by kernel_rfl
def impl_shown.T4 : Bool × List (List Nat × List Nat) := (true, [([], []), ([], []), ([], []), ([1, 2], [1, 2]), ([3], [3]), ([4], [4]), ([0, 5], [0, 5]), ([6], [6]), ([7], [7]), ([7], [7]), ([8, 9, 7, 7], [7, 8, 9]), ([7], [7]), ([11, 7], [7, 11]), ([10, 12, 10, 7], [7, 10, 12]), ([7, 13], [7, 13]), ([14, 13], [14])])
def impl_shown.B4 : List Nat := [0, 0, 0, 6, 14, 30, 63, 127, 255, 255, 1023, 255, 2303, 8191, 16383, 32767]
theorem impl_shown.tab4 : rtab .any (opsOf Try.f71 4) = impl_shown.T4 := by kernel_rfl
theorem impl_shown.bits4 : waitsOk impl_shown.T4.2 impl_shown.B4 = true := by kernel_rfl
def impl_shown.T6 : Bool × List (List Nat × List Nat) := (true, [([], []), ([], []), ([], []), ([1, 2], [1, 2]), ([3], [3]), ([4], [4]), ([], []), ([6], [6]), ([5, 7], [5, 7]), ([0, 8], [0, 8]), ([9, 7], [9])])
def impl_shown.B6 : List Nat := [0, 0, 0, 6, 14, 30, 0, 64, 254, 511, 1023]
theorem impl_shown.tab6 : rtab .any (opsOf Try.f71 6) = impl_shown.T6 := by kernel_rfl
theorem impl_shown.bits6 : waitsOk impl_shown.T6.2 impl_shown.B6 = true := by kernel_rfl
set_option maxHeartbeats 8000000 in
set_option maxRecDepth 100000 in
theorem impl_shown.calls (k : Nat) (A0 : Option Addr) (c0 : Nat) (l0 : List (S58)) (A1 : Option Addr) (c1 : Nat) (l1 : List (S51)) (a2 : Int) (a3_0 : Int) (a3_1 : Int) (a3_2 : Int) (a3_3 : Int) (r : Int) (w : World) (hr0 : Kd.C k58 w A0 l0.length l0) (hc0 : l0.length ≤ c0) (hr1 : Kd.C k51 w A1 l1.length l1) (hc1 : l1.length ≤ c1) (h : impl_shown.f k l0 l1 a2 a3_0 a3_1 a3_2 a3_3 = some r) :
  Calls Try.prog 71 #[.slice A0 l0.length c0, .slice A1 l1.length c1, .int .i64 a2, .agg #[.int .i64 a3_0, .int .i64 a3_1, .int .i64 a3_2, .int .i64 a3_3]] w fun e w' => e = .returned (.int .i64 r) ∧ Below w.heap.size w w' := by
 have hu58 := Try.underlying58
 have HR0 := Aside0.mk hr0
 have HC0 := Aside0.mk hc0
 clear hr0 hc0
 have HR1 := Aside0.mk hr1
 have HC1 := Aside0.mk hc1
 clear hr1 hc1
 have HB := Aside0.mk (Below.refl w.heap.size w)
 have H : ((impl_PartAt.f k l0 l1 a2).bind fun bt389 => (if bt389.1 < 0 then (impl_shown.j0 k l1 bt389.1 bt389.2 true a3_0 a3_1 a3_2 a3_3) else (if 0 ≤ bt389.1 then (if bt389.1 < (l1.length : Int) then ((slices_Contains_int_int.f k ((rd_T51 l1 bt389.1).f0) a3_0).bind fun t392 => (impl_shown.j0 k l1 bt389.1 bt389.2 (!t392) a3_0 a3_1 a3_2 a3_3)) else (none)) else (none)))) = some r := h
 clear h
 obtain ⟨⟨t389, t390⟩, A5, H⟩ := bindE H
 try dsimp only at H
 have HC6 := Aside0.mk H
 clear H
 go_enter Try.func71, Try.ntmps71
 go_upto_region 2 with (first | ((with_reducible refine gate_dst (N := 7) rfl ?_); refine bE (N := 7) (cs := #[.int .i64 a3_0, .int .i64 a3_1, .int .i64 a3_2, .int .i64 a3_3]) (t := 58) ?_; intro gb388 hg w7 hbox hb; have n0_ := Aside0.mk (below_step bA hb); have n1_ := Aside0.mk (hbox); have n2_ := Aside0.mk ((by rw [hg]; exact (below_size bA) : w.heap.size ≤ gb388)); have n3_ := Aside0.mk ((by rw [hg]; exact (below_size bA) : w.heap.size ≤ gb388)); clear HB; have HB := n0_; have BK388 := n1_; have GW388 := n2_; have GE388 := n3_; clear n0_ n1_ n2_ n3_; clear hb hbox hg) | ((with_reducible refine gate_callee (f := 32) rfl ?_); refine gL (some 15) Try.func32 #[.slice A0 l0.length c0, .slice A1 l1.length c1, .int .i64 a2] ?_; (with_reducible refine (impl_PartAt.calls k _ _ l0 _ _ l1 a2 t389 t390 _ ?side1 ?side2 ?side3 ?side4 A5.out).mono ?_); (case side1 => exact cB HR0); (case side2 => exact HC0.out); (case side3 => exact cB HR1); (case side4 => exact HC1.out); rintro e w8 ⟨rfl, hb⟩; refine ⟨_, rfl, ?_⟩; replace BK388 := Aside0.mk (blk_below (g := gb388) (bK BK388) hb); replace HB := Aside0.mk (below_step bG hb); (try clear hb); (try clear hb2); (try clear hk); (try clear hi)))
 (try simp only [Act.put, List.setIfInBounds_toArray, List.set_cons_zero, List.set_cons_succ])
 go_cut [30] (fun v30 wc => ∃ (kq : Nat) (x30_5 : Bool), v30 = .bool x30_5 ∧ Aside0 (impl_shown.j0 kq l1 t389 t390 x30_5 a3_0 a3_1 a3_2 a3_3 = some r) ∧ Aside0 (kq ≤ k) ∧ Aside0 (wc.heap[gb388]? = some (.cells #[.int .i64 a3_0, .int .i64 a3_1, .int .i64 a3_2, .int .i64 a3_3] 58 (0, 0))) ∧ Aside0 (Below w.heap.size w wc))
 case first =>
  have H := HC6.out
  clear HC6
  by_cases c9 : t389 < 0
  ·
   rw [if_pos c9] at H
   have c9b0 : decide (t389 < 0) = true := decide_eq_true c9
   clear c9
   (first | rw [c9b0] | (simp only [i64_w, i32_w]; rw [c9b0]) | skip)
   have H' := Aside0.mk H
   clear H
   try go_wp2
   replace BK388 := Aside0.mk (blk_drew BK388.out)
   have HBo := HB
   replace HB := Aside0.mk (below_drew1 HB.out)
   refine start_ (n := 13) (S := fun w' => True) (ds := []) (mb 13 0) (by kernel_rfl) rfl rfl trivial (fun hHeld => ?_); refine with_tabW impl_shown.tab2 impl_shown.bits2 (fun HT_ HW_ => ?_)
   generalize w8.drew = w10 at BK388 HB hHeld ⊢
   refine pA (i := 0) (N := some 18) (mb 13 1) HT_ ?_
   refine pA (i := 1) (N := some 19) (mb 13 3) HT_ ?_
   refine pA (i := 2) (N := some 20) (mb 13 7) HT_ ?_
   refine pU (i := 3) (N := some 21) (mb 13 15) HT_ ?_
   refine pU (i := 4) (N := some 22) (mb 13 31) HT_ ?_
   refine pU (i := 5) (N := some 23) (mb 13 63) HT_ ?_
   refine pU (i := 6) (N := some 24) (mb 13 127) HT_ ?_
   refine pU (i := 7) (N := some 25) (mb 13 255) HT_ ?_
   refine pU (i := 8) (N := some 26) (mb 13 511) HT_ ?_
   refine pU (i := 9) (N := some 27) (mb 13 1023) HT_ ?_
   refine pU (i := 10) (N := some 28) (mb 13 2047) HT_ ?_
   refine pU (i := 11) (N := some 29) (mb 13 4095) HT_ ?_
   refine pA (i := 12) (N := some 30) (mb 13 8191) HT_ ?_
   refine eA HT_ ?_
   try go_wp2
   go_meet
   case rel => exact ⟨_, (true), rS, H', ⟨by first | omega | exact Nat.le_refl _⟩, ⟨bK BK388⟩, ⟨bG⟩⟩
  ·
   rw [if_neg c9] at H
   have c9b0 : decide (t389 < 0) = false := decide_eq_false c9
   clear c9
   (first | rw [c9b0] | (simp only [i64_w, i32_w]; rw [c9b0]) | skip)
   have c11 : 0 ≤ t389 := ifN H
   replace H := ifT H
   have c11b0 : decide (0 ≤ t389) = true := decide_eq_true c11
   clear c11
   have c12 : t389 < (l1.length : Int) := ifN H
   replace H := ifT H
   have c12b0 : decide (t389 < (l1.length : Int)) = true := decide_eq_true c12
   clear c12
   obtain ⟨t392, A13, H⟩ := bindE H
   try dsimp only at H
   have H' := Aside0.mk H
   clear H
   try go_wp2
   replace BK388 := Aside0.mk (blk_drew BK388.out)
   have HBo := HB
   replace HB := Aside0.mk (below_drew1 HB.out)
   have p391 : 0 ≤ (t389 : Int) := dA
   have q391 : t389 < (l1.length : Int) := dA
   obtain ⟨ad391, A391_0, c391_0, e391, hx391_0, hx391_1, hl391_0, hi391_0⟩ := at_T51 HR1.out t389 p391 q391
   have hw391_1 := hx391_1
   have hw391_0 := hx391_0
   cases e391
   replace hx391_0 := hC HB hx391_0
   replace hx391_1 := hC HB hx391_1
   have HR391_0 := Aside0.mk hi391_0
   have HC391_0 := Aside0.mk hl391_0
   clear hi391_0 hl391_0
   replace p391 := eq_true p391
   replace q391 := eq_true q391
   refine start_ (n := 13) (S := fun w' => w'.cell? ⟨gb388, 0, none⟩ = some (.int .i64 a3_0) ∧ w'.cell? ⟨gb388, 1, none⟩ = some (.int .i64 a3_1) ∧ w'.cell? ⟨gb388, 2, none⟩ = some (.int .i64 a3_2) ∧ w'.cell? ⟨gb388, 3, none⟩ = some (.int .i64 a3_3) ∧ w'.cell? (ad391.add ((t389).toNat * 2)) = some (.slice A391_0 ((rd_T51 l1 t389).f0).length c391_0) ∧ w'.cell? ⟨(ad391.add ((t389).toNat * 2)).block, (ad391.add ((t389).toNat * 2)).off + 1, none⟩ = some (.int .i64 ((rd_T51 l1 t389).f1))) (ds := []) (mb 13 0) (by kernel_rfl) rfl rfl ⟨bC BK388 0, bC BK388 1, bC BK388 2, bC BK388 3, (hC HB hw391_0), (hC HB hw391_1)⟩ (fun hHeld => ?_); refine with_tabW impl_shown.tab2 impl_shown.bits2 (fun HT_ HW_ => ?_)
   generalize w8.drew = w14 at BK388 HB HR391_0 hx391_0 hx391_1 hHeld ⊢
   refine pA (i := 0) (N := some 18) (mb 13 1) HT_ ?_
   refine pA (i := 1) (N := some 19) (mb 13 3) HT_ ?_
   refine pA (i := 2) (N := some 20) (mb 13 7) HT_ ?_
   refine pA (i := 3) (N := some 21) (mb 13 15) HT_ ?_
   refine pA (i := 4) (N := some 22) (mb 13 31) HT_ ?_
   refine pA (i := 5) (N := some 23) (mb 13 63) HT_ ?_
   refine pA (i := 6) (N := some 24) (mb 13 127) HT_ ?_
   refine pA (i := 8) (N := some 26) (mb 13 383) HT_ ?_
   refine tA6 (i := 7) (N := some 25) (mb 13 511) HT_ HW_ hHeld ?_
   refine tA6 (i := 9) (N := some 27) (mb 13 1023) HT_ HW_ hHeld ?_
   refine oA (i := 10) (N := some 28) (mb 13 2047) HT_ (fun K hK => ?_)
   refine gA Try.func89 #[.slice A391_0 ((rd_T51 l1 t389).f0).length c391_0, .int .i64 a3_0] ?_
   with_reducible refine (slices_Contains_int_int.calls k _ _ ((rd_T51 l1 t389).f0) a3_0 t392 _ ?side1 ?side2 A13.out).mono ?_
   (case side1 => exact cB HR391_0)
   (case side2 => exact HC391_0.out)
   rintro e w' ⟨rfl, ⟨nd, rfl⟩⟩
   refine ⟨_, rfl, ?_⟩
   refine hK.out _ _ ⟨bC BK388 0, bC BK388 1, bC BK388 2, bC BK388 3, (hC HB hw391_0), (hC HB hw391_1)⟩ (fun hHeld => ?_)
   clear hK K
   refine nB ?_
   refine pA (i := 11) (N := some 29) (mb 13 4095) HT_ ?_
   refine pA (i := 12) (N := some 30) (mb 13 8191) HT_ ?_
   refine eA HT_ ?_
   try go_wp2
   go_meet
   case rel => exact ⟨_, (!t392), rS, H', ⟨by first | omega | exact Nat.le_refl _⟩, ⟨bK BK388⟩, ⟨bG⟩⟩
 case rest =>
  clear HC6
  try clear c1
  try clear p2
  try clear c3
  try clear p3
  try clear q3
  try clear hx3
  try clear c7
  try clear c8
  try clear c9
  try clear c9b0
  try clear c11
  try clear c11b0
  try clear c12
  try clear c12b0
  try clear hx391_0
  try clear hx391_1
  try clear p391
  try clear q391
  obtain ⟨kq, x30_5, rfl, HA, HJ5, BK388, HB⟩ := hcut
  cases kq with
  | zero => exact absurd HA.out (by simp [impl_shown.j0])
  | succ kj5 =>
   have H := HA.out
   clear HA
   simp only [impl_shown.j0] at H
   by_cases c15 : x30_5 = true
   ·
    subst c15
    have H1 : (some 0) = some r := by rw [if_pos rfl] at H; exact H
    clear H
    have H := H1
    clear H1
    obtain rfl := Option.some.inj H
    go_wp2
    go_ret
    exact ⟨rA, bG⟩
   ·
    replace c15 := Bool.eq_false_iff.mpr c15
    subst c15
    have H1 : (if 0 ≤ t389 then (if t389 < (l1.length : Int) then (if t390 < ((rd_T51 l1 t389).f1) then (impl_shown.j1 kj5 l1 t389 t390 true a3_0 a3_1 a3_2 a3_3) else ((impl_nextStage.f l1 t389).bind fun t394 => ((slices_Contains_int_int.f kj5 t394 a3_0).bind fun t397 => (impl_shown.j1 kj5 l1 t389 t390 t397 a3_0 a3_1 a3_2 a3_3)))) else (none)) else (none)) = some r := by rw [if_neg (show ¬ (false = true) by decide)] at H; exact H
    clear H
    have H := H1
    clear H1
    have HC16 := Aside0.mk H
    clear H
    go_upto_region 4 with (fail)
    go_cut [31] (fun v31 wc => ∃ (kq : Nat) (x31_15 : Bool), v31 = .bool x31_15 ∧ Aside0 (impl_shown.j1 kq l1 t389 t390 x31_15 a3_0 a3_1 a3_2 a3_3 = some r) ∧ Aside0 (kq ≤ kj5) ∧ Aside0 (wc.heap[gb388]? = some (.cells #[.int .i64 a3_0, .int .i64 a3_1, .int .i64 a3_2, .int .i64 a3_3] 58 (0, 0))) ∧ Aside0 (Below w.heap.size w wc))
    case first =>
     have H := HC16.out
     clear HC16
     have c17 : 0 ≤ t389 := ifN H
     replace H := ifT H
     have c17b0 : decide (0 ≤ t389) = true := decide_eq_true c17
     clear c17
     (first | rw [c17b0] | (simp only [i64_w, i32_w]; rw [c17b0]) | skip)
     have c18 : t389 < (l1.length : Int) := ifN H
     replace H := ifT H
     have c18b0 : decide (t389 < (l1.length : Int)) = true := decide_eq_true c18
     clear c18
     by_cases c19 : t390 < ((rd_T51 l1 t389).f1)
     ·
      rw [if_pos c19] at H
      have c19b0 : decide (t390 < ((rd_T51 l1 t389).f1)) = true := decide_eq_true c19
      clear c19
      have H' := Aside0.mk H
      clear H
      try go_wp2
      replace BK388 := Aside0.mk (blk_drew BK388.out)
      have HBo := HB
      replace HB := Aside0.mk (below_drew1 HB.out)
      have p393 : 0 ≤ (t389 : Int) := dA
      have q393 : t389 < (l1.length : Int) := dA
      obtain ⟨ad393, A393_0, c393_0, e393, hx393_0, hx393_1, hl393_0, hi393_0⟩ := at_T51 HR1.out t389 p393 q393
      have hw393_1 := hx393_1
      have hw393_0 := hx393_0
      cases e393
      replace hx393_0 := hC HB hx393_0
      replace hx393_1 := hC HB hx393_1
      have HR393_0 := Aside0.mk hi393_0
      have HC393_0 := Aside0.mk hl393_0
      clear hi393_0 hl393_0
      replace p393 := eq_true p393
      replace q393 := eq_true q393
      refine start_ (n := 16) (S := fun w' => w'.cell? (ad393.add ((t389).toNat * 2)) = some (.slice A393_0 ((rd_T51 l1 t389).f0).length c393_0) ∧ w'.cell? ⟨(ad393.add ((t389).toNat * 2)).block, (ad393.add ((t389).toNat * 2)).off + 1, none⟩ = some (.int .i64 ((rd_T51 l1 t389).f1))) (ds := []) (mb 16 0) (by kernel_rfl) rfl rfl ⟨(hC HB hw393_0), (hC HB hw393_1)⟩ (fun hHeld => ?_); refine with_tabW impl_shown.tab4 impl_shown.bits4 (fun HT_ HW_ => ?_)
      generalize wc.drew = w20 at BK388 HB HR393_0 hx393_0 hx393_1 hHeld ⊢
      refine pA (i := 0) (N := some 32) (mb 16 1) HT_ ?_
      refine pA (i := 1) (N := some 33) (mb 16 3) HT_ ?_
      refine pA (i := 2) (N := some 34) (mb 16 7) HT_ ?_
      refine pA (i := 3) (N := some 35) (mb 16 15) HT_ ?_
      refine pA (i := 4) (N := some 36) (mb 16 31) HT_ ?_
      refine tA2 (i := 5) (N := some 37) (mb 16 63) HT_ HW_ hHeld ?_
      refine pA (i := 6) (N := some 38) (mb 16 127) HT_ ?_
      refine pA (i := 7) (N := some 39) (mb 16 255) HT_ ?_
      refine pU (i := 8) (N := some 40) (mb 16 511) HT_ ?_
      refine pU (i := 9) (N := some 41) (mb 16 1023) HT_ ?_
      refine pU (i := 10) (N := some 42) (mb 16 2047) HT_ ?_
      refine pU (i := 11) (N := some 43) (mb 16 4095) HT_ ?_
      refine pU (i := 12) (N := some 44) (mb 16 8191) HT_ ?_
      refine pU (i := 13) (N := some 45) (mb 16 16383) HT_ ?_
      refine pA (i := 14) (N := some 46) (mb 16 32767) HT_ ?_
      refine pA (i := 15) (N := some 31) (mb 16 65535) HT_ ?_
      refine eA HT_ ?_
      try go_wp2
      go_meet
      case rel => exact ⟨_, (true), rS, H', ⟨by have := HJ5.out; first | omega | exact Nat.le_refl _⟩, ⟨bK BK388⟩, ⟨bG⟩⟩
     ·
      rw [if_neg c19] at H
      have c19b0 : decide (t390 < ((rd_T51 l1 t389).f1)) = false := decide_eq_false c19
      clear c19
      obtain ⟨t394, A21, H⟩ := bindE H
      try dsimp only at H
      obtain ⟨t397, A22, H⟩ := bindE H
      try dsimp only at H
      have H' := Aside0.mk H
      clear H
      try go_wp2
      replace BK388 := Aside0.mk (blk_drew BK388.out)
      have HBo := HB
      replace HB := Aside0.mk (below_drew1 HB.out)
      have p393 : 0 ≤ (t389 : Int) := dA
      have q393 : t389 < (l1.length : Int) := dA
      obtain ⟨ad393, A393_0, c393_0, e393, hx393_0, hx393_1, hl393_0, hi393_0⟩ := at_T51 HR1.out t389 p393 q393
      have hw393_1 := hx393_1
      have hw393_0 := hx393_0
      cases e393
      replace hx393_0 := hC HB hx393_0
      replace hx393_1 := hC HB hx393_1
      have HR393_0 := Aside0.mk hi393_0
      have HC393_0 := Aside0.mk hl393_0
      clear hi393_0 hl393_0
      replace p393 := eq_true p393
      replace q393 := eq_true q393
      refine start_ (n := 16) (S := fun w' => w'.cell? ⟨gb388, 0, none⟩ = some (.int .i64 a3_0) ∧ w'.cell? ⟨gb388, 1, none⟩ = some (.int .i64 a3_1) ∧ w'.cell? ⟨gb388, 2, none⟩ = some (.int .i64 a3_2) ∧ w'.cell? ⟨gb388, 3, none⟩ = some (.int .i64 a3_3) ∧ w'.cell? (ad393.add ((t389).toNat * 2)) = some (.slice A393_0 ((rd_T51 l1 t389).f0).length c393_0) ∧ w'.cell? ⟨(ad393.add ((t389).toNat * 2)).block, (ad393.add ((t389).toNat * 2)).off + 1, none⟩ = some (.int .i64 ((rd_T51 l1 t389).f1))) (ds := []) (mb 16 0) (by kernel_rfl) rfl rfl ⟨bC BK388 0, bC BK388 1, bC BK388 2, bC BK388 3, (hC HB hw393_0), (hC HB hw393_1)⟩ (fun hHeld => ?_); refine with_tabW impl_shown.tab4 impl_shown.bits4 (fun HT_ HW_ => ?_)
      generalize wc.drew = w23 at BK388 HB HR393_0 hx393_0 hx393_1 hHeld ⊢
      refine pA (i := 0) (N := some 32) (mb 16 1) HT_ ?_
      refine pA (i := 1) (N := some 33) (mb 16 3) HT_ ?_
      refine pA (i := 2) (N := some 34) (mb 16 7) HT_ ?_
      refine pA (i := 3) (N := some 35) (mb 16 15) HT_ ?_
      refine pA (i := 4) (N := some 36) (mb 16 31) HT_ ?_
      refine tA6 (i := 5) (N := some 37) (mb 16 63) HT_ HW_ hHeld ?_
      refine pA (i := 6) (N := some 38) (mb 16 127) HT_ ?_
      refine pA (i := 7) (N := some 39) (mb 16 255) HT_ ?_
      refine pA (i := 8) (N := some 40) (mb 16 511) HT_ ?_
      refine pA (i := 9) (N := some 41) (mb 16 1023) HT_ ?_
      refine pA (i := 11) (N := some 43) (mb 16 3071) HT_ ?_
      refine tA6 (i := 12) (N := some 44) (mb 16 7167) HT_ HW_ hHeld ?_
      refine oA (i := 10) (N := some 42) (mb 16 8191) HT_ (fun K hK => ?_)
      refine gA Try.func84 #[.slice (some ad393) l1.length c1, .int .i64 t389] ?_
      with_reducible refine (impl_nextStage.calls (fun k_ => k_ < w.heap.size) _ _ l1 t389 t394 _ ?side1 A21.out).mono ?_
      (case side1 => exact Kd.V_mk HC1.out (Kd.F_below (Kd.C_F k51_heap HR1.out) bG))
      rintro e w24 ⟨v395, rfl, ho0, hb⟩
      refine ⟨_, rfl, ?_⟩
      have HO396 := Aside0.mk (Kd.V_lower (Kd.V_mono (ok' := fun k_ => k_ ≠ gb388) ho0 (fun k_ hk_ => Or.elim hk_ (fun hs_ => fun e_ => Nat.not_le.2 hs_ (by rw [e_]; exact GW388.out)) (fun hn_ => (Kd.freshB (g := gb388) (o := .cells #[.int .i64 a3_0, .int .i64 a3_1, .int .i64 a3_2, .int .i64 a3_3] 58 (0, 0)) (bK BK388) k_ hn_)))) (below_size bG))
      replace BK388 := Aside0.mk (blk_below (g := gb388) (bK BK388) hb)
      replace HB := Aside0.mk (below_step bG hb)
      (try clear hb)
      (try clear hb2)
      (try clear hk)
      (try clear hi)
      (try clear ho0)
      obtain ⟨Ao25, co25, eo25⟩ := Kd.V_slice HO396.out
      (first | subst eo25 | (injection eo25 with f1_ f2_ f3_; have f4_ := f1_.symm; have f5_ := f3_.symm; clear f1_ f2_ f3_; subst f4_; subst f5_))
      refine hK.out _ _ ⟨bC BK388 0, bC BK388 1, bC BK388 2, bC BK388 3, (hC HB hw393_0), (hC HB hw393_1)⟩ (fun hHeld => ?_)
      clear hK K
      refine nB ?_
      refine oA (i := 13) (N := some 45) (mb 16 16383) HT_ (fun K hK => ?_)
      refine gA Try.func89 #[.slice Ao25 t394.length co25, .int .i64 a3_0] ?_
      with_reducible refine (slices_Contains_int_int.calls kj5 _ _ t394 a3_0 t397 _ ?side1 ?side2 A22.out).mono ?_
      (case side1 => repeat (first | exact (Kd.V_reads' HO396.out).2.2 | (with_reducible refine Kd.C_alloc ?_ _) | (with_reducible refine Kd.C_drewN ?_ _) | (with_reducible refine Kd.C_drew ?_)))
      (case side2 => exact (Kd.V_reads' HO396.out).2.1)
      rintro e w' ⟨rfl, ⟨nd, rfl⟩⟩
      refine ⟨_, rfl, ?_⟩
      refine hK.out _ _ ⟨bC BK388 0, bC BK388 1, bC BK388 2, bC BK388 3, (hC HB hw393_0), (hC HB hw393_1)⟩ (fun hHeld => ?_)
      clear hK K
      refine nB ?_
      refine pA (i := 14) (N := some 46) (mb 16 32767) HT_ ?_
      refine pA (i := 15) (N := some 31) (mb 16 65535) HT_ ?_
      refine eA HT_ ?_
      try go_wp2
      go_meet
      case rel => exact ⟨_, (t397), rS, H', ⟨by have := HJ5.out; first | omega | exact Nat.le_refl _⟩, ⟨bK BK388⟩, ⟨bG⟩⟩
    case rest =>
     clear HC16
     try clear c1
     try clear p2
     try clear c3
     try clear p3
     try clear q3
     try clear hx3
     try clear c7
     try clear c8
     try clear c9
     try clear c9b0
     try clear c11
     try clear c11b0
     try clear c12
     try clear c12b0
     try clear c15
     try clear c17
     try clear c17b0
     try clear c18
     try clear c18b0
     try clear c19
     try clear c19b0
     try clear hx391_0
     try clear hx391_1
     try clear hx393_0
     try clear hx393_1
     try clear p2
     try clear p3
     try clear p391
     try clear p393
     try clear q3
     try clear q391
     try clear q393
     obtain ⟨kq, x31_15, rfl, HA, HJ15, BK388, HB⟩ := hcut
     cases kq with
     | zero => exact absurd HA.out (by simp [impl_shown.j1])
     | succ kj15 =>
      have H := HA.out
      clear HA
      simp only [impl_shown.j1] at H
      by_cases c26 : x31_15 = true
      ·
       subst c26
       have H1 : (some 1) = some r := by rw [if_pos rfl] at H; exact H
       clear H
       have H := H1
       clear H1
       obtain rfl := Option.some.inj H
       go_wp2
       go_ret
       exact ⟨rA, bG⟩
      ·
       replace c26 := Bool.eq_false_iff.mpr c26
       subst c26
       have H1 : (if 0 ≤ t389 then (if t389 < (l1.length : Int) then ((impl_ClearOf.f a3_0 a3_1 a3_2 a3_3).bind fun t399 => (if t390 < (wrap64 (((rd_T51 l1 t389).f1) + t399)) then (some 2) else (some 0))) else (none)) else (none)) = some r := by rw [if_neg (show ¬ (false = true) by decide)] at H; exact H
       clear H
       have H := H1
       clear H1
       have c27 : 0 ≤ t389 := ifN H
       replace H := ifT H
       have c27b0 : decide (0 ≤ t389) = true := decide_eq_true c27
       clear c27
       have c28 : t389 < (l1.length : Int) := ifN H
       replace H := ifT H
       have c28b0 : decide (t389 < (l1.length : Int)) = true := decide_eq_true c28
       clear c28
       obtain ⟨t399, A29, H⟩ := bindE H
       try dsimp only at H
       by_cases c30 : t390 < (wrap64 (((rd_T51 l1 t389).f1) + t399))
       ·
        rw [if_pos c30] at H
        have c30b0 : decide (t390 < (wrap64 (((rd_T51 l1 t389).f1) + t399))) = true := decide_eq_true c30
        clear c30
        obtain rfl := Option.some.inj H
        try go_wp2
        replace BK388 := Aside0.mk (blk_drew BK388.out)
        have HBo := HB
        replace HB := Aside0.mk (below_drew1 HB.out)
        have p398 : 0 ≤ (t389 : Int) := dA
        have q398 : t389 < (l1.length : Int) := dA
        obtain ⟨ad398, A398_0, c398_0, e398, hx398_0, hx398_1, hl398_0, hi398_0⟩ := at_T51 HR1.out t389 p398 q398
        have hw398_1 := hx398_1
        have hw398_0 := hx398_0
        cases e398
        replace hx398_0 := hC HB hx398_0
        replace hx398_1 := hC HB hx398_1
        have HR398_0 := Aside0.mk hi398_0
        have HC398_0 := Aside0.mk hl398_0
        clear hi398_0 hl398_0
        replace p398 := eq_true p398
        replace q398 := eq_true q398
        refine start_ (n := 11) (S := fun w' => w'.cell? ⟨gb388, 0, none⟩ = some (.int .i64 a3_0) ∧ w'.cell? ⟨gb388, 1, none⟩ = some (.int .i64 a3_1) ∧ w'.cell? ⟨gb388, 2, none⟩ = some (.int .i64 a3_2) ∧ w'.cell? ⟨gb388, 3, none⟩ = some (.int .i64 a3_3) ∧ w'.cell? (ad398.add ((t389).toNat * 2)) = some (.slice A398_0 ((rd_T51 l1 t389).f0).length c398_0) ∧ w'.cell? ⟨(ad398.add ((t389).toNat * 2)).block, (ad398.add ((t389).toNat * 2)).off + 1, none⟩ = some (.int .i64 ((rd_T51 l1 t389).f1))) (ds := []) (mb 11 0) (by kernel_rfl) rfl rfl ⟨bC BK388 0, bC BK388 1, bC BK388 2, bC BK388 3, (hC HB hw398_0), (hC HB hw398_1)⟩ (fun hHeld => ?_); refine with_tabW impl_shown.tab6 impl_shown.bits6 (fun HT_ HW_ => ?_)
        generalize wc.drew = w31 at BK388 HB HR398_0 hx398_0 hx398_1 hHeld ⊢
        refine pA (i := 0) (N := some 48) (mb 11 1) HT_ ?_
        refine pA (i := 1) (N := some 49) (mb 11 3) HT_ ?_
        refine pA (i := 2) (N := some 50) (mb 11 7) HT_ ?_
        refine pA (i := 3) (N := some 51) (mb 11 15) HT_ ?_
        refine pA (i := 4) (N := some 52) (mb 11 31) HT_ ?_
        refine tA6 (i := 5) (N := some 53) (mb 11 63) HT_ HW_ hHeld ?_
        refine tA6 (i := 6) (N := some 54) (mb 11 127) HT_ HW_ hHeld ?_
        refine oA (i := 7) (N := some 55) (mb 11 255) HT_ (fun K hK => ?_)
        refine gA Try.func90 #[.agg #[.int .i64 a3_0, .int .i64 a3_1, .int .i64 a3_2, .int .i64 a3_3]] ?_
        with_reducible refine (impl_ClearOf.calls a3_0 a3_1 a3_2 a3_3 t399 _ A29.out).mono ?_
        rintro e w32 ⟨rfl, hb⟩
        refine ⟨_, rfl, ?_⟩
        replace BK388 := Aside0.mk (blk_below (g := gb388) (bK BK388) hb)
        replace HB := Aside0.mk (below_step bG hb)
        (try clear hb)
        (try clear hb2)
        (try clear hk)
        (try clear hi)
        refine hK.out _ _ ⟨bC BK388 0, bC BK388 1, bC BK388 2, bC BK388 3, (hC HB hw398_0), (hC HB hw398_1)⟩ (fun hHeld => ?_)
        clear hK K
        refine nB ?_
        refine pA (i := 8) (N := some 56) (mb 11 511) HT_ ?_
        refine pA (i := 9) (N := some 57) (mb 11 1023) HT_ ?_
        refine pA (i := 10) (N := some 47) (mb 11 2047) HT_ ?_
        refine eA HT_ ?_
        try go_wp2
        go_ret
        exact ⟨rA, bG⟩
       ·
        rw [if_neg c30] at H
        have c30b0 : decide (t390 < (wrap64 (((rd_T51 l1 t389).f1) + t399))) = false := decide_eq_false c30
        clear c30
        obtain rfl := Option.some.inj H
        try go_wp2
        replace BK388 := Aside0.mk (blk_drew BK388.out)
        have HBo := HB
        replace HB := Aside0.mk (below_drew1 HB.out)
        have p398 : 0 ≤ (t389 : Int) := dA
        have q398 : t389 < (l1.length : Int) := dA
        obtain ⟨ad398, A398_0, c398_0, e398, hx398_0, hx398_1, hl398_0, hi398_0⟩ := at_T51 HR1.out t389 p398 q398
        have hw398_1 := hx398_1
        have hw398_0 := hx398_0
        cases e398
        replace hx398_0 := hC HB hx398_0
        replace hx398_1 := hC HB hx398_1
        have HR398_0 := Aside0.mk hi398_0
        have HC398_0 := Aside0.mk hl398_0
        clear hi398_0 hl398_0
        replace p398 := eq_true p398
        replace q398 := eq_true q398
        refine start_ (n := 11) (S := fun w' => w'.cell? ⟨gb388, 0, none⟩ = some (.int .i64 a3_0) ∧ w'.cell? ⟨gb388, 1, none⟩ = some (.int .i64 a3_1) ∧ w'.cell? ⟨gb388, 2, none⟩ = some (.int .i64 a3_2) ∧ w'.cell? ⟨gb388, 3, none⟩ = some (.int .i64 a3_3) ∧ w'.cell? (ad398.add ((t389).toNat * 2)) = some (.slice A398_0 ((rd_T51 l1 t389).f0).length c398_0) ∧ w'.cell? ⟨(ad398.add ((t389).toNat * 2)).block, (ad398.add ((t389).toNat * 2)).off + 1, none⟩ = some (.int .i64 ((rd_T51 l1 t389).f1))) (ds := []) (mb 11 0) (by kernel_rfl) rfl rfl ⟨bC BK388 0, bC BK388 1, bC BK388 2, bC BK388 3, (hC HB hw398_0), (hC HB hw398_1)⟩ (fun hHeld => ?_); refine with_tabW impl_shown.tab6 impl_shown.bits6 (fun HT_ HW_ => ?_)
        generalize wc.drew = w33 at BK388 HB HR398_0 hx398_0 hx398_1 hHeld ⊢
        refine pA (i := 0) (N := some 48) (mb 11 1) HT_ ?_
        refine pA (i := 1) (N := some 49) (mb 11 3) HT_ ?_
        refine pA (i := 2) (N := some 50) (mb 11 7) HT_ ?_
        refine pA (i := 3) (N := some 51) (mb 11 15) HT_ ?_
        refine pA (i := 4) (N := some 52) (mb 11 31) HT_ ?_
        refine tA6 (i := 5) (N := some 53) (mb 11 63) HT_ HW_ hHeld ?_
        refine tA6 (i := 6) (N := some 54) (mb 11 127) HT_ HW_ hHeld ?_
        refine oA (i := 7) (N := some 55) (mb 11 255) HT_ (fun K hK => ?_)
        refine gA Try.func90 #[.agg #[.int .i64 a3_0, .int .i64 a3_1, .int .i64 a3_2, .int .i64 a3_3]] ?_
        with_reducible refine (impl_ClearOf.calls a3_0 a3_1 a3_2 a3_3 t399 _ A29.out).mono ?_
        rintro e w34 ⟨rfl, hb⟩
        refine ⟨_, rfl, ?_⟩
        replace BK388 := Aside0.mk (blk_below (g := gb388) (bK BK388) hb)
        replace HB := Aside0.mk (below_step bG hb)
        (try clear hb)
        (try clear hb2)
        (try clear hk)
        (try clear hi)
        refine hK.out _ _ ⟨bC BK388 0, bC BK388 1, bC BK388 2, bC BK388 3, (hC HB hw398_0), (hC HB hw398_1)⟩ (fun hHeld => ?_)
        clear hK K
        refine nB ?_
        refine pA (i := 8) (N := some 56) (mb 11 511) HT_ ?_
        refine pA (i := 9) (N := some 57) (mb 11 1023) HT_ ?_
        refine pA (i := 10) (N := some 47) (mb 11 2047) HT_ ?_
        refine eA HT_ ?_
        try go_wp2
        go_ret
        exact ⟨rA, bG⟩

/-! ### impl_LightAt: function 34 -/
def impl_LightAt.f (k : Nat) (l0 : List (S58)) (l1 : List (S51)) (a2 : Int) (a3 : Int) : Option (Int) := (impl_FindPath.f l0 a3).bind fun t400 => (if t400 < 0 then (some 0) else (if 0 ≤ t400 then (if t400 < (l0.length : Int) then ((impl_shown.f k l0 l1 a2 ((rd_T58 l0 t400).f0) ((rd_T58 l0 t400).f1) ((rd_T58 l0 t400).f2) ((rd_T58 l0 t400).f3)).bind fun t402 => (some t402)) else (none)) else (none)))
theorem impl_LightAt.mono : ∀ a0 a1 a2 a3 k, LeO (impl_LightAt.f k a0 a1 a2 a3) (impl_LightAt.f (k + 1) a0 a1 a2 a3) := by
 intro a0 a1 a2 a3 k
 unfold impl_LightAt.f
 repeat' first | (with_reducible first | exact LeO.refl _ | exact LeO.none _ | refine LeO.ite ?_ ?_ | refine LeO.bind ?_ (fun _ => ?_) | exact impl_shown.mono _ _ _ _ _ _ _ _) | exact LeO.none _ | refine LeO.ite ?_ ?_ | refine LeO.bind ?_ (fun _ => ?_) | exact impl_shown.mono _ _ _ _ _ _ _ _
set_option maxHeartbeats 8000000 in
set_option maxRecDepth 100000 in
theorem impl_LightAt.calls (k : Nat) (A0 : Option Addr) (c0 : Nat) (l0 : List (S58)) (A1 : Option Addr) (c1 : Nat) (l1 : List (S51)) (a2 : Int) (a3 : Int) (r : Int) (w : World) (hr0 : Kd.C k58 w A0 l0.length l0) (hc0 : l0.length ≤ c0) (hr1 : Kd.C k51 w A1 l1.length l1) (hc1 : l1.length ≤ c1) (h : impl_LightAt.f k l0 l1 a2 a3 = some r) :
  Calls Try.prog 34 #[.slice A0 l0.length c0, .slice A1 l1.length c1, .int .i64 a2, .int .i64 a3] w fun e w' => e = .returned (.int .i64 r) ∧ Below w.heap.size w w' := by
 have hu58 := Try.underlying58
 have HR0 := Aside0.mk hr0
 have HC0 := Aside0.mk hc0
 clear hr0 hc0
 have HR1 := Aside0.mk hr1
 have HC1 := Aside0.mk hc1
 clear hr1 hc1
 have HB := Aside0.mk (Below.refl w.heap.size w)
 have H : ((impl_FindPath.f l0 a3).bind fun t400 => (if t400 < 0 then (some 0) else (if 0 ≤ t400 then (if t400 < (l0.length : Int) then ((impl_shown.f k l0 l1 a2 ((rd_T58 l0 t400).f0) ((rd_T58 l0 t400).f1) ((rd_T58 l0 t400).f2) ((rd_T58 l0 t400).f3)).bind fun t402 => (some t402)) else (none)) else (none)))) = some r := h
 clear h
 obtain ⟨t400, A5, H⟩ := bindE H
 try dsimp only at H
 by_cases c6 : t400 < 0
 ·
  rw [if_pos c6] at H
  have c6b0 : decide (t400 < 0) = true := decide_eq_true c6
  clear c6
  obtain rfl := Option.some.inj H
  go_enter Try.func34, Try.ntmps34
  go_wp2_with (first | ((with_reducible refine gate_callee (f := 70) rfl ?_); refine gL (some 12) Try.func70 #[.slice A0 l0.length c0, .int .i64 a3] ?_; (with_reducible refine (impl_FindPath.calls _ _ l0 a3 t400 _ ?side1 ?side2 A5.out).mono ?_); (case side1 => exact cO HR0); (case side2 => exact HC0.out); rintro e w7 ⟨rfl, hb⟩; refine ⟨_, rfl, ?_⟩; replace HB := Aside0.mk (below_step bA hb); (try clear hb); (try clear hb2); (try clear hk); (try clear hi)))
  go_ret
  exact ⟨rA, bA⟩
 ·
  rw [if_neg c6] at H
  have c6b0 : decide (t400 < 0) = false := decide_eq_false c6
  clear c6
  have c8 : 0 ≤ t400 := ifN H
  replace H := ifT H
  have c8b0 : decide (0 ≤ t400) = true := decide_eq_true c8
  clear c8
  have c9 : t400 < (l0.length : Int) := ifN H
  replace H := ifT H
  have c9b0 : decide (t400 < (l0.length : Int)) = true := decide_eq_true c9
  clear c9
  obtain ⟨t402, A10, H⟩ := bindE H
  try dsimp only at H
  obtain rfl := Option.some.inj H
  go_enter Try.func34, Try.ntmps34
  go_wp2_with (first | ((with_reducible refine gate_callee (f := 70) rfl ?_); refine gL (some 12) Try.func70 #[.slice A0 l0.length c0, .int .i64 a3] ?_; (with_reducible refine (impl_FindPath.calls _ _ l0 a3 t400 _ ?side1 ?side2 A5.out).mono ?_); (case side1 => exact cO HR0); (case side2 => exact HC0.out); rintro e w11 ⟨rfl, hb⟩; refine ⟨_, rfl, ?_⟩; replace HB := Aside0.mk (below_step bA hb); (try clear hb); (try clear hb2); (try clear hk); (try clear hi); have p401 : 0 ≤ (t400 : Int) := dA; have q401 : t400 < (l0.length : Int) := dA; obtain ⟨ad401, e401, hx401_0, hx401_1, hx401_2, hx401_3⟩ := at_T58 HR0.out t400 p401 q401; cases e401; replace hx401_0 := hC HB hx401_0; replace hx401_1 := hC HB hx401_1; replace hx401_2 := hC HB hx401_2; replace hx401_3 := hC HB hx401_3; replace p401 := eq_true p401; replace q401 := eq_true q401) | ((with_reducible refine gate_callee (f := 71) rfl ?_); refine gL (some 22) Try.func71 #[.slice (some ad401) l0.length c0, .slice A1 l1.length c1, .int .i64 a2, .agg #[.int .i64 ((rd_T58 l0 t400).f0), .int .i64 ((rd_T58 l0 t400).f1), .int .i64 ((rd_T58 l0 t400).f2), .int .i64 ((rd_T58 l0 t400).f3)]] ?_; (with_reducible refine (impl_shown.calls k _ _ l0 _ _ l1 a2 ((rd_T58 l0 t400).f0) ((rd_T58 l0 t400).f1) ((rd_T58 l0 t400).f2) ((rd_T58 l0 t400).f3) t402 _ ?side1 ?side2 ?side3 ?side4 A10.out).mono ?_); (case side1 => exact cB HR0); (case side2 => exact HC0.out); (case side3 => exact cB HR1); (case side4 => exact HC1.out); rintro e w12 ⟨rfl, hb⟩; refine ⟨_, rfl, ?_⟩; replace HB := Aside0.mk (below_step bA hb); (try clear hb); (try clear hb2); (try clear hk); (try clear hi)))
  go_ret
  exact ⟨rA, bA⟩

/-! ### impl_LightsAt: function 36 -/
def impl_LightsAt.l0 : Nat → List (S58) → List (S51) → Int → List Int → List (S58) → Int → Int → Option (List Int)
 | 0, _, _, _, _, _, _, _ => none
 | k + 1, x0, x1, x2, x7, x11, x12, x13 => if x13 < x12 then (if 0 ≤ x13 then (if x13 < (x11.length : Int) then ((impl_LightAt.f k x0 x1 x2 ((rd_T58 x11 x13).f0)).bind fun t408 => (if x7.length < 17592186044416 then (impl_LightsAt.l0 k x0 x1 x2 (x7 ++ [t408]) x11 x12 (wrap64 (x13 + 1))) else (none))) else (none)) else (none)) else (some x7)
def impl_LightsAt.f (k : Nat) (l0 : List (S58)) (l1 : List (S51)) (a2 : Int) : Option (List Int) := impl_LightsAt.l0 k l0 l1 a2 (([] : List Int)) l0 (l0.length : Int) 0
theorem impl_LightsAt.mono_l : ∀ k, (∀ y0 y1 y2 y3 y4 y5 y6, LeO (impl_LightsAt.l0 k y0 y1 y2 y3 y4 y5 y6) (impl_LightsAt.l0 (k + 1) y0 y1 y2 y3 y4 y5 y6))
 | 0 => fun _ _ _ _ _ _ _ r h => by simp [impl_LightsAt.l0] at h
 | k + 1 => by
  have ih0 := impl_LightsAt.mono_l k
  ·
   intro y0 y1 y2 y3 y4 y5 y6
   unfold impl_LightsAt.l0
   repeat' first | (with_reducible first | exact LeO.refl _ | exact LeO.none _ | refine LeO.ite ?_ ?_ | refine LeO.bind ?_ (fun _ => ?_) | exact ih0 _ _ _ _ _ _ _ | exact impl_LightAt.mono _ _ _ _ _) | exact LeO.none _ | refine LeO.ite ?_ ?_ | refine LeO.bind ?_ (fun _ => ?_) | exact ih0 _ _ _ _ _ _ _ | exact impl_LightAt.mono _ _ _ _ _
theorem impl_LightsAt.mono : ∀ a0 a1 a2 k, LeO (impl_LightsAt.f k a0 a1 a2) (impl_LightsAt.f (k + 1) a0 a1 a2) := by
 intro a0 a1 a2 k
 have ih0 := impl_LightsAt.mono_l k
 unfold impl_LightsAt.f
 repeat' first | (with_reducible first | exact LeO.refl _ | exact LeO.none _ | refine LeO.ite ?_ ?_ | refine LeO.bind ?_ (fun _ => ?_) | exact ih0 _ _ _ _ _ _ _ | exact impl_LightAt.mono _ _ _ _ _) | exact LeO.none _ | refine LeO.ite ?_ ?_ | refine LeO.bind ?_ (fun _ => ?_) | exact ih0 _ _ _ _ _ _ _ | exact impl_LightAt.mono _ _ _ _ _
set_option maxHeartbeats 8000000 in
set_option maxRecDepth 100000 in
theorem impl_LightsAt.calls (k : Nat) (A0 : Option Addr) (c0 : Nat) (l0 : List (S58)) (A1 : Option Addr) (c1 : Nat) (l1 : List (S51)) (a2 : Int) (r : List Int) (w : World) (hr0 : Kd.C k58 w A0 l0.length l0) (hc0 : l0.length ≤ c0) (hr1 : Kd.C k51 w A1 l1.length l1) (hc1 : l1.length ≤ c1) (h : impl_LightsAt.f k l0 l1 a2 = some r) :
  Calls Try.prog 36 #[.slice A0 l0.length c0, .slice A1 l1.length c1, .int .i64 a2] w fun e w' => ∃ v0_ : Value, e = .returned (v0_) ∧ Kd.R (Kd.int .i64) 3 w' w.heap.size (fun _ => True) v0_ r ∧ Below w.heap.size w w' := by
 have hu58 := Try.underlying58
 have HR0 := Aside0.mk hr0
 have HC0 := Aside0.mk hc0
 clear hr0 hc0
 have HR1 := Aside0.mk hr1
 have HC1 := Aside0.mk hc1
 clear hr1 hc1
 have HB := Aside0.mk (Below.refl w.heap.size w)
 have H : (impl_LightsAt.l0 k l0 l1 a2 (([] : List Int)) l0 (l0.length : Int) 0) = some r := h
 clear h
 obtain ⟨y403, hy403⟩ : ∃ y_ : List Int, y_ = (([] : List Int)) := ⟨_, rfl⟩
 replace H : (impl_LightsAt.l0 k l0 l1 a2 y403 l0 (l0.length : Int) 0) = some r := by first | (rw [hy403]; with_reducible exact H) | (have H2_ := (Option.bind_some _ _).symm.trans H; rw [hy403]; with_reducible exact H2_) | (have H2_ := (Option.bind_some _ _).symm.trans H; with_reducible exact H2_) | with_reducible exact H | (rw [hy403]; exact H) | exact H
 have Ny403 := Aside0.mk hy403
 clear hy403
 have H' := Aside0.mk H
 clear H
 go_enter Try.func36, Try.ntmps36
 go_wp2_with (first | ((with_reducible refine gate_dst (N := 10) rfl ?_); refine Kd.R_lit (Kd.int .i64) _ 3 ?hg (N := 10) ?hd (xs := ([] : List Int)) (inner := []) (ok := fun _ => True) (okp := fun _ => True) ?hr ?hp (fun _ hk => hk) trivial (Below.refl _ _) (Nat.le_refl _) (by simp) ?_; (case hd => rfl); (case hg => rfl); (case hr => first | (go_simp; done) | (go_simp; rfl)); (case hp => exact (Reps.none _ _)); intro v404 w4 ho5 hb hg_ hnew_; clear hg_ hnew_; (first | rw [← Ny403.out] at ho5 | (simp only [Int.reduceToNat] at ho5; rw [← Ny403.out] at ho5)); have HO405 := Aside0.mk (Kd.R_lower ho5 (below_size bA)); replace HB := Aside0.mk (below_step bA hb); clear hb ho5))
 go_loopg [7, 13] k (fun kq v7 v13 w' => ∃ (x7_1 : List Int) (x13_1 : Int), v13 = .int .i64 x13_1 ∧ Aside0 (impl_LightsAt.l0 kq l0 l1 a2 x7_1 l0 (l0.length : Int) x13_1 = some r) ∧ Aside0 (kq ≤ k) ∧ Aside0 (Kd.R (Kd.int .i64) 3 w' w.heap.size (fun _ => True) v7 x7_1) ∧ Aside0 (Below w.heap.size w w'))
 case atStart => exact ⟨(y403), (0), rS, H', ⟨Nat.le_refl _⟩, ⟨rK HO405⟩, ⟨bA⟩⟩
 case round =>
  clear H'
  try clear c1
  try clear p2
  try clear c3
  obtain ⟨x7_1, x13_1, rfl, HA, HK1, HO_7, HB⟩ := hrel
  cases gk with
  | zero => exact absurd HA.out (by simp [impl_LightsAt.l0])
  | succ k1 =>
   have H := HA.out
   clear HA
   simp only [impl_LightsAt.l0] at H
   by_cases c6 : x13_1 < (l0.length : Int)
   ·
    rw [if_pos c6] at H
    have c6b0 : decide (x13_1 < (l0.length : Int)) = true := decide_eq_true c6
    clear c6
    have c7 : 0 ≤ x13_1 := ifN H
    replace H := ifT H
    have c7b0 : decide (0 ≤ x13_1) = true := decide_eq_true c7
    clear c7
    have c8 : x13_1 < (l0.length : Int) := ifN H
    replace H := ifT H
    have c8b0 : decide (x13_1 < (l0.length : Int)) = true := decide_eq_true c8
    clear c8
    obtain ⟨t408, A9, H⟩ := bindE H
    try dsimp only at H
    have c10 : x7_1.length < 17592186044416 := ifN H
    replace H := ifT H
    have LMc10 := Aside0.mk c10
    clear c10
    obtain ⟨y409, hy409⟩ : ∃ y_ : List Int, y_ = (x7_1 ++ [t408]) := ⟨_, rfl⟩
    replace H : (impl_LightsAt.l0 k1 l0 l1 a2 y409 l0 (l0.length : Int) (wrap64 (x13_1 + 1))) = some r := by first | (rw [hy409]; with_reducible exact H) | (have H2_ := (Option.bind_some _ _).symm.trans H; rw [hy409]; with_reducible exact H2_) | (have H2_ := (Option.bind_some _ _).symm.trans H; with_reducible exact H2_) | with_reducible exact H | (rw [hy409]; exact H) | exact H
    have Ny409 := Aside0.mk hy409
    clear hy409
    have H' := Aside0.mk H
    clear H
    have p406 : 0 ≤ (x13_1 : Int) := dA
    have q406 : x13_1 < (l0.length : Int) := dA
    obtain ⟨ad406, e406, hx406_0, hx406_1, hx406_2, hx406_3⟩ := at_T58 HR0.out x13_1 p406 q406
    cases e406
    replace hx406_0 := hC HB hx406_0
    replace hx406_1 := hC HB hx406_1
    replace hx406_2 := hC HB hx406_2
    replace hx406_3 := hC HB hx406_3
    replace p406 := eq_true p406
    replace q406 := eq_true q406
    go_wp2_with (first | ((with_reducible refine gate_dst (N := 9) rfl ?_); refine bE (N := 9) (cs := #[.int .i64 0, .int .i64 0, .int .i64 0, .int .i64 0]) (t := 58) ?_; intro gb407 hg w11 hbox hb; have n0_ := Aside0.mk (Kd.R_below (rK HO_7) hb); have n1_ := Aside0.mk (below_step bA hb); have n2_ := Aside0.mk (hbox); have n3_ := Aside0.mk ((by rw [hg]; exact (below_size bA) : w.heap.size ≤ gb407)); have n4_ := Aside0.mk ((by rw [hg]; exact (below_size bA) : w.heap.size ≤ gb407)); clear HO_7; clear HB; have HO_7 := n0_; have HB := n1_; have BK407 := n2_; have GW407 := n3_; have GE407 := n4_; clear n0_ n1_ n2_ n3_ n4_; clear hb hbox hg; have hcz12_0 : w11.cell? ⟨gb407, 0, none⟩ = some (.int .i64 0) := bC BK407 0; have hcz12_1 : w11.cell? ⟨gb407, 1, none⟩ = some (.int .i64 0) := bC BK407 1; have hcz12_2 : w11.cell? ⟨gb407, 2, none⟩ = some (.int .i64 0) := bC BK407 2; have hcz12_3 : w11.cell? ⟨gb407, 3, none⟩ = some (.int .i64 0) := bC BK407 3; have hfz12_0 := blk_frozen BK407.out 0; have hfz12_1 := blk_frozen BK407.out 1; have hfz12_2 := blk_frozen BK407.out 2; have hfz12_3 := blk_frozen BK407.out 3) | ((with_reducible refine gate_callee (f := 34) rfl ?_); refine gL (some 23) Try.func34 #[.slice (some ad406) l0.length c0, .slice A1 l1.length c1, .int .i64 a2, .int .i64 ((rd_T58 l0 x13_1).f0)] ?_; (with_reducible refine (impl_LightAt.calls k1 _ _ l0 _ _ l1 a2 ((rd_T58 l0 x13_1).f0) t408 _ ?side1 ?side2 ?side3 ?side4 A9.out).mono ?_); (case side1 => exact Kd.C_below HR0.out bG); (case side2 => exact HC0.out); (case side3 => exact Kd.C_below HR1.out bG); (case side4 => exact HC1.out); rintro e w13 ⟨rfl, hb⟩; refine ⟨_, rfl, ?_⟩; have n0_ := Aside0.mk (Kd.R_below (by (with_reducible repeat (first | apply Kd.R_alloc | apply Kd.R_drewN | apply Kd.R_drew)); exact (Kd.R_mono (Kd.R_far (p := ⟨gb407, 3, none⟩) (Kd.R_far (p := ⟨gb407, 2, none⟩) (Kd.R_far (p := ⟨gb407, 1, none⟩) (Kd.R_far (p := ⟨gb407, 0, none⟩) (Kd.R_types HO_7.out BK407.out (by decide)) (fun _ hk => hk.2) (.int .i64 ((rd_T58 l0 x13_1).f0))) (fun _ hk => hk.2) (.int .i64 ((rd_T58 l0 x13_1).f1))) (fun _ hk => hk.2) (.int .i64 ((rd_T58 l0 x13_1).f2))) (fun _ hk => hk.2) (.int .i64 ((rd_T58 l0 x13_1).f3))) (fun _ h_ => h_.1))) hb); have n1_ := Aside0.mk (blk_below (g := gb407) (o := .cells #[.int .i64 ((rd_T58 l0 x13_1).f0), .int .i64 ((rd_T58 l0 x13_1).f1), .int .i64 ((rd_T58 l0 x13_1).f2), .int .i64 ((rd_T58 l0 x13_1).f3)] 58 (0, 0)) (by (with_reducible repeat (first | refine blk_drewN ?_ _ | refine blk_drew ?_ | refine blk_alloc ?_ _)); refine blk_put (cs := #[.int .i64 ((rd_T58 l0 x13_1).f0), .int .i64 ((rd_T58 l0 x13_1).f1), .int .i64 ((rd_T58 l0 x13_1).f2), .int .i64 0]) ?_ 3 _ rfl; (with_reducible repeat (first | refine blk_drewN ?_ _ | refine blk_drew ?_ | refine blk_alloc ?_ _)); refine blk_put (cs := #[.int .i64 ((rd_T58 l0 x13_1).f0), .int .i64 ((rd_T58 l0 x13_1).f1), .int .i64 0, .int .i64 0]) ?_ 2 _ rfl; (with_reducible repeat (first | refine blk_drewN ?_ _ | refine blk_drew ?_ | refine blk_alloc ?_ _)); refine blk_put (cs := #[.int .i64 ((rd_T58 l0 x13_1).f0), .int .i64 0, .int .i64 0, .int .i64 0]) ?_ 1 _ rfl; (with_reducible repeat (first | refine blk_drewN ?_ _ | refine blk_drew ?_ | refine blk_alloc ?_ _)); refine blk_put (cs := #[.int .i64 0, .int .i64 0, .int .i64 0, .int .i64 0]) ?_ 0 _ rfl; (with_reducible repeat (first | refine blk_drewN ?_ _ | refine blk_drew ?_ | refine blk_alloc ?_ _)); exact BK407.out) hb); have n2_ := Aside0.mk (below_step bG hb); clear HO_7; clear BK407; clear HB; have HO_7 := n0_; have BK407 := n1_; have HB := n2_; clear n0_ n1_ n2_; (try clear hb); (try clear hb2); (try clear hk); (try clear hi)) | ((with_reducible refine gate_builtin (b := .append) (xs := #[.tmp 17, .tmp 24]) rfl ?_); at_builtin; refine Kd.R_append (Kd.int .i64) (w0 := w) w.heap.size rfl (.tmp 17) (.tmp 24) 41 3 (.int .i64 0) 8 rfl Try.underlying41 info3 rfl (by decide) (by omega) u7 x7_1 t408 [.int .i64 t408] (fun _ => True) (fun _ => False) rfl rfl ?aP (fun _ hk => hk.elim) ?aF ?aO ?aB ?aS ?aL ?_; (case aP => exact rfl); (case aB => exact bG); (case aF => exact (fun _ _ => trivial)); (case aO => exact (rK HO_7)); (case aS => exact (below_size bG)); (case aL => have := LMc10.out; omega); intro v410 w14 ho hb hg hat; rw [← Ny409.out] at ho; have n0_ := Aside0.mk (blk_grown (g := gb407) (o := .cells #[.int .i64 ((rd_T58 l0 x13_1).f0), .int .i64 ((rd_T58 l0 x13_1).f1), .int .i64 ((rd_T58 l0 x13_1).f2), .int .i64 ((rd_T58 l0 x13_1).f3)] 58 (0, 0)) (bK BK407) hg (Kd.R_ne HO_7.out BK407.out (by decide))); have n1_ := Aside0.mk (hb); have n2_ := Aside0.mk (ho); clear BK407; clear HB; clear HO_7; have BK407 := n0_; have HB := n1_; have HO411 := n2_; clear n0_ n1_ n2_; clear ho hb hg hat))
    go_roundg k1
    case measure => have := HK1.out; omega
    case rel => exact ⟨(y409), (wrap64 (x13_1 + 1)), rS, H', ⟨by have := HK1.out; omega⟩, ⟨rK HO411⟩, ⟨bG⟩⟩
   ·
    rw [if_neg c6] at H
    have c6b0 : decide (x13_1 < (l0.length : Int)) = false := decide_eq_false c6
    clear c6
    obtain rfl := Option.some.inj H
    go_wp2
    go_ret
    exact ⟨_, by first | rfl | (simp [errW_none, errW_some] <;> rfl) | (simp [*, errW_none, errW_some] <;> rfl), by (with_reducible repeat (first | apply Kd.R_alloc | apply Kd.R_drewN | apply Kd.R_drew)); exact HO_7.out, bA⟩

/-! ### laws_markPathS: function 38 -/
def laws_markPathS.l0 : Nat → List (S58) → Int → Int → Option (Int × (List (S58)))
 | 0, _, _, _ => none
 | k + 1, x0, x1, x5 => if x5 < (x0.length : Int) then (if 0 ≤ x5 then ((some (x0.set (x5 : Int).toNat (⟨x1, (rd_T58 x0 x5).f1, (rd_T58 x0 x5).f2, (rd_T58 x0 x5).f3⟩ : S58) : List (S58))).bind fun y412 => ((some (y412.set (x5 : Int).toNat (⟨(rd_T58 y412 x5).f0, wrap64 (x1 + 1), (rd_T58 y412 x5).f2, (rd_T58 y412 x5).f3⟩ : S58) : List (S58))).bind fun y413 => ((some (y413.set (x5 : Int).toNat (⟨(rd_T58 y413 x5).f0, (rd_T58 y413 x5).f1, wrap64 ((wrap64 (x1 + 1)) + 1), (rd_T58 y413 x5).f3⟩ : S58) : List (S58))).bind fun y414 => (laws_markPathS.l0 k (y414.set (x5 : Int).toNat (⟨(rd_T58 y414 x5).f0, (rd_T58 y414 x5).f1, (rd_T58 y414 x5).f2, wrap64 ((wrap64 ((wrap64 (x1 + 1)) + 1)) + 1)⟩ : S58)) (wrap64 ((wrap64 ((wrap64 ((wrap64 (x1 + 1)) + 1)) + 1)) + 1)) (wrap64 (x5 + 1)))))) else (none)) else (some (x1, x0))
def laws_markPathS.f (k : Nat) (l0 : List (S58)) (a1 : Int) : Option (Int × (List (S58))) := laws_markPathS.l0 k l0 a1 0
theorem laws_markPathS.mono_l : ∀ k, (∀ y0 y1 y2, LeO (laws_markPathS.l0 k y0 y1 y2) (laws_markPathS.l0 (k + 1) y0 y1 y2))
 | 0 => fun _ _ _ r h => by simp [laws_markPathS.l0] at h
 | k + 1 => by
  have ih0 := laws_markPathS.mono_l k
  ·
   intro y0 y1 y2
   unfold laws_markPathS.l0
   repeat' first | (with_reducible first | exact LeO.refl _ | exact LeO.none _ | refine LeO.ite ?_ ?_ | refine LeO.bind ?_ (fun _ => ?_) | exact ih0 _ _ _) | exact LeO.none _ | refine LeO.ite ?_ ?_ | refine LeO.bind ?_ (fun _ => ?_) | exact ih0 _ _ _
theorem laws_markPathS.mono : ∀ a0 a1 k, LeO (laws_markPathS.f k a0 a1) (laws_markPathS.f (k + 1) a0 a1) := by
 intro a0 a1 k
 have ih0 := laws_markPathS.mono_l k
 unfold laws_markPathS.f
 repeat' first | (with_reducible first | exact LeO.refl _ | exact LeO.none _ | refine LeO.ite ?_ ?_ | refine LeO.bind ?_ (fun _ => ?_) | exact ih0 _ _ _) | exact LeO.none _ | refine LeO.ite ?_ ?_ | refine LeO.bind ?_ (fun _ => ?_) | exact ih0 _ _ _
set_option maxHeartbeats 8000000 in
set_option maxRecDepth 100000 in
theorem laws_markPathS.calls (k : Nat) (P0_ : Nat → Prop) (u9000_ : Value) (l0 : List (S58)) (a1 : Int) (r1 : Int) (r2 : List (S58)) (w0 w : World) (hB : Below w0.heap.size w0 w) (ho0 : Kd.R k58 58 w w0.heap.size P0_ u9000_ l0) (h : laws_markPathS.f k l0 a1 = some (r1, r2)) :
  Calls Try.prog 38 #[u9000_, .int .i64 a1] w fun e w' => e = .returned (.int .i64 r1) ∧ Kd.R k58 58 w' w0.heap.size (fun k_ => (P0_ k_ ∨ w.heap.size ≤ k_)) u9000_ r2 ∧ Below w0.heap.size w0 w' ∧ Kept w w' (fun k_ => P0_ k_) := by
 have HO0 := Aside0.mk (show Kd.R k58 58 w w0.heap.size (fun k_ => (P0_ k_ ∨ w.heap.size ≤ k_)) u9000_ l0 from Kd.R_mono ho0 (fun k_ hk => (.inl hk)))
 have HK := Aside0.mk (Kept.refl w (fun k_ => P0_ k_))
 have HW0 := Aside0.mk hB.size
 have HB := Aside0.mk hB
 clear hB
 have H : (laws_markPathS.l0 k l0 a1 0) = some (r1, r2) := h
 clear h
 have H' := Aside0.mk H
 clear H
 go_enter Try.func38, Try.ntmps38
 go_wp2
 go_loopg [1, 5] k (fun kq v1 v5 w' => ∃ (x0_1 : List (S58)) (x1_1 : Int) (x5_1 : Int), v1 = .int .i64 x1_1 ∧ v5 = .int .i64 x5_1 ∧ Aside0 (laws_markPathS.l0 kq x0_1 x1_1 x5_1 = some (r1, r2)) ∧ Aside0 (kq ≤ k) ∧ Aside0 (Kd.R k58 58 w' w0.heap.size (fun k_ => (P0_ k_ ∨ w.heap.size ≤ k_)) u9000_ x0_1) ∧ Aside0 (Kept w w' (fun k_ => P0_ k_)) ∧ Aside0 (Below w0.heap.size w0 w'))
 case atStart => exact ⟨(l0), (a1), (0), rS, rS, H', ⟨Nat.le_refl _⟩, ⟨rK HO0⟩, ⟨by repeat (first | (with_reducible first | exact HK.out | apply Kept.alloc | apply Kept.drewN | apply Kept.drew) | exact HK.out)⟩, ⟨bA⟩⟩
 case round =>
  clear H'
  try clear p2
  obtain ⟨x0_1, x1_1, x5_1, rfl, rfl, HA, HK1, HO_0, HK, HB⟩ := hrel
  cases gk with
  | zero => exact absurd HA.out (by simp [laws_markPathS.l0])
  | succ k1 =>
   have H := HA.out
   clear HA
   simp only [laws_markPathS.l0] at H
   by_cases c3 : x5_1 < (x0_1.length : Int)
   ·
    rw [if_pos c3] at H
    have c3b0 : decide (x5_1 < (x0_1.length : Int)) = true := decide_eq_true c3
    clear c3
    have c4 : 0 ≤ x5_1 := ifN H
    replace H := ifT H
    have c4b0 : decide (0 ≤ x5_1) = true := decide_eq_true c4
    clear c4
    obtain ⟨y412, hy412⟩ : ∃ y_ : List (S58), y_ = (x0_1.set (x5_1 : Int).toNat (⟨x1_1, (rd_T58 x0_1 x5_1).f1, (rd_T58 x0_1 x5_1).f2, (rd_T58 x0_1 x5_1).f3⟩ : S58)) := ⟨_, rfl⟩
    replace H : ((some (y412.set (x5_1 : Int).toNat (⟨(rd_T58 y412 x5_1).f0, wrap64 (x1_1 + 1), (rd_T58 y412 x5_1).f2, (rd_T58 y412 x5_1).f3⟩ : S58) : List (S58))).bind fun y413 => ((some (y413.set (x5_1 : Int).toNat (⟨(rd_T58 y413 x5_1).f0, (rd_T58 y413 x5_1).f1, wrap64 ((wrap64 (x1_1 + 1)) + 1), (rd_T58 y413 x5_1).f3⟩ : S58) : List (S58))).bind fun y414 => (laws_markPathS.l0 k1 (y414.set (x5_1 : Int).toNat (⟨(rd_T58 y414 x5_1).f0, (rd_T58 y414 x5_1).f1, (rd_T58 y414 x5_1).f2, wrap64 ((wrap64 ((wrap64 (x1_1 + 1)) + 1)) + 1)⟩ : S58)) (wrap64 ((wrap64 ((wrap64 ((wrap64 (x1_1 + 1)) + 1)) + 1)) + 1)) (wrap64 (x5_1 + 1))))) = some (r1, r2) := by first | (rw [hy412]; with_reducible exact H) | (have H2_ := (Option.bind_some _ _).symm.trans H; rw [hy412]; with_reducible exact H2_) | (have H2_ := (Option.bind_some _ _).symm.trans H; with_reducible exact H2_) | with_reducible exact H | (rw [hy412]; exact H) | exact H
    have Ny412 := Aside0.mk hy412
    clear hy412
    obtain ⟨y413, hy413⟩ : ∃ y_ : List (S58), y_ = (y412.set (x5_1 : Int).toNat (⟨(rd_T58 y412 x5_1).f0, wrap64 (x1_1 + 1), (rd_T58 y412 x5_1).f2, (rd_T58 y412 x5_1).f3⟩ : S58)) := ⟨_, rfl⟩
    replace H : ((some (y413.set (x5_1 : Int).toNat (⟨(rd_T58 y413 x5_1).f0, (rd_T58 y413 x5_1).f1, wrap64 ((wrap64 (x1_1 + 1)) + 1), (rd_T58 y413 x5_1).f3⟩ : S58) : List (S58))).bind fun y414 => (laws_markPathS.l0 k1 (y414.set (x5_1 : Int).toNat (⟨(rd_T58 y414 x5_1).f0, (rd_T58 y414 x5_1).f1, (rd_T58 y414 x5_1).f2, wrap64 ((wrap64 ((wrap64 (x1_1 + 1)) + 1)) + 1)⟩ : S58)) (wrap64 ((wrap64 ((wrap64 ((wrap64 (x1_1 + 1)) + 1)) + 1)) + 1)) (wrap64 (x5_1 + 1)))) = some (r1, r2) := by first | (rw [hy413]; with_reducible exact H) | (have H2_ := (Option.bind_some _ _).symm.trans H; rw [hy413]; with_reducible exact H2_) | (have H2_ := (Option.bind_some _ _).symm.trans H; with_reducible exact H2_) | with_reducible exact H | (rw [hy413]; exact H) | exact H
    have Ny413 := Aside0.mk hy413
    clear hy413
    obtain ⟨y414, hy414⟩ : ∃ y_ : List (S58), y_ = (y413.set (x5_1 : Int).toNat (⟨(rd_T58 y413 x5_1).f0, (rd_T58 y413 x5_1).f1, wrap64 ((wrap64 (x1_1 + 1)) + 1), (rd_T58 y413 x5_1).f3⟩ : S58)) := ⟨_, rfl⟩
    replace H : (laws_markPathS.l0 k1 (y414.set (x5_1 : Int).toNat (⟨(rd_T58 y414 x5_1).f0, (rd_T58 y414 x5_1).f1, (rd_T58 y414 x5_1).f2, wrap64 ((wrap64 ((wrap64 (x1_1 + 1)) + 1)) + 1)⟩ : S58)) (wrap64 ((wrap64 ((wrap64 ((wrap64 (x1_1 + 1)) + 1)) + 1)) + 1)) (wrap64 (x5_1 + 1))) = some (r1, r2) := by first | (rw [hy414]; with_reducible exact H) | (have H2_ := (Option.bind_some _ _).symm.trans H; rw [hy414]; with_reducible exact H2_) | (have H2_ := (Option.bind_some _ _).symm.trans H; with_reducible exact H2_) | with_reducible exact H | (rw [hy414]; exact H) | exact H
    have Ny414 := Aside0.mk hy414
    clear hy414
    obtain ⟨y415, hy415⟩ : ∃ y_ : List (S58), y_ = (y414.set (x5_1 : Int).toNat (⟨(rd_T58 y414 x5_1).f0, (rd_T58 y414 x5_1).f1, (rd_T58 y414 x5_1).f2, wrap64 ((wrap64 ((wrap64 (x1_1 + 1)) + 1)) + 1)⟩ : S58)) := ⟨_, rfl⟩
    replace H : (laws_markPathS.l0 k1 y415 (wrap64 ((wrap64 ((wrap64 ((wrap64 (x1_1 + 1)) + 1)) + 1)) + 1)) (wrap64 (x5_1 + 1))) = some (r1, r2) := by first | (rw [hy415]; with_reducible exact H) | (have H2_ := (Option.bind_some _ _).symm.trans H; rw [hy415]; with_reducible exact H2_) | (have H2_ := (Option.bind_some _ _).symm.trans H; with_reducible exact H2_) | with_reducible exact H | (rw [hy415]; exact H) | exact H
    have Ny415 := Aside0.mk hy415
    clear hy415
    have H' := Aside0.mk H
    clear H
    obtain ⟨Ao9, co9, eo9⟩ := Kd.R_slice HO_0.out
    subst eo9
    have p5 : 0 ≤ (x5_1 : Int) := dA
    have q5 : (x5_1 : Int) < ((x0_1.length : Int) : Int) := dA
    obtain ⟨go5, co5, eo5, gb5, gl5, cl5, HG5⟩ := Kd.R_form HO_0.out (by omega)
    (first | cases eo5 | (injection eo5 with ea_ en_ ec_; (first | subst ea_ | (injection ea_ with ea_; subst ea_)); subst ec_; clear en_))
    have GB5 := Aside0.mk gb5
    have GG5 := Aside0.mk HG5
    clear gb5 gl5 HG5
    have HMgo5 := Aside0.mk (show (P0_ go5 ∨ w.heap.size ≤ go5) from (HO_0.out.1 _ rfl))
    obtain ⟨ce5, hcl5, hM5, hcc5, hfr5⟩ := Kd.R_elem HO_0.out z58 (x5_1 : Int) p5 q5
    obtain rfl := k58_openM hM5
    have hx5_0 : wr.cell? ⟨go5, (x5_1 : Int).toNat * 4, none⟩ = some (.int .i64 ((rd_T58 x0_1 x5_1).f0)) := hcc5 0 _ rfl
    have hx5_1 : wr.cell? ⟨go5, (x5_1 : Int).toNat * 4 + 1, none⟩ = some (.int .i64 ((rd_T58 x0_1 x5_1).f1)) := hcc5 1 _ rfl
    have hx5_2 : wr.cell? ⟨go5, (x5_1 : Int).toNat * 4 + 2, none⟩ = some (.int .i64 ((rd_T58 x0_1 x5_1).f2)) := hcc5 2 _ rfl
    have hx5_3 : wr.cell? ⟨go5, (x5_1 : Int).toNat * 4 + 3, none⟩ = some (.int .i64 ((rd_T58 x0_1 x5_1).f3)) := hcc5 3 _ rfl
    have hf5_0 : wr.frozen? ⟨go5, (x5_1 : Int).toNat * 4, none⟩ = false := hfr5 0
    have hf5_1 : wr.frozen? ⟨go5, (x5_1 : Int).toNat * 4 + 1, none⟩ = false := hfr5 1
    have hf5_2 : wr.frozen? ⟨go5, (x5_1 : Int).toNat * 4 + 2, none⟩ = false := hfr5 2
    have hf5_3 : wr.frozen? ⟨go5, (x5_1 : Int).toNat * 4 + 3, none⟩ = false := hfr5 3
    clear hcl5 hcc5 hfr5 hM5
    replace p5 := eq_true p5
    replace q5 := eq_true q5
    have HX10 := Aside0.mk (show Kd.R k58 58 wr w0.heap.size (fun k_ => (P0_ k_ ∨ w.heap.size ≤ k_)) (.slice (some ⟨go5, 0, none⟩) x0_1.length co9) x0_1 from (rK HO_0))
    obtain ⟨ce10, hcl10, hM10, hcc10, hfr10⟩ := Kd.R_elem HX10.out z58 (x5_1 : Int) (dA) (by have h_ : (x5_1 : Int) < ((x0_1.length : Int) : Int) := dA; first | exact h_ | (have e_ := (Kd.R_reads' HO_0.out).1; omega) | simpa using h_)
    obtain rfl := k58_openM hM10
    have HP10 := Kd.R_seg HX10.out (x5_1 : Int) (dA) (by have h_ : (x5_1 : Int) < ((x0_1.length : Int) : Int) := dA; first | exact h_ | (have e_ := (Kd.R_reads' HO_0.out).1; omega) | simpa using h_) (seg := [.int .i64 x1_1]) (j := 0) hcl10 hcc10 (show 1 ≤ 4 from by decide) (x' := (⟨x1_1, (rd_T58 x0_1 x5_1).f1, (rd_T58 x0_1 x5_1).f2, (rd_T58 x0_1 x5_1).f3⟩ : S58)) (k58_mkM _ _ _ (⟨x1_1, (rd_T58 x0_1 x5_1).f1, (rd_T58 x0_1 x5_1).f2, (rd_T58 x0_1 x5_1).f3⟩ : S58) ) (fun _ hk => hk)
    have hx10_0 := hcc10 0 _ rfl
    (try simp only [show (k58).sz = 4 from rfl, Nat.mul_one, Nat.add_zero] at hx10_0)
    have hf10_0 := hfr10 0
    (try simp only [show (k58).sz = 4 from rfl, Nat.mul_one, Nat.add_zero] at hf10_0)
    clear hcl10 hcc10 hfr10 hM10
    go_wp2_with (first | ((with_reducible refine gate_store (t := 3) (p := 16) rfl ?_); refine store_event (t := 3) (p := 16) (v := ?vo_w11) (w1 := (wr.setCell ⟨go5, (x5_1 : Int).toNat * 4, none⟩ (.int .i64 x1_1))) ?hg ?ho ?hn ?hr ?_; (case ho => rfl); (case hg => rfl); (case hn => rfl); (case hr => first | (go_simp; done) | (go_simp; rfl)); intro w11 hw; have hg : wr.grownBy w11 (some go5) := (by rw [hw]; exact HP10.2); have hp_ : Kd.R k58 58 w11 w0.heap.size (fun k_ => (P0_ k_ ∨ w.heap.size ≤ k_)) (.slice (some ⟨go5, 0, none⟩) x0_1.length co9) y412 := (by rw [hw, Ny412.out]; exact HP10.1); clear HP10; have n0_ := Aside0.mk (hp_); have n1_ := Aside0.mk ((by rw [hw]; exact below_set (HB.out) GB5.out : Below w0.heap.size w0 w11)); have n2_ := Aside0.mk (Kept.of_grown (S := (fun k_ => P0_ k_)) hg (by repeat (first | (with_reducible first | exact HK.out | apply Kept.alloc | apply Kept.drewN | apply Kept.drew) | exact HK.out)) (fun k_ e_ => (HO_0.out.1 k_ e_))); clear HO_0; clear HB; clear HK; have HO_0 := n0_; have HB := n1_; have HK := n2_; clear n0_ n1_ n2_; clear hg hw hp_; have p6 : 0 ≤ (x5_1 : Int) := dA; have q6 : (x5_1 : Int) < ((x0_1.length : Int) : Int) := dA; obtain ⟨ce6, hcl6, hM6, hcc6, hfr6⟩ := Kd.R_elem HO_0.out z58 (x5_1 : Int) p6 q6; obtain rfl := k58_openM hM6; have hx6_0 : w11.cell? ⟨go5, (x5_1 : Int).toNat * 4, none⟩ = some (.int .i64 ((rd_T58 y412 x5_1).f0)) := hcc6 0 _ rfl; have hx6_1 : w11.cell? ⟨go5, (x5_1 : Int).toNat * 4 + 1, none⟩ = some (.int .i64 ((rd_T58 y412 x5_1).f1)) := hcc6 1 _ rfl; have hx6_2 : w11.cell? ⟨go5, (x5_1 : Int).toNat * 4 + 2, none⟩ = some (.int .i64 ((rd_T58 y412 x5_1).f2)) := hcc6 2 _ rfl; have hx6_3 : w11.cell? ⟨go5, (x5_1 : Int).toNat * 4 + 3, none⟩ = some (.int .i64 ((rd_T58 y412 x5_1).f3)) := hcc6 3 _ rfl; have hf6_0 : w11.frozen? ⟨go5, (x5_1 : Int).toNat * 4, none⟩ = false := hfr6 0; have hf6_1 : w11.frozen? ⟨go5, (x5_1 : Int).toNat * 4 + 1, none⟩ = false := hfr6 1; have hf6_2 : w11.frozen? ⟨go5, (x5_1 : Int).toNat * 4 + 2, none⟩ = false := hfr6 2; have hf6_3 : w11.frozen? ⟨go5, (x5_1 : Int).toNat * 4 + 3, none⟩ = false := hfr6 3; clear hcl6 hcc6 hfr6 hM6; replace p6 := eq_true p6; replace q6 := eq_true q6; have HX12 := Aside0.mk (show Kd.R k58 58 w11 w0.heap.size (fun k_ => (P0_ k_ ∨ w.heap.size ≤ k_)) (.slice (some ⟨go5, 0, none⟩) x0_1.length co9) y412 from (rK HO_0)); obtain ⟨ce12, hcl12, hM12, hcc12, hfr12⟩ := Kd.R_elem HX12.out z58 (x5_1 : Int) (dA) (by have h_ : (x5_1 : Int) < ((x0_1.length : Int) : Int) := dA; first | exact h_ | (have e_ := (Kd.R_reads' HO_0.out).1; omega) | simpa using h_); obtain rfl := k58_openM hM12; have HP12 := Kd.R_seg HX12.out (x5_1 : Int) (dA) (by have h_ : (x5_1 : Int) < ((x0_1.length : Int) : Int) := dA; first | exact h_ | (have e_ := (Kd.R_reads' HO_0.out).1; omega) | simpa using h_) (seg := [.int .i64 (wrap64 (x1_1 + 1))]) (j := 1) hcl12 hcc12 (show 2 ≤ 4 from by decide) (x' := (⟨(rd_T58 y412 x5_1).f0, wrap64 (x1_1 + 1), (rd_T58 y412 x5_1).f2, (rd_T58 y412 x5_1).f3⟩ : S58)) (k58_mkM _ _ _ (⟨(rd_T58 y412 x5_1).f0, wrap64 (x1_1 + 1), (rd_T58 y412 x5_1).f2, (rd_T58 y412 x5_1).f3⟩ : S58) ) (fun _ hk => hk); have hx12_1 := hcc12 1 _ rfl; (try simp only [show (k58).sz = 4 from rfl, Nat.mul_one, Nat.add_zero] at hx12_1); have hf12_1 := hfr12 1; (try simp only [show (k58).sz = 4 from rfl, Nat.mul_one, Nat.add_zero] at hf12_1); clear hcl12 hcc12 hfr12 hM12) | ((with_reducible refine gate_store (t := 3) (p := 23) rfl ?_); refine store_event (t := 3) (p := 23) (v := ?vo_w13) (w1 := (w11.setCell ⟨go5, (x5_1 : Int).toNat * 4 + 1, none⟩ (.int .i64 (wrap64 (x1_1 + 1))))) ?hg ?ho ?hn ?hr ?_; (case ho => rfl); (case hg => rfl); (case hn => rfl); (case hr => first | (go_simp; done) | (go_simp; rfl)); intro w13 hw; have hg : w11.grownBy w13 (some go5) := (by rw [hw]; exact HP12.2); have hp_ : Kd.R k58 58 w13 w0.heap.size (fun k_ => (P0_ k_ ∨ w.heap.size ≤ k_)) (.slice (some ⟨go5, 0, none⟩) x0_1.length co9) y413 := (by rw [hw, Ny413.out]; exact HP12.1); clear HP12; have n0_ := Aside0.mk (hp_); have n1_ := Aside0.mk ((by rw [hw]; exact below_set (HB.out) GB5.out : Below w0.heap.size w0 w13)); have n2_ := Aside0.mk (Kept.of_grown (S := (fun k_ => P0_ k_)) hg (by repeat (first | (with_reducible first | exact HK.out | apply Kept.alloc | apply Kept.drewN | apply Kept.drew) | exact HK.out)) (fun k_ e_ => (HO_0.out.1 k_ e_))); clear HO_0; clear HB; clear HK; have HO_0 := n0_; have HB := n1_; have HK := n2_; clear n0_ n1_ n2_; clear hg hw hp_; have p7 : 0 ≤ (x5_1 : Int) := dA; have q7 : (x5_1 : Int) < ((x0_1.length : Int) : Int) := dA; obtain ⟨ce7, hcl7, hM7, hcc7, hfr7⟩ := Kd.R_elem HO_0.out z58 (x5_1 : Int) p7 q7; obtain rfl := k58_openM hM7; have hx7_0 : w13.cell? ⟨go5, (x5_1 : Int).toNat * 4, none⟩ = some (.int .i64 ((rd_T58 y413 x5_1).f0)) := hcc7 0 _ rfl; have hx7_1 : w13.cell? ⟨go5, (x5_1 : Int).toNat * 4 + 1, none⟩ = some (.int .i64 ((rd_T58 y413 x5_1).f1)) := hcc7 1 _ rfl; have hx7_2 : w13.cell? ⟨go5, (x5_1 : Int).toNat * 4 + 2, none⟩ = some (.int .i64 ((rd_T58 y413 x5_1).f2)) := hcc7 2 _ rfl; have hx7_3 : w13.cell? ⟨go5, (x5_1 : Int).toNat * 4 + 3, none⟩ = some (.int .i64 ((rd_T58 y413 x5_1).f3)) := hcc7 3 _ rfl; have hf7_0 : w13.frozen? ⟨go5, (x5_1 : Int).toNat * 4, none⟩ = false := hfr7 0; have hf7_1 : w13.frozen? ⟨go5, (x5_1 : Int).toNat * 4 + 1, none⟩ = false := hfr7 1; have hf7_2 : w13.frozen? ⟨go5, (x5_1 : Int).toNat * 4 + 2, none⟩ = false := hfr7 2; have hf7_3 : w13.frozen? ⟨go5, (x5_1 : Int).toNat * 4 + 3, none⟩ = false := hfr7 3; clear hcl7 hcc7 hfr7 hM7; replace p7 := eq_true p7; replace q7 := eq_true q7; have HX14 := Aside0.mk (show Kd.R k58 58 w13 w0.heap.size (fun k_ => (P0_ k_ ∨ w.heap.size ≤ k_)) (.slice (some ⟨go5, 0, none⟩) x0_1.length co9) y413 from (rK HO_0)); obtain ⟨ce14, hcl14, hM14, hcc14, hfr14⟩ := Kd.R_elem HX14.out z58 (x5_1 : Int) (dA) (by have h_ : (x5_1 : Int) < ((x0_1.length : Int) : Int) := dA; first | exact h_ | (have e_ := (Kd.R_reads' HO_0.out).1; omega) | simpa using h_); obtain rfl := k58_openM hM14; have HP14 := Kd.R_seg HX14.out (x5_1 : Int) (dA) (by have h_ : (x5_1 : Int) < ((x0_1.length : Int) : Int) := dA; first | exact h_ | (have e_ := (Kd.R_reads' HO_0.out).1; omega) | simpa using h_) (seg := [.int .i64 (wrap64 ((wrap64 (x1_1 + 1)) + 1))]) (j := 2) hcl14 hcc14 (show 3 ≤ 4 from by decide) (x' := (⟨(rd_T58 y413 x5_1).f0, (rd_T58 y413 x5_1).f1, wrap64 ((wrap64 (x1_1 + 1)) + 1), (rd_T58 y413 x5_1).f3⟩ : S58)) (k58_mkM _ _ _ (⟨(rd_T58 y413 x5_1).f0, (rd_T58 y413 x5_1).f1, wrap64 ((wrap64 (x1_1 + 1)) + 1), (rd_T58 y413 x5_1).f3⟩ : S58) ) (fun _ hk => hk); have hx14_2 := hcc14 2 _ rfl; (try simp only [show (k58).sz = 4 from rfl, Nat.mul_one, Nat.add_zero] at hx14_2); have hf14_2 := hfr14 2; (try simp only [show (k58).sz = 4 from rfl, Nat.mul_one, Nat.add_zero] at hf14_2); clear hcl14 hcc14 hfr14 hM14) | ((with_reducible refine gate_store (t := 3) (p := 30) rfl ?_); refine store_event (t := 3) (p := 30) (v := ?vo_w15) (w1 := (w13.setCell ⟨go5, (x5_1 : Int).toNat * 4 + 2, none⟩ (.int .i64 (wrap64 ((wrap64 (x1_1 + 1)) + 1))))) ?hg ?ho ?hn ?hr ?_; (case ho => rfl); (case hg => rfl); (case hn => rfl); (case hr => first | (go_simp; done) | (go_simp; rfl)); intro w15 hw; have hg : w13.grownBy w15 (some go5) := (by rw [hw]; exact HP14.2); have hp_ : Kd.R k58 58 w15 w0.heap.size (fun k_ => (P0_ k_ ∨ w.heap.size ≤ k_)) (.slice (some ⟨go5, 0, none⟩) x0_1.length co9) y414 := (by rw [hw, Ny414.out]; exact HP14.1); clear HP14; have n0_ := Aside0.mk (hp_); have n1_ := Aside0.mk ((by rw [hw]; exact below_set (HB.out) GB5.out : Below w0.heap.size w0 w15)); have n2_ := Aside0.mk (Kept.of_grown (S := (fun k_ => P0_ k_)) hg (by repeat (first | (with_reducible first | exact HK.out | apply Kept.alloc | apply Kept.drewN | apply Kept.drew) | exact HK.out)) (fun k_ e_ => (HO_0.out.1 k_ e_))); clear HO_0; clear HB; clear HK; have HO_0 := n0_; have HB := n1_; have HK := n2_; clear n0_ n1_ n2_; clear hg hw hp_; have p8 : 0 ≤ (x5_1 : Int) := dA; have q8 : (x5_1 : Int) < ((x0_1.length : Int) : Int) := dA; obtain ⟨ce8, hcl8, hM8, hcc8, hfr8⟩ := Kd.R_elem HO_0.out z58 (x5_1 : Int) p8 q8; obtain rfl := k58_openM hM8; have hx8_0 : w15.cell? ⟨go5, (x5_1 : Int).toNat * 4, none⟩ = some (.int .i64 ((rd_T58 y414 x5_1).f0)) := hcc8 0 _ rfl; have hx8_1 : w15.cell? ⟨go5, (x5_1 : Int).toNat * 4 + 1, none⟩ = some (.int .i64 ((rd_T58 y414 x5_1).f1)) := hcc8 1 _ rfl; have hx8_2 : w15.cell? ⟨go5, (x5_1 : Int).toNat * 4 + 2, none⟩ = some (.int .i64 ((rd_T58 y414 x5_1).f2)) := hcc8 2 _ rfl; have hx8_3 : w15.cell? ⟨go5, (x5_1 : Int).toNat * 4 + 3, none⟩ = some (.int .i64 ((rd_T58 y414 x5_1).f3)) := hcc8 3 _ rfl; have hf8_0 : w15.frozen? ⟨go5, (x5_1 : Int).toNat * 4, none⟩ = false := hfr8 0; have hf8_1 : w15.frozen? ⟨go5, (x5_1 : Int).toNat * 4 + 1, none⟩ = false := hfr8 1; have hf8_2 : w15.frozen? ⟨go5, (x5_1 : Int).toNat * 4 + 2, none⟩ = false := hfr8 2; have hf8_3 : w15.frozen? ⟨go5, (x5_1 : Int).toNat * 4 + 3, none⟩ = false := hfr8 3; clear hcl8 hcc8 hfr8 hM8; replace p8 := eq_true p8; replace q8 := eq_true q8; have HX16 := Aside0.mk (show Kd.R k58 58 w15 w0.heap.size (fun k_ => (P0_ k_ ∨ w.heap.size ≤ k_)) (.slice (some ⟨go5, 0, none⟩) x0_1.length co9) y414 from (rK HO_0)); obtain ⟨ce16, hcl16, hM16, hcc16, hfr16⟩ := Kd.R_elem HX16.out z58 (x5_1 : Int) (dA) (by have h_ : (x5_1 : Int) < ((x0_1.length : Int) : Int) := dA; first | exact h_ | (have e_ := (Kd.R_reads' HO_0.out).1; omega) | simpa using h_); obtain rfl := k58_openM hM16; have HP16 := Kd.R_seg HX16.out (x5_1 : Int) (dA) (by have h_ : (x5_1 : Int) < ((x0_1.length : Int) : Int) := dA; first | exact h_ | (have e_ := (Kd.R_reads' HO_0.out).1; omega) | simpa using h_) (seg := [.int .i64 (wrap64 ((wrap64 ((wrap64 (x1_1 + 1)) + 1)) + 1))]) (j := 3) hcl16 hcc16 (show 4 ≤ 4 from by decide) (x' := (⟨(rd_T58 y414 x5_1).f0, (rd_T58 y414 x5_1).f1, (rd_T58 y414 x5_1).f2, wrap64 ((wrap64 ((wrap64 (x1_1 + 1)) + 1)) + 1)⟩ : S58)) (k58_mkM _ _ _ (⟨(rd_T58 y414 x5_1).f0, (rd_T58 y414 x5_1).f1, (rd_T58 y414 x5_1).f2, wrap64 ((wrap64 ((wrap64 (x1_1 + 1)) + 1)) + 1)⟩ : S58) ) (fun _ hk => hk); have hx16_3 := hcc16 3 _ rfl; (try simp only [show (k58).sz = 4 from rfl, Nat.mul_one, Nat.add_zero] at hx16_3); have hf16_3 := hfr16 3; (try simp only [show (k58).sz = 4 from rfl, Nat.mul_one, Nat.add_zero] at hf16_3); clear hcl16 hcc16 hfr16 hM16) | ((with_reducible refine gate_store (t := 3) (p := 37) rfl ?_); refine store_event (t := 3) (p := 37) (v := ?vo_w17) (w1 := (w15.setCell ⟨go5, (x5_1 : Int).toNat * 4 + 3, none⟩ (.int .i64 (wrap64 ((wrap64 ((wrap64 (x1_1 + 1)) + 1)) + 1))))) ?hg ?ho ?hn ?hr ?_; (case ho => rfl); (case hg => rfl); (case hn => rfl); (case hr => first | (go_simp; done) | (go_simp; rfl)); intro w17 hw; have hg : w15.grownBy w17 (some go5) := (by rw [hw]; exact HP16.2); have hp_ : Kd.R k58 58 w17 w0.heap.size (fun k_ => (P0_ k_ ∨ w.heap.size ≤ k_)) (.slice (some ⟨go5, 0, none⟩) x0_1.length co9) y415 := (by rw [hw, Ny415.out]; exact HP16.1); clear HP16; have n0_ := Aside0.mk (hp_); have n1_ := Aside0.mk ((by rw [hw]; exact below_set (HB.out) GB5.out : Below w0.heap.size w0 w17)); have n2_ := Aside0.mk (Kept.of_grown (S := (fun k_ => P0_ k_)) hg (by repeat (first | (with_reducible first | exact HK.out | apply Kept.alloc | apply Kept.drewN | apply Kept.drew) | exact HK.out)) (fun k_ e_ => (HO_0.out.1 k_ e_))); clear HO_0; clear HB; clear HK; have HO_0 := n0_; have HB := n1_; have HK := n2_; clear n0_ n1_ n2_; clear hg hw hp_))
    go_roundg k1
    case measure => have := HK1.out; omega
    case rel => exact ⟨(y415), (wrap64 ((wrap64 ((wrap64 ((wrap64 (x1_1 + 1)) + 1)) + 1)) + 1)), (wrap64 (x5_1 + 1)), rS, rS, H', ⟨by have := HK1.out; omega⟩, ⟨rK HO_0⟩, ⟨by repeat (first | (with_reducible first | exact HK.out | apply Kept.alloc | apply Kept.drewN | apply Kept.drew) | exact HK.out)⟩, ⟨bA⟩⟩
   ·
    rw [if_neg c3] at H
    have c3b0 : decide (x5_1 < (x0_1.length : Int)) = false := decide_eq_false c3
    clear c3
    simp only [Option.some.injEq, Prod.mk.injEq] at H
    obtain ⟨rfl, rfl⟩ := H
    obtain ⟨Ao18, co18, eo18⟩ := Kd.R_slice HO_0.out
    subst eo18
    go_wp2
    go_ret
    exact ⟨rA, by (with_reducible repeat (first | apply Kd.R_alloc | apply Kd.R_drewN | apply Kd.R_drew)); exact HO_0.out, bA, by repeat (first | (with_reducible first | exact HK.out | apply Kept.alloc | apply Kept.drewN | apply Kept.drew) | exact HK.out)⟩

/-! ### laws_markIntS: function 40 -/
def laws_markIntS.l0 : Nat → List Int → Int → Int → Option (Int × List Int)
 | 0, _, _, _ => none
 | k + 1, x0, x1, x5 => if x5 < (x0.length : Int) then (if 0 ≤ x5 then (laws_markIntS.l0 k (x0.set (x5 : Int).toNat x1) (wrap64 (x1 + 1)) (wrap64 (x5 + 1))) else (none)) else (some (x1, x0))
def laws_markIntS.f (k : Nat) (l0 : List Int) (a1 : Int) : Option (Int × List Int) := laws_markIntS.l0 k l0 a1 0
theorem laws_markIntS.mono_l : ∀ k, (∀ y0 y1 y2, LeO (laws_markIntS.l0 k y0 y1 y2) (laws_markIntS.l0 (k + 1) y0 y1 y2))
 | 0 => fun _ _ _ r h => by simp [laws_markIntS.l0] at h
 | k + 1 => by
  have ih0 := laws_markIntS.mono_l k
  ·
   intro y0 y1 y2
   unfold laws_markIntS.l0
   repeat' first | (with_reducible first | exact LeO.refl _ | exact LeO.none _ | refine LeO.ite ?_ ?_ | refine LeO.bind ?_ (fun _ => ?_) | exact ih0 _ _ _) | exact LeO.none _ | refine LeO.ite ?_ ?_ | refine LeO.bind ?_ (fun _ => ?_) | exact ih0 _ _ _
theorem laws_markIntS.mono : ∀ a0 a1 k, LeO (laws_markIntS.f k a0 a1) (laws_markIntS.f (k + 1) a0 a1) := by
 intro a0 a1 k
 have ih0 := laws_markIntS.mono_l k
 unfold laws_markIntS.f
 repeat' first | (with_reducible first | exact LeO.refl _ | exact LeO.none _ | refine LeO.ite ?_ ?_ | refine LeO.bind ?_ (fun _ => ?_) | exact ih0 _ _ _) | exact LeO.none _ | refine LeO.ite ?_ ?_ | refine LeO.bind ?_ (fun _ => ?_) | exact ih0 _ _ _
set_option maxHeartbeats 8000000 in
set_option maxRecDepth 100000 in
theorem laws_markIntS.calls (k : Nat) (P0_ : Nat → Prop) (u9000_ : Value) (l0 : List Int) (a1 : Int) (r1 : Int) (r2 : List Int) (w0 w : World) (hB : Below w0.heap.size w0 w) (ho0 : Kd.R (Kd.int .i64) 3 w w0.heap.size P0_ u9000_ l0) (h : laws_markIntS.f k l0 a1 = some (r1, r2)) :
  Calls Try.prog 40 #[u9000_, .int .i64 a1] w fun e w' => e = .returned (.int .i64 r1) ∧ Kd.R (Kd.int .i64) 3 w' w0.heap.size (fun k_ => (P0_ k_ ∨ w.heap.size ≤ k_)) u9000_ r2 ∧ Below w0.heap.size w0 w' ∧ Kept w w' (fun k_ => P0_ k_) := by
 have HO0 := Aside0.mk (show Kd.R (Kd.int .i64) 3 w w0.heap.size (fun k_ => (P0_ k_ ∨ w.heap.size ≤ k_)) u9000_ l0 from Kd.R_mono ho0 (fun k_ hk => (.inl hk)))
 have HK := Aside0.mk (Kept.refl w (fun k_ => P0_ k_))
 have HW0 := Aside0.mk hB.size
 have HB := Aside0.mk hB
 clear hB
 have H : (laws_markIntS.l0 k l0 a1 0) = some (r1, r2) := h
 clear h
 have H' := Aside0.mk H
 clear H
 go_enter Try.func40, Try.ntmps40
 go_wp2
 go_loopg [1, 5] k (fun kq v1 v5 w' => ∃ (x0_1 : List Int) (x1_1 : Int) (x5_1 : Int), v1 = .int .i64 x1_1 ∧ v5 = .int .i64 x5_1 ∧ Aside0 (laws_markIntS.l0 kq x0_1 x1_1 x5_1 = some (r1, r2)) ∧ Aside0 (kq ≤ k) ∧ Aside0 (Kd.R (Kd.int .i64) 3 w' w0.heap.size (fun k_ => (P0_ k_ ∨ w.heap.size ≤ k_)) u9000_ x0_1) ∧ Aside0 (Kept w w' (fun k_ => P0_ k_)) ∧ Aside0 (Below w0.heap.size w0 w'))
 case atStart => exact ⟨(l0), (a1), (0), rS, rS, H', ⟨Nat.le_refl _⟩, ⟨rK HO0⟩, ⟨by repeat (first | (with_reducible first | exact HK.out | apply Kept.alloc | apply Kept.drewN | apply Kept.drew) | exact HK.out)⟩, ⟨bA⟩⟩
 case round =>
  clear H'
  try clear p2
  obtain ⟨x0_1, x1_1, x5_1, rfl, rfl, HA, HK1, HO_0, HK, HB⟩ := hrel
  cases gk with
  | zero => exact absurd HA.out (by simp [laws_markIntS.l0])
  | succ k1 =>
   have H := HA.out
   clear HA
   simp only [laws_markIntS.l0] at H
   by_cases c3 : x5_1 < (x0_1.length : Int)
   ·
    rw [if_pos c3] at H
    have c3b0 : decide (x5_1 < (x0_1.length : Int)) = true := decide_eq_true c3
    clear c3
    have c4 : 0 ≤ x5_1 := ifN H
    replace H := ifT H
    have c4b0 : decide (0 ≤ x5_1) = true := decide_eq_true c4
    clear c4
    obtain ⟨y416, hy416⟩ : ∃ y_ : List Int, y_ = (x0_1.set (x5_1 : Int).toNat x1_1) := ⟨_, rfl⟩
    replace H : (laws_markIntS.l0 k1 y416 (wrap64 (x1_1 + 1)) (wrap64 (x5_1 + 1))) = some (r1, r2) := by first | (rw [hy416]; with_reducible exact H) | (have H2_ := (Option.bind_some _ _).symm.trans H; rw [hy416]; with_reducible exact H2_) | (have H2_ := (Option.bind_some _ _).symm.trans H; with_reducible exact H2_) | with_reducible exact H | (rw [hy416]; exact H) | exact H
    have Ny416 := Aside0.mk hy416
    clear hy416
    have H' := Aside0.mk H
    clear H
    obtain ⟨Ao6, co6, eo6⟩ := Kd.R_slice HO_0.out
    subst eo6
    have p5 : 0 ≤ (x5_1 : Int) := dA
    have q5 : (x5_1 : Int) < ((x0_1.length : Int) : Int) := dA
    obtain ⟨go5, co5, eo5, gb5, gl5, cl5, HG5⟩ := Kd.R_form HO_0.out (by omega)
    (first | cases eo5 | (injection eo5 with ea_ en_ ec_; (first | subst ea_ | (injection ea_ with ea_; subst ea_)); subst ec_; clear en_))
    have GB5 := Aside0.mk gb5
    have GG5 := Aside0.mk HG5
    clear gb5 gl5 HG5
    have HMgo5 := Aside0.mk (show (P0_ go5 ∨ w.heap.size ≤ go5) from (HO_0.out.1 _ rfl))
    obtain ⟨hx5_0, hf5_0⟩ := Kd.R_celln 0 HO_0.out (x5_1 : Int) p5 q5
    replace p5 := eq_true p5
    replace q5 := eq_true q5
    have HP7 := Kd.R_putg HO_0.out (x5_1 : Int) x1_1
    go_wp2_with (first | ((with_reducible refine gate_store (t := 3) (p := 15) rfl ?_); refine store_event (t := 3) (p := 15) (v := ?vo_w8) (w1 := (wr.setCell ⟨go5, (x5_1 : Int).toNat, none⟩ (.int .i64 x1_1))) ?hg ?ho ?hn ?hr ?_; (case ho => rfl); (case hg => rfl); (case hn => rfl); (case hr => first | (go_simp; done) | (go_simp; rfl)); intro w8 hw; have hg : wr.grownBy w8 (some go5) := (by rw [hw]; exact HP7.2); have hp_ : Kd.R (Kd.int .i64) 3 w8 w0.heap.size (fun k_ => (P0_ k_ ∨ w.heap.size ≤ k_)) (.slice (some ⟨go5, 0, none⟩) x0_1.length co6) y416 := (by rw [hw, Ny416.out]; exact HP7.1); clear HP7; have n0_ := Aside0.mk (hp_); have n1_ := Aside0.mk ((by rw [hw]; exact below_set (HB.out) GB5.out : Below w0.heap.size w0 w8)); have n2_ := Aside0.mk (Kept.of_grown (S := (fun k_ => P0_ k_)) hg (by repeat (first | (with_reducible first | exact HK.out | apply Kept.alloc | apply Kept.drewN | apply Kept.drew) | exact HK.out)) (fun k_ e_ => (HO_0.out.1 k_ e_))); clear HO_0; clear HB; clear HK; have HO_0 := n0_; have HB := n1_; have HK := n2_; clear n0_ n1_ n2_; clear hg hw hp_))
    go_roundg k1
    case measure => have := HK1.out; omega
    case rel => exact ⟨(y416), (wrap64 (x1_1 + 1)), (wrap64 (x5_1 + 1)), rS, rS, H', ⟨by have := HK1.out; omega⟩, ⟨rK HO_0⟩, ⟨by repeat (first | (with_reducible first | exact HK.out | apply Kept.alloc | apply Kept.drewN | apply Kept.drew) | exact HK.out)⟩, ⟨bA⟩⟩
   ·
    rw [if_neg c3] at H
    have c3b0 : decide (x5_1 < (x0_1.length : Int)) = false := decide_eq_false c3
    clear c3
    simp only [Option.some.injEq, Prod.mk.injEq] at H
    obtain ⟨rfl, rfl⟩ := H
    obtain ⟨Ao9, co9, eo9⟩ := Kd.R_slice HO_0.out
    subst eo9
    go_wp2
    go_ret
    exact ⟨rA, by (with_reducible repeat (first | apply Kd.R_alloc | apply Kd.R_drewN | apply Kd.R_drew)); exact HO_0.out, bA, by repeat (first | (with_reducible first | exact HK.out | apply Kept.alloc | apply Kept.drewN | apply Kept.drew) | exact HK.out)⟩

/-! ### laws_markPartS: function 39 -/
def laws_markPartS.l0 : Nat → List S51 → Int → Int → Option (Int × List S51)
 | 0, _, _, _ => none
 | k + 1, x, a, i => if i < (x.length : Int) then (if 0 ≤ i then ((laws_markIntS.f k (rd_T51 x i).f0 a).bind fun t => laws_markPartS.l0 k (x.set (i : Int).toNat (⟨t.2, t.1⟩ : S51)) (wrap64 (t.1 + 1)) (wrap64 (i + 1))) else (none)) else (some (a, x))
def laws_markPartS.f (k : Nat) (l0 : List S51) (a1 : Int) : Option (Int × List S51) := laws_markPartS.l0 k l0 a1 0
theorem laws_markPartS.mono_l : ∀ k, (∀ y0 y1 y2, LeO (laws_markPartS.l0 k y0 y1 y2) (laws_markPartS.l0 (k + 1) y0 y1 y2))
 | 0 => fun _ _ _ r h => by simp [laws_markPartS.l0] at h
 | k + 1 => by
  have ih0 := laws_markPartS.mono_l k
  ·
   intro y0 y1 y2
   unfold laws_markPartS.l0
   repeat' first | (with_reducible first | exact LeO.refl _ | exact LeO.none _ | refine LeO.ite ?_ ?_ | refine LeO.bind ?_ (fun _ => ?_) | exact ih0 _ _ _ | exact laws_markIntS.mono _ _ _) | exact LeO.none _ | refine LeO.ite ?_ ?_ | refine LeO.bind ?_ (fun _ => ?_) | exact ih0 _ _ _ | exact laws_markIntS.mono _ _ _
theorem laws_markPartS.mono : ∀ a0 a1 k, LeO (laws_markPartS.f k a0 a1) (laws_markPartS.f (k + 1) a0 a1) := by
 intro a0 a1 k
 have ih0 := laws_markPartS.mono_l k
 unfold laws_markPartS.f
 exact ih0 _ _ _
theorem laws_markPartS.hstep {α : Type} {d : Kd α} {e base : Nat} {w w1 : World} {ok oki : Nat → Prop} {v : Value} {xs : List α} {i : Int} {c : List Value} (h : Kd.H d e w base ok v xs i oki c) (hm : ∀ k, ok k → ¬ oki k → k < w.heap.size → w1.heap[k]? = w.heap[k]?) : Kd.H d e w1 base ok v xs i oki c := by
 obtain ⟨ho, f, h⟩ := h
 exact ⟨ho, f, Kd.R_step h (fun k hk hlt => hm k hk.1 hk.2 hlt)⟩
theorem laws_markPartS.hmono {α : Type} {d : Kd α} {e base : Nat} {w : World} {ok ok' oki : Nat → Prop} {v : Value} {xs : List α} {i : Int} {c : List Value} (h : Kd.H d e w base ok v xs i oki c) (hok : ∀ k, ok k → ok' k) : Kd.H d e w base ok' v xs i oki c := by
 obtain ⟨ho, f, h⟩ := h
 exact ⟨fun k hk => hok k (ho k hk), f, Kd.R_mono h (fun k hk => ⟨hok k hk.1, hk.2⟩)⟩
set_option maxHeartbeats 8000000 in
set_option maxRecDepth 100000 in
theorem laws_markPartS.calls (k : Nat) (P0_ : Nat → Prop) (u9000_ : Value) (l0 : List S51) (a1 : Int) (r1 : Int) (r2 : List S51) (w0 w : World) (hB : Below w0.heap.size w0 w) (ho0 : Kd.S k51 51 w w0.heap.size P0_ u9000_ l0) (h : laws_markPartS.f k l0 a1 = some (r1, r2)) :
  Calls Try.prog 39 #[u9000_, .int .i64 a1] w fun e w' => e = .returned (.int .i64 r1) ∧ Kd.S k51 51 w' w0.heap.size (fun k_ => (P0_ k_ ∨ w.heap.size ≤ k_)) u9000_ r2 ∧ Below w0.heap.size w0 w' ∧ Kept w w' (fun k_ => P0_ k_) := by
 have HO0 := Aside0.mk (show Kd.S k51 51 w w0.heap.size (fun k_ => (P0_ k_ ∨ w.heap.size ≤ k_)) u9000_ l0 from Kd.S_mono ho0 (fun k_ hk => (.inl hk)))
 have HK := Aside0.mk (Kept.refl w (fun k_ => P0_ k_))
 have HB := Aside0.mk hB
 have hu := Try.underlying51
 clear hB
 have H : (laws_markPartS.l0 k l0 a1 0) = some (r1, r2) := h
 clear h ho0
 have H' := Aside0.mk H
 clear H
 obtain ⟨Ao, co, eo⟩ := Kd.S_slice HO0.out
 subst eo
 go_enter Try.func39, Try.ntmps39
 go_wp2
 go_loopg [1, 5] k (fun kq v1 v5 w' => ∃ (x0_1 : List S51) (x1_1 : Int) (x5_1 : Int), v1 = .int .i64 x1_1 ∧ v5 = .int .i64 x5_1 ∧ Aside0 (laws_markPartS.l0 kq x0_1 x1_1 x5_1 = some (r1, r2)) ∧ Aside0 (kq ≤ k) ∧ Aside0 (Kd.S k51 51 w' w0.heap.size (fun k_ => (P0_ k_ ∨ w.heap.size ≤ k_)) (.slice Ao l0.length co) x0_1) ∧ Aside0 (Kept w w' (fun k_ => P0_ k_)) ∧ Aside0 (Below w0.heap.size w0 w'))
 case atStart => exact ⟨l0, a1, 0, rfl, rfl, H', ⟨Nat.le_refl _⟩, HO0, HK, HB⟩
 case round =>
  clear H' HO0 HK HB
  obtain ⟨x0_1, x1_1, x5_1, rfl, rfl, HA, HK1, HO, HK, HB⟩ := hrel
  have hl := (Kd.S_reads' HO.out).1
  cases gk with
  | zero => exact absurd HA.out (by simp [laws_markPartS.l0])
  | succ k1 =>
   have H := HA.out
   clear HA
   simp only [laws_markPartS.l0] at H
   by_cases c3 : x5_1 < (x0_1.length : Int)
   ·
    rw [if_pos c3] at H
    have c3b0 : decide (x5_1 < (l0.length : Int)) = true := decide_eq_true (by omega)
    have c4 : 0 ≤ x5_1 := ifN H
    replace H := ifT H
    obtain ⟨t, A5, H⟩ := bindE H
    try dsimp only at H
    have H' := Aside0.mk H
    clear H
    have p5 : 0 ≤ (x5_1 : Int) := c4
    have q5 : (x5_1 : Int) < (l0.length : Int) := by omega
    obtain ⟨go5, co5, eo5, gb5, gl5, cl5, HG5⟩ := Kd.S_form HO.out (by omega)
    have hAo : Ao = some ⟨go5, 0, none⟩ ∧ co = co5 := by
     injection eo5 with ea_ en_ ec_
     exact ⟨ea_, ec_⟩
    obtain ⟨rfl, rfl⟩ := hAo
    obtain ⟨oki, ce5, hcl5, hM5, hcc5, hfr5, hoki, hH⟩ := Kd.S_elem HO.out z51 (x5_1 : Int) p5 q5
    obtain ⟨vi, rfl, hri⟩ := k51_openM hM5
    obtain ⟨Ai, ci, rfl⟩ := Kd.R_slice hri
    have hx5_0 : wr.cell? ⟨go5, (x5_1 : Int).toNat * 2, none⟩ = some (.slice Ai (rd_T51 x0_1 x5_1).f0.length ci) := hcc5 0 _ rfl
    have hx5_1 : wr.cell? ⟨go5, (x5_1 : Int).toNat * 2 + 1, none⟩ = some (.int .i64 (rd_T51 x0_1 x5_1).f1) := hcc5 1 _ rfl
    have hf5_0 : wr.frozen? ⟨go5, (x5_1 : Int).toNat * 2, none⟩ = false := hfr5 0
    have hf5_1 : wr.frozen? ⟨go5, (x5_1 : Int).toNat * 2 + 1, none⟩ = false := hfr5 1
    obtain ⟨t1, t2⟩ := t
    have HL := Aside0.mk hl
    clear hl c3 eo5
    have HX0 := Aside0.mk hx5_0
    have HRI := Aside0.mk hri
    have HH := Aside0.mk hH
    have HOK := Aside0.mk hoki
    clear hx5_1 hf5_0 hf5_1 hcc5 hfr5 hM5 hcl5 hri hH hoki
    replace p5 := eq_true p5
    replace q5 := eq_true q5
    go_wp2_with (go_at_call 40; (refine (laws_markIntS.calls k1 oki _ _ x1_1 t1 t2 w0 _ HB.out HRI.out A5.out).mono ?_); rintro e w1 ⟨rfl, hr1, hb1, hk1⟩; have HH1 := Aside0.mk (laws_markPartS.hstep HH.out (fun k_ ho_ hn_ hl_ => hk1.2 k_ hl_ hn_)); have HR1 := Aside0.mk hr1; have HB1 := Aside0.mk hb1; have HK2 := Aside0.mk hk1; clear hr1 hb1 hk1; obtain ⟨rows_, _, _, _, _, hcc6, _⟩ := Kd.H_raw HH1.out (of_eq_true p5) (of_eq_true q5); have hx6 : w1.cell? ⟨go5, (x5_1 : Int).toNat * 2 + 1, none⟩ = some (.int .i64 (rd_T51 x0_1 x5_1).f1) := hcc6 1 _ rfl; have hf6 : w1.frozen? ⟨go5, (x5_1 : Int).toNat * 2 + 1, none⟩ = false := (by obtain ⟨_, f_, hR_⟩ := HH1.out; obtain ⟨_, _, _, _, hf_⟩ := Kd.R_elem hR_ (z51, 0) (x5_1 : Int) (of_eq_true p5) (of_eq_true q5); exact hf_ 1); clear hcc6)
    go_roundg k1
    case measure => have := HK1.out; omega
    case rel =>
     refine ⟨x0_1.set (x5_1 : Int).toNat (⟨t2, t1⟩ : S51), wrap64 (t1 + 1), wrap64 (x5_1 + 1), rfl, rfl, H', ⟨by have := HK1.out; omega⟩, ⟨?_⟩, ⟨?_⟩, ⟨?_⟩⟩
     ·
      have hM : Kd.M k51 w1 w0.heap.size oki (⟨t2, t1⟩ : S51) [.slice Ai (x0_1.getD (x5_1 : Int).toNat z51).f0.length ci, .int .i64 t1] := k51_mkM w1 w0.heap.size oki (⟨t2, t1⟩ : S51) (Kd.R_mono (Kd.R_tight rfl HR1.out) (fun k_ hk => HRI.out.1 k_ hk.symm))
      exact (Kd.S_seg (okg := fun _ => False) (okp := oki) (seg := [.int .i64 t1]) (j := 1) (laws_markPartS.hmono HH1.out (fun _ hk => ⟨hk, fun h => h⟩)) (of_eq_true p5) (of_eq_true q5) (by show 1 + 1 ≤ 2; omega) hM (fun k hk => .inl hk) (fun _ hk => hk.elim)).1
     ·
      exact Kept.setCell (p := ⟨go5, (x5_1 : Int).toNat * 2 + 1, none⟩) (Kept.then_ HK.out HK2.out (fun k_ hk => (HOK.out k_ hk).1)) ((Kd.S_R HO.out).1 go5 rfl) _
     ·
      exact below_set HB1.out gb5
   ·
    rw [if_neg c3] at H
    have c3b0 : decide (x5_1 < (l0.length : Int)) = false := decide_eq_false (by omega)
    obtain ⟨rfl, rfl⟩ := Prod.mk.inj (Option.some.inj H)
    have HL := Aside0.mk hl
    clear hl
    go_wp2
    go_ret
    exact ⟨rfl, by have := HO.out; rw [← HL.out] at *; exact HO.out, HB.out, HK.out⟩

/-! ### laws_heldIntS: function 41 -/
def laws_heldIntS.l0 : Nat → List Int → Int → Int → Option (Int)
 | 0, _, _, _ => none
 | k + 1, x0, x1, x5 => if x5 < (x0.length : Int) then (if 0 ≤ x5 then (if (rd x0 x5) = x1 then (laws_heldIntS.l0 k x0 (wrap64 (x1 + 1)) (wrap64 (x5 + 1))) else (some (-1))) else (none)) else (some x1)
def laws_heldIntS.f (k : Nat) (l0 : List Int) (a1 : Int) : Option (Int) := laws_heldIntS.l0 k l0 a1 0
theorem laws_heldIntS.mono_l : ∀ k, (∀ y0 y1 y2, LeO (laws_heldIntS.l0 k y0 y1 y2) (laws_heldIntS.l0 (k + 1) y0 y1 y2))
 | 0 => fun _ _ _ r h => by simp [laws_heldIntS.l0] at h
 | k + 1 => by
  have ih0 := laws_heldIntS.mono_l k
  ·
   intro y0 y1 y2
   unfold laws_heldIntS.l0
   repeat' first | (with_reducible first | exact LeO.refl _ | exact LeO.none _ | refine LeO.ite ?_ ?_ | refine LeO.bind ?_ (fun _ => ?_) | exact ih0 _ _ _) | exact LeO.none _ | refine LeO.ite ?_ ?_ | refine LeO.bind ?_ (fun _ => ?_) | exact ih0 _ _ _
theorem laws_heldIntS.mono : ∀ a0 a1 k, LeO (laws_heldIntS.f k a0 a1) (laws_heldIntS.f (k + 1) a0 a1) := by
 intro a0 a1 k
 have ih0 := laws_heldIntS.mono_l k
 unfold laws_heldIntS.f
 repeat' first | (with_reducible first | exact LeO.refl _ | exact LeO.none _ | refine LeO.ite ?_ ?_ | refine LeO.bind ?_ (fun _ => ?_) | exact ih0 _ _ _) | exact LeO.none _ | refine LeO.ite ?_ ?_ | refine LeO.bind ?_ (fun _ => ?_) | exact ih0 _ _ _
set_option maxHeartbeats 8000000 in
set_option maxRecDepth 100000 in
theorem laws_heldIntS.calls (k : Nat) (A0 : Option Addr) (c0 : Nat) (l0 : List Int) (a1 : Int) (r : Int) (w : World) (hr0 : Kd.C (Kd.int .i64) w A0 l0.length l0) (hc0 : l0.length ≤ c0) (h : laws_heldIntS.f k l0 a1 = some r) :
  Calls Try.prog 41 #[.slice A0 l0.length c0, .int .i64 a1] w fun e w' => e = .returned (.int .i64 r) ∧ Drawn0 w w' := by
 have HR0 := Aside0.mk hr0
 have HC0 := Aside0.mk hc0
 clear hr0 hc0
 have H : (laws_heldIntS.l0 k l0 a1 0) = some r := h
 clear h
 have H' := Aside0.mk H
 clear H
 go_enter Try.func41, Try.ntmps41
 go_wp2
 go_loopg [1, 5] k (fun kq v1 v5 w' => ∃ (x1_1 : Int) (x5_1 : Int), v1 = .int .i64 x1_1 ∧ v5 = .int .i64 x5_1 ∧ Aside0 (laws_heldIntS.l0 kq l0 x1_1 x5_1 = some r) ∧ Aside0 (kq ≤ k) ∧ Drawn0 w w')
 case atStart => exact ⟨(a1), (0), rS, rS, H', ⟨Nat.le_refl _⟩, by repeat (first | exact Drawn0.refl _ | apply Drawn0.step)⟩
 case round =>
  clear H'
  try clear p2
  obtain ⟨x1_1, x5_1, rfl, rfl, HA, HK1, ⟨m1, rfl⟩⟩ := hrel
  cases gk with
  | zero => exact absurd HA.out (by simp [laws_heldIntS.l0])
  | succ k1 =>
   have H := HA.out
   clear HA
   simp only [laws_heldIntS.l0] at H
   by_cases c3 : x5_1 < (l0.length : Int)
   ·
    rw [if_pos c3] at H
    have c3b0 : decide (x5_1 < (l0.length : Int)) = true := decide_eq_true c3
    clear c3
    have c4 : 0 ≤ x5_1 := ifN H
    replace H := ifT H
    have c4b0 : decide (0 ≤ x5_1) = true := decide_eq_true c4
    clear c4
    by_cases c5 : (rd l0 x5_1) = x1_1
    ·
     rw [if_pos c5] at H
     have c5b0 : ((rd l0 x5_1) == x1_1) = true := beq_iff_eq.mpr c5
     have c5b1 : ((rd l0 x5_1) != x1_1) = false := bne_eq_false_iff_eq.mpr c5
     clear c5
     have H' := Aside0.mk H
     clear H
     have p417 : 0 ≤ (x5_1 : Int) := dA
     have q417 : x5_1 < (l0.length : Int) := dA
     obtain ⟨ad417, e417, hx417_0⟩ := Kd.at_int HR0.out x5_1 p417 q417
     cases e417
     replace p417 := eq_true p417
     replace q417 := eq_true q417
     go_wp2
     go_roundg k1
     case measure => have := HK1.out; omega
     case rel => exact ⟨(wrap64 (x1_1 + 1)), (wrap64 (x5_1 + 1)), rS, rS, H', ⟨by have := HK1.out; omega⟩, by repeat (first | exact Drawn0.refl _ | apply Drawn0.step)⟩
    ·
     rw [if_neg c5] at H
     have c5b0 : ((rd l0 x5_1) == x1_1) = false := beq_eq_false_iff_ne.mpr c5
     have c5b1 : ((rd l0 x5_1) != x1_1) = true := bne_iff_ne.mpr c5
     obtain rfl := Option.some.inj H
     have p417 : 0 ≤ (x5_1 : Int) := dA
     have q417 : x5_1 < (l0.length : Int) := dA
     obtain ⟨ad417, e417, hx417_0⟩ := Kd.at_int HR0.out x5_1 p417 q417
     cases e417
     replace p417 := eq_true p417
     replace q417 := eq_true q417
     go_wp2
     go_ret
     exact ⟨by first | rfl | (simp; done) | (simp [*]; done), by repeat (first | exact Drawn0.refl _ | apply Drawn0.step)⟩
   ·
    rw [if_neg c3] at H
    have c3b0 : decide (x5_1 < (l0.length : Int)) = false := decide_eq_false c3
    clear c3
    obtain rfl := Option.some.inj H
    go_wp2
    go_ret
    exact ⟨by first | rfl | (simp; done) | (simp [*]; done), by repeat (first | exact Drawn0.refl _ | apply Drawn0.step)⟩

/-! ### laws_FnExactLightsAt: function 10 -/
def laws_FnExactLightsAt.j0 : Nat → List (S60) → List (S49) → Int → List Int → List Int → Bool → Option (Bool)
 | 0, _, _, _, _, _, _ => none
 | k + 1, x0, x1, x2, x8, x11, x67 => if x67 = true then (none) else ((laws_markIntS.f k x11 1).bind fun bt452 => ((laws_heldIntS.f k bt452.2 1).bind fun t454 => (if t454 < 0 then (none) else (if t454 = bt452.1 then ((laws_toPathS.f k x0).bind fun t455 => ((laws_toPartS.f k x1).bind fun t458 => ((impl_LightsAt.f k t455 t458 x2).bind fun t461 => ((laws_eqIntS.f k t461 x8).bind fun t464 => (if t464 = true then ((laws_heldIntS.f k bt452.2 1).bind fun t465 => (if t465 < 0 then (none) else (if t465 = bt452.1 then (some true) else (none)))) else (none)))))) else (none)))))
def laws_FnExactLightsAt.f (k : Nat) (l0 : List (S60)) (l1 : List (S49)) (a2 : Int) : Option (Bool) := (laws_szPathS.f l0 1048576).bind fun t418 => (if t418 < 0 then (some true) else ((laws_szPartS.f k l1 t418).bind fun t419 => (if t419 < 0 then (some true) else ((laws_toPathS.f k l0).bind fun t420 => ((laws_toPartS.f k l1).bind fun t423 => ((spec_LightsAt.f k t420 t423 a2).bind fun t426 => ((laws_toPathS.f k l0).bind fun t429 => ((laws_toPartS.f k l1).bind fun t432 => ((impl_LightsAt.f k t429 t432 a2).bind fun t435 => ((laws_eqIntS.f k t435 t426).bind fun t438 => (if t438 = true then ((laws_toPathS.f k l0).bind fun t439 => ((laws_eqPathS.f k t429 t439).bind fun t442 => (if t442 = true then ((laws_toPartS.f k l1).bind fun t443 => ((laws_eqPartS.f k t432 t443).bind fun t446 => (if t446 = true then ((laws_markPathS.f k t429 1).bind fun bt447 => ((laws_markPartS.f k t432 bt447.1).bind fun bt449 => (if bt449.1 < 0 then (laws_FnExactLightsAt.j0 k l0 l1 a2 t426 t435 true) else ((laws_eqIntS.f k t435 t426).bind fun t451 => (laws_FnExactLightsAt.j0 k l0 l1 a2 t426 t435 (!t451)))))) else (none)))) else (none)))) else (none))))))))))))
theorem laws_FnExactLightsAt.mono_l : ∀ k, (∀ y0 y1 y2 y3 y4 y5, LeO (laws_FnExactLightsAt.j0 k y0 y1 y2 y3 y4 y5) (laws_FnExactLightsAt.j0 (k + 1) y0 y1 y2 y3 y4 y5))
 | 0 => fun _ _ _ _ _ _ r h => by simp [laws_FnExactLightsAt.j0] at h
 | k + 1 => by
  have ih0 := laws_FnExactLightsAt.mono_l k
  ·
   intro y0 y1 y2 y3 y4 y5
   unfold laws_FnExactLightsAt.j0
   repeat' first | (with_reducible first | exact LeO.refl _ | exact LeO.none _ | refine LeO.ite ?_ ?_ | refine LeO.bind ?_ (fun _ => ?_) | exact ih0 _ _ _ _ _ _ | exact impl_LightsAt.mono _ _ _ _ | exact laws_eqIntS.mono _ _ _ | exact laws_eqPartS.mono _ _ _ | exact laws_eqPathS.mono _ _ _ | exact laws_heldIntS.mono _ _ _ | exact laws_markIntS.mono _ _ _ | exact laws_markPartS.mono _ _ _ | exact laws_markPathS.mono _ _ _ | exact laws_szPartS.mono _ _ _ | exact laws_toPartS.mono _ _ | exact laws_toPathS.mono _ _ | exact spec_LightsAt.mono _ _ _ _) | exact LeO.none _ | refine LeO.ite ?_ ?_ | refine LeO.bind ?_ (fun _ => ?_) | exact ih0 _ _ _ _ _ _ | exact impl_LightsAt.mono _ _ _ _ | exact laws_eqIntS.mono _ _ _ | exact laws_eqPartS.mono _ _ _ | exact laws_eqPathS.mono _ _ _ | exact laws_heldIntS.mono _ _ _ | exact laws_markIntS.mono _ _ _ | exact laws_markPartS.mono _ _ _ | exact laws_markPathS.mono _ _ _ | exact laws_szPartS.mono _ _ _ | exact laws_toPartS.mono _ _ | exact laws_toPathS.mono _ _ | exact spec_LightsAt.mono _ _ _ _
theorem laws_FnExactLightsAt.mono : ∀ a0 a1 a2 k, LeO (laws_FnExactLightsAt.f k a0 a1 a2) (laws_FnExactLightsAt.f (k + 1) a0 a1 a2) := by
 intro a0 a1 a2 k
 have ih0 := laws_FnExactLightsAt.mono_l k
 unfold laws_FnExactLightsAt.f
 repeat' first | (with_reducible first | exact LeO.refl _ | exact LeO.none _ | refine LeO.ite ?_ ?_ | refine LeO.bind ?_ (fun _ => ?_) | exact ih0 _ _ _ _ _ _ | exact impl_LightsAt.mono _ _ _ _ | exact laws_eqIntS.mono _ _ _ | exact laws_eqPartS.mono _ _ _ | exact laws_eqPathS.mono _ _ _ | exact laws_heldIntS.mono _ _ _ | exact laws_markIntS.mono _ _ _ | exact laws_markPartS.mono _ _ _ | exact laws_markPathS.mono _ _ _ | exact laws_szPartS.mono _ _ _ | exact laws_toPartS.mono _ _ | exact laws_toPathS.mono _ _ | exact spec_LightsAt.mono _ _ _ _) | exact LeO.none _ | refine LeO.ite ?_ ?_ | refine LeO.bind ?_ (fun _ => ?_) | exact ih0 _ _ _ _ _ _ | exact impl_LightsAt.mono _ _ _ _ | exact laws_eqIntS.mono _ _ _ | exact laws_eqPartS.mono _ _ _ | exact laws_eqPathS.mono _ _ _ | exact laws_heldIntS.mono _ _ _ | exact laws_markIntS.mono _ _ _ | exact laws_markPartS.mono _ _ _ | exact laws_markPathS.mono _ _ _ | exact laws_szPartS.mono _ _ _ | exact laws_toPartS.mono _ _ | exact laws_toPathS.mono _ _ | exact spec_LightsAt.mono _ _ _ _
set_option maxHeartbeats 8000000 in
set_option maxRecDepth 100000 in
theorem laws_FnExactLightsAt.calls (k : Nat) (A0 : Option Addr) (c0 : Nat) (l0 : List (S60)) (A1 : Option Addr) (c1 : Nat) (l1 : List (S49)) (a2 : Int) (r : Bool) (w : World) (hr0 : Kd.C k60 w A0 l0.length l0) (hc0 : l0.length ≤ c0) (hr1 : Kd.C k49 w A1 l1.length l1) (hc1 : l1.length ≤ c1) (h : laws_FnExactLightsAt.f k l0 l1 a2 = some r) :
  Calls Try.prog 10 #[.slice A0 l0.length c0, .slice A1 l1.length c1, .int .i64 a2] w fun e w' => e = .returned (.bool r) ∧ Below w.heap.size w w' := by
 have HR0 := Aside0.mk hr0
 have HC0 := Aside0.mk hc0
 clear hr0 hc0
 have HR1 := Aside0.mk hr1
 have HC1 := Aside0.mk hc1
 clear hr1 hc1
 have HB := Aside0.mk (Below.refl w.heap.size w)
 have H : ((laws_szPathS.f l0 1048576).bind fun t418 => (if t418 < 0 then (some true) else ((laws_szPartS.f k l1 t418).bind fun t419 => (if t419 < 0 then (some true) else ((laws_toPathS.f k l0).bind fun t420 => ((laws_toPartS.f k l1).bind fun t423 => ((spec_LightsAt.f k t420 t423 a2).bind fun t426 => ((laws_toPathS.f k l0).bind fun t429 => ((laws_toPartS.f k l1).bind fun t432 => ((impl_LightsAt.f k t429 t432 a2).bind fun t435 => ((laws_eqIntS.f k t435 t426).bind fun t438 => (if t438 = true then ((laws_toPathS.f k l0).bind fun t439 => ((laws_eqPathS.f k t429 t439).bind fun t442 => (if t442 = true then ((laws_toPartS.f k l1).bind fun t443 => ((laws_eqPartS.f k t432 t443).bind fun t446 => (if t446 = true then ((laws_markPathS.f k t429 1).bind fun bt447 => ((laws_markPartS.f k t432 bt447.1).bind fun bt449 => (if bt449.1 < 0 then (laws_FnExactLightsAt.j0 k l0 l1 a2 t426 t435 true) else ((laws_eqIntS.f k t435 t426).bind fun t451 => (laws_FnExactLightsAt.j0 k l0 l1 a2 t426 t435 (!t451)))))) else (none)))) else (none)))) else (none))))))))))))) = some r := h
 clear h
 obtain ⟨t418, A4, H⟩ := bindE H
 try dsimp only at H
 by_cases c5 : t418 < 0
 ·
  rw [if_pos c5] at H
  have c5b0 : decide (t418 < 0) = true := decide_eq_true c5
  clear c5
  obtain rfl := Option.some.inj H
  go_enter Try.func10, Try.ntmps10
  go_wp2_with (first | ((with_reducible refine gate_callee (f := 15) rfl ?_); refine gL (some 18) Try.func15 #[.slice A0 l0.length c0, .int .i64 1048576] ?_; (with_reducible refine (laws_szPathS.calls _ _ l0 1048576 t418 _ ?side1 ?side2 A4.out).mono ?_); (case side1 => exact cO HR0); (case side2 => exact HC0.out); rintro e w' ⟨rfl, ⟨nd, rfl⟩⟩; refine ⟨_, rfl, ?_⟩))
  go_ret
  exact ⟨rA, bA⟩
 ·
  rw [if_neg c5] at H
  have c5b0 : decide (t418 < 0) = false := decide_eq_false c5
  clear c5
  obtain ⟨t419, A6, H⟩ := bindE H
  try dsimp only at H
  by_cases c7 : t419 < 0
  ·
   rw [if_pos c7] at H
   have c7b0 : decide (t419 < 0) = true := decide_eq_true c7
   clear c7
   obtain rfl := Option.some.inj H
   go_enter Try.func10, Try.ntmps10
   go_wp2_with (first | ((with_reducible refine gate_callee (f := 15) rfl ?_); refine gL (some 18) Try.func15 #[.slice A0 l0.length c0, .int .i64 1048576] ?_; (with_reducible refine (laws_szPathS.calls _ _ l0 1048576 t418 _ ?side1 ?side2 A4.out).mono ?_); (case side1 => exact cO HR0); (case side2 => exact HC0.out); rintro e w' ⟨rfl, ⟨nd, rfl⟩⟩; refine ⟨_, rfl, ?_⟩) | ((with_reducible refine gate_callee (f := 16) rfl ?_); refine gL (some 23) Try.func16 #[.slice A1 l1.length c1, .int .i64 t418] ?_; (with_reducible refine (laws_szPartS.calls k _ _ l1 t418 t419 _ ?side1 ?side2 A6.out).mono ?_); (case side1 => exact cO HR1); (case side2 => exact HC1.out); rintro e w8 ⟨rfl, hb⟩; refine ⟨_, rfl, ?_⟩; replace HB := Aside0.mk (below_step bA hb); (try clear hb); (try clear hb2); (try clear hk); (try clear hi)))
   go_ret
   exact ⟨rA, bA⟩
  ·
   rw [if_neg c7] at H
   have c7b0 : decide (t419 < 0) = false := decide_eq_false c7
   clear c7
   obtain ⟨t420, A9, H⟩ := bindE H
   try dsimp only at H
   obtain ⟨t423, A10, H⟩ := bindE H
   try dsimp only at H
   obtain ⟨t426, A11, H⟩ := bindE H
   try dsimp only at H
   obtain ⟨t429, A12, H⟩ := bindE H
   try dsimp only at H
   obtain ⟨t432, A13, H⟩ := bindE H
   try dsimp only at H
   obtain ⟨t435, A14, H⟩ := bindE H
   try dsimp only at H
   obtain ⟨t438, A15, H⟩ := bindE H
   try dsimp only at H
   have c16 := ifN H
   replace H := ifT H
   subst c16
   obtain ⟨t439, A17, H⟩ := bindE H
   try dsimp only at H
   obtain ⟨t442, A18, H⟩ := bindE H
   try dsimp only at H
   have c19 := ifN H
   replace H := ifT H
   subst c19
   obtain ⟨t443, A20, H⟩ := bindE H
   try dsimp only at H
   obtain ⟨t446, A21, H⟩ := bindE H
   try dsimp only at H
   have c22 := ifN H
   replace H := ifT H
   subst c22
   obtain ⟨⟨t447, t448⟩, A23, H⟩ := bindE H
   try dsimp only at H
   obtain ⟨⟨t449, t450⟩, A24, H⟩ := bindE H
   try dsimp only at H
   have HC25 := Aside0.mk H
   clear H
   go_enter Try.func10, Try.ntmps10
   go_upto_region 21 with (first | ((with_reducible refine gate_callee (f := 15) rfl ?_); refine gL (some 18) Try.func15 #[.slice A0 l0.length c0, .int .i64 1048576] ?_; (with_reducible refine (laws_szPathS.calls _ _ l0 1048576 t418 _ ?side1 ?side2 A4.out).mono ?_); (case side1 => exact cO HR0); (case side2 => exact HC0.out); rintro e w' ⟨rfl, ⟨nd, rfl⟩⟩; refine ⟨_, rfl, ?_⟩) | ((with_reducible refine gate_callee (f := 16) rfl ?_); refine gL (some 23) Try.func16 #[.slice A1 l1.length c1, .int .i64 t418] ?_; (with_reducible refine (laws_szPartS.calls k _ _ l1 t418 t419 _ ?side1 ?side2 A6.out).mono ?_); (case side1 => exact cO HR1); (case side2 => exact HC1.out); rintro e w26 ⟨rfl, hb⟩; refine ⟨_, rfl, ?_⟩; replace HB := Aside0.mk (below_step bA hb); (try clear hb); (try clear hb2); (try clear hk); (try clear hi)) | ((with_reducible refine gate_callee (f := 18) rfl ?_); refine gL (some 27) Try.func18 #[.slice A0 l0.length c0] ?_; (with_reducible refine (laws_toPathS.calls k _ _ l0 t420 _ ?side1 ?side2 A9.out).mono ?_); (case side1 => exact cB HR0); (case side2 => exact HC0.out); rintro e w27 ⟨v421, rfl, ho0, hb⟩; refine ⟨_, rfl, ?_⟩; have HO422 := Aside0.mk (Kd.R_lower ho0 (below_size bA)); replace HB := Aside0.mk (below_step bA hb); (try clear hb); (try clear hb2); (try clear hk); (try clear hi); (try clear ho0)) | ((with_reducible refine gate_callee (f := 19) rfl ?_); refine gL (some 29) Try.func19 #[.slice A1 l1.length c1] ?_; (with_reducible refine (laws_toPartS.calls k _ _ l1 t423 _ ?side1 ?side2 A10.out).mono ?_); (case side1 => exact cB HR1); (case side2 => exact HC1.out); rintro e w28 ⟨v424, rfl, ho0, hb⟩; refine ⟨_, rfl, ?_⟩; replace HO422 := Aside0.mk (Kd.R_below (rK HO422) hb); have HO425 := Aside0.mk (Kd.S_lower ho0 (below_size bA)); replace HB := Aside0.mk (below_step bA hb); (try clear hb); (try clear hb2); (try clear hk); (try clear hi); (try clear ho0); obtain ⟨Ao29, co29, eo29⟩ := Kd.R_slice HO422.out; subst eo29; obtain ⟨Ao30, co30, eo30⟩ := Kd.S_slice HO425.out; subst eo30) | ((with_reducible refine gate_callee (f := 35) rfl ?_); refine gL (some 31) Try.func35 #[.slice Ao29 t420.length co29, .slice Ao30 t423.length co30, .int .i64 a2] ?_; (with_reducible refine (spec_LightsAt.calls k _ _ t420 _ _ t423 a2 t426 _ ?side1 ?side2 ?side3 ?side4 A11.out).mono ?_); (case side1 => exact cO ⟨(Kd.R_reads' HO422.out).2.2⟩); (case side2 => exact (Kd.R_reads' HO422.out).2.1); (case side3 => repeat (first | exact (Kd.S_reads' HO425.out).2.2 | (with_reducible refine Kd.C_alloc ?_ _) | (with_reducible refine Kd.C_drewN ?_ _) | (with_reducible refine Kd.C_drew ?_))); (case side4 => exact (Kd.S_reads' HO425.out).2.1); rintro e w31 ⟨v427, rfl, ho0, hb⟩; refine ⟨_, rfl, ?_⟩; replace HO422 := Aside0.mk (Kd.R_below (rK HO422) hb); replace HO425 := Aside0.mk (Kd.S_elder' (sK HO425) (Kd.R_base ho0) hb); have HO428 := Aside0.mk (Kd.R_lower ho0 (below_size bA)); replace HB := Aside0.mk (below_step bA hb); (try clear hb); (try clear hb2); (try clear hk); (try clear hi); (try clear ho0)) | ((with_reducible refine gate_callee (f := 18) rfl ?_); refine gL (some 33) Try.func18 #[.slice A0 l0.length c0] ?_; (with_reducible refine (laws_toPathS.calls k _ _ l0 t429 _ ?side1 ?side2 A12.out).mono ?_); (case side1 => exact cB HR0); (case side2 => exact HC0.out); rintro e w32 ⟨v430, rfl, ho0, hb⟩; refine ⟨_, rfl, ?_⟩; replace HO425 := Aside0.mk (Kd.S_below (sK HO425) hb); replace HO428 := Aside0.mk (Kd.R_below (rK HO428) hb); have HO431 := Aside0.mk (Kd.R_lower (Kd.R_new' ho0 (Kd.R_lt (rK HO422))) (below_size bA)); replace HO422 := Aside0.mk (Kd.R_elder' (rK HO422) (Kd.R_base ho0) hb); replace HB := Aside0.mk (below_step bA hb); (try clear hb); (try clear hb2); (try clear hk); (try clear hi); (try clear ho0)) | ((with_reducible refine gate_callee (f := 19) rfl ?_); refine gL (some 35) Try.func19 #[.slice A1 l1.length c1] ?_; (with_reducible refine (laws_toPartS.calls k _ _ l1 t432 _ ?side1 ?side2 A13.out).mono ?_); (case side1 => exact cB HR1); (case side2 => exact HC1.out); rintro e w33 ⟨v433, rfl, ho0, hb⟩; refine ⟨_, rfl, ?_⟩; replace HO422 := Aside0.mk (Kd.R_below (rK HO422) hb); replace HO431 := Aside0.mk (Kd.R_below (rK HO431) hb); have HO434 := Aside0.mk (Kd.S_lower (Kd.S_new' (Kd.S_new' ho0 (Kd.S_lt (sK HO425))) (Kd.R_lt (rK HO428))) (below_size bA)); replace HO425 := Aside0.mk (Kd.S_elder' (sK HO425) (Kd.S_base ho0) hb); replace HO428 := Aside0.mk (Kd.R_below (rK HO428) hb); replace HB := Aside0.mk (below_step bA hb); (try clear hb); (try clear hb2); (try clear hk); (try clear hi); (try clear ho0); obtain ⟨Ao34, co34, eo34⟩ := Kd.R_slice HO431.out; subst eo34; obtain ⟨Ao35, co35, eo35⟩ := Kd.S_slice HO434.out; subst eo35) | ((with_reducible refine gate_callee (f := 36) rfl ?_); refine gL (some 39) Try.func36 #[.slice Ao34 t429.length co34, .slice Ao35 t432.length co35, .int .i64 a2] ?_; (with_reducible refine (impl_LightsAt.calls k _ _ t429 _ _ t432 a2 t435 _ ?side1 ?side2 ?side3 ?side4 A14.out).mono ?_); (case side1 => exact cO ⟨(Kd.R_reads' HO431.out).2.2⟩); (case side2 => exact (Kd.R_reads' HO431.out).2.1); (case side3 => repeat (first | exact (Kd.S_reads' HO434.out).2.2 | (with_reducible refine Kd.C_alloc ?_ _) | (with_reducible refine Kd.C_drewN ?_ _) | (with_reducible refine Kd.C_drew ?_))); (case side4 => exact (Kd.S_reads' HO434.out).2.1); rintro e w36 ⟨v436, rfl, ho0, hb⟩; refine ⟨_, rfl, ?_⟩; replace HO422 := Aside0.mk (Kd.R_below (rK HO422) hb); replace HO425 := Aside0.mk (Kd.S_elder' (sK HO425) (Kd.R_base ho0) hb); replace HO431 := Aside0.mk (Kd.R_below (rK HO431) hb); replace HO434 := Aside0.mk (Kd.S_elder' (sK HO434) (Kd.R_base ho0) hb); have HO437 := Aside0.mk (Kd.R_lower (Kd.R_new' ho0 (Kd.R_lt (rK HO428))) (below_size bA)); replace HO428 := Aside0.mk (Kd.R_elder' (rK HO428) (Kd.R_base ho0) hb); replace HB := Aside0.mk (below_step bA hb); (try clear hb); (try clear hb2); (try clear hk); (try clear hi); (try clear ho0); obtain ⟨Ao37, co37, eo37⟩ := Kd.R_slice HO437.out; subst eo37; obtain ⟨Ao38, co38, eo38⟩ := Kd.R_slice HO428.out; subst eo38) | ((with_reducible refine gate_callee (f := 37) rfl ?_); refine gL (some 42) Try.func37 #[.slice Ao37 t435.length co37, .slice Ao38 t426.length co38] ?_; (with_reducible refine (laws_eqIntS.calls k _ _ t435 _ _ t426 true _ ?side1 ?side2 ?side3 ?side4 A15.out).mono ?_); (case side1 => exact cO ⟨(Kd.R_reads' HO437.out).2.2⟩); (case side2 => exact (Kd.R_reads' HO437.out).2.1); (case side3 => exact cO ⟨(Kd.R_reads' HO428.out).2.2⟩); (case side4 => exact (Kd.R_reads' HO428.out).2.1); rintro e w' ⟨rfl, ⟨nd, rfl⟩⟩; refine ⟨_, rfl, ?_⟩) | ((with_reducible refine gate_callee (f := 18) rfl ?_); refine gL (some 46) Try.func18 #[.slice A0 l0.length c0] ?_; (with_reducible refine (laws_toPathS.calls k _ _ l0 t439 _ ?side1 ?side2 A17.out).mono ?_); (case side1 => exact cG HR0); (case side2 => exact HC0.out); rintro e w39 ⟨v440, rfl, ho0, hb⟩; refine ⟨_, rfl, ?_⟩; replace HO425 := Aside0.mk (Kd.S_below (sK HO425) hb); replace HO428 := Aside0.mk (Kd.R_below (rK HO428) hb); replace HO434 := Aside0.mk (Kd.S_below (sK HO434) hb); replace HO437 := Aside0.mk (Kd.R_below (rK HO437) hb); have HO441 := Aside0.mk (Kd.R_lower (Kd.R_new' (Kd.R_new' ho0 (Kd.R_lt (rK HO422))) (Kd.R_lt (rK HO431))) (below_size bA)); replace HO422 := Aside0.mk (Kd.R_elder' (rK HO422) (Kd.R_base ho0) hb); replace HO431 := Aside0.mk (Kd.R_elder' (rK HO431) (Kd.R_base ho0) hb); replace HB := Aside0.mk (below_step bA hb); (try clear hb); (try clear hb2); (try clear hk); (try clear hi); (try clear ho0); obtain ⟨Ao40, co40, eo40⟩ := Kd.R_slice HO441.out; subst eo40) | ((with_reducible refine gate_callee (f := 21) rfl ?_); refine gL (some 47) Try.func21 #[.slice Ao34 t429.length co34, .slice Ao40 t439.length co40] ?_; (with_reducible refine (laws_eqPathS.calls k _ _ t429 _ _ t439 true _ ?side1 ?side2 ?side3 ?side4 A18.out).mono ?_); (case side1 => exact cO ⟨(Kd.R_reads' HO431.out).2.2⟩); (case side2 => exact (Kd.R_reads' HO431.out).2.1); (case side3 => exact cO ⟨(Kd.R_reads' HO441.out).2.2⟩); (case side4 => exact (Kd.R_reads' HO441.out).2.1); rintro e w41 ⟨rfl, hb⟩; refine ⟨_, rfl, ?_⟩; replace HO422 := Aside0.mk (Kd.R_below (rK HO422) hb); replace HO425 := Aside0.mk (Kd.S_below (sK HO425) hb); replace HO428 := Aside0.mk (Kd.R_below (rK HO428) hb); replace HO431 := Aside0.mk (Kd.R_below (rK HO431) hb); replace HO434 := Aside0.mk (Kd.S_below (sK HO434) hb); replace HO437 := Aside0.mk (Kd.R_below (rK HO437) hb); replace HO441 := Aside0.mk (Kd.R_below (rK HO441) hb); replace HB := Aside0.mk (below_step bA hb); (try clear hb); (try clear hb2); (try clear hk); (try clear hi)) | ((with_reducible refine gate_callee (f := 19) rfl ?_); refine gL (some 51) Try.func19 #[.slice A1 l1.length c1] ?_; (with_reducible refine (laws_toPartS.calls k _ _ l1 t443 _ ?side1 ?side2 A20.out).mono ?_); (case side1 => exact cB HR1); (case side2 => exact HC1.out); rintro e w42 ⟨v444, rfl, ho0, hb⟩; refine ⟨_, rfl, ?_⟩; replace HO422 := Aside0.mk (Kd.R_below (rK HO422) hb); replace HO431 := Aside0.mk (Kd.R_below (rK HO431) hb); replace HO441 := Aside0.mk (Kd.R_below (rK HO441) hb); have HO445 := Aside0.mk (Kd.S_lower (Kd.S_new' (Kd.S_new' (Kd.S_new' (Kd.S_new' ho0 (Kd.S_lt (sK HO425))) (Kd.R_lt (rK HO428))) (Kd.S_lt (sK HO434))) (Kd.R_lt (rK HO437))) (below_size bA)); replace HO425 := Aside0.mk (Kd.S_elder' (sK HO425) (Kd.S_base ho0) hb); replace HO428 := Aside0.mk (Kd.R_below (rK HO428) hb); replace HO434 := Aside0.mk (Kd.S_elder' (sK HO434) (Kd.S_base ho0) hb); replace HO437 := Aside0.mk (Kd.R_below (rK HO437) hb); replace HB := Aside0.mk (below_step bA hb); (try clear hb); (try clear hb2); (try clear hk); (try clear hi); (try clear ho0); obtain ⟨Ao43, co43, eo43⟩ := Kd.S_slice HO445.out; subst eo43) | ((with_reducible refine gate_callee (f := 22) rfl ?_); refine gL (some 52) Try.func22 #[.slice Ao35 t432.length co35, .slice Ao43 t443.length co43] ?_; (with_reducible refine (laws_eqPartS.calls k _ _ t432 _ _ t443 true _ ?side1 ?side2 ?side3 ?side4 A21.out).mono ?_); (case side1 => repeat (first | exact (Kd.S_reads' HO434.out).2.2 | (with_reducible refine Kd.C_alloc ?_ _) | (with_reducible refine Kd.C_drewN ?_ _) | (with_reducible refine Kd.C_drew ?_))); (case side2 => exact (Kd.S_reads' HO434.out).2.1); (case side3 => repeat (first | exact (Kd.S_reads' HO445.out).2.2 | (with_reducible refine Kd.C_alloc ?_ _) | (with_reducible refine Kd.C_drewN ?_ _) | (with_reducible refine Kd.C_drew ?_))); (case side4 => exact (Kd.S_reads' HO445.out).2.1); rintro e w44 ⟨rfl, hb⟩; refine ⟨_, rfl, ?_⟩; replace HO422 := Aside0.mk (Kd.R_below (rK HO422) hb); replace HO425 := Aside0.mk (Kd.S_below (sK HO425) hb); replace HO428 := Aside0.mk (Kd.R_below (rK HO428) hb); replace HO431 := Aside0.mk (Kd.R_below (rK HO431) hb); replace HO434 := Aside0.mk (Kd.S_below (sK HO434) hb); replace HO437 := Aside0.mk (Kd.R_below (rK HO437) hb); replace HO441 := Aside0.mk (Kd.R_below (rK HO441) hb); replace HO445 := Aside0.mk (Kd.S_below (sK HO445) hb); replace HB := Aside0.mk (below_step bA hb); (try clear hb); (try clear hb2); (try clear hk); (try clear hi)) | ((with_reducible refine gate_callee (f := 38) rfl ?_); refine gL (some 56) Try.func38 #[.slice Ao34 t429.length co34, .int .i64 1] ?_; (with_reducible refine (laws_markPathS.calls k (fun k_ => some k_ = (.slice Ao34 t429.length co34 : Value).ownBlock) (.slice Ao34 t429.length co34) t429 1 t447 t448 w _ ?side1 ?side2 A23.out).mono ?_); (case side1 => repeat (first | (with_reducible first | exact HB.out | apply below_alloc | apply pw_below_drewN | apply below_drew1) | exact HB.out)); (case side2 => exact Kd.R_tight rfl HO431.out); rintro e w45 ⟨rfl, hy0, hb, hkp⟩; refine ⟨_, rfl, ?_⟩; replace HO422 := Aside0.mk (Kd.R_mono (ok' := fun k_ => some k_ ≠ (.slice Ao34 t429.length co34 : Value).ownBlock ∧ some k_ ≠ (.slice Ao40 t439.length co40 : Value).ownBlock) (Kd.R_keptB (HO422.out) hkp (fun k_ hk_ hs_ => (hk_.1.2) hs_)) (fun k_ hk_ => ⟨hk_.1.1.2, hk_.1.2⟩)); replace HO425 := Aside0.mk (Kd.S_mono (ok' := fun k_ => some k_ ≠ (.slice Ao38 t426.length co38 : Value).ownBlock ∧ some k_ ≠ (.slice Ao35 t432.length co35 : Value).ownBlock ∧ some k_ ≠ (.slice Ao37 t435.length co37 : Value).ownBlock ∧ some k_ ≠ (.slice Ao43 t443.length co43 : Value).ownBlock) (Kd.S_keptB ((Kd.S_apart' HO425.out (Kd.R_typed HO431.out) (by decide))) hkp (fun k_ hk_ hs_ => (hk_.2) hs_)) (fun k_ hk_ => ⟨hk_.1.1.1.1.1.2, hk_.1.1.1.1.2, hk_.1.1.1.2, hk_.1.1.2⟩)); replace HO428 := Aside0.mk (Kd.R_mono (ok' := fun k_ => some k_ ≠ (.slice Ao37 t435.length co37 : Value).ownBlock) (Kd.R_keptB ((Kd.R_apart' HO428.out (Kd.R_typed HO431.out) (by decide))) hkp (fun k_ hk_ hs_ => (hk_.2) hs_)) (fun k_ hk_ => hk_.1.1.2)); replace HO434 := Aside0.mk (Kd.S_mono (ok' := fun k_ => some k_ ≠ (.slice Ao30 t423.length co30 : Value).ownBlock ∧ some k_ ≠ (.slice Ao38 t426.length co38 : Value).ownBlock ∧ some k_ ≠ (.slice Ao37 t435.length co37 : Value).ownBlock ∧ some k_ ≠ (.slice Ao43 t443.length co43 : Value).ownBlock) (Kd.S_keptB ((Kd.S_apart' HO434.out (Kd.R_typed HO431.out) (by decide))) hkp (fun k_ hk_ hs_ => (hk_.2) hs_)) (fun k_ hk_ => ⟨hk_.1.1.1.1.1.2, hk_.1.1.1.1.2, hk_.1.1.1.2, hk_.1.1.2⟩)); replace HO437 := Aside0.mk (Kd.R_mono (ok' := fun k_ => some k_ ≠ (.slice Ao38 t426.length co38 : Value).ownBlock) (Kd.R_keptB ((Kd.R_apart' HO437.out (Kd.R_typed HO431.out) (by decide))) hkp (fun k_ hk_ hs_ => (hk_.2) hs_)) (fun k_ hk_ => hk_.1.1.2)); replace HO441 := Aside0.mk (Kd.R_mono (ok' := fun k_ => some k_ ≠ (.slice Ao29 t420.length co29 : Value).ownBlock ∧ some k_ ≠ (.slice Ao34 t429.length co34 : Value).ownBlock) (Kd.R_keptB (HO441.out) hkp (fun k_ hk_ hs_ => (hk_.2) hs_)) (fun k_ hk_ => ⟨hk_.1.1.2, hk_.1.2⟩)); replace HO445 := Aside0.mk (Kd.S_mono (ok' := fun k_ => some k_ ≠ (.slice Ao30 t423.length co30 : Value).ownBlock ∧ some k_ ≠ (.slice Ao38 t426.length co38 : Value).ownBlock ∧ some k_ ≠ (.slice Ao35 t432.length co35 : Value).ownBlock ∧ some k_ ≠ (.slice Ao37 t435.length co37 : Value).ownBlock) (Kd.S_keptB ((Kd.S_apart' HO445.out (Kd.R_typed HO431.out) (by decide))) hkp (fun k_ hk_ hs_ => (hk_.2) hs_)) (fun k_ hk_ => ⟨hk_.1.1.1.1.1.2, hk_.1.1.1.1.2, hk_.1.1.1.2, hk_.1.1.2⟩)); replace HO431 := Aside0.mk (Kd.R_reok rfl hy0 (fun k_ e_ => HO431.out.1 k_ e_)); replace HB := Aside0.mk (hb); (try clear hb); (try clear hkp); (try clear hy0)) | ((with_reducible refine gate_callee (f := 39) rfl ?_); refine gL (some 59) Try.func39 #[.slice Ao35 t432.length co35, .int .i64 t447] ?_; (with_reducible refine (laws_markPartS.calls k (fun k_ => (((((some k_ ≠ (.slice Ao30 t423.length co30 : Value).ownBlock ∧ (some k_ ≠ (.slice Ao38 t426.length co38 : Value).ownBlock ∧ (some k_ ≠ (.slice Ao37 t435.length co37 : Value).ownBlock ∧ some k_ ≠ (.slice Ao43 t443.length co43 : Value).ownBlock))) ∧ some k_ ≠ (.slice Ao29 t420.length co29 : Value).ownBlock) ∧ some k_ ≠ (.slice Ao34 t429.length co34 : Value).ownBlock) ∧ some k_ ≠ (.slice Ao40 t439.length co40 : Value).ownBlock)) ∧ w.heap.size ≤ k_) (.slice Ao35 t432.length co35) t432 t447 t449 t450 w _ ?side1 ?side2 A24.out).mono ?_); (case side1 => repeat (first | (with_reducible first | exact HB.out | apply below_alloc | apply pw_below_drewN | apply below_drew1) | exact HB.out)); (case side2 => (with_reducible repeat (first | apply Kd.S_alloc | apply Kd.S_drewN | apply Kd.S_drew)); exact Kd.S_mono (Kd.S_bound (Kd.S_apart' (Kd.S_apart' (Kd.S_apart' (HO434.out) (Kd.R_typed HO422.out) (by decide)) (Kd.R_typed HO431.out) (by decide)) (Kd.R_typed HO441.out) (by decide))) (fun k_ h_ => ⟨h_.1, h_.2.1⟩)); rintro e w46 ⟨rfl, hy0, hb, hkp⟩; refine ⟨_, rfl, ?_⟩; have n0_ := Aside0.mk (Kd.R_mono (ok' := fun k_ => some k_ ≠ (.slice Ao34 t429.length co34 : Value).ownBlock ∧ some k_ ≠ (.slice Ao40 t439.length co40 : Value).ownBlock) (Kd.R_keptB ((Kd.R_mono (ok' := fun k_ => (some k_ ≠ (.slice Ao34 t429.length co34 : Value).ownBlock ∧ some k_ ≠ (.slice Ao40 t439.length co40 : Value).ownBlock) ∧ ¬ ((((((some k_ ≠ (.slice Ao30 t423.length co30 : Value).ownBlock ∧ (some k_ ≠ (.slice Ao38 t426.length co38 : Value).ownBlock ∧ (some k_ ≠ (.slice Ao37 t435.length co37 : Value).ownBlock ∧ some k_ ≠ (.slice Ao43 t443.length co43 : Value).ownBlock))) ∧ some k_ ≠ (.slice Ao29 t420.length co29 : Value).ownBlock) ∧ some k_ ≠ (.slice Ao34 t429.length co34 : Value).ownBlock) ∧ some k_ ≠ (.slice Ao40 t439.length co40 : Value).ownBlock)) ∧ w.heap.size ≤ k_)) (Kd.R_tight2 rfl HO422.out) (fun k_ hk => ⟨hk.2, fun hs_ => (hs_.1.1.1.2) hk.1⟩))) hkp (fun k_ hk_ hs_ => (hk_.2) hs_)) (fun k_ hk_ => ⟨hk_.1.1.1, hk_.1.1.2⟩)); have n1_ := Aside0.mk (Kd.R_mono (ok' := fun k_ => some k_ ≠ (.slice Ao37 t435.length co37 : Value).ownBlock) (Kd.R_keptB ((Kd.R_mono (ok' := fun k_ => some k_ ≠ (.slice Ao37 t435.length co37 : Value).ownBlock ∧ ¬ ((((((some k_ ≠ (.slice Ao30 t423.length co30 : Value).ownBlock ∧ (some k_ ≠ (.slice Ao38 t426.length co38 : Value).ownBlock ∧ (some k_ ≠ (.slice Ao37 t435.length co37 : Value).ownBlock ∧ some k_ ≠ (.slice Ao43 t443.length co43 : Value).ownBlock))) ∧ some k_ ≠ (.slice Ao29 t420.length co29 : Value).ownBlock) ∧ some k_ ≠ (.slice Ao34 t429.length co34 : Value).ownBlock) ∧ some k_ ≠ (.slice Ao40 t439.length co40 : Value).ownBlock)) ∧ w.heap.size ≤ k_)) (Kd.R_tight2 rfl HO428.out) (fun k_ hk => ⟨hk.2, fun hs_ => (hs_.1.1.1.1.2.1) hk.1⟩))) hkp (fun k_ hk_ hs_ => (hk_.2) hs_)) (fun k_ hk_ => hk_.1.1)); have n2_ := Aside0.mk (Kd.R_mono (ok' := fun k_ => some k_ ≠ (.slice Ao29 t420.length co29 : Value).ownBlock ∧ some k_ ≠ (.slice Ao40 t439.length co40 : Value).ownBlock) (Kd.R_keptB ((Kd.R_mono (ok' := fun k_ => ((True ∧ some k_ ≠ (.slice Ao29 t420.length co29 : Value).ownBlock) ∧ some k_ ≠ (.slice Ao40 t439.length co40 : Value).ownBlock) ∧ ¬ ((((((some k_ ≠ (.slice Ao30 t423.length co30 : Value).ownBlock ∧ (some k_ ≠ (.slice Ao38 t426.length co38 : Value).ownBlock ∧ (some k_ ≠ (.slice Ao37 t435.length co37 : Value).ownBlock ∧ some k_ ≠ (.slice Ao43 t443.length co43 : Value).ownBlock))) ∧ some k_ ≠ (.slice Ao29 t420.length co29 : Value).ownBlock) ∧ some k_ ≠ (.slice Ao34 t429.length co34 : Value).ownBlock) ∧ some k_ ≠ (.slice Ao40 t439.length co40 : Value).ownBlock)) ∧ w.heap.size ≤ k_)) (Kd.R_tight2 rfl HO431.out) (fun k_ hk => ⟨hk.2, fun hs_ => (hs_.1.1.2) hk.1⟩))) hkp (fun k_ hk_ hs_ => (hk_.2) hs_)) (fun k_ hk_ => ⟨hk_.1.1.1.2, hk_.1.1.2⟩)); have n3_ := Aside0.mk (Kd.S_mono (ok' := fun k_ => (some k_ ≠ (.slice Ao30 t423.length co30 : Value).ownBlock ∧ (some k_ ≠ (.slice Ao38 t426.length co38 : Value).ownBlock ∧ (some k_ ≠ (.slice Ao37 t435.length co37 : Value).ownBlock ∧ some k_ ≠ (.slice Ao43 t443.length co43 : Value).ownBlock)))) hy0 (fun k_ hk_ => ⟨(Or.elim hk_ (fun hs_ => hs_.1.1.1.1.1) (fun hn_ => fun e_ => Nat.not_le.2 (Kd.S_lt (sK HO425) k_ e_.symm) hn_)), ⟨(Or.elim hk_ (fun hs_ => hs_.1.1.1.1.2.1) (fun hn_ => fun e_ => Nat.not_le.2 (Kd.R_lt (rK HO428) k_ e_.symm) hn_)), ⟨(Or.elim hk_ (fun hs_ => hs_.1.1.1.1.2.2.1) (fun hn_ => fun e_ => Nat.not_le.2 (Kd.R_lt (rK HO437) k_ e_.symm) hn_)), (Or.elim hk_ (fun hs_ => hs_.1.1.1.1.2.2.2) (fun hn_ => fun e_ => Nat.not_le.2 (Kd.S_lt (sK HO445) k_ e_.symm) hn_))⟩⟩⟩)); have n4_ := Aside0.mk (Kd.R_mono (ok' := fun k_ => some k_ ≠ (.slice Ao38 t426.length co38 : Value).ownBlock) (Kd.R_keptB ((Kd.R_mono (ok' := fun k_ => some k_ ≠ (.slice Ao38 t426.length co38 : Value).ownBlock ∧ ¬ ((((((some k_ ≠ (.slice Ao30 t423.length co30 : Value).ownBlock ∧ (some k_ ≠ (.slice Ao38 t426.length co38 : Value).ownBlock ∧ (some k_ ≠ (.slice Ao37 t435.length co37 : Value).ownBlock ∧ some k_ ≠ (.slice Ao43 t443.length co43 : Value).ownBlock))) ∧ some k_ ≠ (.slice Ao29 t420.length co29 : Value).ownBlock) ∧ some k_ ≠ (.slice Ao34 t429.length co34 : Value).ownBlock) ∧ some k_ ≠ (.slice Ao40 t439.length co40 : Value).ownBlock)) ∧ w.heap.size ≤ k_)) (Kd.R_tight2 rfl HO437.out) (fun k_ hk => ⟨hk.2, fun hs_ => (hs_.1.1.1.1.2.2.1) hk.1⟩))) hkp (fun k_ hk_ hs_ => (hk_.2) hs_)) (fun k_ hk_ => hk_.1.1)); have n5_ := Aside0.mk (Kd.R_mono (ok' := fun k_ => some k_ ≠ (.slice Ao29 t420.length co29 : Value).ownBlock ∧ some k_ ≠ (.slice Ao34 t429.length co34 : Value).ownBlock) (Kd.R_keptB ((Kd.R_mono (ok' := fun k_ => (some k_ ≠ (.slice Ao29 t420.length co29 : Value).ownBlock ∧ some k_ ≠ (.slice Ao34 t429.length co34 : Value).ownBlock) ∧ ¬ ((((((some k_ ≠ (.slice Ao30 t423.length co30 : Value).ownBlock ∧ (some k_ ≠ (.slice Ao38 t426.length co38 : Value).ownBlock ∧ (some k_ ≠ (.slice Ao37 t435.length co37 : Value).ownBlock ∧ some k_ ≠ (.slice Ao43 t443.length co43 : Value).ownBlock))) ∧ some k_ ≠ (.slice Ao29 t420.length co29 : Value).ownBlock) ∧ some k_ ≠ (.slice Ao34 t429.length co34 : Value).ownBlock) ∧ some k_ ≠ (.slice Ao40 t439.length co40 : Value).ownBlock)) ∧ w.heap.size ≤ k_)) (Kd.R_tight2 rfl HO441.out) (fun k_ hk => ⟨hk.2, fun hs_ => (hs_.1.2) hk.1⟩))) hkp (fun k_ hk_ hs_ => (hk_.2) hs_)) (fun k_ hk_ => ⟨hk_.1.1.1, hk_.1.1.2⟩)); have n6_ := Aside0.mk (hb); clear HO422; clear HO428; clear HO431; clear HO434; clear HO437; clear HO441; clear HB; clear HO425; clear HO445; have HO422 := n0_; have HO428 := n1_; have HO431 := n2_; have HO434 := n3_; have HO437 := n4_; have HO441 := n5_; have HB := n6_; clear n0_ n1_ n2_ n3_ n4_ n5_ n6_; (try clear hb); (try clear hkp); (try clear hy0)))
   (try simp only [Act.put, List.setIfInBounds_toArray, List.set_cons_zero, List.set_cons_succ])
   go_cut [67] (fun v67 wc => ∃ (kq : Nat) (x67_24 : Bool), v67 = .bool x67_24 ∧ Aside0 (laws_FnExactLightsAt.j0 kq l0 l1 a2 t426 t435 x67_24 = some r) ∧ Aside0 (kq ≤ k) ∧ Aside0 (Kd.R (Kd.int .i64) 3 wc w.heap.size (fun k_ => some k_ ≠ ((.slice Ao37 t435.length co37) : Value).ownBlock) (.slice Ao38 t426.length co38) t426) ∧ Aside0 (Kd.R (Kd.int .i64) 3 wc w.heap.size (fun k_ => some k_ ≠ ((.slice Ao38 t426.length co38) : Value).ownBlock) (.slice Ao37 t435.length co37) t435) ∧ Aside0 (Below w.heap.size w wc))
   case first =>
    have H := HC25.out
    clear HC25
    by_cases c47 : t449 < 0
    ·
     rw [if_pos c47] at H
     have c47b0 : decide (t449 < 0) = true := decide_eq_true c47
     clear c47
     (first | rw [c47b0] | (simp only [i64_w, i32_w]; rw [c47b0]) | skip)
     have H' := Aside0.mk H
     clear H
     go_wp2
     go_meet
     case rel => exact ⟨_, (true), rS, H', ⟨by first | omega | exact Nat.le_refl _⟩, ⟨rK HO428⟩, ⟨rK HO437⟩, ⟨bA⟩⟩
    ·
     rw [if_neg c47] at H
     have c47b0 : decide (t449 < 0) = false := decide_eq_false c47
     clear c47
     (first | rw [c47b0] | (simp only [i64_w, i32_w]; rw [c47b0]) | skip)
     obtain ⟨t451, A48, H⟩ := bindE H
     try dsimp only at H
     have H' := Aside0.mk H
     clear H
     go_wp2_with (first | (go_at_call 37; (with_reducible refine (laws_eqIntS.calls k _ _ t435 _ _ t426 t451 _ ?side1 ?side2 ?side3 ?side4 A48.out).mono ?_); (case side1 => exact cO ⟨(Kd.R_reads' HO437.out).2.2⟩); (case side2 => exact (Kd.R_reads' HO437.out).2.1); (case side3 => exact cO ⟨(Kd.R_reads' HO428.out).2.2⟩); (case side4 => exact (Kd.R_reads' HO428.out).2.1); rintro e w' ⟨rfl, ⟨nd, rfl⟩⟩))
     go_meet
     case rel => exact ⟨_, (!t451), rS, H', ⟨by first | omega | exact Nat.le_refl _⟩, ⟨rK HO428⟩, ⟨rK HO437⟩, ⟨bA⟩⟩
   case rest =>
    clear HC25
    try clear c1
    try clear c2
    try clear p2
    try clear c3
    try clear c4
    try clear c5
    try clear c5b0
    try clear c7
    try clear c7b0
    try clear c10
    try clear c15
    try clear c16
    try clear c18
    try clear c19
    try clear c21
    try clear c22
    try clear c35
    try clear c36
    try clear c37
    try clear c38
    try clear c39
    try clear c47
    try clear c47b0
    obtain ⟨kq, x67_24, rfl, HA, HJ24, HO_8, HO_11, HB⟩ := hcut
    cases kq with
    | zero => exact absurd HA.out (by simp [laws_FnExactLightsAt.j0])
    | succ kj24 =>
     have H := HA.out
     clear HA
     simp only [laws_FnExactLightsAt.j0] at H
     have c49 := ifN' H
     replace H := ifT' H
     replace c49 := Bool.eq_false_iff.mpr c49
     subst c49
     obtain ⟨⟨t452, t453⟩, A50, H⟩ := bindE H
     try dsimp only at H
     obtain ⟨t454, A51, H⟩ := bindE H
     try dsimp only at H
     have c52 : ¬ (t454 < 0) := ifN' H
     replace H := ifT' H
     have c52b0 : decide (t454 < 0) = false := decide_eq_false c52
     clear c52
     have c53 : t454 = t452 := ifN H
     replace H := ifT H
     have c53b0 : (t454 == t452) = true := beq_iff_eq.mpr c53
     have c53b1 : (t454 != t452) = false := bne_eq_false_iff_eq.mpr c53
     clear c53
     obtain ⟨t455, A54, H⟩ := bindE H
     try dsimp only at H
     obtain ⟨t458, A55, H⟩ := bindE H
     try dsimp only at H
     obtain ⟨t461, A56, H⟩ := bindE H
     try dsimp only at H
     obtain ⟨t464, A57, H⟩ := bindE H
     try dsimp only at H
     have c58 := ifN H
     replace H := ifT H
     subst c58
     obtain ⟨t465, A59, H⟩ := bindE H
     try dsimp only at H
     have c60 : ¬ (t465 < 0) := ifN' H
     replace H := ifT' H
     have c60b0 : decide (t465 < 0) = false := decide_eq_false c60
     clear c60
     have c61 : t465 = t452 := ifN H
     replace H := ifT H
     have c61b0 : (t465 == t452) = true := beq_iff_eq.mpr c61
     have c61b1 : (t465 != t452) = false := bne_eq_false_iff_eq.mpr c61
     clear c61
     obtain rfl := Option.some.inj H
     go_wp2_with (first | ((with_reducible refine gate_callee (f := 40) rfl ?_); refine gL (some 70) Try.func40 #[.slice Ao37 t435.length co37, .int .i64 1] ?_; (with_reducible refine (laws_markIntS.calls kj24 (fun k_ => some k_ = (.slice Ao37 t435.length co37 : Value).ownBlock) (.slice Ao37 t435.length co37) t435 1 t452 t453 w _ ?side1 ?side2 A50.out).mono ?_); (case side1 => repeat (first | (with_reducible first | exact HB.out | apply below_alloc | apply pw_below_drewN | apply below_drew1) | exact HB.out)); (case side2 => exact Kd.R_tight rfl HO_11.out); rintro e w62 ⟨rfl, hy0, hb, hkp⟩; refine ⟨_, rfl, ?_⟩; replace HO_8 := Aside0.mk (Kd.R_mono (ok' := fun k_ => some k_ ≠ (.slice Ao37 t435.length co37 : Value).ownBlock) (Kd.R_keptB (HO_8.out) hkp (fun k_ hk_ hs_ => (hk_) hs_)) (fun k_ hk_ => hk_.1)); replace HO_11 := Aside0.mk (Kd.R_reok rfl hy0 (fun k_ e_ => HO_11.out.1 k_ e_)); replace HB := Aside0.mk (hb); (try clear hb); (try clear hkp); (try clear hy0)) | ((with_reducible refine gate_callee (f := 41) rfl ?_); refine goesL_ (some 73) rfl rfl Try.func41 (by kernel_rfl) rfl #[.slice Ao37 t453.length co37, .int .i64 1] rfl (by (try simp only [List.map_toArray, List.map_cons, List.map_nil]); first | done | (rw [show t453.length = t435.length from (Kd.R_reads' HO_11.out).1.symm] <;> rfl) | rfl | (simp only [List.length_drop, List.length_take]; rfl)) ?_; (with_reducible refine (laws_heldIntS.calls kj24 _ _ t453 1 t454 _ ?side1 ?side2 A51.out).mono ?_); (case side1 => exact cO ⟨(Kd.R_reads' HO_11.out).2.2⟩); (case side2 => rw [show t453.length = t435.length from (Kd.R_reads' HO_11.out).1.symm]; exact (Kd.R_reads' HO_11.out).2.1); rintro e w' ⟨rfl, ⟨nd, rfl⟩⟩; refine ⟨_, rfl, ?_⟩) | ((with_reducible refine gate_callee (f := 18) rfl ?_); refine gL (some 80) Try.func18 #[.slice A0 l0.length c0] ?_; (with_reducible refine (laws_toPathS.calls kj24 _ _ l0 t455 _ ?side1 ?side2 A54.out).mono ?_); (case side1 => exact cG HR0); (case side2 => exact HC0.out); rintro e w63 ⟨v456, rfl, ho0, hb⟩; refine ⟨_, rfl, ?_⟩; replace HO_8 := Aside0.mk (Kd.R_below (rK HO_8) hb); replace HO_11 := Aside0.mk (Kd.R_below (rK HO_11) hb); have HO457 := Aside0.mk (Kd.R_lower ho0 (below_size bA)); replace HB := Aside0.mk (below_step bA hb); (try clear hb); (try clear hb2); (try clear hk); (try clear hi); (try clear ho0)) | ((with_reducible refine gate_callee (f := 19) rfl ?_); refine gL (some 82) Try.func19 #[.slice A1 l1.length c1] ?_; (with_reducible refine (laws_toPartS.calls kj24 _ _ l1 t458 _ ?side1 ?side2 A55.out).mono ?_); (case side1 => exact cB HR1); (case side2 => exact HC1.out); rintro e w64 ⟨v459, rfl, ho0, hb⟩; refine ⟨_, rfl, ?_⟩; replace HO457 := Aside0.mk (Kd.R_below (rK HO457) hb); have HO460 := Aside0.mk (Kd.S_lower (Kd.S_new' (Kd.S_new' ho0 (Kd.R_lt (rK HO_8))) (Kd.R_lt (rK HO_11))) (below_size bA)); replace HO_8 := Aside0.mk (Kd.R_below (rK HO_8) hb); replace HO_11 := Aside0.mk (Kd.R_below (rK HO_11) hb); replace HB := Aside0.mk (below_step bA hb); (try clear hb); (try clear hb2); (try clear hk); (try clear hi); (try clear ho0); obtain ⟨Ao65, co65, eo65⟩ := Kd.R_slice HO457.out; subst eo65; obtain ⟨Ao66, co66, eo66⟩ := Kd.S_slice HO460.out; subst eo66) | ((with_reducible refine gate_callee (f := 36) rfl ?_); refine gL (some 84) Try.func36 #[.slice Ao65 t455.length co65, .slice Ao66 t458.length co66, .int .i64 a2] ?_; (with_reducible refine (impl_LightsAt.calls kj24 _ _ t455 _ _ t458 a2 t461 _ ?side1 ?side2 ?side3 ?side4 A56.out).mono ?_); (case side1 => exact cO ⟨(Kd.R_reads' HO457.out).2.2⟩); (case side2 => exact (Kd.R_reads' HO457.out).2.1); (case side3 => repeat (first | exact (Kd.S_reads' HO460.out).2.2 | (with_reducible refine Kd.C_alloc ?_ _) | (with_reducible refine Kd.C_drewN ?_ _) | (with_reducible refine Kd.C_drew ?_))); (case side4 => exact (Kd.S_reads' HO460.out).2.1); rintro e w67 ⟨v462, rfl, ho0, hb⟩; refine ⟨_, rfl, ?_⟩; replace HO457 := Aside0.mk (Kd.R_below (rK HO457) hb); replace HO460 := Aside0.mk (Kd.S_elder' (sK HO460) (Kd.R_base ho0) hb); have HO463 := Aside0.mk (Kd.R_lower (Kd.R_new' (Kd.R_new' ho0 (Kd.R_lt (rK HO_8))) (Kd.R_lt (rK HO_11))) (below_size bA)); replace HO_8 := Aside0.mk (Kd.R_elder' (rK HO_8) (Kd.R_base ho0) hb); replace HO_11 := Aside0.mk (Kd.R_elder' (rK HO_11) (Kd.R_base ho0) hb); replace HB := Aside0.mk (below_step bA hb); (try clear hb); (try clear hb2); (try clear hk); (try clear hi); (try clear ho0); obtain ⟨Ao68, co68, eo68⟩ := Kd.R_slice HO463.out; subst eo68) | ((with_reducible refine gate_callee (f := 37) rfl ?_); refine gL (some 87) Try.func37 #[.slice Ao68 t461.length co68, .slice Ao38 t426.length co38] ?_; (with_reducible refine (laws_eqIntS.calls kj24 _ _ t461 _ _ t426 true _ ?side1 ?side2 ?side3 ?side4 A57.out).mono ?_); (case side1 => exact cO ⟨(Kd.R_reads' HO463.out).2.2⟩); (case side2 => exact (Kd.R_reads' HO463.out).2.1); (case side3 => exact cO ⟨(Kd.R_reads' HO_8.out).2.2⟩); (case side4 => exact (Kd.R_reads' HO_8.out).2.1); rintro e w' ⟨rfl, ⟨nd, rfl⟩⟩; refine ⟨_, rfl, ?_⟩) | ((with_reducible refine gate_callee (f := 41) rfl ?_); refine goesL_ (some 91) rfl rfl Try.func41 (by kernel_rfl) rfl #[.slice Ao37 t453.length co37, .int .i64 1] rfl (by (try simp only [List.map_toArray, List.map_cons, List.map_nil]); first | done | (rw [show t453.length = t435.length from (Kd.R_reads' HO_11.out).1.symm] <;> rfl) | rfl | (simp only [List.length_drop, List.length_take]; rfl)) ?_; (with_reducible refine (laws_heldIntS.calls kj24 _ _ t453 1 t465 _ ?side1 ?side2 A59.out).mono ?_); (case side1 => exact cO ⟨(Kd.R_reads' HO_11.out).2.2⟩); (case side2 => rw [show t453.length = t435.length from (Kd.R_reads' HO_11.out).1.symm]; exact (Kd.R_reads' HO_11.out).2.1); rintro e w' ⟨rfl, ⟨nd, rfl⟩⟩; refine ⟨_, rfl, ?_⟩))
     go_ret
     exact ⟨rA, bA⟩

end Go.Proofs.Ytbpnbflfpgakmaa.P
