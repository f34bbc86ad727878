/- Printed by myprint.py (wip/tools) over the kit's print: what Go's functions compute, and that they do. Lean checks it. -/
import Derived.Test.YtbpnbflfpgakmaaF0
import Derived.Test.YtbpnbflfpgakmaaFI04
import Derived.Test.YtbpnbflfpgakmaaFI05
import Derived.Test.YtbpnbflfpgakmaaFZHas
namespace Go.Proofs.Ytbpnbflfpgakmaa.P
open Go.RowKit Go.Proofs.YtbpnbflfpgakmaaW.PrintWords Go.Proofs.YtbpnbflfpgakmaaW.PrintLast Go.Proofs.YtbpnbflfpgakmaaW.PrintMore Go.Proofs.Ytbpnbflfpgakmaa.Sq
attribute [local go_sem] max2_int min2_int max_two min_two max_three min_three max_four min_four
set_option linter.unusedVariables false
set_option linter.unusedSimpArgs false

/-! ### impl_ClearOf: function 90 -/
def impl_ClearOf.f (a0_0 : Int) (a0_1 : Int) (a0_2 : Int) (a0_3 : Int) : Option (Int) := (impl_IsPath.f a0_0 a0_1 a0_2 a0_3).bind fun t343 => (if t343 = true then (if a0_1 = 1 then (some 2) else (if a0_1 = 3 then (some 3) else (some 5))) else (some 0))
set_option maxHeartbeats 8000000 in
set_option maxRecDepth 100000 in
theorem impl_ClearOf.calls (a0_0 : Int) (a0_1 : Int) (a0_2 : Int) (a0_3 : Int) (r : Int) (w : World) (h : impl_ClearOf.f a0_0 a0_1 a0_2 a0_3 = some r) :
    Calls Try.prog 90 #[.agg #[.int .i64 a0_0, .int .i64 a0_1, .int .i64 a0_2, .int .i64 a0_3]] w fun e w' => e = .returned (.int .i64 r) ∧ Below w.heap.size w w' := by
  have hu58 := Try.underlying58
  have HB := Aside0.mk (Below.refl w.heap.size w)
  have H : ((impl_IsPath.f a0_0 a0_1 a0_2 a0_3).bind fun t343 => (if t343 = true then (if a0_1 = 1 then (some 2) else (if a0_1 = 3 then (some 3) else (some 5))) else (some 0))) = some r := h
  clear h
  obtain ⟨t343, A2, H⟩ := bindE H
  try dsimp only at H
  by_cases c3 : t343 = true
  · subst c3
    have H1 : (if a0_1 = 1 then (some 2) else (if a0_1 = 3 then (some 3) else (some 5))) = some r := by rw [if_pos rfl] at H; exact H
    clear H
    have H := H1
    clear H1
    by_cases c4 : a0_1 = 1
    · rw [if_pos c4] at H
      have c4b0 : (a0_1 == 1) = true := beq_iff_eq.mpr c4
      have c4b1 : (a0_1 != 1) = false := bne_eq_false_iff_eq.mpr c4
      clear c4
      obtain rfl := Option.some.inj H
      go_enter Try.func90, Try.ntmps90
      go_wp2_with (first | ((with_reducible refine gate_dst (N := 1) rfl ?_); refine bE (N := 1) (cs := #[.int .i64 a0_0, .int .i64 a0_1, .int .i64 a0_2, .int .i64 a0_3]) (t := 58) ?_; intro gb342 hg w5 hbox hb; have n0_ := Aside0.mk (below_step bA hb); have n1_ := Aside0.mk (hbox); have n2_ := Aside0.mk ((by rw [hg]; exact (below_size bA) : w.heap.size ≤ gb342)); have n3_ := Aside0.mk ((by rw [hg]; exact (below_size bA) : w.heap.size ≤ gb342)); clear HB; have HB := n0_; have BK342 := n1_; have GW342 := n2_; have GE342 := n3_; clear n0_ n1_ n2_ n3_; clear hb hbox hg; have hcz6_0 : w5.cell? ⟨gb342, 0, none⟩ = some (.int .i64 a0_0) := (blk_cell BK342.out 0).trans rfl; have hcz6_1 : w5.cell? ⟨gb342, 1, none⟩ = some (.int .i64 a0_1) := (blk_cell BK342.out 1).trans rfl; have hcz6_2 : w5.cell? ⟨gb342, 2, none⟩ = some (.int .i64 a0_2) := (blk_cell BK342.out 2).trans rfl; have hcz6_3 : w5.cell? ⟨gb342, 3, none⟩ = some (.int .i64 a0_3) := (blk_cell BK342.out 3).trans rfl; have hfz6_0 := blk_frozen BK342.out 0; have hfz6_1 := blk_frozen BK342.out 1; have hfz6_2 := blk_frozen BK342.out 2; have hfz6_3 := blk_frozen BK342.out 3) | ((with_reducible refine gate_callee (f := 95) rfl ?_); refine gL (some 4) Try.func95 #[.agg #[.int .i64 a0_0, .int .i64 a0_1, .int .i64 a0_2, .int .i64 a0_3]] ?_; (with_reducible refine (impl_IsPath.calls a0_0 a0_1 a0_2 a0_3 true _ A2.out).mono ?_); rintro e w7 ⟨rfl, hb⟩; refine ⟨_, rfl, ?_⟩; replace BK342 := Aside0.mk (blk_below (g := gb342) (bK BK342) hb); replace HB := Aside0.mk (below_step bG hb); (try clear hb); (try clear hb2); (try clear hk); (try clear hi); obtain ⟨hcz8_0, hcz8_1, hcz8_2, hcz8_3, hfz8_0, hfz8_1, hfz8_2, hfz8_3⟩ := blkc4 BK342))
      go_ret
      exact ⟨rA, bG⟩
    · rw [if_neg c4] at H
      have c4b0 : (a0_1 == 1) = false := beq_eq_false_iff_ne.mpr c4
      have c4b1 : (a0_1 != 1) = true := bne_iff_ne.mpr c4
      by_cases c9 : a0_1 = 3
      · rw [if_pos c9] at H
        have c9b0 : (a0_1 == 3) = true := beq_iff_eq.mpr c9
        have c9b1 : (a0_1 != 3) = false := bne_eq_false_iff_eq.mpr c9
        clear c9
        obtain rfl := Option.some.inj H
        go_enter Try.func90, Try.ntmps90
        go_wp2_with (first | ((with_reducible refine gate_dst (N := 1) rfl ?_); refine bE (N := 1) (cs := #[.int .i64 a0_0, .int .i64 a0_1, .int .i64 a0_2, .int .i64 a0_3]) (t := 58) ?_; intro gb342 hg w10 hbox hb; have n0_ := Aside0.mk (below_step bA hb); have n1_ := Aside0.mk (hbox); have n2_ := Aside0.mk ((by rw [hg]; exact (below_size bA) : w.heap.size ≤ gb342)); have n3_ := Aside0.mk ((by rw [hg]; exact (below_size bA) : w.heap.size ≤ gb342)); clear HB; have HB := n0_; have BK342 := n1_; have GW342 := n2_; have GE342 := n3_; clear n0_ n1_ n2_ n3_; clear hb hbox hg; have hcz11_0 : w10.cell? ⟨gb342, 0, none⟩ = some (.int .i64 a0_0) := (blk_cell BK342.out 0).trans rfl; have hcz11_1 : w10.cell? ⟨gb342, 1, none⟩ = some (.int .i64 a0_1) := (blk_cell BK342.out 1).trans rfl; have hcz11_2 : w10.cell? ⟨gb342, 2, none⟩ = some (.int .i64 a0_2) := (blk_cell BK342.out 2).trans rfl; have hcz11_3 : w10.cell? ⟨gb342, 3, none⟩ = some (.int .i64 a0_3) := (blk_cell BK342.out 3).trans rfl; have hfz11_0 := blk_frozen BK342.out 0; have hfz11_1 := blk_frozen BK342.out 1; have hfz11_2 := blk_frozen BK342.out 2; have hfz11_3 := blk_frozen BK342.out 3) | ((with_reducible refine gate_callee (f := 95) rfl ?_); refine gL (some 4) Try.func95 #[.agg #[.int .i64 a0_0, .int .i64 a0_1, .int .i64 a0_2, .int .i64 a0_3]] ?_; (with_reducible refine (impl_IsPath.calls a0_0 a0_1 a0_2 a0_3 true _ A2.out).mono ?_); rintro e w12 ⟨rfl, hb⟩; refine ⟨_, rfl, ?_⟩; replace BK342 := Aside0.mk (blk_below (g := gb342) (bK BK342) hb); replace HB := Aside0.mk (below_step bG hb); (try clear hb); (try clear hb2); (try clear hk); (try clear hi); obtain ⟨hcz13_0, hcz13_1, hcz13_2, hcz13_3, hfz13_0, hfz13_1, hfz13_2, hfz13_3⟩ := blkc4 BK342))
        go_ret
        exact ⟨rA, bG⟩
      · rw [if_neg c9] at H
        have c9b0 : (a0_1 == 3) = false := beq_eq_false_iff_ne.mpr c9
        have c9b1 : (a0_1 != 3) = true := bne_iff_ne.mpr c9
        obtain rfl := Option.some.inj H
        go_enter Try.func90, Try.ntmps90
        go_wp2_with (first | ((with_reducible refine gate_dst (N := 1) rfl ?_); refine bE (N := 1) (cs := #[.int .i64 a0_0, .int .i64 a0_1, .int .i64 a0_2, .int .i64 a0_3]) (t := 58) ?_; intro gb342 hg w14 hbox hb; have n0_ := Aside0.mk (below_step bA hb); have n1_ := Aside0.mk (hbox); have n2_ := Aside0.mk ((by rw [hg]; exact (below_size bA) : w.heap.size ≤ gb342)); have n3_ := Aside0.mk ((by rw [hg]; exact (below_size bA) : w.heap.size ≤ gb342)); clear HB; have HB := n0_; have BK342 := n1_; have GW342 := n2_; have GE342 := n3_; clear n0_ n1_ n2_ n3_; clear hb hbox hg; have hcz15_0 : w14.cell? ⟨gb342, 0, none⟩ = some (.int .i64 a0_0) := (blk_cell BK342.out 0).trans rfl; have hcz15_1 : w14.cell? ⟨gb342, 1, none⟩ = some (.int .i64 a0_1) := (blk_cell BK342.out 1).trans rfl; have hcz15_2 : w14.cell? ⟨gb342, 2, none⟩ = some (.int .i64 a0_2) := (blk_cell BK342.out 2).trans rfl; have hcz15_3 : w14.cell? ⟨gb342, 3, none⟩ = some (.int .i64 a0_3) := (blk_cell BK342.out 3).trans rfl; have hfz15_0 := blk_frozen BK342.out 0; have hfz15_1 := blk_frozen BK342.out 1; have hfz15_2 := blk_frozen BK342.out 2; have hfz15_3 := blk_frozen BK342.out 3) | ((with_reducible refine gate_callee (f := 95) rfl ?_); refine gL (some 4) Try.func95 #[.agg #[.int .i64 a0_0, .int .i64 a0_1, .int .i64 a0_2, .int .i64 a0_3]] ?_; (with_reducible refine (impl_IsPath.calls a0_0 a0_1 a0_2 a0_3 true _ A2.out).mono ?_); rintro e w16 ⟨rfl, hb⟩; refine ⟨_, rfl, ?_⟩; replace BK342 := Aside0.mk (blk_below (g := gb342) (bK BK342) hb); replace HB := Aside0.mk (below_step bG hb); (try clear hb); (try clear hb2); (try clear hk); (try clear hi); obtain ⟨hcz17_0, hcz17_1, hcz17_2, hcz17_3, hfz17_0, hfz17_1, hfz17_2, hfz17_3⟩ := blkc4 BK342))
        go_ret
        exact ⟨rA, bG⟩
  · replace c3 := Bool.eq_false_iff.mpr c3
    subst c3
    have H1 : (some 0) = some r := by rw [if_neg (show ¬ (false = true) by decide)] at H; exact H
    clear H
    have H := H1
    clear H1
    obtain rfl := Option.some.inj H
    go_enter Try.func90, Try.ntmps90
    go_wp2_with (first | ((with_reducible refine gate_dst (N := 1) rfl ?_); refine bE (N := 1) (cs := #[.int .i64 a0_0, .int .i64 a0_1, .int .i64 a0_2, .int .i64 a0_3]) (t := 58) ?_; intro gb342 hg w18 hbox hb; have n0_ := Aside0.mk (below_step bA hb); have n1_ := Aside0.mk (hbox); have n2_ := Aside0.mk ((by rw [hg]; exact (below_size bA) : w.heap.size ≤ gb342)); have n3_ := Aside0.mk ((by rw [hg]; exact (below_size bA) : w.heap.size ≤ gb342)); clear HB; have HB := n0_; have BK342 := n1_; have GW342 := n2_; have GE342 := n3_; clear n0_ n1_ n2_ n3_; clear hb hbox hg; have hcz19_0 : w18.cell? ⟨gb342, 0, none⟩ = some (.int .i64 a0_0) := (blk_cell BK342.out 0).trans rfl; have hcz19_1 : w18.cell? ⟨gb342, 1, none⟩ = some (.int .i64 a0_1) := (blk_cell BK342.out 1).trans rfl; have hcz19_2 : w18.cell? ⟨gb342, 2, none⟩ = some (.int .i64 a0_2) := (blk_cell BK342.out 2).trans rfl; have hcz19_3 : w18.cell? ⟨gb342, 3, none⟩ = some (.int .i64 a0_3) := (blk_cell BK342.out 3).trans rfl; have hfz19_0 := blk_frozen BK342.out 0; have hfz19_1 := blk_frozen BK342.out 1; have hfz19_2 := blk_frozen BK342.out 2; have hfz19_3 := blk_frozen BK342.out 3) | ((with_reducible refine gate_callee (f := 95) rfl ?_); refine gL (some 4) Try.func95 #[.agg #[.int .i64 a0_0, .int .i64 a0_1, .int .i64 a0_2, .int .i64 a0_3]] ?_; (with_reducible refine (impl_IsPath.calls a0_0 a0_1 a0_2 a0_3 false _ A2.out).mono ?_); rintro e w20 ⟨rfl, hb⟩; refine ⟨_, rfl, ?_⟩; replace BK342 := Aside0.mk (blk_below (g := gb342) (bK BK342) hb); replace HB := Aside0.mk (below_step bG hb); (try clear hb); (try clear hb2); (try clear hk); (try clear hi)))
    go_ret
    exact ⟨rA, bG⟩

/-! ### impl_sieve: function 104 -/
def impl_sieve.l0 : Nat → List Int → Bool → List Int → List Int → Int → Int → Option (List Int)
  | 0, _, _, _, _, _, _ => none
  | k + 1, x1, x2, x7, x11, x12, x13 => if x13 < x12 then (if 0 ≤ x13 then (if x13 < (x11.length : Int) then ((slices_Contains_int_int.f k x1 (rd x11 x13)).bind fun t350 => (if (t350 == x2) = true then (if x7.length < 17592186044416 then (impl_sieve.l0 k x1 x2 (x7 ++ [rd x11 x13]) x11 x12 (wrap64 (x13 + 1))) else (none)) else (impl_sieve.l0 k x1 x2 x7 x11 x12 (wrap64 (x13 + 1))))) else (none)) else (none)) else (some x7)
def impl_sieve.f (k : Nat) (l0 : List Int) (l1 : List Int) (a2 : Bool) : Option (List Int) := impl_sieve.l0 k l1 a2 (([] : List Int)) l0 (l0.length : Int) 0
theorem impl_sieve.mono_l : ∀ k, (∀ y0 y1 y2 y3 y4 y5, LeO (impl_sieve.l0 k y0 y1 y2 y3 y4 y5) (impl_sieve.l0 (k + 1) y0 y1 y2 y3 y4 y5))
  | 0 => fun _ _ _ _ _ _ r h => by simp [impl_sieve.l0] at h
  | k + 1 => by
    have ih0 := impl_sieve.mono_l k
    · intro y0 y1 y2 y3 y4 y5
      unfold impl_sieve.l0
      repeat' first | (with_reducible first | exact LeO.refl _ | exact LeO.none _ | refine LeO.ite ?_ ?_ | refine LeO.bind ?_ (fun _ => ?_) | exact ih0 _ _ _ _ _ _ | exact slices_Contains_int_int.mono _ _ _) | exact LeO.none _ | refine LeO.ite ?_ ?_ | refine LeO.bind ?_ (fun _ => ?_) | exact ih0 _ _ _ _ _ _ | exact slices_Contains_int_int.mono _ _ _
theorem impl_sieve.mono : ∀ a0 a1 a2 k, LeO (impl_sieve.f k a0 a1 a2) (impl_sieve.f (k + 1) a0 a1 a2) := by
  intro a0 a1 a2 k
  have ih0 := impl_sieve.mono_l k
  unfold impl_sieve.f
  repeat' first | (with_reducible first | exact LeO.refl _ | exact LeO.none _ | refine LeO.ite ?_ ?_ | refine LeO.bind ?_ (fun _ => ?_) | exact ih0 _ _ _ _ _ _ | exact slices_Contains_int_int.mono _ _ _) | exact LeO.none _ | refine LeO.ite ?_ ?_ | refine LeO.bind ?_ (fun _ => ?_) | exact ih0 _ _ _ _ _ _ | exact slices_Contains_int_int.mono _ _ _
set_option maxHeartbeats 8000000 in
set_option maxRecDepth 100000 in
theorem impl_sieve.calls (k : Nat) (A0 : Option Addr) (c0 : Nat) (l0 : List Int) (A1 : Option Addr) (c1 : Nat) (l1 : List Int) (a2 : Bool) (r : List Int) (w : World) (hr0 : Kd.C (Kd.int .i64) w A0 l0.length l0) (hc0 : l0.length ≤ c0) (hr1 : Kd.C (Kd.int .i64) w A1 l1.length l1) (hc1 : l1.length ≤ c1) (h : impl_sieve.f k l0 l1 a2 = some r) :
    Calls Try.prog 104 #[.slice A0 l0.length c0, .slice A1 l1.length c1, .bool a2] w fun e w' => ∃ v0_ : Value, e = .returned (v0_) ∧ Kd.R (Kd.int .i64) 3 w' w.heap.size (fun _ => True) v0_ r ∧ Below w.heap.size w w' := by
  have HR0 := Aside0.mk hr0
  have HC0 := Aside0.mk hc0
  clear hr0 hc0
  have HR1 := Aside0.mk hr1
  have HC1 := Aside0.mk hc1
  clear hr1 hc1
  have HB := Aside0.mk (Below.refl w.heap.size w)
  have H : (impl_sieve.l0 k l1 a2 (([] : List Int)) l0 (l0.length : Int) 0) = some r := h
  clear h
  obtain ⟨y346, hy346⟩ : ∃ y_ : List Int, y_ = (([] : List Int)) := ⟨_, rfl⟩
  replace H : (impl_sieve.l0 k l1 a2 y346 l0 (l0.length : Int) 0) = some r := by first | (rw [hy346]; with_reducible exact H) | (have H2_ := (Option.bind_some _ _).symm.trans H; rw [hy346]; with_reducible exact H2_) | (have H2_ := (Option.bind_some _ _).symm.trans H; with_reducible exact H2_) | with_reducible exact H | (rw [hy346]; exact H) | exact H
  have Ny346 := Aside0.mk hy346
  clear hy346
  have H' := Aside0.mk H
  clear H
  go_enter Try.func104, Try.ntmps104
  go_wp2_with (first | ((with_reducible refine gate_dst (N := 10) rfl ?_); refine Kd.R_lit (Kd.int .i64) _ 3 ?hg (N := 10) ?hd (xs := ([] : List Int)) (inner := []) (ok := fun _ => True) (okp := fun _ => True) ?hr ?hp (fun _ hk => hk) trivial (Below.refl _ _) (Nat.le_refl _) (by simp) ?_; (case hd => rfl); (case hg => rfl); (case hr => first | (go_simp; done) | (go_simp; rfl)); (case hp => exact (Reps.none _ _)); intro v347 w4 ho5 hb hg_ hnew_; clear hg_ hnew_; (first | rw [← Ny346.out] at ho5 | (simp only [Int.reduceToNat] at ho5; rw [← Ny346.out] at ho5)); have HO348 := Aside0.mk (Kd.R_lower ho5 (below_size bA)); replace HB := Aside0.mk (below_step bA hb); clear hb ho5))
  go_loopg [7, 13] k (fun kq v7 v13 w' => ∃ (x7_1 : List Int) (x13_1 : Int), v13 = .int .i64 x13_1 ∧ Aside0 (impl_sieve.l0 kq l1 a2 x7_1 l0 (l0.length : Int) x13_1 = some r) ∧ Aside0 (kq ≤ k) ∧ Aside0 (Kd.R (Kd.int .i64) 3 w' w.heap.size (fun _ => True) v7 x7_1) ∧ Aside0 (Below w.heap.size w w'))
  case atStart => exact ⟨(y346), (0), rS, H', ⟨Nat.le_refl _⟩, ⟨rK HO348⟩, ⟨bA⟩⟩
  case round =>
    clear H'
    try clear c1
    try clear p2
    obtain ⟨x7_1, x13_1, rfl, HA, HK1, HO_7, HB⟩ := hrel
    cases gk with
    | zero => exact absurd HA.out (by simp [impl_sieve.l0])
    | succ k1 =>
      have H := HA.out
      clear HA
      simp only [impl_sieve.l0] at H
      by_cases c6 : x13_1 < (l0.length : Int)
      · rw [if_pos c6] at H
        have c6b0 : decide (x13_1 < (l0.length : Int)) = true := decide_eq_true c6
        clear c6
        have c7 : 0 ≤ x13_1 := ifN H
        replace H := ifT H
        have c7b0 : decide (0 ≤ x13_1) = true := decide_eq_true c7
        clear c7
        have c8 : x13_1 < (l0.length : Int) := ifN H
        replace H := ifT H
        have c8b0 : decide (x13_1 < (l0.length : Int)) = true := decide_eq_true c8
        clear c8
        obtain ⟨t350, A9, H⟩ := bindE H
        try dsimp only at H
        by_cases c10 : (t350 == a2) = true
        · rw [if_pos c10] at H
          have c10b0 : (t350 == a2) = true := c10
          (try (have c10b1 : decide (t350 = a2) = true := by simpa using c10))
          (try (have c10b2 : (t350 == a2) = true := by simpa using c10))
          clear c10
          have c11 : x7_1.length < 17592186044416 := ifN H
          replace H := ifT H
          have LMc11 := Aside0.mk c11
          clear c11
          obtain ⟨y351, hy351⟩ : ∃ y_ : List Int, y_ = (x7_1 ++ [rd l0 x13_1]) := ⟨_, rfl⟩
          replace H : (impl_sieve.l0 k1 l1 a2 y351 l0 (l0.length : Int) (wrap64 (x13_1 + 1))) = some r := by first | (rw [hy351]; with_reducible exact H) | (have H2_ := (Option.bind_some _ _).symm.trans H; rw [hy351]; with_reducible exact H2_) | (have H2_ := (Option.bind_some _ _).symm.trans H; with_reducible exact H2_) | with_reducible exact H | (rw [hy351]; exact H) | exact H
          have Ny351 := Aside0.mk hy351
          clear hy351
          have H' := Aside0.mk H
          clear H
          have p349 : 0 ≤ (x13_1 : Int) := dA
          have q349 : x13_1 < (l0.length : Int) := dA
          obtain ⟨ad349, e349, hx349_0⟩ := Kd.at_int HR0.out x13_1 p349 q349
          cases e349
          replace hx349_0 := hC HB hx349_0
          replace p349 := eq_true p349
          replace q349 := eq_true q349
          go_wp2_with (first | ((with_reducible refine gate_callee (f := 89) rfl ?_); refine gL (some 19) Try.func89 #[.slice A1 l1.length c1, .int .i64 (rd l0 x13_1)] ?_; (with_reducible refine (slices_Contains_int_int.calls k1 _ _ l1 (rd l0 x13_1) t350 _ ?side1 ?side2 A9.out).mono ?_); (case side1 => exact cB HR1); (case side2 => exact HC1.out); rintro e w' ⟨rfl, ⟨nd, rfl⟩⟩; refine ⟨_, rfl, ?_⟩) | ((with_reducible refine gate_builtin (b := .append) (xs := #[.tmp 22, .tmp 24]) rfl ?_); at_builtin; refine Kd.R_append (Kd.int .i64) (w0 := w) w.heap.size rfl (.tmp 22) (.tmp 24) 41 3 (.int .i64 0) 8 rfl Try.underlying41 info3 rfl (by decide) (by omega) u7 x7_1 (rd l0 x13_1) [.int .i64 (rd l0 x13_1)] (fun _ => True) (fun _ => False) rfl rfl ?aP (fun _ hk => hk.elim) ?aF ?aO ?aB ?aS ?aL ?_; (case aP => exact rfl); (case aB => exact bA); (case aF => exact (fun _ _ => trivial)); (case aO => exact (rK HO_7)); (case aS => exact (below_size bA)); (case aL => have := LMc11.out; omega); intro v352 w12 ho hb hg hat; rw [← Ny351.out] at ho; have n0_ := Aside0.mk (hb); have n1_ := Aside0.mk (ho); clear HB; clear HO_7; have HB := n0_; have HO353 := n1_; clear n0_ n1_; clear ho hb hg hat))
          go_roundg k1
          case measure => have := HK1.out; omega
          case rel => exact ⟨(y351), (wrap64 (x13_1 + 1)), rS, H', ⟨by have := HK1.out; omega⟩, ⟨rK HO353⟩, ⟨bA⟩⟩
        · rw [if_neg c10] at H
          have c10b0 : (t350 == a2) = false := by simpa using c10
          (try (have c10b1 : decide (t350 = a2) = false := by simpa using c10))
          (try (have c10b2 : (t350 == a2) = false := by simpa using c10))
          (try (have c10b3 : ¬ (t350 = a2) := by simpa using c10))
          clear c10
          have H' := Aside0.mk H
          clear H
          have p349 : 0 ≤ (x13_1 : Int) := dA
          have q349 : x13_1 < (l0.length : Int) := dA
          obtain ⟨ad349, e349, hx349_0⟩ := Kd.at_int HR0.out x13_1 p349 q349
          cases e349
          replace hx349_0 := hC HB hx349_0
          replace p349 := eq_true p349
          replace q349 := eq_true q349
          go_wp2_with (first | ((with_reducible refine gate_callee (f := 89) rfl ?_); refine gL (some 19) Try.func89 #[.slice A1 l1.length c1, .int .i64 (rd l0 x13_1)] ?_; (with_reducible refine (slices_Contains_int_int.calls k1 _ _ l1 (rd l0 x13_1) t350 _ ?side1 ?side2 A9.out).mono ?_); (case side1 => exact cB HR1); (case side2 => exact HC1.out); rintro e w' ⟨rfl, ⟨nd, rfl⟩⟩; refine ⟨_, rfl, ?_⟩))
          go_roundg k1
          case measure => have := HK1.out; omega
          case rel => exact ⟨(x7_1), (wrap64 (x13_1 + 1)), rS, H', ⟨by have := HK1.out; omega⟩, ⟨rK HO_7⟩, ⟨bA⟩⟩
      · rw [if_neg c6] at H
        have c6b0 : decide (x13_1 < (l0.length : Int)) = false := decide_eq_false c6
        clear c6
        obtain rfl := Option.some.inj H
        go_wp2
        go_ret
        exact ⟨_, by first | rfl | (simp [errW_none, errW_some] <;> rfl) | (simp [*, errW_none, errW_some] <;> rfl), by (with_reducible repeat (first | apply Kd.R_alloc | apply Kd.R_drewN | apply Kd.R_drew)); exact HO_7.out, bA⟩

/-! ### impl_Closes: function 101 -/
def impl_Closes.f (k : Nat) (l0 : List Int) (l1 : List Int) : Option (List Int) := (impl_sieve.f k l0 l1 false).bind fun t354 => (some t354)
theorem impl_Closes.mono : ∀ a0 a1 k, LeO (impl_Closes.f k a0 a1) (impl_Closes.f (k + 1) a0 a1) := by
  intro a0 a1 k
  unfold impl_Closes.f
  repeat' first | (with_reducible first | exact LeO.refl _ | exact LeO.none _ | refine LeO.ite ?_ ?_ | refine LeO.bind ?_ (fun _ => ?_) | exact impl_sieve.mono _ _ _ _) | exact LeO.none _ | refine LeO.ite ?_ ?_ | refine LeO.bind ?_ (fun _ => ?_) | exact impl_sieve.mono _ _ _ _
set_option maxHeartbeats 8000000 in
set_option maxRecDepth 100000 in
theorem impl_Closes.calls (k : Nat) (A0 : Option Addr) (c0 : Nat) (l0 : List Int) (A1 : Option Addr) (c1 : Nat) (l1 : List Int) (r : List Int) (w : World) (hr0 : Kd.C (Kd.int .i64) w A0 l0.length l0) (hc0 : l0.length ≤ c0) (hr1 : Kd.C (Kd.int .i64) w A1 l1.length l1) (hc1 : l1.length ≤ c1) (h : impl_Closes.f k l0 l1 = some r) :
    Calls Try.prog 101 #[.slice A0 l0.length c0, .slice A1 l1.length c1] w fun e w' => ∃ v0_ : Value, e = .returned (v0_) ∧ Kd.R (Kd.int .i64) 3 w' w.heap.size (fun _ => True) v0_ r ∧ Below w.heap.size w w' := by
  have HR0 := Aside0.mk hr0
  have HC0 := Aside0.mk hc0
  clear hr0 hc0
  have HR1 := Aside0.mk hr1
  have HC1 := Aside0.mk hc1
  clear hr1 hc1
  have HB := Aside0.mk (Below.refl w.heap.size w)
  have H : ((impl_sieve.f k l0 l1 false).bind fun t354 => (some t354)) = some r := h
  clear h
  obtain ⟨t354, A3, H⟩ := bindE H
  try dsimp only at H
  obtain rfl := Option.some.inj H
  go_enter Try.func101, Try.ntmps101
  go_wp2_with (first | ((with_reducible refine gate_callee (f := 104) rfl ?_); refine gL (some 7) Try.func104 #[.slice A0 l0.length c0, .slice A1 l1.length c1, .bool false] ?_; (with_reducible refine (impl_sieve.calls k _ _ l0 _ _ l1 false t354 _ ?side1 ?side2 ?side3 ?side4 A3.out).mono ?_); (case side1 => exact cO HR0); (case side2 => exact HC0.out); (case side3 => exact cO HR1); (case side4 => exact HC1.out); rintro e w4 ⟨v355, rfl, ho0, hb⟩; refine ⟨_, rfl, ?_⟩; have HO356 := Aside0.mk (Kd.R_lower ho0 (below_size bA)); replace HB := Aside0.mk (below_step bA hb); (try clear hb); (try clear hb2); (try clear hk); (try clear hi); (try clear ho0)))
  go_ret
  exact ⟨_, by first | rfl | (simp [errW_none, errW_some] <;> rfl) | (simp [*, errW_none, errW_some] <;> rfl), by (with_reducible repeat (first | apply Kd.R_alloc | apply Kd.R_drewN | apply Kd.R_drew)); exact HO356.out, bA⟩

/-! ### impl_ClearBetween: function 83 -/
mutual
def impl_ClearBetween.j0 : Nat → List (S58) → List Int → List Int → Int → Bool → Option (Int)
  | 0, _, _, _, _, _ => none
  | k + 1, x0, x1, x2, x7, x22 => if x22 = true then (some x7) else ((impl_Closes.f k x1 x2).bind fun t359 => (impl_ClearBetween.l0 k x0 x1 x2 x7 t359 (t359.length : Int) 0))
def impl_ClearBetween.l0 : Nat → List (S58) → List Int → List Int → Int → List Int → Int → Int → Option (Int)
  | 0, _, _, _, _, _, _, _ => none
  | k + 1, x0, x1, x2, x7, x26, x27, x28 => if x28 < x27 then (if 0 ≤ x28 then (if x28 < (x26.length : Int) then ((impl_Closes.f k x2 x1).bind fun t363 => (impl_ClearBetween.l1 k x0 x1 x2 x7 (rd x26 x28) x26 x27 x28 t363 (t363.length : Int) 0)) else (none)) else (none)) else (some x7)
def impl_ClearBetween.l1 : Nat → List (S58) → List Int → List Int → Int → Int → List Int → Int → Int → List Int → Int → Int → Option (Int)
  | 0, _, _, _, _, _, _, _, _, _, _, _ => none
  | k + 1, x0, x1, x2, x7, x9, x26, x27, x28, x34, x35, x36 => if x36 < x35 then (if 0 ≤ x36 then (if x36 < (x34.length : Int) then ((impl_FindPath.f x0 x9).bind fun t367 => (if 0 ≤ t367 then (if t367 < (x0.length : Int) then ((impl_FindPath.f x0 (rd x34 x36)).bind fun t370 => (if 0 ≤ t370 then (if t370 < (x0.length : Int) then ((impl_Conflict.f k ((rd_T58 x0 t367).f0) ((rd_T58 x0 t367).f1) ((rd_T58 x0 t367).f2) ((rd_T58 x0 t367).f3) ((rd_T58 x0 t370).f0) ((rd_T58 x0 t370).f1) ((rd_T58 x0 t370).f2) ((rd_T58 x0 t370).f3)).bind fun t372 => (if t372 = true then ((impl_ClearOf.f ((rd_T58 x0 t367).f0) ((rd_T58 x0 t367).f1) ((rd_T58 x0 t367).f2) ((rd_T58 x0 t367).f3)).bind fun t373 => (impl_ClearBetween.l1 k x0 x1 x2 (mx x7 t373) x9 x26 x27 x28 x34 x35 (wrap64 (x36 + 1)))) else (impl_ClearBetween.l1 k x0 x1 x2 x7 x9 x26 x27 x28 x34 x35 (wrap64 (x36 + 1))))) else (none)) else (none))) else (none)) else (none))) else (none)) else (none)) else (impl_ClearBetween.l0 k x0 x1 x2 x7 x26 x27 (wrap64 (x28 + 1)))
end
def impl_ClearBetween.f (k : Nat) (l0 : List (S58)) (l1 : List Int) (l2 : List Int) : Option (Int) := (impl_IsTogether.f k l0 l1).bind fun t357 => (if t357 = true then ((impl_IsTogether.f k l0 l2).bind fun t358 => (impl_ClearBetween.j0 k l0 l1 l2 0 (!t358))) else (impl_ClearBetween.j0 k l0 l1 l2 0 true))
theorem impl_ClearBetween.mono_l : ∀ k, (∀ y0 y1 y2 y3 y4, LeO (impl_ClearBetween.j0 k y0 y1 y2 y3 y4) (impl_ClearBetween.j0 (k + 1) y0 y1 y2 y3 y4)) ∧ (∀ y0 y1 y2 y3 y4 y5 y6, LeO (impl_ClearBetween.l0 k y0 y1 y2 y3 y4 y5 y6) (impl_ClearBetween.l0 (k + 1) y0 y1 y2 y3 y4 y5 y6)) ∧ (∀ y0 y1 y2 y3 y4 y5 y6 y7 y8 y9 y10, LeO (impl_ClearBetween.l1 k y0 y1 y2 y3 y4 y5 y6 y7 y8 y9 y10) (impl_ClearBetween.l1 (k + 1) y0 y1 y2 y3 y4 y5 y6 y7 y8 y9 y10))
  | 0 => ⟨fun _ _ _ _ _ r h => by simp [impl_ClearBetween.j0] at h, fun _ _ _ _ _ _ _ r h => by simp [impl_ClearBetween.l0] at h, fun _ _ _ _ _ _ _ _ _ _ _ r h => by simp [impl_ClearBetween.l1] at h⟩
  | k + 1 => by
    obtain ⟨ih0, ih1, ih2⟩ := impl_ClearBetween.mono_l k
    refine ⟨?_, ?_, ?_⟩
    · intro y0 y1 y2 y3 y4
      unfold impl_ClearBetween.j0
      repeat' first | (with_reducible first | exact LeO.refl _ | exact LeO.none _ | refine LeO.ite ?_ ?_ | refine LeO.bind ?_ (fun _ => ?_) | exact ih0 _ _ _ _ _ | exact ih1 _ _ _ _ _ _ _ | exact ih2 _ _ _ _ _ _ _ _ _ _ _ | exact impl_Closes.mono _ _ _ | exact impl_Conflict.mono _ _ _ _ _ _ _ _ _ | exact impl_IsTogether.mono _ _ _) | exact LeO.none _ | refine LeO.ite ?_ ?_ | refine LeO.bind ?_ (fun _ => ?_) | exact ih0 _ _ _ _ _ | exact ih1 _ _ _ _ _ _ _ | exact ih2 _ _ _ _ _ _ _ _ _ _ _ | exact impl_Closes.mono _ _ _ | exact impl_Conflict.mono _ _ _ _ _ _ _ _ _ | exact impl_IsTogether.mono _ _ _
    · intro y0 y1 y2 y3 y4 y5 y6
      unfold impl_ClearBetween.l0
      repeat' first | (with_reducible first | exact LeO.refl _ | exact LeO.none _ | refine LeO.ite ?_ ?_ | refine LeO.bind ?_ (fun _ => ?_) | exact ih0 _ _ _ _ _ | exact ih1 _ _ _ _ _ _ _ | exact ih2 _ _ _ _ _ _ _ _ _ _ _ | exact impl_Closes.mono _ _ _ | exact impl_Conflict.mono _ _ _ _ _ _ _ _ _ | exact impl_IsTogether.mono _ _ _) | exact LeO.none _ | refine LeO.ite ?_ ?_ | refine LeO.bind ?_ (fun _ => ?_) | exact ih0 _ _ _ _ _ | exact ih1 _ _ _ _ _ _ _ | exact ih2 _ _ _ _ _ _ _ _ _ _ _ | exact impl_Closes.mono _ _ _ | exact impl_Conflict.mono _ _ _ _ _ _ _ _ _ | exact impl_IsTogether.mono _ _ _
    · intro y0 y1 y2 y3 y4 y5 y6 y7 y8 y9 y10
      unfold impl_ClearBetween.l1
      repeat' first | (with_reducible first | exact LeO.refl _ | exact LeO.none _ | refine LeO.ite ?_ ?_ | refine LeO.bind ?_ (fun _ => ?_) | exact ih0 _ _ _ _ _ | exact ih1 _ _ _ _ _ _ _ | exact ih2 _ _ _ _ _ _ _ _ _ _ _ | exact impl_Closes.mono _ _ _ | exact impl_Conflict.mono _ _ _ _ _ _ _ _ _ | exact impl_IsTogether.mono _ _ _) | exact LeO.none _ | refine LeO.ite ?_ ?_ | refine LeO.bind ?_ (fun _ => ?_) | exact ih0 _ _ _ _ _ | exact ih1 _ _ _ _ _ _ _ | exact ih2 _ _ _ _ _ _ _ _ _ _ _ | exact impl_Closes.mono _ _ _ | exact impl_Conflict.mono _ _ _ _ _ _ _ _ _ | exact impl_IsTogether.mono _ _ _
theorem impl_ClearBetween.mono : ∀ a0 a1 a2 k, LeO (impl_ClearBetween.f k a0 a1 a2) (impl_ClearBetween.f (k + 1) a0 a1 a2) := by
  intro a0 a1 a2 k
  obtain ⟨ih0, ih1, ih2⟩ := impl_ClearBetween.mono_l k
  unfold impl_ClearBetween.f
  repeat' first | (with_reducible first | exact LeO.refl _ | exact LeO.none _ | refine LeO.ite ?_ ?_ | refine LeO.bind ?_ (fun _ => ?_) | exact ih0 _ _ _ _ _ | exact ih1 _ _ _ _ _ _ _ | exact ih2 _ _ _ _ _ _ _ _ _ _ _ | exact impl_Closes.mono _ _ _ | exact impl_Conflict.mono _ _ _ _ _ _ _ _ _ | exact impl_IsTogether.mono _ _ _) | exact LeO.none _ | refine LeO.ite ?_ ?_ | refine LeO.bind ?_ (fun _ => ?_) | exact ih0 _ _ _ _ _ | exact ih1 _ _ _ _ _ _ _ | exact ih2 _ _ _ _ _ _ _ _ _ _ _ | exact impl_Closes.mono _ _ _ | exact impl_Conflict.mono _ _ _ _ _ _ _ _ _ | exact impl_IsTogether.mono _ _ _
def impl_ClearBetween.T11 : Bool × List (List Nat × List Nat) := (true, [([], []), ([], []), ([], []), ([], []), ([2, 3], [2, 3]), ([1, 4], [1, 4]), ([5], [5]), ([0, 6, 4], [0, 6])])
def impl_ClearBetween.B11 : List Nat := [0, 0, 0, 0, 12, 30, 62, 127]
theorem impl_ClearBetween.tab11 : rtab .any (opsOf Try.f83 11) = impl_ClearBetween.T11 := by kernel_rfl
theorem impl_ClearBetween.bits11 : waitsOk impl_ClearBetween.T11.2 impl_ClearBetween.B11 = true := by kernel_rfl
set_option maxHeartbeats 8000000 in
set_option maxRecDepth 100000 in
theorem impl_ClearBetween.calls (k : Nat) (A0 : Option Addr) (c0 : Nat) (l0 : List (S58)) (A1 : Option Addr) (c1 : Nat) (l1 : List Int) (A2 : Option Addr) (c2 : Nat) (l2 : List Int) (r : Int) (w : World) (hr0 : Kd.C k58 w A0 l0.length l0) (hc0 : l0.length ≤ c0) (hr1 : Kd.C (Kd.int .i64) w A1 l1.length l1) (hc1 : l1.length ≤ c1) (hr2 : Kd.C (Kd.int .i64) w A2 l2.length l2) (hc2 : l2.length ≤ c2) (h : impl_ClearBetween.f k l0 l1 l2 = some r) :
    Calls Try.prog 83 #[.slice A0 l0.length c0, .slice A1 l1.length c1, .slice A2 l2.length c2] w fun e w' => e = .returned (.int .i64 r) ∧ Below w.heap.size w w' := by
  have hu58 := Try.underlying58
  have HR0 := Aside0.mk hr0
  have HC0 := Aside0.mk hc0
  clear hr0 hc0
  have HR1 := Aside0.mk hr1
  have HC1 := Aside0.mk hc1
  clear hr1 hc1
  have HR2 := Aside0.mk hr2
  have HC2 := Aside0.mk hc2
  clear hr2 hc2
  have HB := Aside0.mk (Below.refl w.heap.size w)
  have H : ((impl_IsTogether.f k l0 l1).bind fun t357 => (if t357 = true then ((impl_IsTogether.f k l0 l2).bind fun t358 => (impl_ClearBetween.j0 k l0 l1 l2 0 (!t358))) else (impl_ClearBetween.j0 k l0 l1 l2 0 true))) = some r := h
  clear h
  have HC4 := Aside0.mk H
  clear H
  go_enter Try.func83, Try.ntmps83
  go_upto_region 2 with (fail)
  go_cut [22] (fun v22 wc => ∃ (kq : Nat) (x22_3 : Bool), v22 = .bool x22_3 ∧ Aside0 (impl_ClearBetween.j0 kq l0 l1 l2 0 x22_3 = some r) ∧ Aside0 (kq ≤ k) ∧ Aside0 (Below w.heap.size w wc))
  case first =>
    have H := HC4.out
    clear HC4
    obtain ⟨t357, A5, H⟩ := bindE H
    try dsimp only at H
    by_cases c6 : t357 = true
    · subst c6
      have H1 : ((impl_IsTogether.f k l0 l2).bind fun t358 => (impl_ClearBetween.j0 k l0 l1 l2 0 (!t358))) = some r := by rw [if_pos rfl] at H; exact H
      clear H
      have H := H1
      clear H1
      obtain ⟨t358, A7, H⟩ := bindE H
      try dsimp only at H
      have H' := Aside0.mk H
      clear H
      go_wp2_with (first | ((with_reducible refine gate_callee (f := 59) rfl ?_); refine gL (some 15) Try.func59 #[.slice A0 l0.length c0, .slice A1 l1.length c1] ?_; (with_reducible refine (impl_IsTogether.calls k _ _ l0 _ _ l1 true _ ?side1 ?side2 ?side3 ?side4 A5.out).mono ?_); (case side1 => exact cB HR0); (case side2 => exact HC0.out); (case side3 => exact cB HR1); (case side4 => exact HC1.out); rintro e w8 ⟨rfl, hb⟩; refine ⟨_, rfl, ?_⟩; replace HB := Aside0.mk (below_step bA hb); (try clear hb); (try clear hb2); (try clear hk); (try clear hi)) | (go_at_call 59; (with_reducible refine (impl_IsTogether.calls k _ _ l0 _ _ l2 t358 _ ?side1 ?side2 ?side3 ?side4 A7.out).mono ?_); (case side1 => exact cB HR0); (case side2 => exact HC0.out); (case side3 => exact cB HR2); (case side4 => exact HC2.out); rintro e w9 ⟨rfl, hb⟩; replace HB := Aside0.mk (below_step bA hb); (try clear hb); (try clear hb2); (try clear hk); (try clear hi)))
      go_meet
      case rel => exact ⟨_, (!t358), rS, H', ⟨by first | omega | exact Nat.le_refl _⟩, ⟨bA⟩⟩
    · replace c6 := Bool.eq_false_iff.mpr c6
      subst c6
      have H1 : (impl_ClearBetween.j0 k l0 l1 l2 0 true) = some r := by rw [if_neg (show ¬ (false = true) by decide)] at H; exact H
      clear H
      have H := H1
      clear H1
      have H' := Aside0.mk H
      clear H
      go_wp2_with (first | ((with_reducible refine gate_callee (f := 59) rfl ?_); refine gL (some 15) Try.func59 #[.slice A0 l0.length c0, .slice A1 l1.length c1] ?_; (with_reducible refine (impl_IsTogether.calls k _ _ l0 _ _ l1 false _ ?side1 ?side2 ?side3 ?side4 A5.out).mono ?_); (case side1 => exact cB HR0); (case side2 => exact HC0.out); (case side3 => exact cB HR1); (case side4 => exact HC1.out); rintro e w10 ⟨rfl, hb⟩; refine ⟨_, rfl, ?_⟩; replace HB := Aside0.mk (below_step bA hb); (try clear hb); (try clear hb2); (try clear hk); (try clear hi)))
      go_meet
      case rel => exact ⟨_, (true), rS, H', ⟨by first | omega | exact Nat.le_refl _⟩, ⟨bA⟩⟩
  case rest =>
    clear HC4
    try clear c1
    try clear c2
    try clear p2
    try clear c5
    try clear c6
    try clear c8
    obtain ⟨kq, x22_3, rfl, HA, HJ3, HB⟩ := hcut
    cases kq with
    | zero => exact absurd HA.out (by simp [impl_ClearBetween.j0])
    | succ kj3 =>
      have H := HA.out
      clear HA
      simp only [impl_ClearBetween.j0] at H
      by_cases c11 : x22_3 = true
      · subst c11
        have H1 : (some 0) = some r := by rw [if_pos rfl] at H; exact H
        clear H
        have H := H1
        clear H1
        obtain rfl := Option.some.inj H
        go_wp2
        go_ret
        exact ⟨rA, bA⟩
      · replace c11 := Bool.eq_false_iff.mpr c11
        subst c11
        have H1 : ((impl_Closes.f kj3 l1 l2).bind fun t359 => (impl_ClearBetween.l0 kj3 l0 l1 l2 0 t359 (t359.length : Int) 0)) = some r := by rw [if_neg (show ¬ (false = true) by decide)] at H; exact H
        clear H
        have H := H1
        clear H1
        obtain ⟨t359, A12, H⟩ := bindE H
        try dsimp only at H
        have H' := Aside0.mk H
        clear H
        go_wp2_with (first | ((with_reducible refine gate_callee (f := 101) rfl ?_); refine gL (some 26) Try.func101 #[.slice A1 l1.length c1, .slice A2 l2.length c2] ?_; (with_reducible refine (impl_Closes.calls kj3 _ _ l1 _ _ l2 t359 _ ?side1 ?side2 ?side3 ?side4 A12.out).mono ?_); (case side1 => exact cB HR1); (case side2 => exact HC1.out); (case side3 => exact cB HR2); (case side4 => exact HC2.out); rintro e w13 ⟨v360, rfl, ho0, hb⟩; refine ⟨_, rfl, ?_⟩; have HO361 := Aside0.mk (Kd.R_lower ho0 (below_size bA)); replace HB := Aside0.mk (below_step bA hb); (try clear hb); (try clear hb2); (try clear hk); (try clear hi); (try clear ho0); obtain ⟨Ao14, co14, eo14⟩ := Kd.R_slice HO361.out; subst eo14))
        go_loopg [7, 28] kj3 (fun kq v7 v28 w' => ∃ (x7_2 : Int) (x28_2 : Int), v7 = .int .i64 x7_2 ∧ v28 = .int .i64 x28_2 ∧ Aside0 (impl_ClearBetween.l0 kq l0 l1 l2 x7_2 t359 (t359.length : Int) x28_2 = some r) ∧ Aside0 (kq ≤ kj3) ∧ Aside0 (Kd.R (Kd.int .i64) 3 w' w.heap.size (fun _ => True) (.slice Ao14 t359.length co14) t359) ∧ Aside0 (Below w.heap.size w w'))
        case atStart => exact ⟨(0), (0), rS, rS, H', ⟨Nat.le_refl _⟩, ⟨rK HO361⟩, ⟨bA⟩⟩
        case round =>
          clear H'
          try clear c1
          try clear c2
          try clear p2
          try clear c5
          try clear c6
          try clear c8
          try clear c10
          try clear c11
          try clear p2
          obtain ⟨x7_2, x28_2, rfl, rfl, HA, HK2, HO_26, HB⟩ := hrel
          cases gk with
          | zero => exact absurd HA.out (by simp [impl_ClearBetween.l0])
          | succ k2 =>
            have H := HA.out
            clear HA
            simp only [impl_ClearBetween.l0] at H
            by_cases c15 : x28_2 < (t359.length : Int)
            · rw [if_pos c15] at H
              have c15b0 : decide (x28_2 < (t359.length : Int)) = true := decide_eq_true c15
              clear c15
              have c16 : 0 ≤ x28_2 := ifN H
              replace H := ifT H
              have c16b0 : decide (0 ≤ x28_2) = true := decide_eq_true c16
              clear c16
              have c17 : x28_2 < (t359.length : Int) := ifN H
              replace H := ifT H
              have c17b0 : decide (x28_2 < (t359.length : Int)) = true := decide_eq_true c17
              clear c17
              obtain ⟨t363, A18, H⟩ := bindE H
              try dsimp only at H
              have H' := Aside0.mk H
              clear H
              have p362 : 0 ≤ (x28_2 : Int) := dA
              have q362 : x28_2 < (t359.length : Int) := dA
              obtain ⟨ad362, e362, hx362_0⟩ := Kd.at_int (Kd.R_reads' HO_26.out).2.2 x28_2 p362 q362
              cases e362
              replace p362 := eq_true p362
              replace q362 := eq_true q362
              go_wp2_with (first | ((with_reducible refine gate_callee (f := 101) rfl ?_); refine gL (some 34) Try.func101 #[.slice A2 l2.length c2, .slice A1 l1.length c1] ?_; (with_reducible refine (impl_Closes.calls k2 _ _ l2 _ _ l1 t363 _ ?side1 ?side2 ?side3 ?side4 A18.out).mono ?_); (case side1 => exact cB HR2); (case side2 => exact HC2.out); (case side3 => exact cB HR1); (case side4 => exact HC1.out); rintro e w19 ⟨v364, rfl, ho0, hb⟩; refine ⟨_, rfl, ?_⟩; have HO365 := Aside0.mk (Kd.R_lower (Kd.R_new' ho0 (Kd.R_lt (rK HO_26))) (below_size bA)); replace HO_26 := Aside0.mk (Kd.R_elder' (rK HO_26) (Kd.R_base ho0) hb); replace HB := Aside0.mk (below_step bA hb); (try clear hb); (try clear hb2); (try clear hk); (try clear hi); (try clear ho0); obtain ⟨Ao20, co20, eo20⟩ := Kd.R_slice HO365.out; subst eo20))
              go_loopg [7, 36] k2 (fun kq v7 v36 w' => ∃ (x7_3 : Int) (x36_3 : Int), v7 = .int .i64 x7_3 ∧ v36 = .int .i64 x36_3 ∧ Aside0 (impl_ClearBetween.l1 kq l0 l1 l2 x7_3 (rd t359 x28_2) t359 (t359.length : Int) x28_2 t363 (t363.length : Int) x36_3 = some r) ∧ Aside0 (kq ≤ k2) ∧ Aside0 (Kd.R (Kd.int .i64) 3 w' w.heap.size (fun k_ => some k_ ≠ ((.slice Ao20 t363.length co20) : Value).ownBlock) (.slice (some ad362) t359.length co14) t359) ∧ Aside0 (Kd.R (Kd.int .i64) 3 w' w.heap.size (fun k_ => some k_ ≠ ((.slice (some ad362) t359.length co14) : Value).ownBlock) (.slice Ao20 t363.length co20) t363) ∧ Aside0 (Below w.heap.size w w'))
              case atStart => exact ⟨(x7_2), (0), rS, rS, H', ⟨Nat.le_refl _⟩, ⟨by (with_reducible repeat (first | apply Kd.R_alloc | apply Kd.R_drewN | apply Kd.R_drew)); exact Kd.R_mono HO_26.out (fun _ hk => hk.2)⟩, ⟨by (with_reducible repeat (first | apply Kd.R_alloc | apply Kd.R_drewN | apply Kd.R_drew)); exact Kd.R_mono HO365.out (fun _ hk => hk.2)⟩, ⟨bA⟩⟩
              case round =>
                clear H'
                try clear c1
                try clear c2
                try clear p2
                try clear p3
                try clear q3
                try clear hx3
                try clear c5
                try clear c6
                try clear c8
                try clear c10
                try clear c11
                try clear c15
                try clear c15b0
                try clear c16
                try clear c16b0
                try clear c17
                try clear c17b0
                try clear hx362_0
                try clear p2
                try clear p362
                try clear q362
                obtain ⟨x7_3, x36_3, rfl, rfl, HA, HK3, HO_26, HO_34, HB⟩ := hrel
                cases gk with
                | zero => exact absurd HA.out (by simp [impl_ClearBetween.l1])
                | succ k3 =>
                  have H := HA.out
                  clear HA
                  simp only [impl_ClearBetween.l1] at H
                  by_cases c21 : x36_3 < (t363.length : Int)
                  · rw [if_pos c21] at H
                    have c21b0 : decide (x36_3 < (t363.length : Int)) = true := decide_eq_true c21
                    clear c21
                    have c22 : 0 ≤ x36_3 := ifN H
                    replace H := ifT H
                    have c22b0 : decide (0 ≤ x36_3) = true := decide_eq_true c22
                    clear c22
                    have c23 : x36_3 < (t363.length : Int) := ifN H
                    replace H := ifT H
                    have c23b0 : decide (x36_3 < (t363.length : Int)) = true := decide_eq_true c23
                    clear c23
                    obtain ⟨t367, A24, H⟩ := bindE H
                    try dsimp only at H
                    have c25 : 0 ≤ t367 := ifN H
                    replace H := ifT H
                    have c25b0 : decide (0 ≤ t367) = true := decide_eq_true c25
                    clear c25
                    have c26 : t367 < (l0.length : Int) := ifN H
                    replace H := ifT H
                    have c26b0 : decide (t367 < (l0.length : Int)) = true := decide_eq_true c26
                    clear c26
                    obtain ⟨t370, A27, H⟩ := bindE H
                    try dsimp only at H
                    have c28 : 0 ≤ t370 := ifN H
                    replace H := ifT H
                    have c28b0 : decide (0 ≤ t370) = true := decide_eq_true c28
                    clear c28
                    have c29 : t370 < (l0.length : Int) := ifN H
                    replace H := ifT H
                    have c29b0 : decide (t370 < (l0.length : Int)) = true := decide_eq_true c29
                    clear c29
                    obtain ⟨t372, A30, H⟩ := bindE H
                    try dsimp only at H
                    by_cases c31 : t372 = true
                    · subst c31
                      have H1 : ((impl_ClearOf.f ((rd_T58 l0 t367).f0) ((rd_T58 l0 t367).f1) ((rd_T58 l0 t367).f2) ((rd_T58 l0 t367).f3)).bind fun t373 => (impl_ClearBetween.l1 k3 l0 l1 l2 (mx x7_3 t373) (rd t359 x28_2) t359 (t359.length : Int) x28_2 t363 (t363.length : Int) (wrap64 (x36_3 + 1)))) = some r := by rw [if_pos rfl] at H; exact H
                      clear H
                      have H := H1
                      clear H1
                      obtain ⟨t373, A32, H⟩ := bindE H
                      try dsimp only at H
                      obtain ⟨ji33, hji33⟩ : ∃ j_ : Int, (mx x7_3 t373) = j_ := ⟨_, rfl⟩
                      replace H : (impl_ClearBetween.l1 k3 l0 l1 l2 ji33 (rd t359 x28_2) t359 (t359.length : Int) x28_2 t363 (t363.length : Int) (wrap64 (x36_3 + 1))) = some r := by first | (rw [hji33] at H; exact H) | (simp only [hji33] at H ⊢; exact H)
                      (try rw [hji33] at A24)
                      (try rw [hji33] at A27)
                      (try rw [hji33] at A30)
                      (try rw [hji33] at A32)
                      have hji33_ : (if x7_3 < t373 then t373 else x7_3) = ji33 := hji33
                      have H' := Aside0.mk H
                      clear H
                      have p366 : 0 ≤ (x36_3 : Int) := dA
                      have q366 : x36_3 < (t363.length : Int) := dA
                      obtain ⟨ad366, e366, hx366_0⟩ := Kd.at_int (Kd.R_reads' HO_34.out).2.2 x36_3 p366 q366
                      cases e366
                      replace p366 := eq_true p366
                      replace q366 := eq_true q366
                      try go_wp2_with (first | ((with_reducible refine gate_callee (f := 70) rfl ?_); refine gL (some 43) Try.func70 #[.slice A0 l0.length c0, .int .i64 (rd t359 x28_2)] ?_; (with_reducible refine (impl_FindPath.calls _ _ l0 (rd t359 x28_2) t367 _ ?side1 ?side2 A24.out).mono ?_); (case side1 => exact cB HR0); (case side2 => exact HC0.out); rintro e w34 ⟨rfl, hb⟩; refine ⟨_, rfl, ?_⟩; replace HO_26 := Aside0.mk (Kd.R_below (rK HO_26) hb); replace HO_34 := Aside0.mk (Kd.R_below (rK HO_34) hb); replace HB := Aside0.mk (below_step bA hb); (try clear hb); (try clear hb2); (try clear hk); (try clear hi); have p368 : 0 ≤ (t367 : Int) := dA; have q368 : t367 < (l0.length : Int) := dA; obtain ⟨ad368, e368, hx368_0, hx368_1, hx368_2, hx368_3⟩ := at_T58 HR0.out t367 p368 q368; cases e368; replace hx368_0 := hC HB hx368_0; replace hx368_1 := hC HB hx368_1; replace hx368_2 := hC HB hx368_2; replace hx368_3 := hC HB hx368_3; replace p368 := eq_true p368; replace q368 := eq_true q368) | ((with_reducible refine gate_dst (N := 12) rfl ?_); refine bE (N := 12) (cs := #[.int .i64 0, .int .i64 0, .int .i64 0, .int .i64 0]) (t := 58) ?_; intro gb369 hg w35 hbox hb; have n0_ := Aside0.mk (Kd.R_below (rK HO_26) hb); have n1_ := Aside0.mk (Kd.R_below (rK HO_34) hb); have n2_ := Aside0.mk (below_step bA hb); have n3_ := Aside0.mk (hbox); have n4_ := Aside0.mk ((by rw [hg]; exact (below_size bA) : w.heap.size ≤ gb369)); have n5_ := Aside0.mk ((by rw [hg]; exact (below_size bA) : w.heap.size ≤ gb369)); clear HO_26; clear HO_34; clear HB; have HO_26 := n0_; have HO_34 := n1_; have HB := n2_; have BK369 := n3_; have GW369 := n4_; have GE369 := n5_; clear n0_ n1_ n2_ n3_ n4_ n5_; clear hb hbox hg; obtain ⟨hcz36_0, hcz36_1, hcz36_2, hcz36_3, hfz36_0, hfz36_1, hfz36_2, hfz36_3⟩ := blkc4 BK369))
                      have n0_ : Aside0 (Kd.R (Kd.int .i64) 3 ((((w35.setCell ⟨gb369, 0, none⟩ (.int .i64 ((rd_T58 l0 t367).f0))).setCell ⟨gb369, 1, none⟩ (.int .i64 ((rd_T58 l0 t367).f1))).setCell ⟨gb369, 2, none⟩ (.int .i64 ((rd_T58 l0 t367).f2))).setCell ⟨gb369, 3, none⟩ (.int .i64 ((rd_T58 l0 t367).f3))) w.heap.size (fun k_ => some k_ ≠ (.slice (some ad366) t363.length co20 : Value).ownBlock) (.slice (some ad362) t359.length co14) t359) := ⟨by (with_reducible repeat (first | apply Kd.R_alloc | apply Kd.R_drewN | apply Kd.R_drew)); exact Kd.R_mono (Kd.R_far (p := ⟨gb369, 3, none⟩) (Kd.R_far (p := ⟨gb369, 2, none⟩) (Kd.R_far (p := ⟨gb369, 1, none⟩) (Kd.R_far (p := ⟨gb369, 0, none⟩) (Kd.R_types HO_26.out BK369.out (by decide)) (fun _ hk => hk.2) (.int .i64 ((rd_T58 l0 t367).f0))) (fun _ hk => hk.2) (.int .i64 ((rd_T58 l0 t367).f1))) (fun _ hk => hk.2) (.int .i64 ((rd_T58 l0 t367).f2))) (fun _ hk => hk.2) (.int .i64 ((rd_T58 l0 t367).f3))) (fun _ hk => hk.1)⟩
                      have n1_ : Aside0 (Kd.R (Kd.int .i64) 3 ((((w35.setCell ⟨gb369, 0, none⟩ (.int .i64 ((rd_T58 l0 t367).f0))).setCell ⟨gb369, 1, none⟩ (.int .i64 ((rd_T58 l0 t367).f1))).setCell ⟨gb369, 2, none⟩ (.int .i64 ((rd_T58 l0 t367).f2))).setCell ⟨gb369, 3, none⟩ (.int .i64 ((rd_T58 l0 t367).f3))) w.heap.size (fun k_ => some k_ ≠ (.slice (some ad362) t359.length co14 : Value).ownBlock) (.slice (some ad366) t363.length co20) t363) := ⟨by (with_reducible repeat (first | apply Kd.R_alloc | apply Kd.R_drewN | apply Kd.R_drew)); exact Kd.R_mono (Kd.R_far (p := ⟨gb369, 3, none⟩) (Kd.R_far (p := ⟨gb369, 2, none⟩) (Kd.R_far (p := ⟨gb369, 1, none⟩) (Kd.R_far (p := ⟨gb369, 0, none⟩) (Kd.R_types HO_34.out BK369.out (by decide)) (fun _ hk => hk.2) (.int .i64 ((rd_T58 l0 t367).f0))) (fun _ hk => hk.2) (.int .i64 ((rd_T58 l0 t367).f1))) (fun _ hk => hk.2) (.int .i64 ((rd_T58 l0 t367).f2))) (fun _ hk => hk.2) (.int .i64 ((rd_T58 l0 t367).f3))) (fun _ hk => hk.1)⟩
                      have n2_ : Aside0 (((((w35.setCell ⟨gb369, 0, none⟩ (.int .i64 ((rd_T58 l0 t367).f0))).setCell ⟨gb369, 1, none⟩ (.int .i64 ((rd_T58 l0 t367).f1))).setCell ⟨gb369, 2, none⟩ (.int .i64 ((rd_T58 l0 t367).f2))).setCell ⟨gb369, 3, none⟩ (.int .i64 ((rd_T58 l0 t367).f3))).heap[gb369]? = some (.cells #[.int .i64 ((rd_T58 l0 t367).f0), .int .i64 ((rd_T58 l0 t367).f1), .int .i64 ((rd_T58 l0 t367).f2), .int .i64 ((rd_T58 l0 t367).f3)] 58 (0, 0))) := ⟨by (with_reducible repeat (first | refine blk_drewN ?_ _ | refine blk_drew ?_ | refine blk_alloc ?_ _)); refine blk_put (cs := #[.int .i64 ((rd_T58 l0 t367).f0), .int .i64 ((rd_T58 l0 t367).f1), .int .i64 ((rd_T58 l0 t367).f2), .int .i64 0]) ?_ 3 _ rfl; (with_reducible repeat (first | refine blk_drewN ?_ _ | refine blk_drew ?_ | refine blk_alloc ?_ _)); refine blk_put (cs := #[.int .i64 ((rd_T58 l0 t367).f0), .int .i64 ((rd_T58 l0 t367).f1), .int .i64 0, .int .i64 0]) ?_ 2 _ rfl; (with_reducible repeat (first | refine blk_drewN ?_ _ | refine blk_drew ?_ | refine blk_alloc ?_ _)); refine blk_put (cs := #[.int .i64 ((rd_T58 l0 t367).f0), .int .i64 0, .int .i64 0, .int .i64 0]) ?_ 1 _ rfl; (with_reducible repeat (first | refine blk_drewN ?_ _ | refine blk_drew ?_ | refine blk_alloc ?_ _)); refine blk_put (cs := #[.int .i64 0, .int .i64 0, .int .i64 0, .int .i64 0]) ?_ 0 _ rfl; (with_reducible repeat (first | refine blk_drewN ?_ _ | refine blk_drew ?_ | refine blk_alloc ?_ _)); exact BK369.out⟩
                      have n3_ : Aside0 (Below w.heap.size w ((((w35.setCell ⟨gb369, 0, none⟩ (.int .i64 ((rd_T58 l0 t367).f0))).setCell ⟨gb369, 1, none⟩ (.int .i64 ((rd_T58 l0 t367).f1))).setCell ⟨gb369, 2, none⟩ (.int .i64 ((rd_T58 l0 t367).f2))).setCell ⟨gb369, 3, none⟩ (.int .i64 ((rd_T58 l0 t367).f3)))) := ⟨bG⟩
                      (try clear HO_26)
                      (try clear HO_34)
                      (try clear BK369)
                      (try clear HB)
                      generalize ((((w35.setCell ⟨gb369, 0, none⟩ (.int .i64 ((rd_T58 l0 t367).f0))).setCell ⟨gb369, 1, none⟩ (.int .i64 ((rd_T58 l0 t367).f1))).setCell ⟨gb369, 2, none⟩ (.int .i64 ((rd_T58 l0 t367).f2))).setCell ⟨gb369, 3, none⟩ (.int .i64 ((rd_T58 l0 t367).f3))) = w37 at n0_ n1_ n2_ n3_ ⊢
                      have HO_26 := n0_
                      have HO_34 := n1_
                      have BK369 := n2_
                      have HB := n3_
                      clear n0_ n1_ n2_ n3_
                      replace HO_26 := Aside0.mk (Kd.R_drew HO_26.out)
                      replace HO_34 := Aside0.mk (Kd.R_drew HO_34.out)
                      replace BK369 := Aside0.mk (blk_drew BK369.out)
                      have HBo := HB
                      replace HB := Aside0.mk (below_drew1 HB.out)
                      have p371 : 0 ≤ (t370 : Int) := dA
                      have q371 : t370 < (l0.length : Int) := dA
                      obtain ⟨ad371, e371, hx371_0, hx371_1, hx371_2, hx371_3⟩ := at_T58 HR0.out t370 p371 q371
                      have hw371_3 := hx371_3
                      have hw371_2 := hx371_2
                      have hw371_1 := hx371_1
                      have hw371_0 := hx371_0
                      obtain rfl : ad368 = ad371 := (by injection e371)
                      replace hx371_0 := hC HB hx371_0
                      replace hx371_1 := hC HB hx371_1
                      replace hx371_2 := hC HB hx371_2
                      replace hx371_3 := hC HB hx371_3
                      replace p371 := eq_true p371
                      replace q371 := eq_true q371
                      refine start_ (n := 8) (S := fun w' => w'.cell? ⟨gb369, 0, none⟩ = some (.int .i64 ((rd_T58 l0 t367).f0)) ∧ w'.cell? ⟨gb369, 1, none⟩ = some (.int .i64 ((rd_T58 l0 t367).f1)) ∧ w'.cell? ⟨gb369, 2, none⟩ = some (.int .i64 ((rd_T58 l0 t367).f2)) ∧ w'.cell? ⟨gb369, 3, none⟩ = some (.int .i64 ((rd_T58 l0 t367).f3)) ∧ w'.cell? (ad368.add ((t370).toNat * 4)) = some (.int .i64 ((rd_T58 l0 t370).f0)) ∧ w'.cell? ⟨(ad368.add ((t370).toNat * 4)).block, (ad368.add ((t370).toNat * 4)).off + 1, none⟩ = some (.int .i64 ((rd_T58 l0 t370).f1)) ∧ w'.cell? ⟨(ad368.add ((t370).toNat * 4)).block, (ad368.add ((t370).toNat * 4)).off + 2, none⟩ = some (.int .i64 ((rd_T58 l0 t370).f2)) ∧ w'.cell? ⟨(ad368.add ((t370).toNat * 4)).block, (ad368.add ((t370).toNat * 4)).off + 3, none⟩ = some (.int .i64 ((rd_T58 l0 t370).f3))) (ds := []) (mb 8 0) (by kernel_rfl) rfl rfl ⟨(blk_cell BK369.out 0).trans rfl, (blk_cell BK369.out 1).trans rfl, (blk_cell BK369.out 2).trans rfl, (blk_cell BK369.out 3).trans rfl, (hC HB hw371_0), (hC HB hw371_1), (hC HB hw371_2), (hC HB hw371_3)⟩ (fun hHeld => ?_); refine with_tabW impl_ClearBetween.tab11 impl_ClearBetween.bits11 (fun HT_ HW_ => ?_)
                      generalize w37.drew = w38 at HO_26 HO_34 BK369 HB hx371_0 hx371_1 hx371_2 hx371_3 hHeld ⊢
                      refine pA (i := 1) (N := some 47) (mb 8 2) HT_ ?_
                      refine pA (i := 2) (N := some 48) (mb 8 6) HT_ ?_
                      refine pA (i := 3) (N := some 49) (mb 8 14) HT_ ?_
                      refine tA8 (i := 0) (N := some 46) (mb 8 15) HT_ HW_ hHeld ?_
                      refine oA (i := 4) (N := some 50) (mb 8 31) HT_ (fun K hK => ?_)
                      refine gA Try.func70 #[.slice (some ad368) l0.length c0, .int .i64 (rd t363 x36_3)] ?_
                      with_reducible refine (impl_FindPath.calls _ _ l0 (rd t363 x36_3) t370 _ ?side1 ?side2 A27.out).mono ?_
                      (case side1 => exact cB HR0)
                      (case side2 => exact HC0.out)
                      rintro e w39 ⟨rfl, hb⟩
                      refine ⟨_, rfl, ?_⟩
                      replace HO_26 := Aside0.mk (Kd.R_below (rK HO_26) hb)
                      replace HO_34 := Aside0.mk (Kd.R_below (rK HO_34) hb)
                      replace BK369 := Aside0.mk (blk_below (g := gb369) (bK BK369) hb)
                      replace HB := Aside0.mk (below_step bG hb)
                      (try clear hb)
                      (try clear hb2)
                      (try clear hk)
                      (try clear hi)
                      refine hK.out _ _ ⟨(blk_cell BK369.out 0).trans rfl, (blk_cell BK369.out 1).trans rfl, (blk_cell BK369.out 2).trans rfl, (blk_cell BK369.out 3).trans rfl, (hC HB hw371_0), (hC HB hw371_1), (hC HB hw371_2), (hC HB hw371_3)⟩ (fun hHeld => ?_)
                      clear hK K
                      refine nA ?_
                      refine pA (i := 5) (N := some 51) (mb 8 63) HT_ ?_
                      refine tA8 (i := 6) (N := some 52) (mb 8 127) HT_ HW_ hHeld ?_
                      refine oA (i := 7) (N := some 53) (mb 8 255) HT_ (fun K hK => ?_)
                      refine gA Try.func81 #[.agg #[.int .i64 ((rd_T58 l0 t367).f0), .int .i64 ((rd_T58 l0 t367).f1), .int .i64 ((rd_T58 l0 t367).f2), .int .i64 ((rd_T58 l0 t367).f3)], .agg #[.int .i64 ((rd_T58 l0 t370).f0), .int .i64 ((rd_T58 l0 t370).f1), .int .i64 ((rd_T58 l0 t370).f2), .int .i64 ((rd_T58 l0 t370).f3)]] ?_
                      with_reducible refine (impl_Conflict.calls k3 ((rd_T58 l0 t367).f0) ((rd_T58 l0 t367).f1) ((rd_T58 l0 t367).f2) ((rd_T58 l0 t367).f3) ((rd_T58 l0 t370).f0) ((rd_T58 l0 t370).f1) ((rd_T58 l0 t370).f2) ((rd_T58 l0 t370).f3) true _ A30.out).mono ?_
                      rintro e w40 ⟨rfl, hb⟩
                      refine ⟨_, rfl, ?_⟩
                      replace HO_26 := Aside0.mk (Kd.R_below (rK HO_26) hb)
                      replace HO_34 := Aside0.mk (Kd.R_below (rK HO_34) hb)
                      replace BK369 := Aside0.mk (blk_below (g := gb369) (bK BK369) hb)
                      replace HB := Aside0.mk (below_step bG hb)
                      (try clear hb)
                      (try clear hb2)
                      (try clear hk)
                      (try clear hi)
                      refine hK.out _ _ ⟨(blk_cell BK369.out 0).trans rfl, (blk_cell BK369.out 1).trans rfl, (blk_cell BK369.out 2).trans rfl, (blk_cell BK369.out 3).trans rfl, (hC HB hw371_0), (hC HB hw371_1), (hC HB hw371_2), (hC HB hw371_3)⟩ (fun hHeld => ?_)
                      clear hK K
                      refine nA ?_
                      refine eA HT_ ?_
                      obtain ⟨hcz41_0, hcz41_1, hcz41_2, hcz41_3, hfz41_0, hfz41_1, hfz41_2, hfz41_3⟩ := blkc4 BK369
                      try go_wp2_with (first | ((with_reducible refine gate_callee (f := 90) rfl ?_); refine gL (some 56) Try.func90 #[.agg #[.int .i64 ((rd_T58 l0 t367).f0), .int .i64 ((rd_T58 l0 t367).f1), .int .i64 ((rd_T58 l0 t367).f2), .int .i64 ((rd_T58 l0 t367).f3)]] ?_; (with_reducible refine (impl_ClearOf.calls ((rd_T58 l0 t367).f0) ((rd_T58 l0 t367).f1) ((rd_T58 l0 t367).f2) ((rd_T58 l0 t367).f3) t373 _ A32.out).mono ?_); rintro e w42 ⟨rfl, hb⟩; refine ⟨_, rfl, ?_⟩; replace HO_26 := Aside0.mk (Kd.R_below (rK HO_26) hb); replace HO_34 := Aside0.mk (Kd.R_below (rK HO_34) hb); replace BK369 := Aside0.mk (blk_below (g := gb369) (bK BK369) hb); replace HB := Aside0.mk (below_step bG hb); (try clear hb); (try clear hb2); (try clear hk); (try clear hi)))
                      go_roundg k3
                      case measure => have := HJ3.out; have := HK2.out; have := HK3.out; omega
                      case rel => exact ⟨(ji33), (wrap64 (x36_3 + 1)), (by first | rfl | (simp; done) | (simp only [← hji33] <;> (first | rfl | simp)) | (simp [*]; done)), rS, H', ⟨by have := HJ3.out; have := HK2.out; have := HK3.out; omega⟩, ⟨rK HO_26⟩, ⟨rK HO_34⟩, ⟨bG⟩⟩
                    · replace c31 := Bool.eq_false_iff.mpr c31
                      subst c31
                      have H1 : (impl_ClearBetween.l1 k3 l0 l1 l2 x7_3 (rd t359 x28_2) t359 (t359.length : Int) x28_2 t363 (t363.length : Int) (wrap64 (x36_3 + 1))) = some r := by rw [if_neg (show ¬ (false = true) by decide)] at H; exact H
                      clear H
                      have H := H1
                      clear H1
                      have H' := Aside0.mk H
                      clear H
                      have p366 : 0 ≤ (x36_3 : Int) := dA
                      have q366 : x36_3 < (t363.length : Int) := dA
                      obtain ⟨ad366, e366, hx366_0⟩ := Kd.at_int (Kd.R_reads' HO_34.out).2.2 x36_3 p366 q366
                      cases e366
                      replace p366 := eq_true p366
                      replace q366 := eq_true q366
                      try go_wp2_with (first | ((with_reducible refine gate_callee (f := 70) rfl ?_); refine gL (some 43) Try.func70 #[.slice A0 l0.length c0, .int .i64 (rd t359 x28_2)] ?_; (with_reducible refine (impl_FindPath.calls _ _ l0 (rd t359 x28_2) t367 _ ?side1 ?side2 A24.out).mono ?_); (case side1 => exact cB HR0); (case side2 => exact HC0.out); rintro e w43 ⟨rfl, hb⟩; refine ⟨_, rfl, ?_⟩; replace HO_26 := Aside0.mk (Kd.R_below (rK HO_26) hb); replace HO_34 := Aside0.mk (Kd.R_below (rK HO_34) hb); replace HB := Aside0.mk (below_step bA hb); (try clear hb); (try clear hb2); (try clear hk); (try clear hi); have p368 : 0 ≤ (t367 : Int) := dA; have q368 : t367 < (l0.length : Int) := dA; obtain ⟨ad368, e368, hx368_0, hx368_1, hx368_2, hx368_3⟩ := at_T58 HR0.out t367 p368 q368; cases e368; replace hx368_0 := hC HB hx368_0; replace hx368_1 := hC HB hx368_1; replace hx368_2 := hC HB hx368_2; replace hx368_3 := hC HB hx368_3; replace p368 := eq_true p368; replace q368 := eq_true q368) | ((with_reducible refine gate_dst (N := 12) rfl ?_); refine bE (N := 12) (cs := #[.int .i64 0, .int .i64 0, .int .i64 0, .int .i64 0]) (t := 58) ?_; intro gb369 hg w44 hbox hb; have n0_ := Aside0.mk (Kd.R_below (rK HO_26) hb); have n1_ := Aside0.mk (Kd.R_below (rK HO_34) hb); have n2_ := Aside0.mk (below_step bA hb); have n3_ := Aside0.mk (hbox); have n4_ := Aside0.mk ((by rw [hg]; exact (below_size bA) : w.heap.size ≤ gb369)); have n5_ := Aside0.mk ((by rw [hg]; exact (below_size bA) : w.heap.size ≤ gb369)); clear HO_26; clear HO_34; clear HB; have HO_26 := n0_; have HO_34 := n1_; have HB := n2_; have BK369 := n3_; have GW369 := n4_; have GE369 := n5_; clear n0_ n1_ n2_ n3_ n4_ n5_; clear hb hbox hg; obtain ⟨hcz45_0, hcz45_1, hcz45_2, hcz45_3, hfz45_0, hfz45_1, hfz45_2, hfz45_3⟩ := blkc4 BK369))
                      have n0_ : Aside0 (Kd.R (Kd.int .i64) 3 ((((w44.setCell ⟨gb369, 0, none⟩ (.int .i64 ((rd_T58 l0 t367).f0))).setCell ⟨gb369, 1, none⟩ (.int .i64 ((rd_T58 l0 t367).f1))).setCell ⟨gb369, 2, none⟩ (.int .i64 ((rd_T58 l0 t367).f2))).setCell ⟨gb369, 3, none⟩ (.int .i64 ((rd_T58 l0 t367).f3))) w.heap.size (fun k_ => some k_ ≠ (.slice (some ad366) t363.length co20 : Value).ownBlock) (.slice (some ad362) t359.length co14) t359) := ⟨by (with_reducible repeat (first | apply Kd.R_alloc | apply Kd.R_drewN | apply Kd.R_drew)); exact Kd.R_mono (Kd.R_far (p := ⟨gb369, 3, none⟩) (Kd.R_far (p := ⟨gb369, 2, none⟩) (Kd.R_far (p := ⟨gb369, 1, none⟩) (Kd.R_far (p := ⟨gb369, 0, none⟩) (Kd.R_types HO_26.out BK369.out (by decide)) (fun _ hk => hk.2) (.int .i64 ((rd_T58 l0 t367).f0))) (fun _ hk => hk.2) (.int .i64 ((rd_T58 l0 t367).f1))) (fun _ hk => hk.2) (.int .i64 ((rd_T58 l0 t367).f2))) (fun _ hk => hk.2) (.int .i64 ((rd_T58 l0 t367).f3))) (fun _ hk => hk.1)⟩
                      have n1_ : Aside0 (Kd.R (Kd.int .i64) 3 ((((w44.setCell ⟨gb369, 0, none⟩ (.int .i64 ((rd_T58 l0 t367).f0))).setCell ⟨gb369, 1, none⟩ (.int .i64 ((rd_T58 l0 t367).f1))).setCell ⟨gb369, 2, none⟩ (.int .i64 ((rd_T58 l0 t367).f2))).setCell ⟨gb369, 3, none⟩ (.int .i64 ((rd_T58 l0 t367).f3))) w.heap.size (fun k_ => some k_ ≠ (.slice (some ad362) t359.length co14 : Value).ownBlock) (.slice (some ad366) t363.length co20) t363) := ⟨by (with_reducible repeat (first | apply Kd.R_alloc | apply Kd.R_drewN | apply Kd.R_drew)); exact Kd.R_mono (Kd.R_far (p := ⟨gb369, 3, none⟩) (Kd.R_far (p := ⟨gb369, 2, none⟩) (Kd.R_far (p := ⟨gb369, 1, none⟩) (Kd.R_far (p := ⟨gb369, 0, none⟩) (Kd.R_types HO_34.out BK369.out (by decide)) (fun _ hk => hk.2) (.int .i64 ((rd_T58 l0 t367).f0))) (fun _ hk => hk.2) (.int .i64 ((rd_T58 l0 t367).f1))) (fun _ hk => hk.2) (.int .i64 ((rd_T58 l0 t367).f2))) (fun _ hk => hk.2) (.int .i64 ((rd_T58 l0 t367).f3))) (fun _ hk => hk.1)⟩
                      have n2_ : Aside0 (((((w44.setCell ⟨gb369, 0, none⟩ (.int .i64 ((rd_T58 l0 t367).f0))).setCell ⟨gb369, 1, none⟩ (.int .i64 ((rd_T58 l0 t367).f1))).setCell ⟨gb369, 2, none⟩ (.int .i64 ((rd_T58 l0 t367).f2))).setCell ⟨gb369, 3, none⟩ (.int .i64 ((rd_T58 l0 t367).f3))).heap[gb369]? = some (.cells #[.int .i64 ((rd_T58 l0 t367).f0), .int .i64 ((rd_T58 l0 t367).f1), .int .i64 ((rd_T58 l0 t367).f2), .int .i64 ((rd_T58 l0 t367).f3)] 58 (0, 0))) := ⟨by (with_reducible repeat (first | refine blk_drewN ?_ _ | refine blk_drew ?_ | refine blk_alloc ?_ _)); refine blk_put (cs := #[.int .i64 ((rd_T58 l0 t367).f0), .int .i64 ((rd_T58 l0 t367).f1), .int .i64 ((rd_T58 l0 t367).f2), .int .i64 0]) ?_ 3 _ rfl; (with_reducible repeat (first | refine blk_drewN ?_ _ | refine blk_drew ?_ | refine blk_alloc ?_ _)); refine blk_put (cs := #[.int .i64 ((rd_T58 l0 t367).f0), .int .i64 ((rd_T58 l0 t367).f1), .int .i64 0, .int .i64 0]) ?_ 2 _ rfl; (with_reducible repeat (first | refine blk_drewN ?_ _ | refine blk_drew ?_ | refine blk_alloc ?_ _)); refine blk_put (cs := #[.int .i64 ((rd_T58 l0 t367).f0), .int .i64 0, .int .i64 0, .int .i64 0]) ?_ 1 _ rfl; (with_reducible repeat (first | refine blk_drewN ?_ _ | refine blk_drew ?_ | refine blk_alloc ?_ _)); refine blk_put (cs := #[.int .i64 0, .int .i64 0, .int .i64 0, .int .i64 0]) ?_ 0 _ rfl; (with_reducible repeat (first | refine blk_drewN ?_ _ | refine blk_drew ?_ | refine blk_alloc ?_ _)); exact BK369.out⟩
                      have n3_ : Aside0 (Below w.heap.size w ((((w44.setCell ⟨gb369, 0, none⟩ (.int .i64 ((rd_T58 l0 t367).f0))).setCell ⟨gb369, 1, none⟩ (.int .i64 ((rd_T58 l0 t367).f1))).setCell ⟨gb369, 2, none⟩ (.int .i64 ((rd_T58 l0 t367).f2))).setCell ⟨gb369, 3, none⟩ (.int .i64 ((rd_T58 l0 t367).f3)))) := ⟨bG⟩
                      (try clear HO_26)
                      (try clear HO_34)
                      (try clear BK369)
                      (try clear HB)
                      generalize ((((w44.setCell ⟨gb369, 0, none⟩ (.int .i64 ((rd_T58 l0 t367).f0))).setCell ⟨gb369, 1, none⟩ (.int .i64 ((rd_T58 l0 t367).f1))).setCell ⟨gb369, 2, none⟩ (.int .i64 ((rd_T58 l0 t367).f2))).setCell ⟨gb369, 3, none⟩ (.int .i64 ((rd_T58 l0 t367).f3))) = w46 at n0_ n1_ n2_ n3_ ⊢
                      have HO_26 := n0_
                      have HO_34 := n1_
                      have BK369 := n2_
                      have HB := n3_
                      clear n0_ n1_ n2_ n3_
                      replace HO_26 := Aside0.mk (Kd.R_drew HO_26.out)
                      replace HO_34 := Aside0.mk (Kd.R_drew HO_34.out)
                      replace BK369 := Aside0.mk (blk_drew BK369.out)
                      have HBo := HB
                      replace HB := Aside0.mk (below_drew1 HB.out)
                      have p371 : 0 ≤ (t370 : Int) := dA
                      have q371 : t370 < (l0.length : Int) := dA
                      obtain ⟨ad371, e371, hx371_0, hx371_1, hx371_2, hx371_3⟩ := at_T58 HR0.out t370 p371 q371
                      have hw371_3 := hx371_3
                      have hw371_2 := hx371_2
                      have hw371_1 := hx371_1
                      have hw371_0 := hx371_0
                      obtain rfl : ad368 = ad371 := (by injection e371)
                      replace hx371_0 := hC HB hx371_0
                      replace hx371_1 := hC HB hx371_1
                      replace hx371_2 := hC HB hx371_2
                      replace hx371_3 := hC HB hx371_3
                      replace p371 := eq_true p371
                      replace q371 := eq_true q371
                      refine start_ (n := 8) (S := fun w' => w'.cell? ⟨gb369, 0, none⟩ = some (.int .i64 ((rd_T58 l0 t367).f0)) ∧ w'.cell? ⟨gb369, 1, none⟩ = some (.int .i64 ((rd_T58 l0 t367).f1)) ∧ w'.cell? ⟨gb369, 2, none⟩ = some (.int .i64 ((rd_T58 l0 t367).f2)) ∧ w'.cell? ⟨gb369, 3, none⟩ = some (.int .i64 ((rd_T58 l0 t367).f3)) ∧ w'.cell? (ad368.add ((t370).toNat * 4)) = some (.int .i64 ((rd_T58 l0 t370).f0)) ∧ w'.cell? ⟨(ad368.add ((t370).toNat * 4)).block, (ad368.add ((t370).toNat * 4)).off + 1, none⟩ = some (.int .i64 ((rd_T58 l0 t370).f1)) ∧ w'.cell? ⟨(ad368.add ((t370).toNat * 4)).block, (ad368.add ((t370).toNat * 4)).off + 2, none⟩ = some (.int .i64 ((rd_T58 l0 t370).f2)) ∧ w'.cell? ⟨(ad368.add ((t370).toNat * 4)).block, (ad368.add ((t370).toNat * 4)).off + 3, none⟩ = some (.int .i64 ((rd_T58 l0 t370).f3))) (ds := []) (mb 8 0) (by kernel_rfl) rfl rfl ⟨(blk_cell BK369.out 0).trans rfl, (blk_cell BK369.out 1).trans rfl, (blk_cell BK369.out 2).trans rfl, (blk_cell BK369.out 3).trans rfl, (hC HB hw371_0), (hC HB hw371_1), (hC HB hw371_2), (hC HB hw371_3)⟩ (fun hHeld => ?_); refine with_tabW impl_ClearBetween.tab11 impl_ClearBetween.bits11 (fun HT_ HW_ => ?_)
                      generalize w46.drew = w47 at HO_26 HO_34 BK369 HB hx371_0 hx371_1 hx371_2 hx371_3 hHeld ⊢
                      refine pA (i := 1) (N := some 47) (mb 8 2) HT_ ?_
                      refine pA (i := 2) (N := some 48) (mb 8 6) HT_ ?_
                      refine pA (i := 3) (N := some 49) (mb 8 14) HT_ ?_
                      refine tA8 (i := 0) (N := some 46) (mb 8 15) HT_ HW_ hHeld ?_
                      refine oA (i := 4) (N := some 50) (mb 8 31) HT_ (fun K hK => ?_)
                      refine gA Try.func70 #[.slice (some ad368) l0.length c0, .int .i64 (rd t363 x36_3)] ?_
                      with_reducible refine (impl_FindPath.calls _ _ l0 (rd t363 x36_3) t370 _ ?side1 ?side2 A27.out).mono ?_
                      (case side1 => exact cB HR0)
                      (case side2 => exact HC0.out)
                      rintro e w48 ⟨rfl, hb⟩
                      refine ⟨_, rfl, ?_⟩
                      replace HO_26 := Aside0.mk (Kd.R_below (rK HO_26) hb)
                      replace HO_34 := Aside0.mk (Kd.R_below (rK HO_34) hb)
                      replace BK369 := Aside0.mk (blk_below (g := gb369) (bK BK369) hb)
                      replace HB := Aside0.mk (below_step bG hb)
                      (try clear hb)
                      (try clear hb2)
                      (try clear hk)
                      (try clear hi)
                      refine hK.out _ _ ⟨(blk_cell BK369.out 0).trans rfl, (blk_cell BK369.out 1).trans rfl, (blk_cell BK369.out 2).trans rfl, (blk_cell BK369.out 3).trans rfl, (hC HB hw371_0), (hC HB hw371_1), (hC HB hw371_2), (hC HB hw371_3)⟩ (fun hHeld => ?_)
                      clear hK K
                      refine nA ?_
                      refine pA (i := 5) (N := some 51) (mb 8 63) HT_ ?_
                      refine tA8 (i := 6) (N := some 52) (mb 8 127) HT_ HW_ hHeld ?_
                      refine oA (i := 7) (N := some 53) (mb 8 255) HT_ (fun K hK => ?_)
                      refine gA Try.func81 #[.agg #[.int .i64 ((rd_T58 l0 t367).f0), .int .i64 ((rd_T58 l0 t367).f1), .int .i64 ((rd_T58 l0 t367).f2), .int .i64 ((rd_T58 l0 t367).f3)], .agg #[.int .i64 ((rd_T58 l0 t370).f0), .int .i64 ((rd_T58 l0 t370).f1), .int .i64 ((rd_T58 l0 t370).f2), .int .i64 ((rd_T58 l0 t370).f3)]] ?_
                      with_reducible refine (impl_Conflict.calls k3 ((rd_T58 l0 t367).f0) ((rd_T58 l0 t367).f1) ((rd_T58 l0 t367).f2) ((rd_T58 l0 t367).f3) ((rd_T58 l0 t370).f0) ((rd_T58 l0 t370).f1) ((rd_T58 l0 t370).f2) ((rd_T58 l0 t370).f3) false _ A30.out).mono ?_
                      rintro e w49 ⟨rfl, hb⟩
                      refine ⟨_, rfl, ?_⟩
                      replace HO_26 := Aside0.mk (Kd.R_below (rK HO_26) hb)
                      replace HO_34 := Aside0.mk (Kd.R_below (rK HO_34) hb)
                      replace BK369 := Aside0.mk (blk_below (g := gb369) (bK BK369) hb)
                      replace HB := Aside0.mk (below_step bG hb)
                      (try clear hb)
                      (try clear hb2)
                      (try clear hk)
                      (try clear hi)
                      refine hK.out _ _ ⟨(blk_cell BK369.out 0).trans rfl, (blk_cell BK369.out 1).trans rfl, (blk_cell BK369.out 2).trans rfl, (blk_cell BK369.out 3).trans rfl, (hC HB hw371_0), (hC HB hw371_1), (hC HB hw371_2), (hC HB hw371_3)⟩ (fun hHeld => ?_)
                      clear hK K
                      refine nA ?_
                      refine eA HT_ ?_
                      try go_wp2
                      go_roundg k3
                      case measure => have := HJ3.out; have := HK2.out; have := HK3.out; omega
                      case rel => exact ⟨(x7_3), (wrap64 (x36_3 + 1)), rS, rS, H', ⟨by have := HJ3.out; have := HK2.out; have := HK3.out; omega⟩, ⟨rK HO_26⟩, ⟨rK HO_34⟩, ⟨bG⟩⟩
                  · rw [if_neg c21] at H
                    have c21b0 : decide (x36_3 < (t363.length : Int)) = false := decide_eq_false c21
                    clear c21
                    have H' := Aside0.mk H
                    clear H
                    go_wp2
                    go_roundg k3
                    case measure => have := HJ3.out; have := HK2.out; have := HK3.out; omega
                    case rel => exact ⟨(x7_3), (wrap64 (x28_2 + 1)), rS, rS, H', ⟨by have := HJ3.out; have := HK2.out; have := HK3.out; omega⟩, ⟨by (with_reducible repeat (first | apply Kd.R_alloc | apply Kd.R_drewN | apply Kd.R_drew)); exact Kd.R_mono HO_26.out (fun _ hk => trivial)⟩, ⟨bA⟩⟩
            · rw [if_neg c15] at H
              have c15b0 : decide (x28_2 < (t359.length : Int)) = false := decide_eq_false c15
              clear c15
              obtain rfl := Option.some.inj H
              go_wp2
              go_ret
              exact ⟨rA, bA⟩

end Go.Proofs.Ytbpnbflfpgakmaa.P
