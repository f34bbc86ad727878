/- Printed by myprint.py (wip/tools) over the kit's print: what Go's functions compute, and that they do. Lean checks it. -/
import Derived.Test.YtimmadeghcghoaaF0
import Derived.Test.YtimmadeghcghoaaFS01
import Derived.Test.YtimmadeghcghoaaFS05
import Derived.Test.YtimmadeghcghoaaFS06
import Derived.Test.YtimmadeghcghoaaFS07
import Derived.Test.YtimmadeghcghoaaFS08
namespace Go.Proofs.Ytimmadeghcghoaa.P
open Go.RowKit Go.Proofs.YtimmadeghcghoaaW.PrintWords Go.Proofs.YtimmadeghcghoaaW.PrintLast Go.Proofs.YtimmadeghcghoaaW.PrintMore Go.Proofs.Ytimmadeghcghoaa.Sq
attribute [local go_sem] max2_int min2_int max_two min_two max_three min_three max_four min_four
set_option linter.unusedVariables false
set_option linter.unusedSimpArgs false

/-! ### spec_IsControl: function 55 -/
def spec_IsControl.j0 : Nat → List (S90) → Bool → List Int → Int → List Int → Int → Option (Bool)
  | 0, _, _, _, _, _, _ => none
  | k + 1, x0, x28, x724000, x724001, x724002, x724003 => if x28 = true then (some false) else (if (x724002.length : Int) = 0 then (some (x724003 == 0)) else ((spec_ClearBetween.f k x0 x724000 x724002).bind fun t727 => ((spec_l1In.f x724003 1 t727).bind fun t728 => (some t728))))
def spec_IsControl.f (k : Nat) (l0 : List (S90)) (l1_0 : List Int) (a1_1 : Int) (l1_2 : List Int) (a1_3 : Int) : Option (Bool) := if (l1_0.length : Int) = 0 then (spec_IsControl.j0 k l0 true l1_0 a1_1 l1_2 a1_3) else ((spec_IsTogether.f k l0 l1_0).bind fun t724 => (if t724 = true then ((spec_IsTogether.f k l0 l1_2).bind fun t725 => (if t725 = true then ((spec_l1In.f a1_1 0 1000000).bind fun t726 => (spec_IsControl.j0 k l0 (!t726) l1_0 a1_1 l1_2 a1_3)) else (spec_IsControl.j0 k l0 true l1_0 a1_1 l1_2 a1_3))) else (spec_IsControl.j0 k l0 true l1_0 a1_1 l1_2 a1_3)))
theorem spec_IsControl.mono_l : ∀ k, (∀ y0 y1 y2 y3 y4 y5, LeO (spec_IsControl.j0 k y0 y1 y2 y3 y4 y5) (spec_IsControl.j0 (k + 1) y0 y1 y2 y3 y4 y5))
  | 0 => fun _ _ _ _ _ _ r h => by simp [spec_IsControl.j0] at h
  | k + 1 => by
    have ih0 := spec_IsControl.mono_l k
    · intro y0 y1 y2 y3 y4 y5
      unfold spec_IsControl.j0
      repeat' first | (with_reducible first | exact LeO.refl _ | exact LeO.none _ | refine LeO.ite ?_ ?_ | refine LeO.bind ?_ (fun _ => ?_) | exact ih0 _ _ _ _ _ _ | exact spec_ClearBetween.mono _ _ _ _ | exact spec_IsTogether.mono _ _ _) | exact LeO.none _ | refine LeO.ite ?_ ?_ | refine LeO.bind ?_ (fun _ => ?_) | exact ih0 _ _ _ _ _ _ | exact spec_ClearBetween.mono _ _ _ _ | exact spec_IsTogether.mono _ _ _
theorem spec_IsControl.mono : ∀ a0 a1 a2 a3 a4 k, LeO (spec_IsControl.f k a0 a1 a2 a3 a4) (spec_IsControl.f (k + 1) a0 a1 a2 a3 a4) := by
  intro a0 a1 a2 a3 a4 k
  have ih0 := spec_IsControl.mono_l k
  unfold spec_IsControl.f
  repeat' first | (with_reducible first | exact LeO.refl _ | exact LeO.none _ | refine LeO.ite ?_ ?_ | refine LeO.bind ?_ (fun _ => ?_) | exact ih0 _ _ _ _ _ _ | exact spec_ClearBetween.mono _ _ _ _ | exact spec_IsTogether.mono _ _ _) | exact LeO.none _ | refine LeO.ite ?_ ?_ | refine LeO.bind ?_ (fun _ => ?_) | exact ih0 _ _ _ _ _ _ | exact spec_ClearBetween.mono _ _ _ _ | exact spec_IsTogether.mono _ _ _
def spec_IsControl.T5 : Bool × List (List Nat × List Nat) := (true, [([], []), ([0], [0]), ([], []), ([], []), ([3], [3]), ([], []), ([5], [5]), ([2, 4, 6], [2, 4, 6]), ([1, 7, 7], [1, 7]), ([8, 8, 0, 1, 2, 3, 4, 5, 6, 7, 8], [8])])
def spec_IsControl.B5 : List Nat := [0, 1, 0, 0, 8, 0, 32, 124, 255, 511]
theorem spec_IsControl.tab5 : rtab .any (opsOf Try.f55 5) = spec_IsControl.T5 := by kernel_rfl
theorem spec_IsControl.bits5 : waitsOk spec_IsControl.T5.2 spec_IsControl.B5 = true := by kernel_rfl
set_option maxHeartbeats 8000000 in
set_option maxRecDepth 100000 in
theorem spec_IsControl.calls (k : Nat) (A0 : Option Addr) (c0 : Nat) (l0 : List (S90)) (A1_0 : Option Addr) (c1_0 : Nat) (l1_0 : List Int) (a1_1 : Int) (A1_2 : Option Addr) (c1_2 : Nat) (l1_2 : List Int) (a1_3 : Int) (r : Bool) (w : World) (hr0 : Kd.C k90 w A0 l0.length l0) (hc0 : l0.length ≤ c0) (hr1_0 : Kd.C (Kd.int .i64) w A1_0 l1_0.length l1_0) (hc1_0 : l1_0.length ≤ c1_0) (hr1_2 : Kd.C (Kd.int .i64) w A1_2 l1_2.length l1_2) (hc1_2 : l1_2.length ≤ c1_2) (h : spec_IsControl.f k l0 l1_0 a1_1 l1_2 a1_3 = some r) :
    Calls Try.prog 55 #[.slice A0 l0.length c0, .agg #[.slice A1_0 l1_0.length c1_0, .int .i64 a1_1, .slice A1_2 l1_2.length c1_2, .int .i64 a1_3]] w fun e w' => e = .returned (.bool r) ∧ Below w.heap.size w w' := by
  have hu70 := Try.underlying70
  have HR0 := Aside0.mk hr0
  have HC0 := Aside0.mk hc0
  clear hr0 hc0
  have HR1_0 := Aside0.mk hr1_0
  have HC1_0 := Aside0.mk hc1_0
  clear hr1_0 hc1_0
  have HR1_2 := Aside0.mk hr1_2
  have HC1_2 := Aside0.mk hc1_2
  clear hr1_2 hc1_2
  have HB := Aside0.mk (Below.refl w.heap.size w)
  have H : (if (l1_0.length : Int) = 0 then (spec_IsControl.j0 k l0 true l1_0 a1_1 l1_2 a1_3) else ((spec_IsTogether.f k l0 l1_0).bind fun t724 => (if t724 = true then ((spec_IsTogether.f k l0 l1_2).bind fun t725 => (if t725 = true then ((spec_l1In.f a1_1 0 1000000).bind fun t726 => (spec_IsControl.j0 k l0 (!t726) l1_0 a1_1 l1_2 a1_3)) else (spec_IsControl.j0 k l0 true l1_0 a1_1 l1_2 a1_3))) else (spec_IsControl.j0 k l0 true l1_0 a1_1 l1_2 a1_3)))) = some r := h
  clear h
  have HC3 := Aside0.mk H
  clear H
  go_enter Try.func55, Try.ntmps55
  go_upto_region 1 with (first | ((with_reducible refine gate_dst (N := 3) rfl ?_); refine bE (N := 3) (cs := #[.slice A1_0 l1_0.length c1_0, .int .i64 a1_1, .slice A1_2 l1_2.length c1_2, .int .i64 a1_3]) (t := 70) ?_; intro gb723 hg w4 hbox hb; have n0_ := Aside0.mk (below_step bA hb); have n1_ := Aside0.mk (hbox); have n2_ := Aside0.mk ((by rw [hg]; exact (below_size bA) : w.heap.size ≤ gb723)); have n3_ := Aside0.mk ((by rw [hg]; exact (below_size bA) : w.heap.size ≤ gb723)); clear HB; have HB := n0_; have BK723 := n1_; have GW723 := n2_; have GE723 := n3_; clear n0_ n1_ n2_ n3_; clear hb hbox hg))
  (try simp only [Act.put, List.setIfInBounds_toArray, List.set_cons_zero, List.set_cons_succ])
  go_cut [28] (fun v28 wc => ∃ (kq : Nat) (x28_2 : Bool), v28 = .bool x28_2 ∧ Aside0 (spec_IsControl.j0 kq l0 x28_2 l1_0 a1_1 l1_2 a1_3 = some r) ∧ Aside0 (kq ≤ k) ∧ Aside0 (wc.heap[gb723]? = some (.cells #[(.slice A1_0 l1_0.length c1_0), .int .i64 a1_1, (.slice A1_2 l1_2.length c1_2), .int .i64 a1_3] 70 (0, 0))) ∧ Aside0 (Below w.heap.size w wc))
  case first =>
    have H := HC3.out
    clear HC3
    by_cases c5 : (l1_0.length : Int) = 0
    · rw [if_pos c5] at H
      have c5b0 : ((l1_0.length : Int) == 0) = true := beq_iff_eq.mpr c5
      have c5b1 : ((l1_0.length : Int) != 0) = false := bne_eq_false_iff_eq.mpr c5
      clear c5
      (first | rw [c5b0] | (simp only [i64_w, i32_w]; rw [c5b0]) | skip)
      have H' := Aside0.mk H
      clear H
      obtain ⟨hcz6_0, hcz6_1, hcz6_2, hcz6_3, hfz6_0, hfz6_1, hfz6_2, hfz6_3⟩ := blkc4 BK723
      go_wp2
      go_meet
      case rel => exact ⟨_, (true), rS, H', ⟨by first | omega | exact Nat.le_refl _⟩, ⟨bK BK723⟩, ⟨bG⟩⟩
    · rw [if_neg c5] at H
      have c5b0 : ((l1_0.length : Int) == 0) = false := beq_eq_false_iff_ne.mpr c5
      have c5b1 : ((l1_0.length : Int) != 0) = true := bne_iff_ne.mpr c5
      have c5b2 : ¬ (l1_0 = []) := fun h_ => c5 (by rw [h_]; rfl)
      (first | rw [c5b0] | (simp only [i64_w, i32_w]; rw [c5b0]) | skip)
      obtain ⟨t724, A7, H⟩ := bindE H
      try dsimp only at H
      by_cases c8 : t724 = true
      · subst c8
        have H1 : ((spec_IsTogether.f k l0 l1_2).bind fun t725 => (if t725 = true then ((spec_l1In.f a1_1 0 1000000).bind fun t726 => (spec_IsControl.j0 k l0 (!t726) l1_0 a1_1 l1_2 a1_3)) else (spec_IsControl.j0 k l0 true l1_0 a1_1 l1_2 a1_3))) = some r := by rw [if_pos rfl] at H; exact H
        clear H
        have H := H1
        clear H1
        obtain ⟨t725, A9, H⟩ := bindE H
        try dsimp only at H
        by_cases c10 : t725 = true
        · subst c10
          have H1 : ((spec_l1In.f a1_1 0 1000000).bind fun t726 => (spec_IsControl.j0 k l0 (!t726) l1_0 a1_1 l1_2 a1_3)) = some r := by rw [if_pos rfl] at H; exact H
          clear H
          have H := H1
          clear H1
          obtain ⟨t726, A11, H⟩ := bindE H
          try dsimp only at H
          have H' := Aside0.mk H
          clear H
          obtain ⟨hcz12_0, hcz12_1, hcz12_2, hcz12_3, hfz12_0, hfz12_1, hfz12_2, hfz12_3⟩ := blkc4 BK723
          go_wp2_with (first | (go_at_call 98; (with_reducible refine (spec_IsTogether.calls k _ _ l0 _ _ l1_0 true _ ?side1 ?side2 ?side3 ?side4 A7.out).mono ?_); (case side1 => exact cB HR0); (case side2 => exact HC0.out); (case side3 => exact cB HR1_0); (case side4 => exact HC1_0.out); rintro e w13 ⟨rfl, hb⟩; replace BK723 := Aside0.mk (blk_below (g := gb723) (bK BK723) hb); replace HB := Aside0.mk (below_step bG hb); (try clear hb); (try clear hb2); (try clear hk); (try clear hi); have hcz14_0 : w13.cell? ⟨gb723, 0, none⟩ = some (.slice A1_0 l1_0.length c1_0) := (blk_cell BK723.out 0).trans rfl; have hcz14_1 : w13.cell? ⟨gb723, 1, none⟩ = some (.int .i64 a1_1) := (blk_cell BK723.out 1).trans rfl; have hcz14_2 : w13.cell? ⟨gb723, 2, none⟩ = some (.slice A1_2 l1_2.length c1_2) := (blk_cell BK723.out 2).trans rfl; have hcz14_3 : w13.cell? ⟨gb723, 3, none⟩ = some (.int .i64 a1_3) := (blk_cell BK723.out 3).trans rfl; have hfz14_0 := blk_frozen BK723.out 0; have hfz14_1 := blk_frozen BK723.out 1; have hfz14_2 := blk_frozen BK723.out 2; have hfz14_3 := blk_frozen BK723.out 3) | (go_at_call 98; (with_reducible refine (spec_IsTogether.calls k _ _ l0 _ _ l1_2 true _ ?side1 ?side2 ?side3 ?side4 A9.out).mono ?_); (case side1 => exact cB HR0); (case side2 => exact HC0.out); (case side3 => exact cB HR1_2); (case side4 => exact HC1_2.out); rintro e w15 ⟨rfl, hb⟩; replace BK723 := Aside0.mk (blk_below (g := gb723) (bK BK723) hb); replace HB := Aside0.mk (below_step bG hb); (try clear hb); (try clear hb2); (try clear hk); (try clear hi); have hcz16_0 : w15.cell? ⟨gb723, 0, none⟩ = some (.slice A1_0 l1_0.length c1_0) := (blk_cell BK723.out 0).trans rfl; have hcz16_1 : w15.cell? ⟨gb723, 1, none⟩ = some (.int .i64 a1_1) := (blk_cell BK723.out 1).trans rfl; have hcz16_2 : w15.cell? ⟨gb723, 2, none⟩ = some (.slice A1_2 l1_2.length c1_2) := (blk_cell BK723.out 2).trans rfl; have hcz16_3 : w15.cell? ⟨gb723, 3, none⟩ = some (.int .i64 a1_3) := (blk_cell BK723.out 3).trans rfl; have hfz16_0 := blk_frozen BK723.out 0; have hfz16_1 := blk_frozen BK723.out 1; have hfz16_2 := blk_frozen BK723.out 2; have hfz16_3 := blk_frozen BK723.out 3) | (go_at_call 67; (with_reducible refine (spec_l1In.calls a1_1 0 1000000 t726 _ A11.out).mono ?_); rintro e w' ⟨rfl, ⟨nd, rfl⟩⟩))
          go_meet
          case rel => exact ⟨_, (!t726), rS, H', ⟨by first | omega | exact Nat.le_refl _⟩, ⟨bK BK723⟩, ⟨bG⟩⟩
        · replace c10 := Bool.eq_false_iff.mpr c10
          subst c10
          have H1 : (spec_IsControl.j0 k l0 true l1_0 a1_1 l1_2 a1_3) = some r := by rw [if_neg (show ¬ (false = true) by decide)] at H; exact H
          clear H
          have H := H1
          clear H1
          have H' := Aside0.mk H
          clear H
          obtain ⟨hcz17_0, hcz17_1, hcz17_2, hcz17_3, hfz17_0, hfz17_1, hfz17_2, hfz17_3⟩ := blkc4 BK723
          go_wp2_with (first | (go_at_call 98; (with_reducible refine (spec_IsTogether.calls k _ _ l0 _ _ l1_0 true _ ?side1 ?side2 ?side3 ?side4 A7.out).mono ?_); (case side1 => exact cB HR0); (case side2 => exact HC0.out); (case side3 => exact cB HR1_0); (case side4 => exact HC1_0.out); rintro e w18 ⟨rfl, hb⟩; replace BK723 := Aside0.mk (blk_below (g := gb723) (bK BK723) hb); replace HB := Aside0.mk (below_step bG hb); (try clear hb); (try clear hb2); (try clear hk); (try clear hi); have hcz19_0 : w18.cell? ⟨gb723, 0, none⟩ = some (.slice A1_0 l1_0.length c1_0) := (blk_cell BK723.out 0).trans rfl; have hcz19_1 : w18.cell? ⟨gb723, 1, none⟩ = some (.int .i64 a1_1) := (blk_cell BK723.out 1).trans rfl; have hcz19_2 : w18.cell? ⟨gb723, 2, none⟩ = some (.slice A1_2 l1_2.length c1_2) := (blk_cell BK723.out 2).trans rfl; have hcz19_3 : w18.cell? ⟨gb723, 3, none⟩ = some (.int .i64 a1_3) := (blk_cell BK723.out 3).trans rfl; have hfz19_0 := blk_frozen BK723.out 0; have hfz19_1 := blk_frozen BK723.out 1; have hfz19_2 := blk_frozen BK723.out 2; have hfz19_3 := blk_frozen BK723.out 3) | (go_at_call 98; (with_reducible refine (spec_IsTogether.calls k _ _ l0 _ _ l1_2 false _ ?side1 ?side2 ?side3 ?side4 A9.out).mono ?_); (case side1 => exact cB HR0); (case side2 => exact HC0.out); (case side3 => exact cB HR1_2); (case side4 => exact HC1_2.out); rintro e w20 ⟨rfl, hb⟩; replace BK723 := Aside0.mk (blk_below (g := gb723) (bK BK723) hb); replace HB := Aside0.mk (below_step bG hb); (try clear hb); (try clear hb2); (try clear hk); (try clear hi)))
          go_meet
          case rel => exact ⟨_, (true), rS, H', ⟨by first | omega | exact Nat.le_refl _⟩, ⟨bK BK723⟩, ⟨bG⟩⟩
      · replace c8 := Bool.eq_false_iff.mpr c8
        subst c8
        have H1 : (spec_IsControl.j0 k l0 true l1_0 a1_1 l1_2 a1_3) = some r := by rw [if_neg (show ¬ (false = true) by decide)] at H; exact H
        clear H
        have H := H1
        clear H1
        have H' := Aside0.mk H
        clear H
        obtain ⟨hcz21_0, hcz21_1, hcz21_2, hcz21_3, hfz21_0, hfz21_1, hfz21_2, hfz21_3⟩ := blkc4 BK723
        go_wp2_with (first | (go_at_call 98; (with_reducible refine (spec_IsTogether.calls k _ _ l0 _ _ l1_0 false _ ?side1 ?side2 ?side3 ?side4 A7.out).mono ?_); (case side1 => exact cB HR0); (case side2 => exact HC0.out); (case side3 => exact cB HR1_0); (case side4 => exact HC1_0.out); rintro e w22 ⟨rfl, hb⟩; replace BK723 := Aside0.mk (blk_below (g := gb723) (bK BK723) hb); replace HB := Aside0.mk (below_step bG hb); (try clear hb); (try clear hb2); (try clear hk); (try clear hi)))
        go_meet
        case rel => exact ⟨_, (true), rS, H', ⟨by first | omega | exact Nat.le_refl _⟩, ⟨bK BK723⟩, ⟨bG⟩⟩
  case rest =>
    clear HC3
    try clear c1
    try clear p2
    try clear c5
    try clear c5b0
    try clear c5b1
    try clear c5b2
    try clear c8
    try clear c10
    try clear hcz12_0
    try clear hcz12_1
    try clear hcz12_2
    try clear hcz12_3
    try clear hcz14_0
    try clear hcz14_1
    try clear hcz14_2
    try clear hcz14_3
    try clear hcz16_0
    try clear hcz16_1
    try clear hcz16_2
    try clear hcz16_3
    try clear hcz17_0
    try clear hcz17_1
    try clear hcz17_2
    try clear hcz17_3
    try clear hcz19_0
    try clear hcz19_1
    try clear hcz19_2
    try clear hcz19_3
    try clear hcz21_0
    try clear hcz21_1
    try clear hcz21_2
    try clear hcz21_3
    try clear hcz6_0
    try clear hcz6_1
    try clear hcz6_2
    try clear hcz6_3
    try clear hfz12_0
    try clear hfz12_1
    try clear hfz12_2
    try clear hfz12_3
    try clear hfz14_0
    try clear hfz14_1
    try clear hfz14_2
    try clear hfz14_3
    try clear hfz16_0
    try clear hfz16_1
    try clear hfz16_2
    try clear hfz16_3
    try clear hfz17_0
    try clear hfz17_1
    try clear hfz17_2
    try clear hfz17_3
    try clear hfz19_0
    try clear hfz19_1
    try clear hfz19_2
    try clear hfz19_3
    try clear hfz21_0
    try clear hfz21_1
    try clear hfz21_2
    try clear hfz21_3
    try clear hfz6_0
    try clear hfz6_1
    try clear hfz6_2
    try clear hfz6_3
    obtain ⟨kq, x28_2, rfl, HA, HJ2, BK723, HB⟩ := hcut
    cases kq with
    | zero => exact absurd HA.out (by simp [spec_IsControl.j0])
    | succ kj2 =>
      have H := HA.out
      clear HA
      simp only [spec_IsControl.j0] at H
      by_cases c23 : x28_2 = true
      · subst c23
        have H1 : (some false) = some r := by rw [if_pos rfl] at H; exact H
        clear H
        have H := H1
        clear H1
        obtain rfl := Option.some.inj H
        go_wp2
        go_ret
        exact ⟨rA, bG⟩
      · replace c23 := Bool.eq_false_iff.mpr c23
        subst c23
        have H1 : (if (l1_2.length : Int) = 0 then (some (a1_3 == 0)) else ((spec_ClearBetween.f kj2 l0 l1_0 l1_2).bind fun t727 => ((spec_l1In.f a1_3 1 t727).bind fun t728 => (some t728)))) = some r := by rw [if_neg (show ¬ (false = true) by decide)] at H; exact H
        clear H
        have H := H1
        clear H1
        by_cases c24 : (l1_2.length : Int) = 0
        · rw [if_pos c24] at H
          have c24b0 : ((l1_2.length : Int) == 0) = true := beq_iff_eq.mpr c24
          have c24b1 : ((l1_2.length : Int) != 0) = false := bne_eq_false_iff_eq.mpr c24
          clear c24
          obtain rfl := Option.some.inj H
          obtain ⟨hcz25_0, hcz25_1, hcz25_2, hcz25_3, hfz25_0, hfz25_1, hfz25_2, hfz25_3⟩ := blkc4 BK723
          go_wp2
          go_ret
          exact ⟨rA, bG⟩
        · rw [if_neg c24] at H
          have c24b0 : ((l1_2.length : Int) == 0) = false := beq_eq_false_iff_ne.mpr c24
          have c24b1 : ((l1_2.length : Int) != 0) = true := bne_iff_ne.mpr c24
          have c24b2 : ¬ (l1_2 = []) := fun h_ => c24 (by rw [h_]; rfl)
          obtain ⟨t727, A26, H⟩ := bindE H
          try dsimp only at H
          obtain ⟨t728, A27, H⟩ := bindE H
          try dsimp only at H
          obtain rfl := Option.some.inj H
          obtain ⟨hcz28_0, hcz28_1, hcz28_2, hcz28_3, hfz28_0, hfz28_1, hfz28_2, hfz28_3⟩ := blkc4 BK723
          try go_wp2
          replace BK723 := Aside0.mk (blk_drew BK723.out)
          have HBo := HB
          replace HB := Aside0.mk (below_drew1 HB.out)
          refine start_ (n := 10) (S := fun w' => w'.cell? ⟨gb723, 0, none⟩ = some (.slice A1_0 l1_0.length c1_0) ∧ w'.cell? ⟨gb723, 1, none⟩ = some (.int .i64 a1_1) ∧ w'.cell? ⟨gb723, 2, none⟩ = some (.slice A1_2 l1_2.length c1_2) ∧ w'.cell? ⟨gb723, 3, none⟩ = some (.int .i64 a1_3)) (ds := []) (mb 10 0) (by kernel_rfl) rfl rfl ⟨(blk_cell BK723.out 0).trans rfl, (blk_cell BK723.out 1).trans rfl, (blk_cell BK723.out 2).trans rfl, (blk_cell BK723.out 3).trans rfl⟩ (fun hHeld => ?_); refine with_tabW spec_IsControl.tab5 spec_IsControl.bits5 (fun HT_ HW_ => ?_)
          generalize wc.drew = w29 at BK723 HB hHeld ⊢
          refine pA (i := 0) (N := some 36) (mb 10 1) HT_ ?_
          refine pA (i := 2) (N := some 38) (mb 10 5) HT_ ?_
          refine pA (i := 3) (N := some 39) (mb 10 13) HT_ ?_
          refine pA (i := 5) (N := some 41) (mb 10 45) HT_ ?_
          refine tA4 (i := 1) (N := some 37) (mb 10 47) HT_ HW_ hHeld ?_
          refine tA4 (i := 4) (N := some 40) (mb 10 63) HT_ HW_ hHeld ?_
          refine tA4 (i := 6) (N := some 42) (mb 10 127) HT_ HW_ hHeld ?_
          refine oA (i := 7) (N := some 43) (mb 10 255) HT_ (fun K hK => ?_)
          refine gA Try.func99 #[.slice A0 l0.length c0, .slice A1_0 l1_0.length c1_0, .slice A1_2 l1_2.length c1_2] ?_
          with_reducible refine (spec_ClearBetween.calls kj2 _ _ l0 _ _ l1_0 _ _ l1_2 t727 _ ?side1 ?side2 ?side3 ?side4 ?side5 ?side6 A26.out).mono ?_
          (case side1 => exact cB HR0)
          (case side2 => exact HC0.out)
          (case side3 => exact cB HR1_0)
          (case side4 => exact HC1_0.out)
          (case side5 => exact cB HR1_2)
          (case side6 => exact HC1_2.out)
          rintro e w30 ⟨rfl, hb⟩
          refine ⟨_, rfl, ?_⟩
          replace BK723 := Aside0.mk (blk_below (g := gb723) (bK BK723) hb)
          replace HB := Aside0.mk (below_step bG hb)
          (try clear hb)
          (try clear hb2)
          (try clear hk)
          (try clear hi)
          refine hK.out _ _ ⟨(blk_cell BK723.out 0).trans rfl, (blk_cell BK723.out 1).trans rfl, (blk_cell BK723.out 2).trans rfl, (blk_cell BK723.out 3).trans rfl⟩ (fun hHeld => ?_)
          clear hK K
          refine nA ?_
          refine oA (i := 8) (N := some 44) (mb 10 511) HT_ (fun K hK => ?_)
          refine gA Try.func67 #[.int .i64 a1_3, .int .i64 1, .int .i64 t727] ?_
          with_reducible refine (spec_l1In.calls a1_3 1 t727 t728 _ A27.out).mono ?_
          rintro e w' ⟨rfl, ⟨nd, rfl⟩⟩
          refine ⟨_, rfl, ?_⟩
          refine hK.out _ _ ⟨(blk_cell BK723.out 0).trans rfl, (blk_cell BK723.out 1).trans rfl, (blk_cell BK723.out 2).trans rfl, (blk_cell BK723.out 3).trans rfl⟩ (fun hHeld => ?_)
          clear hK K
          refine nA ?_
          refine pA (i := 9) (N := some 4) (mb 10 1023) HT_ ?_
          refine eA HT_ ?_
          try go_wp2
          go_ret
          exact ⟨rA, bG⟩

/-! ### spec_CanEnd: function 59 -/
def spec_CanEnd.f (k : Nat) (l0 : List (S90)) (l1_0 : List Int) (a1_1 : Int) (l1_2 : List Int) (a1_3 : Int) : Option (Bool) := (spec_IsControl.f k l0 l1_0 a1_1 l1_2 a1_3).bind fun t835 => (if t835 = true then (if (l1_2.length : Int) = 0 then ((spec_LeastGreen.f k l0 l1_0).bind fun t836 => (some (decide (a1_1 ≥ t836)))) else (some false)) else (some false))
theorem spec_CanEnd.mono : ∀ a0 a1 a2 a3 a4 k, LeO (spec_CanEnd.f k a0 a1 a2 a3 a4) (spec_CanEnd.f (k + 1) a0 a1 a2 a3 a4) := by
  intro a0 a1 a2 a3 a4 k
  unfold spec_CanEnd.f
  repeat' first | (with_reducible first | exact LeO.refl _ | exact LeO.none _ | refine LeO.ite ?_ ?_ | refine LeO.bind ?_ (fun _ => ?_) | exact spec_IsControl.mono _ _ _ _ _ _ | exact spec_LeastGreen.mono _ _ _) | exact LeO.none _ | refine LeO.ite ?_ ?_ | refine LeO.bind ?_ (fun _ => ?_) | exact spec_IsControl.mono _ _ _ _ _ _ | exact spec_LeastGreen.mono _ _ _
def spec_CanEnd.T1 : Bool × List (List Nat × List Nat) := (true, [([], []), ([], []), ([0, 1], [0, 1]), ([2, 2], [2]), ([3], [3]), ([4, 3], [3, 4]), ([5, 3], [3, 5]), ([6, 3], [3, 6]), ([3, 7], [3, 7]), ([8, 3], [8]), ([9], [9]), ([10, 9], [9, 10]), ([9], [9]), ([9], [9]), ([13, 9], [9, 13]), ([12, 14, 9, 9], [9, 12, 14]), ([11, 15, 9], [9, 11, 15]), ([9, 16], [9, 16]), ([17, 15, 0, 1, 2, 3, 4, 5, 6, 7, 8, 9, 10, 11, 12, 13, 14, 15, 16, 17], [17])])
def spec_CanEnd.B1 : List Nat := [0, 0, 3, 7, 15, 31, 63, 127, 255, 511, 1023, 2047, 1023, 1023, 9215, 29695, 65535, 131071, 262143]
theorem spec_CanEnd.tab1 : rtab .any (opsOf Try.f59 1) = spec_CanEnd.T1 := by kernel_rfl
theorem spec_CanEnd.bits1 : waitsOk spec_CanEnd.T1.2 spec_CanEnd.B1 = true := by kernel_rfl
set_option maxHeartbeats 8000000 in
set_option maxRecDepth 100000 in
theorem spec_CanEnd.calls (k : Nat) (A0 : Option Addr) (c0 : Nat) (l0 : List (S90)) (A1_0 : Option Addr) (c1_0 : Nat) (l1_0 : List Int) (a1_1 : Int) (A1_2 : Option Addr) (c1_2 : Nat) (l1_2 : List Int) (a1_3 : Int) (r : Bool) (w : World) (hr0 : Kd.C k90 w A0 l0.length l0) (hc0 : l0.length ≤ c0) (hr1_0 : Kd.C (Kd.int .i64) w A1_0 l1_0.length l1_0) (hc1_0 : l1_0.length ≤ c1_0) (hr1_2 : Kd.C (Kd.int .i64) w A1_2 l1_2.length l1_2) (hc1_2 : l1_2.length ≤ c1_2) (h : spec_CanEnd.f k l0 l1_0 a1_1 l1_2 a1_3 = some r) :
    Calls Try.prog 59 #[.slice A0 l0.length c0, .agg #[.slice A1_0 l1_0.length c1_0, .int .i64 a1_1, .slice A1_2 l1_2.length c1_2, .int .i64 a1_3]] w fun e w' => e = .returned (.bool r) ∧ Below w.heap.size w w' := by
  have hu70 := Try.underlying70
  have HR0 := Aside0.mk hr0
  have HC0 := Aside0.mk hc0
  clear hr0 hc0
  have HR1_0 := Aside0.mk hr1_0
  have HC1_0 := Aside0.mk hc1_0
  clear hr1_0 hc1_0
  have HR1_2 := Aside0.mk hr1_2
  have HC1_2 := Aside0.mk hc1_2
  clear hr1_2 hc1_2
  have HB := Aside0.mk (Below.refl w.heap.size w)
  have H : ((spec_IsControl.f k l0 l1_0 a1_1 l1_2 a1_3).bind fun t835 => (if t835 = true then (if (l1_2.length : Int) = 0 then ((spec_LeastGreen.f k l0 l1_0).bind fun t836 => (some (decide (a1_1 ≥ t836)))) else (some false)) else (some false))) = some r := h
  clear h
  obtain ⟨t835, A3, H⟩ := bindE H
  try dsimp only at H
  by_cases c4 : t835 = true
  · subst c4
    have H1 : (if (l1_2.length : Int) = 0 then ((spec_LeastGreen.f k l0 l1_0).bind fun t836 => (some (decide (a1_1 ≥ t836)))) else (some false)) = some r := by rw [if_pos rfl] at H; exact H
    clear H
    have H := H1
    clear H1
    by_cases c5 : (l1_2.length : Int) = 0
    · rw [if_pos c5] at H
      have c5b0 : ((l1_2.length : Int) == 0) = true := beq_iff_eq.mpr c5
      have c5b1 : ((l1_2.length : Int) != 0) = false := bne_eq_false_iff_eq.mpr c5
      clear c5
      obtain ⟨t836, A6, H⟩ := bindE H
      try dsimp only at H
      obtain rfl := Option.some.inj H
      go_enter Try.func59, Try.ntmps59
      try go_wp2_with (first | ((with_reducible refine gate_dst (N := 3) rfl ?_); (try (refine gate_guard (by rfl) ?_; dsimp only)); refine bE (N := 3) (cs := #[.slice A1_0 l1_0.length c1_0, .int .i64 a1_1, .slice A1_2 l1_2.length c1_2, .int .i64 a1_3]) (t := 70) ?_; intro gb834 hg w7 hbox hb; have n0_ := Aside0.mk (below_step bA hb); have n1_ := Aside0.mk (hbox); have n2_ := Aside0.mk ((by rw [hg]; exact (below_size bA) : w.heap.size ≤ gb834)); have n3_ := Aside0.mk ((by rw [hg]; exact (below_size bA) : w.heap.size ≤ gb834)); clear HB; have HB := n0_; have BK834 := n1_; have GW834 := n2_; have GE834 := n3_; clear n0_ n1_ n2_ n3_; clear hb hbox hg))
      replace BK834 := Aside0.mk (blk_drew BK834.out)
      have HBo := HB
      replace HB := Aside0.mk (below_drew1 HB.out)
      refine start_ (n := 19) (S := fun w' => w'.cell? ⟨gb834, 0, none⟩ = some (.slice A1_0 l1_0.length c1_0) ∧ w'.cell? ⟨gb834, 1, none⟩ = some (.int .i64 a1_1) ∧ w'.cell? ⟨gb834, 2, none⟩ = some (.slice A1_2 l1_2.length c1_2) ∧ w'.cell? ⟨gb834, 3, none⟩ = some (.int .i64 a1_3)) (ds := []) (mb 19 0) (by kernel_rfl) rfl rfl ⟨(blk_cell BK834.out 0).trans rfl, (blk_cell BK834.out 1).trans rfl, (blk_cell BK834.out 2).trans rfl, (blk_cell BK834.out 3).trans rfl⟩ (fun hHeld => ?_); refine with_tabW spec_CanEnd.tab1 spec_CanEnd.bits1 (fun HT_ HW_ => ?_)
      generalize w7.drew = w8 at BK834 HB hHeld ⊢
      refine pA (i := 0) (N := some 5) (mb 19 1) HT_ ?_
      refine tA4 (i := 1) (N := some 6) (mb 19 3) HT_ HW_ hHeld ?_
      refine oA (i := 2) (N := some 7) (mb 19 7) HT_ (fun K hK => ?_)
      refine gA Try.func55 #[.slice A0 l0.length c0, .agg #[.slice A1_0 l1_0.length c1_0, .int .i64 a1_1, .slice A1_2 l1_2.length c1_2, .int .i64 a1_3]] ?_
      with_reducible refine (spec_IsControl.calls k _ _ l0 _ _ l1_0 a1_1 _ _ l1_2 a1_3 true _ ?side1 ?side2 ?side3 ?side4 ?side5 ?side6 A3.out).mono ?_
      (case side1 => exact cB HR0)
      (case side2 => exact HC0.out)
      (case side3 => exact cB HR1_0)
      (case side4 => exact HC1_0.out)
      (case side5 => exact cB HR1_2)
      (case side6 => exact HC1_2.out)
      rintro e w9 ⟨rfl, hb⟩
      refine ⟨_, rfl, ?_⟩
      replace BK834 := Aside0.mk (blk_below (g := gb834) (bK BK834) hb)
      replace HB := Aside0.mk (below_step bG hb)
      (try clear hb)
      (try clear hb2)
      (try clear hk)
      (try clear hi)
      refine hK.out _ _ ⟨(blk_cell BK834.out 0).trans rfl, (blk_cell BK834.out 1).trans rfl, (blk_cell BK834.out 2).trans rfl, (blk_cell BK834.out 3).trans rfl⟩ (fun hHeld => ?_)
      clear hK K
      refine nA ?_
      refine pA (i := 3) (N := some 8) (mb 19 15) HT_ ?_
      refine pA (i := 4) (N := some 9) (mb 19 31) HT_ ?_
      refine tA4 (i := 5) (N := some 10) (mb 19 63) HT_ HW_ hHeld ?_
      refine pA (i := 6) (N := some 11) (mb 19 127) HT_ ?_
      refine pA (i := 7) (N := some 12) (mb 19 255) HT_ ?_
      refine pA (i := 8) (N := some 13) (mb 19 511) HT_ ?_
      refine pA (i := 9) (N := some 14) (mb 19 1023) HT_ ?_
      refine pA (i := 10) (N := some 15) (mb 19 2047) HT_ ?_
      refine pA (i := 12) (N := some 17) (mb 19 6143) HT_ ?_
      refine pA (i := 13) (N := some 18) (mb 19 14335) HT_ ?_
      refine tA4 (i := 11) (N := some 16) (mb 19 16383) HT_ HW_ hHeld ?_
      refine tA4 (i := 14) (N := some 19) (mb 19 32767) HT_ HW_ hHeld ?_
      refine oA (i := 15) (N := some 20) (mb 19 65535) HT_ (fun K hK => ?_)
      refine gA Try.func102 #[.slice A0 l0.length c0, .slice A1_0 l1_0.length c1_0] ?_
      with_reducible refine (spec_LeastGreen.calls k _ _ l0 _ _ l1_0 t836 _ ?side1 ?side2 ?side3 ?side4 A6.out).mono ?_
      (case side1 => exact cB HR0)
      (case side2 => exact HC0.out)
      (case side3 => exact cB HR1_0)
      (case side4 => exact HC1_0.out)
      rintro e w' ⟨rfl, ⟨nd, rfl⟩⟩
      refine ⟨_, rfl, ?_⟩
      refine hK.out _ _ ⟨(blk_cell BK834.out 0).trans rfl, (blk_cell BK834.out 1).trans rfl, (blk_cell BK834.out 2).trans rfl, (blk_cell BK834.out 3).trans rfl⟩ (fun hHeld => ?_)
      clear hK K
      refine nA ?_
      refine pA (i := 16) (N := some 21) (mb 19 131071) HT_ ?_
      refine pA (i := 17) (N := some 22) (mb 19 262143) HT_ ?_
      refine pA (i := 18) (N := some 4) (mb 19 524287) HT_ ?_
      refine eA HT_ ?_
      try go_wp2
      go_ret
      exact ⟨rA, bG⟩
    · rw [if_neg c5] at H
      have c5b0 : ((l1_2.length : Int) == 0) = false := beq_eq_false_iff_ne.mpr c5
      have c5b1 : ((l1_2.length : Int) != 0) = true := bne_iff_ne.mpr c5
      have c5b2 : ¬ (l1_2 = []) := fun h_ => c5 (by rw [h_]; rfl)
      obtain rfl := Option.some.inj H
      go_enter Try.func59, Try.ntmps59
      try go_wp2_with (first | ((with_reducible refine gate_dst (N := 3) rfl ?_); (try (refine gate_guard (by rfl) ?_; dsimp only)); refine bE (N := 3) (cs := #[.slice A1_0 l1_0.length c1_0, .int .i64 a1_1, .slice A1_2 l1_2.length c1_2, .int .i64 a1_3]) (t := 70) ?_; intro gb834 hg w10 hbox hb; have n0_ := Aside0.mk (below_step bA hb); have n1_ := Aside0.mk (hbox); have n2_ := Aside0.mk ((by rw [hg]; exact (below_size bA) : w.heap.size ≤ gb834)); have n3_ := Aside0.mk ((by rw [hg]; exact (below_size bA) : w.heap.size ≤ gb834)); clear HB; have HB := n0_; have BK834 := n1_; have GW834 := n2_; have GE834 := n3_; clear n0_ n1_ n2_ n3_; clear hb hbox hg))
      replace BK834 := Aside0.mk (blk_drew BK834.out)
      have HBo := HB
      replace HB := Aside0.mk (below_drew1 HB.out)
      refine start_ (n := 19) (S := fun w' => w'.cell? ⟨gb834, 0, none⟩ = some (.slice A1_0 l1_0.length c1_0) ∧ w'.cell? ⟨gb834, 1, none⟩ = some (.int .i64 a1_1) ∧ w'.cell? ⟨gb834, 2, none⟩ = some (.slice A1_2 l1_2.length c1_2) ∧ w'.cell? ⟨gb834, 3, none⟩ = some (.int .i64 a1_3)) (ds := []) (mb 19 0) (by kernel_rfl) rfl rfl ⟨(blk_cell BK834.out 0).trans rfl, (blk_cell BK834.out 1).trans rfl, (blk_cell BK834.out 2).trans rfl, (blk_cell BK834.out 3).trans rfl⟩ (fun hHeld => ?_); refine with_tabW spec_CanEnd.tab1 spec_CanEnd.bits1 (fun HT_ HW_ => ?_)
      generalize w10.drew = w11 at BK834 HB hHeld ⊢
      refine pA (i := 0) (N := some 5) (mb 19 1) HT_ ?_
      refine tA4 (i := 1) (N := some 6) (mb 19 3) HT_ HW_ hHeld ?_
      refine oA (i := 2) (N := some 7) (mb 19 7) HT_ (fun K hK => ?_)
      refine gA Try.func55 #[.slice A0 l0.length c0, .agg #[.slice A1_0 l1_0.length c1_0, .int .i64 a1_1, .slice A1_2 l1_2.length c1_2, .int .i64 a1_3]] ?_
      with_reducible refine (spec_IsControl.calls k _ _ l0 _ _ l1_0 a1_1 _ _ l1_2 a1_3 true _ ?side1 ?side2 ?side3 ?side4 ?side5 ?side6 A3.out).mono ?_
      (case side1 => exact cB HR0)
      (case side2 => exact HC0.out)
      (case side3 => exact cB HR1_0)
      (case side4 => exact HC1_0.out)
      (case side5 => exact cB HR1_2)
      (case side6 => exact HC1_2.out)
      rintro e w12 ⟨rfl, hb⟩
      refine ⟨_, rfl, ?_⟩
      replace BK834 := Aside0.mk (blk_below (g := gb834) (bK BK834) hb)
      replace HB := Aside0.mk (below_step bG hb)
      (try clear hb)
      (try clear hb2)
      (try clear hk)
      (try clear hi)
      refine hK.out _ _ ⟨(blk_cell BK834.out 0).trans rfl, (blk_cell BK834.out 1).trans rfl, (blk_cell BK834.out 2).trans rfl, (blk_cell BK834.out 3).trans rfl⟩ (fun hHeld => ?_)
      clear hK K
      refine nA ?_
      refine pA (i := 3) (N := some 8) (mb 19 15) HT_ ?_
      refine pA (i := 4) (N := some 9) (mb 19 31) HT_ ?_
      refine tA4 (i := 5) (N := some 10) (mb 19 63) HT_ HW_ hHeld ?_
      refine pA (i := 6) (N := some 11) (mb 19 127) HT_ ?_
      refine pA (i := 7) (N := some 12) (mb 19 255) HT_ ?_
      refine pA (i := 8) (N := some 13) (mb 19 511) HT_ ?_
      refine pA (i := 9) (N := some 14) (mb 19 1023) HT_ ?_
      refine pU (i := 10) (N := some 15) (mb 19 2047) HT_ ?_
      refine pU (i := 11) (N := some 16) (mb 19 4095) HT_ ?_
      refine pU (i := 12) (N := some 17) (mb 19 8191) HT_ ?_
      refine pU (i := 13) (N := some 18) (mb 19 16383) HT_ ?_
      refine pU (i := 14) (N := some 19) (mb 19 32767) HT_ ?_
      refine pU (i := 15) (N := some 20) (mb 19 65535) HT_ ?_
      refine pU (i := 16) (N := some 21) (mb 19 131071) HT_ ?_
      refine pA (i := 17) (N := some 22) (mb 19 262143) HT_ ?_
      refine pA (i := 18) (N := some 4) (mb 19 524287) HT_ ?_
      refine eA HT_ ?_
      try go_wp2
      go_ret
      exact ⟨rA, bG⟩
  · replace c4 := Bool.eq_false_iff.mpr c4
    subst c4
    have H1 : (some false) = some r := by rw [if_neg (show ¬ (false = true) by decide)] at H; exact H
    clear H
    have H := H1
    clear H1
    obtain rfl := Option.some.inj H
    go_enter Try.func59, Try.ntmps59
    try go_wp2_with (first | ((with_reducible refine gate_dst (N := 3) rfl ?_); (try (refine gate_guard (by rfl) ?_; dsimp only)); refine bE (N := 3) (cs := #[.slice A1_0 l1_0.length c1_0, .int .i64 a1_1, .slice A1_2 l1_2.length c1_2, .int .i64 a1_3]) (t := 70) ?_; intro gb834 hg w13 hbox hb; have n0_ := Aside0.mk (below_step bA hb); have n1_ := Aside0.mk (hbox); have n2_ := Aside0.mk ((by rw [hg]; exact (below_size bA) : w.heap.size ≤ gb834)); have n3_ := Aside0.mk ((by rw [hg]; exact (below_size bA) : w.heap.size ≤ gb834)); clear HB; have HB := n0_; have BK834 := n1_; have GW834 := n2_; have GE834 := n3_; clear n0_ n1_ n2_ n3_; clear hb hbox hg))
    replace BK834 := Aside0.mk (blk_drew BK834.out)
    have HBo := HB
    replace HB := Aside0.mk (below_drew1 HB.out)
    refine start_ (n := 19) (S := fun w' => w'.cell? ⟨gb834, 0, none⟩ = some (.slice A1_0 l1_0.length c1_0) ∧ w'.cell? ⟨gb834, 1, none⟩ = some (.int .i64 a1_1) ∧ w'.cell? ⟨gb834, 2, none⟩ = some (.slice A1_2 l1_2.length c1_2) ∧ w'.cell? ⟨gb834, 3, none⟩ = some (.int .i64 a1_3)) (ds := []) (mb 19 0) (by kernel_rfl) rfl rfl ⟨(blk_cell BK834.out 0).trans rfl, (blk_cell BK834.out 1).trans rfl, (blk_cell BK834.out 2).trans rfl, (blk_cell BK834.out 3).trans rfl⟩ (fun hHeld => ?_); refine with_tabW spec_CanEnd.tab1 spec_CanEnd.bits1 (fun HT_ HW_ => ?_)
    generalize w13.drew = w14 at BK834 HB hHeld ⊢
    refine pA (i := 0) (N := some 5) (mb 19 1) HT_ ?_
    refine tA4 (i := 1) (N := some 6) (mb 19 3) HT_ HW_ hHeld ?_
    refine oA (i := 2) (N := some 7) (mb 19 7) HT_ (fun K hK => ?_)
    refine gA Try.func55 #[.slice A0 l0.length c0, .agg #[.slice A1_0 l1_0.length c1_0, .int .i64 a1_1, .slice A1_2 l1_2.length c1_2, .int .i64 a1_3]] ?_
    with_reducible refine (spec_IsControl.calls k _ _ l0 _ _ l1_0 a1_1 _ _ l1_2 a1_3 false _ ?side1 ?side2 ?side3 ?side4 ?side5 ?side6 A3.out).mono ?_
    (case side1 => exact cB HR0)
    (case side2 => exact HC0.out)
    (case side3 => exact cB HR1_0)
    (case side4 => exact HC1_0.out)
    (case side5 => exact cB HR1_2)
    (case side6 => exact HC1_2.out)
    rintro e w15 ⟨rfl, hb⟩
    refine ⟨_, rfl, ?_⟩
    replace BK834 := Aside0.mk (blk_below (g := gb834) (bK BK834) hb)
    replace HB := Aside0.mk (below_step bG hb)
    (try clear hb)
    (try clear hb2)
    (try clear hk)
    (try clear hi)
    refine hK.out _ _ ⟨(blk_cell BK834.out 0).trans rfl, (blk_cell BK834.out 1).trans rfl, (blk_cell BK834.out 2).trans rfl, (blk_cell BK834.out 3).trans rfl⟩ (fun hHeld => ?_)
    clear hK K
    refine nA ?_
    refine pA (i := 3) (N := some 8) (mb 19 15) HT_ ?_
    refine pU (i := 4) (N := some 9) (mb 19 31) HT_ ?_
    refine pU (i := 5) (N := some 10) (mb 19 63) HT_ ?_
    refine pU (i := 6) (N := some 11) (mb 19 127) HT_ ?_
    refine pU (i := 7) (N := some 12) (mb 19 255) HT_ ?_
    refine pA (i := 8) (N := some 13) (mb 19 511) HT_ ?_
    refine pA (i := 9) (N := some 14) (mb 19 1023) HT_ ?_
    refine pU (i := 10) (N := some 15) (mb 19 2047) HT_ ?_
    refine pU (i := 11) (N := some 16) (mb 19 4095) HT_ ?_
    refine pU (i := 12) (N := some 17) (mb 19 8191) HT_ ?_
    refine pU (i := 13) (N := some 18) (mb 19 16383) HT_ ?_
    refine pU (i := 14) (N := some 19) (mb 19 32767) HT_ ?_
    refine pU (i := 15) (N := some 20) (mb 19 65535) HT_ ?_
    refine pU (i := 16) (N := some 21) (mb 19 131071) HT_ ?_
    refine pA (i := 17) (N := some 22) (mb 19 262143) HT_ ?_
    refine pA (i := 18) (N := some 4) (mb 19 524287) HT_ ?_
    refine eA HT_ ?_
    try go_wp2
    go_ret
    exact ⟨rA, bG⟩

/-! ### spec_LightsOf: function 61 -/
mutual
def spec_LightsOf.l0 : Nat → List (S90) → List Int → Int → List Int → Int → List Int → Int → Option (List Int)
  | 0, _, _, _, _, _, _, _ => none
  | k + 1, x0, x5, x6, x885000, x885001, x885002, x885003 => if x6 < (x0.length : Int) then ((spec_IsControl.f k x0 x885000 x885001 x885002 x885003).bind fun t888 => (spec_LightsOf.j1 k x0 x5 x6 t888 x885000 x885001 x885002 x885003)) else (spec_LightsOf.j1 k x0 x5 x6 false x885000 x885001 x885002 x885003)
def spec_LightsOf.j1 : Nat → List (S90) → List Int → Int → Bool → List Int → Int → List Int → Int → Option (List Int)
  | 0, _, _, _, _, _, _, _, _ => none
  | k + 1, x0, x5, x6, x17, x885000, x885001, x885002, x885003 => if x17 = true then (if 0 ≤ x6 then (if x6 < (x0.length : Int) then ((spec_l6Has.f k x885000 ((rd_T90 x0 x6).f0)).bind fun t890 => (if t890 = true then (if (x885002.length : Int) > 0 then ((spec_l6Has.f k x885002 ((rd_T90 x0 x6).f0)).bind fun t892 => (if t892 = true then (if x5.length < 17592186044416 then (spec_LightsOf.l0 k x0 (x5 ++ [1]) (wrap64 (x6 + 1)) x885000 x885001 x885002 x885003) else (none)) else (if x5.length < 17592186044416 then (spec_LightsOf.l0 k x0 (x5 ++ [2]) (wrap64 (x6 + 1)) x885000 x885001 x885002 x885003) else (none)))) else (if x5.length < 17592186044416 then (spec_LightsOf.l0 k x0 (x5 ++ [1]) (wrap64 (x6 + 1)) x885000 x885001 x885002 x885003) else (none))) else (if x5.length < 17592186044416 then (spec_LightsOf.l0 k x0 (x5 ++ [0]) (wrap64 (x6 + 1)) x885000 x885001 x885002 x885003) else (none)))) else (none)) else (none)) else (some x5)
end
def spec_LightsOf.f (k : Nat) (l0 : List (S90)) (l1_0 : List Int) (a1_1 : Int) (l1_2 : List Int) (a1_3 : Int) : Option (List Int) := spec_LightsOf.l0 k l0 (([] : List Int)) 0 l1_0 a1_1 l1_2 a1_3
theorem spec_LightsOf.mono_l : ∀ k, (∀ y0 y1 y2 y3 y4 y5 y6, LeO (spec_LightsOf.l0 k y0 y1 y2 y3 y4 y5 y6) (spec_LightsOf.l0 (k + 1) y0 y1 y2 y3 y4 y5 y6)) ∧ (∀ y0 y1 y2 y3 y4 y5 y6 y7, LeO (spec_LightsOf.j1 k y0 y1 y2 y3 y4 y5 y6 y7) (spec_LightsOf.j1 (k + 1) y0 y1 y2 y3 y4 y5 y6 y7))
  | 0 => ⟨fun _ _ _ _ _ _ _ r h => by simp [spec_LightsOf.l0] at h, fun _ _ _ _ _ _ _ _ r h => by simp [spec_LightsOf.j1] at h⟩
  | k + 1 => by
    obtain ⟨ih0, ih1⟩ := spec_LightsOf.mono_l k
    refine ⟨?_, ?_⟩
    · intro y0 y1 y2 y3 y4 y5 y6
      unfold spec_LightsOf.l0
      repeat' first | (with_reducible first | exact LeO.refl _ | exact LeO.none _ | refine LeO.ite ?_ ?_ | refine LeO.bind ?_ (fun _ => ?_) | exact ih0 _ _ _ _ _ _ _ | exact ih1 _ _ _ _ _ _ _ _ | exact spec_IsControl.mono _ _ _ _ _ _ | exact spec_l6Has.mono _ _ _) | exact LeO.none _ | refine LeO.ite ?_ ?_ | refine LeO.bind ?_ (fun _ => ?_) | exact ih0 _ _ _ _ _ _ _ | exact ih1 _ _ _ _ _ _ _ _ | exact spec_IsControl.mono _ _ _ _ _ _ | exact spec_l6Has.mono _ _ _
    · intro y0 y1 y2 y3 y4 y5 y6 y7
      unfold spec_LightsOf.j1
      repeat' first | (with_reducible first | exact LeO.refl _ | exact LeO.none _ | refine LeO.ite ?_ ?_ | refine LeO.bind ?_ (fun _ => ?_) | exact ih0 _ _ _ _ _ _ _ | exact ih1 _ _ _ _ _ _ _ _ | exact spec_IsControl.mono _ _ _ _ _ _ | exact spec_l6Has.mono _ _ _) | exact LeO.none _ | refine LeO.ite ?_ ?_ | refine LeO.bind ?_ (fun _ => ?_) | exact ih0 _ _ _ _ _ _ _ | exact ih1 _ _ _ _ _ _ _ _ | exact spec_IsControl.mono _ _ _ _ _ _ | exact spec_l6Has.mono _ _ _
theorem spec_LightsOf.mono : ∀ a0 a1 a2 a3 a4 k, LeO (spec_LightsOf.f k a0 a1 a2 a3 a4) (spec_LightsOf.f (k + 1) a0 a1 a2 a3 a4) := by
  intro a0 a1 a2 a3 a4 k
  obtain ⟨ih0, ih1⟩ := spec_LightsOf.mono_l k
  unfold spec_LightsOf.f
  repeat' first | (with_reducible first | exact LeO.refl _ | exact LeO.none _ | refine LeO.ite ?_ ?_ | refine LeO.bind ?_ (fun _ => ?_) | exact ih0 _ _ _ _ _ _ _ | exact ih1 _ _ _ _ _ _ _ _ | exact spec_IsControl.mono _ _ _ _ _ _ | exact spec_l6Has.mono _ _ _) | exact LeO.none _ | refine LeO.ite ?_ ?_ | refine LeO.bind ?_ (fun _ => ?_) | exact ih0 _ _ _ _ _ _ _ | exact ih1 _ _ _ _ _ _ _ _ | exact spec_IsControl.mono _ _ _ _ _ _ | exact spec_l6Has.mono _ _ _
set_option maxHeartbeats 8000000 in
set_option maxRecDepth 100000 in
theorem spec_LightsOf.calls (k : Nat) (A0 : Option Addr) (c0 : Nat) (l0 : List (S90)) (A1_0 : Option Addr) (c1_0 : Nat) (l1_0 : List Int) (a1_1 : Int) (A1_2 : Option Addr) (c1_2 : Nat) (l1_2 : List Int) (a1_3 : Int) (r : List Int) (w : World) (hr0 : Kd.C k90 w A0 l0.length l0) (hc0 : l0.length ≤ c0) (hr1_0 : Kd.C (Kd.int .i64) w A1_0 l1_0.length l1_0) (hc1_0 : l1_0.length ≤ c1_0) (hr1_2 : Kd.C (Kd.int .i64) w A1_2 l1_2.length l1_2) (hc1_2 : l1_2.length ≤ c1_2) (h : spec_LightsOf.f k l0 l1_0 a1_1 l1_2 a1_3 = some r) :
    Calls Try.prog 61 #[.slice A0 l0.length c0, .agg #[.slice A1_0 l1_0.length c1_0, .int .i64 a1_1, .slice A1_2 l1_2.length c1_2, .int .i64 a1_3]] w fun e w' => ∃ v0_ : Value, e = .returned (v0_) ∧ Kd.R (Kd.int .i64) 3 w' w.heap.size (fun _ => True) v0_ r ∧ Below w.heap.size w w' := by
  have hu70 := Try.underlying70
  have HR0 := Aside0.mk hr0
  have HC0 := Aside0.mk hc0
  clear hr0 hc0
  have HR1_0 := Aside0.mk hr1_0
  have HC1_0 := Aside0.mk hc1_0
  clear hr1_0 hc1_0
  have HR1_2 := Aside0.mk hr1_2
  have HC1_2 := Aside0.mk hc1_2
  clear hr1_2 hc1_2
  have HB := Aside0.mk (Below.refl w.heap.size w)
  have H : (spec_LightsOf.l0 k l0 (([] : List Int)) 0 l1_0 a1_1 l1_2 a1_3) = some r := h
  clear h
  obtain ⟨y885, hy885⟩ : ∃ y_ : List Int, y_ = (([] : List Int)) := ⟨_, rfl⟩
  replace H : (spec_LightsOf.l0 k l0 y885 0 l1_0 a1_1 l1_2 a1_3) = some r := by first | (rw [hy885]; with_reducible exact H) | (have H2_ := (Option.bind_some _ _).symm.trans H; rw [hy885]; with_reducible exact H2_) | (have H2_ := (Option.bind_some _ _).symm.trans H; with_reducible exact H2_) | with_reducible exact H | (rw [hy885]; exact H) | exact H
  have Ny885 := Aside0.mk hy885
  clear hy885
  have H' := Aside0.mk H
  clear H
  go_enter Try.func61, Try.ntmps61
  go_wp2_with (first | ((with_reducible refine gate_dst (N := 3) rfl ?_); refine bE (N := 3) (cs := #[.slice A1_0 l1_0.length c1_0, .int .i64 a1_1, .slice A1_2 l1_2.length c1_2, .int .i64 a1_3]) (t := 70) ?_; intro gb884 hg w3 hbox hb; have n0_ := Aside0.mk (below_step bA hb); have n1_ := Aside0.mk (hbox); have n2_ := Aside0.mk ((by rw [hg]; exact (below_size bA) : w.heap.size ≤ gb884)); have n3_ := Aside0.mk ((by rw [hg]; exact (below_size bA) : w.heap.size ≤ gb884)); clear HB; have HB := n0_; have BK884 := n1_; have GW884 := n2_; have GE884 := n3_; clear n0_ n1_ n2_ n3_; clear hb hbox hg) | ((with_reducible refine gate_dst (N := 8) rfl ?_); refine Kd.R_lit (Kd.int .i64) _ 3 ?hg (N := 8) ?hd (xs := ([] : List Int)) (inner := []) (ok := fun _ => True) (okp := fun _ => True) ?hr ?hp (fun _ hk => hk) trivial (Below.refl _ _) (Nat.le_refl _) (by simp) ?_; (case hd => rfl); (case hg => rfl); (case hr => first | (go_simp; done) | (go_simp; rfl)); (case hp => exact (Reps.none _ _)); intro v886 w4 ho5 hb hg_ hnew_; clear hg_ hnew_; (first | rw [← Ny885.out] at ho5 | (simp only [Int.reduceToNat] at ho5; rw [← Ny885.out] at ho5)); have HO887 := Aside0.mk (Kd.R_lower ho5 (below_size bG)); replace BK884 := Aside0.mk (blk_below (g := gb884) (bK BK884) hb); replace HB := Aside0.mk (below_step bG hb); clear hb ho5))
  repeat (go_quiet (first | ((with_reducible refine gate_dst (N := 3) rfl ?_); refine bE (N := 3) (cs := #[.slice A1_0 l1_0.length c1_0, .int .i64 a1_1, .slice A1_2 l1_2.length c1_2, .int .i64 a1_3]) (t := 70) ?_; intro gb884 hg w3 hbox hb; have n0_ := Aside0.mk (below_step bA hb); have n1_ := Aside0.mk (hbox); have n2_ := Aside0.mk ((by rw [hg]; exact (below_size bA) : w.heap.size ≤ gb884)); have n3_ := Aside0.mk ((by rw [hg]; exact (below_size bA) : w.heap.size ≤ gb884)); clear HB; have HB := n0_; have BK884 := n1_; have GW884 := n2_; have GE884 := n3_; clear n0_ n1_ n2_ n3_; clear hb hbox hg) | ((with_reducible refine gate_dst (N := 8) rfl ?_); refine Kd.R_lit (Kd.int .i64) _ 3 ?hg (N := 8) ?hd (xs := ([] : List Int)) (inner := []) (ok := fun _ => True) (okp := fun _ => True) ?hr ?hp (fun _ hk => hk) trivial (Below.refl _ _) (Nat.le_refl _) (by simp) ?_; (case hd => rfl); (case hg => rfl); (case hr => first | (go_simp; done) | (go_simp; rfl)); (case hp => exact (Reps.none _ _)); intro v886 w4 ho5 hb hg_ hnew_; clear hg_ hnew_; (first | rw [← Ny885.out] at ho5 | (simp only [Int.reduceToNat] at ho5; rw [← Ny885.out] at ho5)); have HO887 := Aside0.mk (Kd.R_lower ho5 (below_size bG)); replace BK884 := Aside0.mk (blk_below (g := gb884) (bK BK884) hb); replace HB := Aside0.mk (below_step bG hb); clear hb ho5)); try go_wp2_with (first | ((with_reducible refine gate_dst (N := 3) rfl ?_); refine bE (N := 3) (cs := #[.slice A1_0 l1_0.length c1_0, .int .i64 a1_1, .slice A1_2 l1_2.length c1_2, .int .i64 a1_3]) (t := 70) ?_; intro gb884 hg w3 hbox hb; have n0_ := Aside0.mk (below_step bA hb); have n1_ := Aside0.mk (hbox); have n2_ := Aside0.mk ((by rw [hg]; exact (below_size bA) : w.heap.size ≤ gb884)); have n3_ := Aside0.mk ((by rw [hg]; exact (below_size bA) : w.heap.size ≤ gb884)); clear HB; have HB := n0_; have BK884 := n1_; have GW884 := n2_; have GE884 := n3_; clear n0_ n1_ n2_ n3_; clear hb hbox hg) | ((with_reducible refine gate_dst (N := 8) rfl ?_); refine Kd.R_lit (Kd.int .i64) _ 3 ?hg (N := 8) ?hd (xs := ([] : List Int)) (inner := []) (ok := fun _ => True) (okp := fun _ => True) ?hr ?hp (fun _ hk => hk) trivial (Below.refl _ _) (Nat.le_refl _) (by simp) ?_; (case hd => rfl); (case hg => rfl); (case hr => first | (go_simp; done) | (go_simp; rfl)); (case hp => exact (Reps.none _ _)); intro v886 w4 ho5 hb hg_ hnew_; clear hg_ hnew_; (first | rw [← Ny885.out] at ho5 | (simp only [Int.reduceToNat] at ho5; rw [← Ny885.out] at ho5)); have HO887 := Aside0.mk (Kd.R_lower ho5 (below_size bG)); replace BK884 := Aside0.mk (blk_below (g := gb884) (bK BK884) hb); replace HB := Aside0.mk (below_step bG hb); clear hb ho5)))
  go_loopg [5, 6] k (fun kq v5 v6 w' => ∃ (x5_1 : List Int) (x6_1 : Int), v6 = .int .i64 x6_1 ∧ Aside0 (spec_LightsOf.l0 kq l0 x5_1 x6_1 l1_0 a1_1 l1_2 a1_3 = some r) ∧ Aside0 (kq ≤ k) ∧ Aside0 (Kd.R (Kd.int .i64) 3 w' w.heap.size (fun _ => True) v5 x5_1) ∧ Aside0 (w'.heap[gb884]? = some (.cells #[(.slice A1_0 l1_0.length c1_0), .int .i64 a1_1, (.slice A1_2 l1_2.length c1_2), .int .i64 a1_3] 70 (0, 0))) ∧ Aside0 (Below w.heap.size w w'))
  case atStart => exact ⟨(y885), (0), rS, H', ⟨Nat.le_refl _⟩, ⟨rK HO887⟩, ⟨bK BK884⟩, ⟨bG⟩⟩
  case round =>
    clear H'
    try clear c1
    try clear p2
    obtain ⟨x5_1, x6_1, rfl, HA, HK1, HO_5, BK884, HB⟩ := hrel
    cases gk with
    | zero => exact absurd HA.out (by simp [spec_LightsOf.l0])
    | succ k1 =>
      have H := HA.out
      clear HA
      simp only [spec_LightsOf.l0] at H
      have HC6 := Aside0.mk H
      clear H
      go_upto_region 3 with (fail)
      repeat (go_quiet (fail); go_upto_region 3 with (fail))
      go_cut [17] (fun v17 wc => ∃ (kq : Nat) (x17_5 : Bool), v17 = .bool x17_5 ∧ Aside0 (spec_LightsOf.j1 kq l0 x5_1 x6_1 x17_5 l1_0 a1_1 l1_2 a1_3 = some r) ∧ Aside0 (kq ≤ k1) ∧ Aside0 (Kd.R (Kd.int .i64) 3 wc w.heap.size (fun _ => True) u5 x5_1) ∧ Aside0 (wc.heap[gb884]? = some (.cells #[(.slice A1_0 l1_0.length c1_0), .int .i64 a1_1, (.slice A1_2 l1_2.length c1_2), .int .i64 a1_3] 70 (0, 0))) ∧ Aside0 (Below w.heap.size w wc))
      case first =>
        have H := HC6.out
        clear HC6
        by_cases c7 : x6_1 < (l0.length : Int)
        · rw [if_pos c7] at H
          have c7b0 : decide (x6_1 < (l0.length : Int)) = true := decide_eq_true c7
          clear c7
          (first | rw [c7b0] | (simp only [i64_w, i32_w]; rw [c7b0]) | skip)
          obtain ⟨t888, A8, H⟩ := bindE H
          try dsimp only at H
          have H' := Aside0.mk H
          clear H
          obtain ⟨hcz9_0, hcz9_1, hcz9_2, hcz9_3, hfz9_0, hfz9_1, hfz9_2, hfz9_3⟩ := blkc4 BK884
          go_wp2_with (first | (go_at_call 55; (with_reducible refine (spec_IsControl.calls k1 _ _ l0 _ _ l1_0 a1_1 _ _ l1_2 a1_3 t888 _ ?side1 ?side2 ?side3 ?side4 ?side5 ?side6 A8.out).mono ?_); (case side1 => exact cB HR0); (case side2 => exact HC0.out); (case side3 => exact cB HR1_0); (case side4 => exact HC1_0.out); (case side5 => exact cB HR1_2); (case side6 => exact HC1_2.out); rintro e w10 ⟨rfl, hb⟩; replace HO_5 := Aside0.mk (Kd.R_below (rK HO_5) hb); replace BK884 := Aside0.mk (blk_below (g := gb884) (bK BK884) hb); replace HB := Aside0.mk (below_step bG hb); (try clear hb); (try clear hb2); (try clear hk); (try clear hi)))
          repeat (go_quiet (first | (go_at_call 55; (with_reducible refine (spec_IsControl.calls k1 _ _ l0 _ _ l1_0 a1_1 _ _ l1_2 a1_3 t888 _ ?side1 ?side2 ?side3 ?side4 ?side5 ?side6 A8.out).mono ?_); (case side1 => exact cB HR0); (case side2 => exact HC0.out); (case side3 => exact cB HR1_0); (case side4 => exact HC1_0.out); (case side5 => exact cB HR1_2); (case side6 => exact HC1_2.out); rintro e w10 ⟨rfl, hb⟩; replace HO_5 := Aside0.mk (Kd.R_below (rK HO_5) hb); replace BK884 := Aside0.mk (blk_below (g := gb884) (bK BK884) hb); replace HB := Aside0.mk (below_step bG hb); (try clear hb); (try clear hb2); (try clear hk); (try clear hi))); try go_wp2_with (first | (go_at_call 55; (with_reducible refine (spec_IsControl.calls k1 _ _ l0 _ _ l1_0 a1_1 _ _ l1_2 a1_3 t888 _ ?side1 ?side2 ?side3 ?side4 ?side5 ?side6 A8.out).mono ?_); (case side1 => exact cB HR0); (case side2 => exact HC0.out); (case side3 => exact cB HR1_0); (case side4 => exact HC1_0.out); (case side5 => exact cB HR1_2); (case side6 => exact HC1_2.out); rintro e w10 ⟨rfl, hb⟩; replace HO_5 := Aside0.mk (Kd.R_below (rK HO_5) hb); replace BK884 := Aside0.mk (blk_below (g := gb884) (bK BK884) hb); replace HB := Aside0.mk (below_step bG hb); (try clear hb); (try clear hb2); (try clear hk); (try clear hi))))
          go_meet
          case rel => exact ⟨_, (t888), rS, H', ⟨by have := HK1.out; first | omega | exact Nat.le_refl _⟩, ⟨rK HO_5⟩, ⟨bK BK884⟩, ⟨bG⟩⟩
        · rw [if_neg c7] at H
          have c7b0 : decide (x6_1 < (l0.length : Int)) = false := decide_eq_false c7
          clear c7
          (first | rw [c7b0] | (simp only [i64_w, i32_w]; rw [c7b0]) | skip)
          have H' := Aside0.mk H
          clear H
          go_wp2
          repeat (go_quiet (fail); try go_wp2)
          go_meet
          case rel => exact ⟨_, (false), rS, H', ⟨by have := HK1.out; first | omega | exact Nat.le_refl _⟩, ⟨rK HO_5⟩, ⟨bK BK884⟩, ⟨bG⟩⟩
      case rest =>
        clear HC6
        try clear c1
        try clear p2
        try clear c6
        try clear c7
        try clear c7b0
        try clear hcz9_0
        try clear hcz9_1
        try clear hcz9_2
        try clear hcz9_3
        try clear hfz9_0
        try clear hfz9_1
        try clear hfz9_2
        try clear hfz9_3
        try clear p2
        obtain ⟨kq, x17_5, rfl, HA, HJ5, HO_5, BK884, HB⟩ := hcut
        cases kq with
        | zero => exact absurd HA.out (by simp [spec_LightsOf.j1])
        | succ kj5 =>
          have H := HA.out
          clear HA
          simp only [spec_LightsOf.j1] at H
          by_cases c11 : x17_5 = true
          · subst c11
            have H1 : (if 0 ≤ x6_1 then (if x6_1 < (l0.length : Int) then ((spec_l6Has.f kj5 l1_0 ((rd_T90 l0 x6_1).f0)).bind fun t890 => (if t890 = true then (if (l1_2.length : Int) > 0 then ((spec_l6Has.f kj5 l1_2 ((rd_T90 l0 x6_1).f0)).bind fun t892 => (if t892 = true then (if x5_1.length < 17592186044416 then (spec_LightsOf.l0 kj5 l0 (x5_1 ++ [1]) (wrap64 (x6_1 + 1)) l1_0 a1_1 l1_2 a1_3) else (none)) else (if x5_1.length < 17592186044416 then (spec_LightsOf.l0 kj5 l0 (x5_1 ++ [2]) (wrap64 (x6_1 + 1)) l1_0 a1_1 l1_2 a1_3) else (none)))) else (if x5_1.length < 17592186044416 then (spec_LightsOf.l0 kj5 l0 (x5_1 ++ [1]) (wrap64 (x6_1 + 1)) l1_0 a1_1 l1_2 a1_3) else (none))) else (if x5_1.length < 17592186044416 then (spec_LightsOf.l0 kj5 l0 (x5_1 ++ [0]) (wrap64 (x6_1 + 1)) l1_0 a1_1 l1_2 a1_3) else (none)))) else (none)) else (none)) = some r := by rw [if_pos rfl] at H; exact H
            clear H
            have H := H1
            clear H1
            have c12 : 0 ≤ x6_1 := ifN H
            replace H := ifT H
            have c12b0 : decide (0 ≤ x6_1) = true := decide_eq_true c12
            clear c12
            have c13 : x6_1 < (l0.length : Int) := ifN H
            replace H := ifT H
            have c13b0 : decide (x6_1 < (l0.length : Int)) = true := decide_eq_true c13
            clear c13
            obtain ⟨t890, A14, H⟩ := bindE H
            try dsimp only at H
            by_cases c15 : t890 = true
            · subst c15
              have H1 : (if (l1_2.length : Int) > 0 then ((spec_l6Has.f kj5 l1_2 ((rd_T90 l0 x6_1).f0)).bind fun t892 => (if t892 = true then (if x5_1.length < 17592186044416 then (spec_LightsOf.l0 kj5 l0 (x5_1 ++ [1]) (wrap64 (x6_1 + 1)) l1_0 a1_1 l1_2 a1_3) else (none)) else (if x5_1.length < 17592186044416 then (spec_LightsOf.l0 kj5 l0 (x5_1 ++ [2]) (wrap64 (x6_1 + 1)) l1_0 a1_1 l1_2 a1_3) else (none)))) else (if x5_1.length < 17592186044416 then (spec_LightsOf.l0 kj5 l0 (x5_1 ++ [1]) (wrap64 (x6_1 + 1)) l1_0 a1_1 l1_2 a1_3) else (none))) = some r := by rw [if_pos rfl] at H; exact H
              clear H
              have H := H1
              clear H1
              by_cases c16 : (l1_2.length : Int) > 0
              · rw [if_pos c16] at H
                have c16b0 : decide (0 < (l1_2.length : Int)) = true := decide_eq_true c16
                have c16b1 : decide (0 < l1_2.length) = true := decide_eq_true (by omega)
                clear c16
                obtain ⟨t892, A17, H⟩ := bindE H
                try dsimp only at H
                by_cases c18 : t892 = true
                · subst c18
                  have H1 : (if x5_1.length < 17592186044416 then (spec_LightsOf.l0 kj5 l0 (x5_1 ++ [1]) (wrap64 (x6_1 + 1)) l1_0 a1_1 l1_2 a1_3) else (none)) = some r := by rw [if_pos rfl] at H; exact H
                  clear H
                  have H := H1
                  clear H1
                  have c19 : x5_1.length < 17592186044416 := ifN H
                  replace H := ifT H
                  have LMc19 := Aside0.mk c19
                  clear c19
                  obtain ⟨y893, hy893⟩ : ∃ y_ : List Int, y_ = (x5_1 ++ [1]) := ⟨_, rfl⟩
                  replace H : (spec_LightsOf.l0 kj5 l0 y893 (wrap64 (x6_1 + 1)) l1_0 a1_1 l1_2 a1_3) = some r := by first | (rw [hy893]; with_reducible exact H) | (have H2_ := (Option.bind_some _ _).symm.trans H; rw [hy893]; with_reducible exact H2_) | (have H2_ := (Option.bind_some _ _).symm.trans H; with_reducible exact H2_) | with_reducible exact H | (rw [hy893]; exact H) | exact H
                  have Ny893 := Aside0.mk hy893
                  clear hy893
                  have H' := Aside0.mk H
                  clear H
                  obtain ⟨hcz20_0, hcz20_1, hcz20_2, hcz20_3, hfz20_0, hfz20_1, hfz20_2, hfz20_3⟩ := blkc4 BK884
                  have p889 : 0 ≤ (x6_1 : Int) := dA
                  have q889 : x6_1 < (l0.length : Int) := dA
                  obtain ⟨ad889, e889, hx889_0, hx889_1, hx889_2, hx889_3⟩ := at_T90 HR0.out x6_1 p889 q889
                  cases e889
                  replace hx889_0 := hC HB hx889_0
                  replace hx889_1 := hC HB hx889_1
                  replace hx889_2 := hC HB hx889_2
                  replace hx889_3 := hC HB hx889_3
                  replace p889 := eq_true p889
                  replace q889 := eq_true q889
                  go_wp2_with (first | (go_at_call 104; (with_reducible refine (spec_l6Has.calls kj5 _ _ l1_0 ((rd_T90 l0 x6_1).f0) true _ ?side1 ?side2 A14.out).mono ?_); (case side1 => exact cB HR1_0); (case side2 => exact HC1_0.out); rintro e w' ⟨rfl, ⟨nd, rfl⟩⟩; (try first | exact ⟨rfl, _, World.drewN_drewN _ _ _⟩ | exact ⟨rfl, _, Eq.trans (World.drewN_drewN _ _ _) (congrArg (World.drewN _) (Nat.add_assoc _ _ _))⟩); have p891 : 0 ≤ (x6_1 : Int) := dA; have q891 : x6_1 < (l0.length : Int) := dA; obtain ⟨ad891, e891, hx891_0, hx891_1, hx891_2, hx891_3⟩ := at_T90 HR0.out x6_1 p891 q891; obtain rfl : ad889 = ad891 := (by injection e891); replace hx891_0 := hC HB hx891_0; replace hx891_1 := hC HB hx891_1; replace hx891_2 := hC HB hx891_2; replace hx891_3 := hC HB hx891_3; replace p891 := eq_true p891; replace q891 := eq_true q891) | (go_at_call 104; (with_reducible refine (spec_l6Has.calls kj5 _ _ l1_2 ((rd_T90 l0 x6_1).f0) true _ ?side1 ?side2 A17.out).mono ?_); (case side1 => exact cG HR1_2); (case side2 => exact HC1_2.out); rintro e w' ⟨rfl, ⟨nd, rfl⟩⟩; (try first | exact ⟨rfl, _, World.drewN_drewN _ _ _⟩ | exact ⟨rfl, _, Eq.trans (World.drewN_drewN _ _ _) (congrArg (World.drewN _) (Nat.add_assoc _ _ _))⟩)) | ((with_reducible refine gate_builtin (b := .append) (xs := #[.tmp 43, .tmp 45]) rfl ?_); at_builtin; refine Kd.R_append (Kd.int .i64) (w0 := w) w.heap.size rfl (.tmp 43) (.tmp 45) 22 3 (.int .i64 0) 8 rfl Try.underlying22 info3 rfl (by decide) (by omega) u5 x5_1 1 [.int .i64 1] (fun _ => True) (fun _ => False) rfl rfl ?aP (fun _ hk => hk.elim) ?aF ?aO ?aB ?aS ?aL ?_; (case aP => exact rfl); (case aB => exact bG); (case aF => exact (fun _ _ => trivial)); (case aO => exact (rK HO_5)); (case aS => exact (below_size bG)); (case aL => have := LMc19.out; omega); intro v894 w21 ho hb hg hat; rw [← Ny893.out] at ho; have n0_ := Aside0.mk (blk_grown (g := gb884) (o := .cells #[.slice A1_0 l1_0.length c1_0, .int .i64 a1_1, .slice A1_2 l1_2.length c1_2, .int .i64 a1_3] 70 (0, 0)) (bK BK884) hg (Kd.R_ne HO_5.out BK884.out (by decide))); have n1_ := Aside0.mk (hb); have n2_ := Aside0.mk (ho); clear BK884; clear HB; clear HO_5; have BK884 := n0_; have HB := n1_; have HO895 := n2_; clear n0_ n1_ n2_; clear ho hb hg hat))
                  repeat (go_quiet (first | (go_at_call 104; (with_reducible refine (spec_l6Has.calls kj5 _ _ l1_0 ((rd_T90 l0 x6_1).f0) true _ ?side1 ?side2 A14.out).mono ?_); (case side1 => exact cB HR1_0); (case side2 => exact HC1_0.out); rintro e w' ⟨rfl, ⟨nd, rfl⟩⟩; (try first | exact ⟨rfl, _, World.drewN_drewN _ _ _⟩ | exact ⟨rfl, _, Eq.trans (World.drewN_drewN _ _ _) (congrArg (World.drewN _) (Nat.add_assoc _ _ _))⟩); have p891 : 0 ≤ (x6_1 : Int) := dA; have q891 : x6_1 < (l0.length : Int) := dA; obtain ⟨ad891, e891, hx891_0, hx891_1, hx891_2, hx891_3⟩ := at_T90 HR0.out x6_1 p891 q891; obtain rfl : ad889 = ad891 := (by injection e891); replace hx891_0 := hC HB hx891_0; replace hx891_1 := hC HB hx891_1; replace hx891_2 := hC HB hx891_2; replace hx891_3 := hC HB hx891_3; replace p891 := eq_true p891; replace q891 := eq_true q891) | (go_at_call 104; (with_reducible refine (spec_l6Has.calls kj5 _ _ l1_2 ((rd_T90 l0 x6_1).f0) true _ ?side1 ?side2 A17.out).mono ?_); (case side1 => exact cG HR1_2); (case side2 => exact HC1_2.out); rintro e w' ⟨rfl, ⟨nd, rfl⟩⟩; (try first | exact ⟨rfl, _, World.drewN_drewN _ _ _⟩ | exact ⟨rfl, _, Eq.trans (World.drewN_drewN _ _ _) (congrArg (World.drewN _) (Nat.add_assoc _ _ _))⟩)) | ((with_reducible refine gate_builtin (b := .append) (xs := #[.tmp 43, .tmp 45]) rfl ?_); at_builtin; refine Kd.R_append (Kd.int .i64) (w0 := w) w.heap.size rfl (.tmp 43) (.tmp 45) 22 3 (.int .i64 0) 8 rfl Try.underlying22 info3 rfl (by decide) (by omega) u5 x5_1 1 [.int .i64 1] (fun _ => True) (fun _ => False) rfl rfl ?aP (fun _ hk => hk.elim) ?aF ?aO ?aB ?aS ?aL ?_; (case aP => exact rfl); (case aB => exact bG); (case aF => exact (fun _ _ => trivial)); (case aO => exact (rK HO_5)); (case aS => exact (below_size bG)); (case aL => have := LMc19.out; omega); intro v894 w21 ho hb hg hat; rw [← Ny893.out] at ho; have n0_ := Aside0.mk (blk_grown (g := gb884) (o := .cells #[.slice A1_0 l1_0.length c1_0, .int .i64 a1_1, .slice A1_2 l1_2.length c1_2, .int .i64 a1_3] 70 (0, 0)) (bK BK884) hg (Kd.R_ne HO_5.out BK884.out (by decide))); have n1_ := Aside0.mk (hb); have n2_ := Aside0.mk (ho); clear BK884; clear HB; clear HO_5; have BK884 := n0_; have HB := n1_; have HO895 := n2_; clear n0_ n1_ n2_; clear ho hb hg hat)); try go_wp2_with (first | (go_at_call 104; (with_reducible refine (spec_l6Has.calls kj5 _ _ l1_0 ((rd_T90 l0 x6_1).f0) true _ ?side1 ?side2 A14.out).mono ?_); (case side1 => exact cB HR1_0); (case side2 => exact HC1_0.out); rintro e w' ⟨rfl, ⟨nd, rfl⟩⟩; (try first | exact ⟨rfl, _, World.drewN_drewN _ _ _⟩ | exact ⟨rfl, _, Eq.trans (World.drewN_drewN _ _ _) (congrArg (World.drewN _) (Nat.add_assoc _ _ _))⟩); have p891 : 0 ≤ (x6_1 : Int) := dA; have q891 : x6_1 < (l0.length : Int) := dA; obtain ⟨ad891, e891, hx891_0, hx891_1, hx891_2, hx891_3⟩ := at_T90 HR0.out x6_1 p891 q891; obtain rfl : ad889 = ad891 := (by injection e891); replace hx891_0 := hC HB hx891_0; replace hx891_1 := hC HB hx891_1; replace hx891_2 := hC HB hx891_2; replace hx891_3 := hC HB hx891_3; replace p891 := eq_true p891; replace q891 := eq_true q891) | (go_at_call 104; (with_reducible refine (spec_l6Has.calls kj5 _ _ l1_2 ((rd_T90 l0 x6_1).f0) true _ ?side1 ?side2 A17.out).mono ?_); (case side1 => exact cG HR1_2); (case side2 => exact HC1_2.out); rintro e w' ⟨rfl, ⟨nd, rfl⟩⟩; (try first | exact ⟨rfl, _, World.drewN_drewN _ _ _⟩ | exact ⟨rfl, _, Eq.trans (World.drewN_drewN _ _ _) (congrArg (World.drewN _) (Nat.add_assoc _ _ _))⟩)) | ((with_reducible refine gate_builtin (b := .append) (xs := #[.tmp 43, .tmp 45]) rfl ?_); at_builtin; refine Kd.R_append (Kd.int .i64) (w0 := w) w.heap.size rfl (.tmp 43) (.tmp 45) 22 3 (.int .i64 0) 8 rfl Try.underlying22 info3 rfl (by decide) (by omega) u5 x5_1 1 [.int .i64 1] (fun _ => True) (fun _ => False) rfl rfl ?aP (fun _ hk => hk.elim) ?aF ?aO ?aB ?aS ?aL ?_; (case aP => exact rfl); (case aB => exact bG); (case aF => exact (fun _ _ => trivial)); (case aO => exact (rK HO_5)); (case aS => exact (below_size bG)); (case aL => have := LMc19.out; omega); intro v894 w21 ho hb hg hat; rw [← Ny893.out] at ho; have n0_ := Aside0.mk (blk_grown (g := gb884) (o := .cells #[.slice A1_0 l1_0.length c1_0, .int .i64 a1_1, .slice A1_2 l1_2.length c1_2, .int .i64 a1_3] 70 (0, 0)) (bK BK884) hg (Kd.R_ne HO_5.out BK884.out (by decide))); have n1_ := Aside0.mk (hb); have n2_ := Aside0.mk (ho); clear BK884; clear HB; clear HO_5; have BK884 := n0_; have HB := n1_; have HO895 := n2_; clear n0_ n1_ n2_; clear ho hb hg hat)))
                  go_roundg kj5
                  case measure => have := HK1.out; have := HJ5.out; omega
                  case rel => exact ⟨(y893), (wrap64 (x6_1 + 1)), rS, H', ⟨by have := HK1.out; have := HJ5.out; omega⟩, ⟨rK HO895⟩, ⟨bK BK884⟩, ⟨bG⟩⟩
                · replace c18 := Bool.eq_false_iff.mpr c18
                  subst c18
                  have H1 : (if x5_1.length < 17592186044416 then (spec_LightsOf.l0 kj5 l0 (x5_1 ++ [2]) (wrap64 (x6_1 + 1)) l1_0 a1_1 l1_2 a1_3) else (none)) = some r := by rw [if_neg (show ¬ (false = true) by decide)] at H; exact H
                  clear H
                  have H := H1
                  clear H1
                  have c22 : x5_1.length < 17592186044416 := ifN H
                  replace H := ifT H
                  have LMc22 := Aside0.mk c22
                  clear c22
                  obtain ⟨y896, hy896⟩ : ∃ y_ : List Int, y_ = (x5_1 ++ [2]) := ⟨_, rfl⟩
                  replace H : (spec_LightsOf.l0 kj5 l0 y896 (wrap64 (x6_1 + 1)) l1_0 a1_1 l1_2 a1_3) = some r := by first | (rw [hy896]; with_reducible exact H) | (have H2_ := (Option.bind_some _ _).symm.trans H; rw [hy896]; with_reducible exact H2_) | (have H2_ := (Option.bind_some _ _).symm.trans H; with_reducible exact H2_) | with_reducible exact H | (rw [hy896]; exact H) | exact H
                  have Ny896 := Aside0.mk hy896
                  clear hy896
                  have H' := Aside0.mk H
                  clear H
                  obtain ⟨hcz23_0, hcz23_1, hcz23_2, hcz23_3, hfz23_0, hfz23_1, hfz23_2, hfz23_3⟩ := blkc4 BK884
                  have p889 : 0 ≤ (x6_1 : Int) := dA
                  have q889 : x6_1 < (l0.length : Int) := dA
                  obtain ⟨ad889, e889, hx889_0, hx889_1, hx889_2, hx889_3⟩ := at_T90 HR0.out x6_1 p889 q889
                  cases e889
                  replace hx889_0 := hC HB hx889_0
                  replace hx889_1 := hC HB hx889_1
                  replace hx889_2 := hC HB hx889_2
                  replace hx889_3 := hC HB hx889_3
                  replace p889 := eq_true p889
                  replace q889 := eq_true q889
                  go_wp2_with (first | (go_at_call 104; (with_reducible refine (spec_l6Has.calls kj5 _ _ l1_0 ((rd_T90 l0 x6_1).f0) true _ ?side1 ?side2 A14.out).mono ?_); (case side1 => exact cB HR1_0); (case side2 => exact HC1_0.out); rintro e w' ⟨rfl, ⟨nd, rfl⟩⟩; (try first | exact ⟨rfl, _, World.drewN_drewN _ _ _⟩ | exact ⟨rfl, _, Eq.trans (World.drewN_drewN _ _ _) (congrArg (World.drewN _) (Nat.add_assoc _ _ _))⟩); have p891 : 0 ≤ (x6_1 : Int) := dA; have q891 : x6_1 < (l0.length : Int) := dA; obtain ⟨ad891, e891, hx891_0, hx891_1, hx891_2, hx891_3⟩ := at_T90 HR0.out x6_1 p891 q891; obtain rfl : ad889 = ad891 := (by injection e891); replace hx891_0 := hC HB hx891_0; replace hx891_1 := hC HB hx891_1; replace hx891_2 := hC HB hx891_2; replace hx891_3 := hC HB hx891_3; replace p891 := eq_true p891; replace q891 := eq_true q891) | (go_at_call 104; (with_reducible refine (spec_l6Has.calls kj5 _ _ l1_2 ((rd_T90 l0 x6_1).f0) false _ ?side1 ?side2 A17.out).mono ?_); (case side1 => exact cG HR1_2); (case side2 => exact HC1_2.out); rintro e w' ⟨rfl, ⟨nd, rfl⟩⟩; (try first | exact ⟨rfl, _, World.drewN_drewN _ _ _⟩ | exact ⟨rfl, _, Eq.trans (World.drewN_drewN _ _ _) (congrArg (World.drewN _) (Nat.add_assoc _ _ _))⟩)) | ((with_reducible refine gate_builtin (b := .append) (xs := #[.tmp 43, .tmp 45]) rfl ?_); at_builtin; refine Kd.R_append (Kd.int .i64) (w0 := w) w.heap.size rfl (.tmp 43) (.tmp 45) 22 3 (.int .i64 0) 8 rfl Try.underlying22 info3 rfl (by decide) (by omega) u5 x5_1 2 [.int .i64 2] (fun _ => True) (fun _ => False) rfl rfl ?aP (fun _ hk => hk.elim) ?aF ?aO ?aB ?aS ?aL ?_; (case aP => exact rfl); (case aB => exact bG); (case aF => exact (fun _ _ => trivial)); (case aO => exact (rK HO_5)); (case aS => exact (below_size bG)); (case aL => have := LMc22.out; omega); intro v897 w24 ho hb hg hat; rw [← Ny896.out] at ho; have n0_ := Aside0.mk (blk_grown (g := gb884) (o := .cells #[.slice A1_0 l1_0.length c1_0, .int .i64 a1_1, .slice A1_2 l1_2.length c1_2, .int .i64 a1_3] 70 (0, 0)) (bK BK884) hg (Kd.R_ne HO_5.out BK884.out (by decide))); have n1_ := Aside0.mk (hb); have n2_ := Aside0.mk (ho); clear BK884; clear HB; clear HO_5; have BK884 := n0_; have HB := n1_; have HO898 := n2_; clear n0_ n1_ n2_; clear ho hb hg hat))
                  repeat (go_quiet (first | (go_at_call 104; (with_reducible refine (spec_l6Has.calls kj5 _ _ l1_0 ((rd_T90 l0 x6_1).f0) true _ ?side1 ?side2 A14.out).mono ?_); (case side1 => exact cB HR1_0); (case side2 => exact HC1_0.out); rintro e w' ⟨rfl, ⟨nd, rfl⟩⟩; (try first | exact ⟨rfl, _, World.drewN_drewN _ _ _⟩ | exact ⟨rfl, _, Eq.trans (World.drewN_drewN _ _ _) (congrArg (World.drewN _) (Nat.add_assoc _ _ _))⟩); have p891 : 0 ≤ (x6_1 : Int) := dA; have q891 : x6_1 < (l0.length : Int) := dA; obtain ⟨ad891, e891, hx891_0, hx891_1, hx891_2, hx891_3⟩ := at_T90 HR0.out x6_1 p891 q891; obtain rfl : ad889 = ad891 := (by injection e891); replace hx891_0 := hC HB hx891_0; replace hx891_1 := hC HB hx891_1; replace hx891_2 := hC HB hx891_2; replace hx891_3 := hC HB hx891_3; replace p891 := eq_true p891; replace q891 := eq_true q891) | (go_at_call 104; (with_reducible refine (spec_l6Has.calls kj5 _ _ l1_2 ((rd_T90 l0 x6_1).f0) false _ ?side1 ?side2 A17.out).mono ?_); (case side1 => exact cG HR1_2); (case side2 => exact HC1_2.out); rintro e w' ⟨rfl, ⟨nd, rfl⟩⟩; (try first | exact ⟨rfl, _, World.drewN_drewN _ _ _⟩ | exact ⟨rfl, _, Eq.trans (World.drewN_drewN _ _ _) (congrArg (World.drewN _) (Nat.add_assoc _ _ _))⟩)) | ((with_reducible refine gate_builtin (b := .append) (xs := #[.tmp 43, .tmp 45]) rfl ?_); at_builtin; refine Kd.R_append (Kd.int .i64) (w0 := w) w.heap.size rfl (.tmp 43) (.tmp 45) 22 3 (.int .i64 0) 8 rfl Try.underlying22 info3 rfl (by decide) (by omega) u5 x5_1 2 [.int .i64 2] (fun _ => True) (fun _ => False) rfl rfl ?aP (fun _ hk => hk.elim) ?aF ?aO ?aB ?aS ?aL ?_; (case aP => exact rfl); (case aB => exact bG); (case aF => exact (fun _ _ => trivial)); (case aO => exact (rK HO_5)); (case aS => exact (below_size bG)); (case aL => have := LMc22.out; omega); intro v897 w24 ho hb hg hat; rw [← Ny896.out] at ho; have n0_ := Aside0.mk (blk_grown (g := gb884) (o := .cells #[.slice A1_0 l1_0.length c1_0, .int .i64 a1_1, .slice A1_2 l1_2.length c1_2, .int .i64 a1_3] 70 (0, 0)) (bK BK884) hg (Kd.R_ne HO_5.out BK884.out (by decide))); have n1_ := Aside0.mk (hb); have n2_ := Aside0.mk (ho); clear BK884; clear HB; clear HO_5; have BK884 := n0_; have HB := n1_; have HO898 := n2_; clear n0_ n1_ n2_; clear ho hb hg hat)); try go_wp2_with (first | (go_at_call 104; (with_reducible refine (spec_l6Has.calls kj5 _ _ l1_0 ((rd_T90 l0 x6_1).f0) true _ ?side1 ?side2 A14.out).mono ?_); (case side1 => exact cB HR1_0); (case side2 => exact HC1_0.out); rintro e w' ⟨rfl, ⟨nd, rfl⟩⟩; (try first | exact ⟨rfl, _, World.drewN_drewN _ _ _⟩ | exact ⟨rfl, _, Eq.trans (World.drewN_drewN _ _ _) (congrArg (World.drewN _) (Nat.add_assoc _ _ _))⟩); have p891 : 0 ≤ (x6_1 : Int) := dA; have q891 : x6_1 < (l0.length : Int) := dA; obtain ⟨ad891, e891, hx891_0, hx891_1, hx891_2, hx891_3⟩ := at_T90 HR0.out x6_1 p891 q891; obtain rfl : ad889 = ad891 := (by injection e891); replace hx891_0 := hC HB hx891_0; replace hx891_1 := hC HB hx891_1; replace hx891_2 := hC HB hx891_2; replace hx891_3 := hC HB hx891_3; replace p891 := eq_true p891; replace q891 := eq_true q891) | (go_at_call 104; (with_reducible refine (spec_l6Has.calls kj5 _ _ l1_2 ((rd_T90 l0 x6_1).f0) false _ ?side1 ?side2 A17.out).mono ?_); (case side1 => exact cG HR1_2); (case side2 => exact HC1_2.out); rintro e w' ⟨rfl, ⟨nd, rfl⟩⟩; (try first | exact ⟨rfl, _, World.drewN_drewN _ _ _⟩ | exact ⟨rfl, _, Eq.trans (World.drewN_drewN _ _ _) (congrArg (World.drewN _) (Nat.add_assoc _ _ _))⟩)) | ((with_reducible refine gate_builtin (b := .append) (xs := #[.tmp 43, .tmp 45]) rfl ?_); at_builtin; refine Kd.R_append (Kd.int .i64) (w0 := w) w.heap.size rfl (.tmp 43) (.tmp 45) 22 3 (.int .i64 0) 8 rfl Try.underlying22 info3 rfl (by decide) (by omega) u5 x5_1 2 [.int .i64 2] (fun _ => True) (fun _ => False) rfl rfl ?aP (fun _ hk => hk.elim) ?aF ?aO ?aB ?aS ?aL ?_; (case aP => exact rfl); (case aB => exact bG); (case aF => exact (fun _ _ => trivial)); (case aO => exact (rK HO_5)); (case aS => exact (below_size bG)); (case aL => have := LMc22.out; omega); intro v897 w24 ho hb hg hat; rw [← Ny896.out] at ho; have n0_ := Aside0.mk (blk_grown (g := gb884) (o := .cells #[.slice A1_0 l1_0.length c1_0, .int .i64 a1_1, .slice A1_2 l1_2.length c1_2, .int .i64 a1_3] 70 (0, 0)) (bK BK884) hg (Kd.R_ne HO_5.out BK884.out (by decide))); have n1_ := Aside0.mk (hb); have n2_ := Aside0.mk (ho); clear BK884; clear HB; clear HO_5; have BK884 := n0_; have HB := n1_; have HO898 := n2_; clear n0_ n1_ n2_; clear ho hb hg hat)))
                  go_roundg kj5
                  case measure => have := HK1.out; have := HJ5.out; omega
                  case rel => exact ⟨(y896), (wrap64 (x6_1 + 1)), rS, H', ⟨by have := HK1.out; have := HJ5.out; omega⟩, ⟨rK HO898⟩, ⟨bK BK884⟩, ⟨bG⟩⟩
              · rw [if_neg c16] at H
                have c16b0 : decide (0 < (l1_2.length : Int)) = false := decide_eq_false c16
                have c16b1 : decide (0 < l1_2.length) = false := decide_eq_false (by omega)
                clear c16
                have c25 : x5_1.length < 17592186044416 := ifN H
                replace H := ifT H
                have LMc25 := Aside0.mk c25
                clear c25
                obtain ⟨y899, hy899⟩ : ∃ y_ : List Int, y_ = (x5_1 ++ [1]) := ⟨_, rfl⟩
                replace H : (spec_LightsOf.l0 kj5 l0 y899 (wrap64 (x6_1 + 1)) l1_0 a1_1 l1_2 a1_3) = some r := by first | (rw [hy899]; with_reducible exact H) | (have H2_ := (Option.bind_some _ _).symm.trans H; rw [hy899]; with_reducible exact H2_) | (have H2_ := (Option.bind_some _ _).symm.trans H; with_reducible exact H2_) | with_reducible exact H | (rw [hy899]; exact H) | exact H
                have Ny899 := Aside0.mk hy899
                clear hy899
                have H' := Aside0.mk H
                clear H
                obtain ⟨hcz26_0, hcz26_1, hcz26_2, hcz26_3, hfz26_0, hfz26_1, hfz26_2, hfz26_3⟩ := blkc4 BK884
                have p889 : 0 ≤ (x6_1 : Int) := dA
                have q889 : x6_1 < (l0.length : Int) := dA
                obtain ⟨ad889, e889, hx889_0, hx889_1, hx889_2, hx889_3⟩ := at_T90 HR0.out x6_1 p889 q889
                cases e889
                replace hx889_0 := hC HB hx889_0
                replace hx889_1 := hC HB hx889_1
                replace hx889_2 := hC HB hx889_2
                replace hx889_3 := hC HB hx889_3
                replace p889 := eq_true p889
                replace q889 := eq_true q889
                go_wp2_with (first | (go_at_call 104; (with_reducible refine (spec_l6Has.calls kj5 _ _ l1_0 ((rd_T90 l0 x6_1).f0) true _ ?side1 ?side2 A14.out).mono ?_); (case side1 => exact cB HR1_0); (case side2 => exact HC1_0.out); rintro e w' ⟨rfl, ⟨nd, rfl⟩⟩; (try first | exact ⟨rfl, _, World.drewN_drewN _ _ _⟩ | exact ⟨rfl, _, Eq.trans (World.drewN_drewN _ _ _) (congrArg (World.drewN _) (Nat.add_assoc _ _ _))⟩)) | ((with_reducible refine gate_builtin (b := .append) (xs := #[.tmp 43, .tmp 45]) rfl ?_); at_builtin; refine Kd.R_append (Kd.int .i64) (w0 := w) w.heap.size rfl (.tmp 43) (.tmp 45) 22 3 (.int .i64 0) 8 rfl Try.underlying22 info3 rfl (by decide) (by omega) u5 x5_1 1 [.int .i64 1] (fun _ => True) (fun _ => False) rfl rfl ?aP (fun _ hk => hk.elim) ?aF ?aO ?aB ?aS ?aL ?_; (case aP => exact rfl); (case aB => exact bG); (case aF => exact (fun _ _ => trivial)); (case aO => exact (rK HO_5)); (case aS => exact (below_size bG)); (case aL => have := LMc25.out; omega); intro v900 w27 ho hb hg hat; rw [← Ny899.out] at ho; have n0_ := Aside0.mk (blk_grown (g := gb884) (o := .cells #[.slice A1_0 l1_0.length c1_0, .int .i64 a1_1, .slice A1_2 l1_2.length c1_2, .int .i64 a1_3] 70 (0, 0)) (bK BK884) hg (Kd.R_ne HO_5.out BK884.out (by decide))); have n1_ := Aside0.mk (hb); have n2_ := Aside0.mk (ho); clear BK884; clear HB; clear HO_5; have BK884 := n0_; have HB := n1_; have HO901 := n2_; clear n0_ n1_ n2_; clear ho hb hg hat))
                repeat (go_quiet (first | (go_at_call 104; (with_reducible refine (spec_l6Has.calls kj5 _ _ l1_0 ((rd_T90 l0 x6_1).f0) true _ ?side1 ?side2 A14.out).mono ?_); (case side1 => exact cB HR1_0); (case side2 => exact HC1_0.out); rintro e w' ⟨rfl, ⟨nd, rfl⟩⟩; (try first | exact ⟨rfl, _, World.drewN_drewN _ _ _⟩ | exact ⟨rfl, _, Eq.trans (World.drewN_drewN _ _ _) (congrArg (World.drewN _) (Nat.add_assoc _ _ _))⟩)) | ((with_reducible refine gate_builtin (b := .append) (xs := #[.tmp 43, .tmp 45]) rfl ?_); at_builtin; refine Kd.R_append (Kd.int .i64) (w0 := w) w.heap.size rfl (.tmp 43) (.tmp 45) 22 3 (.int .i64 0) 8 rfl Try.underlying22 info3 rfl (by decide) (by omega) u5 x5_1 1 [.int .i64 1] (fun _ => True) (fun _ => False) rfl rfl ?aP (fun _ hk => hk.elim) ?aF ?aO ?aB ?aS ?aL ?_; (case aP => exact rfl); (case aB => exact bG); (case aF => exact (fun _ _ => trivial)); (case aO => exact (rK HO_5)); (case aS => exact (below_size bG)); (case aL => have := LMc25.out; omega); intro v900 w27 ho hb hg hat; rw [← Ny899.out] at ho; have n0_ := Aside0.mk (blk_grown (g := gb884) (o := .cells #[.slice A1_0 l1_0.length c1_0, .int .i64 a1_1, .slice A1_2 l1_2.length c1_2, .int .i64 a1_3] 70 (0, 0)) (bK BK884) hg (Kd.R_ne HO_5.out BK884.out (by decide))); have n1_ := Aside0.mk (hb); have n2_ := Aside0.mk (ho); clear BK884; clear HB; clear HO_5; have BK884 := n0_; have HB := n1_; have HO901 := n2_; clear n0_ n1_ n2_; clear ho hb hg hat)); try go_wp2_with (first | (go_at_call 104; (with_reducible refine (spec_l6Has.calls kj5 _ _ l1_0 ((rd_T90 l0 x6_1).f0) true _ ?side1 ?side2 A14.out).mono ?_); (case side1 => exact cB HR1_0); (case side2 => exact HC1_0.out); rintro e w' ⟨rfl, ⟨nd, rfl⟩⟩; (try first | exact ⟨rfl, _, World.drewN_drewN _ _ _⟩ | exact ⟨rfl, _, Eq.trans (World.drewN_drewN _ _ _) (congrArg (World.drewN _) (Nat.add_assoc _ _ _))⟩)) | ((with_reducible refine gate_builtin (b := .append) (xs := #[.tmp 43, .tmp 45]) rfl ?_); at_builtin; refine Kd.R_append (Kd.int .i64) (w0 := w) w.heap.size rfl (.tmp 43) (.tmp 45) 22 3 (.int .i64 0) 8 rfl Try.underlying22 info3 rfl (by decide) (by omega) u5 x5_1 1 [.int .i64 1] (fun _ => True) (fun _ => False) rfl rfl ?aP (fun _ hk => hk.elim) ?aF ?aO ?aB ?aS ?aL ?_; (case aP => exact rfl); (case aB => exact bG); (case aF => exact (fun _ _ => trivial)); (case aO => exact (rK HO_5)); (case aS => exact (below_size bG)); (case aL => have := LMc25.out; omega); intro v900 w27 ho hb hg hat; rw [← Ny899.out] at ho; have n0_ := Aside0.mk (blk_grown (g := gb884) (o := .cells #[.slice A1_0 l1_0.length c1_0, .int .i64 a1_1, .slice A1_2 l1_2.length c1_2, .int .i64 a1_3] 70 (0, 0)) (bK BK884) hg (Kd.R_ne HO_5.out BK884.out (by decide))); have n1_ := Aside0.mk (hb); have n2_ := Aside0.mk (ho); clear BK884; clear HB; clear HO_5; have BK884 := n0_; have HB := n1_; have HO901 := n2_; clear n0_ n1_ n2_; clear ho hb hg hat)))
                go_roundg kj5
                case measure => have := HK1.out; have := HJ5.out; omega
                case rel => exact ⟨(y899), (wrap64 (x6_1 + 1)), rS, H', ⟨by have := HK1.out; have := HJ5.out; omega⟩, ⟨rK HO901⟩, ⟨bK BK884⟩, ⟨bG⟩⟩
            · replace c15 := Bool.eq_false_iff.mpr c15
              subst c15
              have H1 : (if x5_1.length < 17592186044416 then (spec_LightsOf.l0 kj5 l0 (x5_1 ++ [0]) (wrap64 (x6_1 + 1)) l1_0 a1_1 l1_2 a1_3) else (none)) = some r := by rw [if_neg (show ¬ (false = true) by decide)] at H; exact H
              clear H
              have H := H1
              clear H1
              have c28 : x5_1.length < 17592186044416 := ifN H
              replace H := ifT H
              have LMc28 := Aside0.mk c28
              clear c28
              obtain ⟨y902, hy902⟩ : ∃ y_ : List Int, y_ = (x5_1 ++ [0]) := ⟨_, rfl⟩
              replace H : (spec_LightsOf.l0 kj5 l0 y902 (wrap64 (x6_1 + 1)) l1_0 a1_1 l1_2 a1_3) = some r := by first | (rw [hy902]; with_reducible exact H) | (have H2_ := (Option.bind_some _ _).symm.trans H; rw [hy902]; with_reducible exact H2_) | (have H2_ := (Option.bind_some _ _).symm.trans H; with_reducible exact H2_) | with_reducible exact H | (rw [hy902]; exact H) | exact H
              have Ny902 := Aside0.mk hy902
              clear hy902
              have H' := Aside0.mk H
              clear H
              obtain ⟨hcz29_0, hcz29_1, hcz29_2, hcz29_3, hfz29_0, hfz29_1, hfz29_2, hfz29_3⟩ := blkc4 BK884
              have p889 : 0 ≤ (x6_1 : Int) := dA
              have q889 : x6_1 < (l0.length : Int) := dA
              obtain ⟨ad889, e889, hx889_0, hx889_1, hx889_2, hx889_3⟩ := at_T90 HR0.out x6_1 p889 q889
              cases e889
              replace hx889_0 := hC HB hx889_0
              replace hx889_1 := hC HB hx889_1
              replace hx889_2 := hC HB hx889_2
              replace hx889_3 := hC HB hx889_3
              replace p889 := eq_true p889
              replace q889 := eq_true q889
              go_wp2_with (first | (go_at_call 104; (with_reducible refine (spec_l6Has.calls kj5 _ _ l1_0 ((rd_T90 l0 x6_1).f0) false _ ?side1 ?side2 A14.out).mono ?_); (case side1 => exact cB HR1_0); (case side2 => exact HC1_0.out); rintro e w' ⟨rfl, ⟨nd, rfl⟩⟩; (try first | exact ⟨rfl, _, World.drewN_drewN _ _ _⟩ | exact ⟨rfl, _, Eq.trans (World.drewN_drewN _ _ _) (congrArg (World.drewN _) (Nat.add_assoc _ _ _))⟩)) | ((with_reducible refine gate_builtin (b := .append) (xs := #[.tmp 43, .tmp 45]) rfl ?_); at_builtin; refine Kd.R_append (Kd.int .i64) (w0 := w) w.heap.size rfl (.tmp 43) (.tmp 45) 22 3 (.int .i64 0) 8 rfl Try.underlying22 info3 rfl (by decide) (by omega) u5 x5_1 0 [.int .i64 0] (fun _ => True) (fun _ => False) rfl rfl ?aP (fun _ hk => hk.elim) ?aF ?aO ?aB ?aS ?aL ?_; (case aP => exact rfl); (case aB => exact bG); (case aF => exact (fun _ _ => trivial)); (case aO => exact (rK HO_5)); (case aS => exact (below_size bG)); (case aL => have := LMc28.out; omega); intro v903 w30 ho hb hg hat; rw [← Ny902.out] at ho; have n0_ := Aside0.mk (blk_grown (g := gb884) (o := .cells #[.slice A1_0 l1_0.length c1_0, .int .i64 a1_1, .slice A1_2 l1_2.length c1_2, .int .i64 a1_3] 70 (0, 0)) (bK BK884) hg (Kd.R_ne HO_5.out BK884.out (by decide))); have n1_ := Aside0.mk (hb); have n2_ := Aside0.mk (ho); clear BK884; clear HB; clear HO_5; have BK884 := n0_; have HB := n1_; have HO904 := n2_; clear n0_ n1_ n2_; clear ho hb hg hat))
              repeat (go_quiet (first | (go_at_call 104; (with_reducible refine (spec_l6Has.calls kj5 _ _ l1_0 ((rd_T90 l0 x6_1).f0) false _ ?side1 ?side2 A14.out).mono ?_); (case side1 => exact cB HR1_0); (case side2 => exact HC1_0.out); rintro e w' ⟨rfl, ⟨nd, rfl⟩⟩; (try first | exact ⟨rfl, _, World.drewN_drewN _ _ _⟩ | exact ⟨rfl, _, Eq.trans (World.drewN_drewN _ _ _) (congrArg (World.drewN _) (Nat.add_assoc _ _ _))⟩)) | ((with_reducible refine gate_builtin (b := .append) (xs := #[.tmp 43, .tmp 45]) rfl ?_); at_builtin; refine Kd.R_append (Kd.int .i64) (w0 := w) w.heap.size rfl (.tmp 43) (.tmp 45) 22 3 (.int .i64 0) 8 rfl Try.underlying22 info3 rfl (by decide) (by omega) u5 x5_1 0 [.int .i64 0] (fun _ => True) (fun _ => False) rfl rfl ?aP (fun _ hk => hk.elim) ?aF ?aO ?aB ?aS ?aL ?_; (case aP => exact rfl); (case aB => exact bG); (case aF => exact (fun _ _ => trivial)); (case aO => exact (rK HO_5)); (case aS => exact (below_size bG)); (case aL => have := LMc28.out; omega); intro v903 w30 ho hb hg hat; rw [← Ny902.out] at ho; have n0_ := Aside0.mk (blk_grown (g := gb884) (o := .cells #[.slice A1_0 l1_0.length c1_0, .int .i64 a1_1, .slice A1_2 l1_2.length c1_2, .int .i64 a1_3] 70 (0, 0)) (bK BK884) hg (Kd.R_ne HO_5.out BK884.out (by decide))); have n1_ := Aside0.mk (hb); have n2_ := Aside0.mk (ho); clear BK884; clear HB; clear HO_5; have BK884 := n0_; have HB := n1_; have HO904 := n2_; clear n0_ n1_ n2_; clear ho hb hg hat)); try go_wp2_with (first | (go_at_call 104; (with_reducible refine (spec_l6Has.calls kj5 _ _ l1_0 ((rd_T90 l0 x6_1).f0) false _ ?side1 ?side2 A14.out).mono ?_); (case side1 => exact cB HR1_0); (case side2 => exact HC1_0.out); rintro e w' ⟨rfl, ⟨nd, rfl⟩⟩; (try first | exact ⟨rfl, _, World.drewN_drewN _ _ _⟩ | exact ⟨rfl, _, Eq.trans (World.drewN_drewN _ _ _) (congrArg (World.drewN _) (Nat.add_assoc _ _ _))⟩)) | ((with_reducible refine gate_builtin (b := .append) (xs := #[.tmp 43, .tmp 45]) rfl ?_); at_builtin; refine Kd.R_append (Kd.int .i64) (w0 := w) w.heap.size rfl (.tmp 43) (.tmp 45) 22 3 (.int .i64 0) 8 rfl Try.underlying22 info3 rfl (by decide) (by omega) u5 x5_1 0 [.int .i64 0] (fun _ => True) (fun _ => False) rfl rfl ?aP (fun _ hk => hk.elim) ?aF ?aO ?aB ?aS ?aL ?_; (case aP => exact rfl); (case aB => exact bG); (case aF => exact (fun _ _ => trivial)); (case aO => exact (rK HO_5)); (case aS => exact (below_size bG)); (case aL => have := LMc28.out; omega); intro v903 w30 ho hb hg hat; rw [← Ny902.out] at ho; have n0_ := Aside0.mk (blk_grown (g := gb884) (o := .cells #[.slice A1_0 l1_0.length c1_0, .int .i64 a1_1, .slice A1_2 l1_2.length c1_2, .int .i64 a1_3] 70 (0, 0)) (bK BK884) hg (Kd.R_ne HO_5.out BK884.out (by decide))); have n1_ := Aside0.mk (hb); have n2_ := Aside0.mk (ho); clear BK884; clear HB; clear HO_5; have BK884 := n0_; have HB := n1_; have HO904 := n2_; clear n0_ n1_ n2_; clear ho hb hg hat)))
              go_roundg kj5
              case measure => have := HK1.out; have := HJ5.out; omega
              case rel => exact ⟨(y902), (wrap64 (x6_1 + 1)), rS, H', ⟨by have := HK1.out; have := HJ5.out; omega⟩, ⟨rK HO904⟩, ⟨bK BK884⟩, ⟨bG⟩⟩
          · replace c11 := Bool.eq_false_iff.mpr c11
            subst c11
            have H1 : (some x5_1) = some r := by rw [if_neg (show ¬ (false = true) by decide)] at H; exact H
            clear H
            have H := H1
            clear H1
            obtain rfl := Option.some.inj H
            go_wp2
            repeat (go_quiet (fail); try go_wp2)
            go_ret
            exact ⟨_, by first | rfl | (simp [errW_none, errW_some] <;> rfl) | (simp [*, errW_none, errW_some] <;> rfl), by (with_reducible repeat (first | apply Kd.R_alloc | apply Kd.R_drewN | apply Kd.R_drew)); exact HO_5.out, bG⟩

end Go.Proofs.Ytimmadeghcghoaa.P
