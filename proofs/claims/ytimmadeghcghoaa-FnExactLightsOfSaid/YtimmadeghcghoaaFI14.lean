/- Printed by myprint.py (wip/tools) over the kit's print: what Go's functions compute, and that they do. Lean checks it. -/
import Derived.Test.YtimmadeghcghoaaF0
import Derived.Test.YtimmadeghcghoaaFI01
import Derived.Test.YtimmadeghcghoaaFI05
import Derived.Test.YtimmadeghcghoaaFI07
import Derived.Test.YtimmadeghcghoaaFI08
import Derived.Test.YtimmadeghcghoaaFZHas
namespace Go.Proofs.Ytimmadeghcghoaa.P
open Go.RowKit Go.Proofs.YtimmadeghcghoaaW.PrintWords Go.Proofs.YtimmadeghcghoaaW.PrintLast Go.Proofs.YtimmadeghcghoaaW.PrintMore Go.Proofs.Ytimmadeghcghoaa.Sq
attribute [local go_sem] max2_int min2_int max_two min_two max_three min_three max_four min_four
set_option linter.unusedVariables false
set_option linter.unusedSimpArgs false

/-! ### impl_IsControl: function 57 -/
def impl_IsControl.j0 : Nat → List (S90) → Bool → List Int → Int → List Int → Int → Option (Bool)
  | 0, _, _, _, _, _, _ => none
  | k + 1, x0, x28, x781000, x781001, x781002, x781003 => if x28 = true then (some false) else (if (x781002.length : Int) = 0 then (some (x781003 == 0)) else ((impl_ClearBetween.f k x0 x781000 x781002).bind fun t784 => ((impl_InRange.f x781003 1 t784).bind fun t785 => (some t785))))
def impl_IsControl.f (k : Nat) (l0 : List (S90)) (l1_0 : List Int) (a1_1 : Int) (l1_2 : List Int) (a1_3 : Int) : Option (Bool) := (impl_IsTogether.f k l0 l1_0).bind fun t781 => (if t781 = true then ((impl_IsTogether.f k l0 l1_2).bind fun t782 => (if t782 = true then (if (l1_0.length : Int) = 0 then (impl_IsControl.j0 k l0 true l1_0 a1_1 l1_2 a1_3) else ((impl_InRange.f a1_1 0 1000000).bind fun t783 => (impl_IsControl.j0 k l0 (!t783) l1_0 a1_1 l1_2 a1_3))) else (impl_IsControl.j0 k l0 true l1_0 a1_1 l1_2 a1_3))) else (impl_IsControl.j0 k l0 true l1_0 a1_1 l1_2 a1_3))
theorem impl_IsControl.mono_l : ∀ k, (∀ y0 y1 y2 y3 y4 y5, LeO (impl_IsControl.j0 k y0 y1 y2 y3 y4 y5) (impl_IsControl.j0 (k + 1) y0 y1 y2 y3 y4 y5))
  | 0 => fun _ _ _ _ _ _ r h => by simp [impl_IsControl.j0] at h
  | k + 1 => by
    have ih0 := impl_IsControl.mono_l k
    · intro y0 y1 y2 y3 y4 y5
      unfold impl_IsControl.j0
      repeat' first | (with_reducible first | exact LeO.refl _ | exact LeO.none _ | refine LeO.ite ?_ ?_ | refine LeO.bind ?_ (fun _ => ?_) | exact ih0 _ _ _ _ _ _ | exact impl_ClearBetween.mono _ _ _ _ | exact impl_IsTogether.mono _ _ _) | exact LeO.none _ | refine LeO.ite ?_ ?_ | refine LeO.bind ?_ (fun _ => ?_) | exact ih0 _ _ _ _ _ _ | exact impl_ClearBetween.mono _ _ _ _ | exact impl_IsTogether.mono _ _ _
theorem impl_IsControl.mono : ∀ a0 a1 a2 a3 a4 k, LeO (impl_IsControl.f k a0 a1 a2 a3 a4) (impl_IsControl.f (k + 1) a0 a1 a2 a3 a4) := by
  intro a0 a1 a2 a3 a4 k
  have ih0 := impl_IsControl.mono_l k
  unfold impl_IsControl.f
  repeat' first | (with_reducible first | exact LeO.refl _ | exact LeO.none _ | refine LeO.ite ?_ ?_ | refine LeO.bind ?_ (fun _ => ?_) | exact ih0 _ _ _ _ _ _ | exact impl_ClearBetween.mono _ _ _ _ | exact impl_IsTogether.mono _ _ _) | exact LeO.none _ | refine LeO.ite ?_ ?_ | refine LeO.bind ?_ (fun _ => ?_) | exact ih0 _ _ _ _ _ _ | exact impl_ClearBetween.mono _ _ _ _ | exact impl_IsTogether.mono _ _ _
def impl_IsControl.T5 : Bool × List (List Nat × List Nat) := (true, [([], []), ([0], [0]), ([], []), ([], []), ([3], [3]), ([], []), ([5], [5]), ([2, 4, 6], [2, 4, 6]), ([1, 7, 7], [1, 7]), ([8, 8, 0, 1, 2, 3, 4, 5, 6, 7, 8], [8])])
def impl_IsControl.B5 : List Nat := [0, 1, 0, 0, 8, 0, 32, 124, 255, 511]
theorem impl_IsControl.tab5 : rtab .any (opsOf Try.f57 5) = impl_IsControl.T5 := by kernel_rfl
theorem impl_IsControl.bits5 : waitsOk impl_IsControl.T5.2 impl_IsControl.B5 = true := by kernel_rfl
set_option maxHeartbeats 8000000 in
set_option maxRecDepth 100000 in
theorem impl_IsControl.calls (k : Nat) (A0 : Option Addr) (c0 : Nat) (l0 : List (S90)) (A1_0 : Option Addr) (c1_0 : Nat) (l1_0 : List Int) (a1_1 : Int) (A1_2 : Option Addr) (c1_2 : Nat) (l1_2 : List Int) (a1_3 : Int) (r : Bool) (w : World) (hr0 : Kd.C k90 w A0 l0.length l0) (hc0 : l0.length ≤ c0) (hr1_0 : Kd.C (Kd.int .i64) w A1_0 l1_0.length l1_0) (hc1_0 : l1_0.length ≤ c1_0) (hr1_2 : Kd.C (Kd.int .i64) w A1_2 l1_2.length l1_2) (hc1_2 : l1_2.length ≤ c1_2) (h : impl_IsControl.f k l0 l1_0 a1_1 l1_2 a1_3 = some r) :
    Calls Try.prog 57 #[.slice A0 l0.length c0, .agg #[.slice A1_0 l1_0.length c1_0, .int .i64 a1_1, .slice A1_2 l1_2.length c1_2, .int .i64 a1_3]] w fun e w' => e = .returned (.bool r) ∧ Below w.heap.size w w' := by
  have hu70 := Try.underlying70
  have HR0 := Aside0.mk hr0
  have HC0 := Aside0.mk hc0
  clear hr0 hc0
  have HR1_0 := Aside0.mk hr1_0
  have HC1_0 := Aside0.mk hc1_0
  clear hr1_0 hc1_0
  have HR1_2 := Aside0.mk hr1_2
  have HC1_2 := Aside0.mk hc1_2
  clear hr1_2 hc1_2
  have HB := Aside0.mk (Below.refl w.heap.size w)
  have H : ((impl_IsTogether.f k l0 l1_0).bind fun t781 => (if t781 = true then ((impl_IsTogether.f k l0 l1_2).bind fun t782 => (if t782 = true then (if (l1_0.length : Int) = 0 then (impl_IsControl.j0 k l0 true l1_0 a1_1 l1_2 a1_3) else ((impl_InRange.f a1_1 0 1000000).bind fun t783 => (impl_IsControl.j0 k l0 (!t783) l1_0 a1_1 l1_2 a1_3))) else (impl_IsControl.j0 k l0 true l1_0 a1_1 l1_2 a1_3))) else (impl_IsControl.j0 k l0 true l1_0 a1_1 l1_2 a1_3))) = some r := h
  clear h
  have HC3 := Aside0.mk H
  clear H
  go_enter Try.func57, Try.ntmps57
  go_upto_region 1 with (first | ((with_reducible refine gate_dst (N := 3) rfl ?_); (try (refine gate_guard (by rfl) ?_; dsimp only)); refine bE (N := 3) (cs := #[.slice A1_0 l1_0.length c1_0, .int .i64 a1_1, .slice A1_2 l1_2.length c1_2, .int .i64 a1_3]) (t := 70) ?_; intro gb780 hg w4 hbox hb; have n0_ := Aside0.mk (below_step bA hb); have n1_ := Aside0.mk (hbox); have n2_ := Aside0.mk ((by rw [hg]; exact (below_size bA) : w.heap.size ≤ gb780)); have n3_ := Aside0.mk ((by rw [hg]; exact (below_size bA) : w.heap.size ≤ gb780)); clear HB; have HB := n0_; have BK780 := n1_; have GW780 := n2_; have GE780 := n3_; clear n0_ n1_ n2_ n3_; clear hb hbox hg))
  (try simp only [Act.put, List.setIfInBounds_toArray, List.set_cons_zero, List.set_cons_succ])
  go_cut [28] (fun v28 wc => ∃ (kq : Nat) (x28_2 : Bool), v28 = .bool x28_2 ∧ Aside0 (impl_IsControl.j0 kq l0 x28_2 l1_0 a1_1 l1_2 a1_3 = some r) ∧ Aside0 (kq ≤ k) ∧ Aside0 (wc.heap[gb780]? = some (.cells #[(.slice A1_0 l1_0.length c1_0), .int .i64 a1_1, (.slice A1_2 l1_2.length c1_2), .int .i64 a1_3] 70 (0, 0))) ∧ Aside0 (Below w.heap.size w wc))
  case first =>
    have H := HC3.out
    clear HC3
    obtain ⟨t781, A5, H⟩ := bindE H
    try dsimp only at H
    by_cases c6 : t781 = true
    · subst c6
      have H1 : ((impl_IsTogether.f k l0 l1_2).bind fun t782 => (if t782 = true then (if (l1_0.length : Int) = 0 then (impl_IsControl.j0 k l0 true l1_0 a1_1 l1_2 a1_3) else ((impl_InRange.f a1_1 0 1000000).bind fun t783 => (impl_IsControl.j0 k l0 (!t783) l1_0 a1_1 l1_2 a1_3))) else (impl_IsControl.j0 k l0 true l1_0 a1_1 l1_2 a1_3))) = some r := by rw [if_pos rfl] at H; exact H
      clear H
      have H := H1
      clear H1
      obtain ⟨t782, A7, H⟩ := bindE H
      try dsimp only at H
      by_cases c8 : t782 = true
      · subst c8
        have H1 : (if (l1_0.length : Int) = 0 then (impl_IsControl.j0 k l0 true l1_0 a1_1 l1_2 a1_3) else ((impl_InRange.f a1_1 0 1000000).bind fun t783 => (impl_IsControl.j0 k l0 (!t783) l1_0 a1_1 l1_2 a1_3))) = some r := by rw [if_pos rfl] at H; exact H
        clear H
        have H := H1
        clear H1
        by_cases c9 : (l1_0.length : Int) = 0
        · rw [if_pos c9] at H
          have c9b0 : ((l1_0.length : Int) == 0) = true := beq_iff_eq.mpr c9
          have c9b1 : ((l1_0.length : Int) != 0) = false := bne_eq_false_iff_eq.mpr c9
          clear c9
          (first | rw [c9b0] | (simp only [i64_w, i32_w]; rw [c9b0]) | skip)
          have H' := Aside0.mk H
          clear H
          obtain ⟨hcz10_0, hcz10_1, hcz10_2, hcz10_3, hfz10_0, hfz10_1, hfz10_2, hfz10_3⟩ := blkc4 BK780
          go_wp2_with (first | ((with_reducible refine gate_callee (f := 100) rfl ?_); refine gL (some 8) Try.func100 #[.slice A0 l0.length c0, .slice A1_0 l1_0.length c1_0] ?_; (with_reducible refine (impl_IsTogether.calls k _ _ l0 _ _ l1_0 true _ ?side1 ?side2 ?side3 ?side4 A5.out).mono ?_); (case side1 => exact cB HR0); (case side2 => exact HC0.out); (case side3 => exact cB HR1_0); (case side4 => exact HC1_0.out); rintro e w11 ⟨rfl, hb⟩; refine ⟨_, rfl, ?_⟩; replace BK780 := Aside0.mk (blk_below (g := gb780) (bK BK780) hb); replace HB := Aside0.mk (below_step bG hb); (try clear hb); (try clear hb2); (try clear hk); (try clear hi); have hcz12_0 : w11.cell? ⟨gb780, 0, none⟩ = some (.slice A1_0 l1_0.length c1_0) := (blk_cell BK780.out 0).trans rfl; have hcz12_1 : w11.cell? ⟨gb780, 1, none⟩ = some (.int .i64 a1_1) := (blk_cell BK780.out 1).trans rfl; have hcz12_2 : w11.cell? ⟨gb780, 2, none⟩ = some (.slice A1_2 l1_2.length c1_2) := (blk_cell BK780.out 2).trans rfl; have hcz12_3 : w11.cell? ⟨gb780, 3, none⟩ = some (.int .i64 a1_3) := (blk_cell BK780.out 3).trans rfl; have hfz12_0 := blk_frozen BK780.out 0; have hfz12_1 := blk_frozen BK780.out 1; have hfz12_2 := blk_frozen BK780.out 2; have hfz12_3 := blk_frozen BK780.out 3) | (go_at_call 100; (with_reducible refine (impl_IsTogether.calls k _ _ l0 _ _ l1_2 true _ ?side1 ?side2 ?side3 ?side4 A7.out).mono ?_); (case side1 => exact cB HR0); (case side2 => exact HC0.out); (case side3 => exact cB HR1_2); (case side4 => exact HC1_2.out); rintro e w13 ⟨rfl, hb⟩; replace BK780 := Aside0.mk (blk_below (g := gb780) (bK BK780) hb); replace HB := Aside0.mk (below_step bG hb); (try clear hb); (try clear hb2); (try clear hk); (try clear hi); obtain ⟨hcz14_0, hcz14_1, hcz14_2, hcz14_3, hfz14_0, hfz14_1, hfz14_2, hfz14_3⟩ := blkc4 BK780))
          go_meet
          case rel => exact ⟨_, (true), rS, H', ⟨by first | omega | exact Nat.le_refl _⟩, ⟨bK BK780⟩, ⟨bG⟩⟩
        · rw [if_neg c9] at H
          have c9b0 : ((l1_0.length : Int) == 0) = false := beq_eq_false_iff_ne.mpr c9
          have c9b1 : ((l1_0.length : Int) != 0) = true := bne_iff_ne.mpr c9
          have c9b2 : ¬ (l1_0 = []) := fun h_ => c9 (by rw [h_]; rfl)
          (first | rw [c9b0] | (simp only [i64_w, i32_w]; rw [c9b0]) | skip)
          obtain ⟨t783, A15, H⟩ := bindE H
          try dsimp only at H
          have H' := Aside0.mk H
          clear H
          obtain ⟨hcz16_0, hcz16_1, hcz16_2, hcz16_3, hfz16_0, hfz16_1, hfz16_2, hfz16_3⟩ := blkc4 BK780
          go_wp2_with (first | ((with_reducible refine gate_callee (f := 100) rfl ?_); refine gL (some 8) Try.func100 #[.slice A0 l0.length c0, .slice A1_0 l1_0.length c1_0] ?_; (with_reducible refine (impl_IsTogether.calls k _ _ l0 _ _ l1_0 true _ ?side1 ?side2 ?side3 ?side4 A5.out).mono ?_); (case side1 => exact cB HR0); (case side2 => exact HC0.out); (case side3 => exact cB HR1_0); (case side4 => exact HC1_0.out); rintro e w17 ⟨rfl, hb⟩; refine ⟨_, rfl, ?_⟩; replace BK780 := Aside0.mk (blk_below (g := gb780) (bK BK780) hb); replace HB := Aside0.mk (below_step bG hb); (try clear hb); (try clear hb2); (try clear hk); (try clear hi); have hcz18_0 : w17.cell? ⟨gb780, 0, none⟩ = some (.slice A1_0 l1_0.length c1_0) := (blk_cell BK780.out 0).trans rfl; have hcz18_1 : w17.cell? ⟨gb780, 1, none⟩ = some (.int .i64 a1_1) := (blk_cell BK780.out 1).trans rfl; have hcz18_2 : w17.cell? ⟨gb780, 2, none⟩ = some (.slice A1_2 l1_2.length c1_2) := (blk_cell BK780.out 2).trans rfl; have hcz18_3 : w17.cell? ⟨gb780, 3, none⟩ = some (.int .i64 a1_3) := (blk_cell BK780.out 3).trans rfl; have hfz18_0 := blk_frozen BK780.out 0; have hfz18_1 := blk_frozen BK780.out 1; have hfz18_2 := blk_frozen BK780.out 2; have hfz18_3 := blk_frozen BK780.out 3) | (go_at_call 100; (with_reducible refine (impl_IsTogether.calls k _ _ l0 _ _ l1_2 true _ ?side1 ?side2 ?side3 ?side4 A7.out).mono ?_); (case side1 => exact cB HR0); (case side2 => exact HC0.out); (case side3 => exact cB HR1_2); (case side4 => exact HC1_2.out); rintro e w19 ⟨rfl, hb⟩; replace BK780 := Aside0.mk (blk_below (g := gb780) (bK BK780) hb); replace HB := Aside0.mk (below_step bG hb); (try clear hb); (try clear hb2); (try clear hk); (try clear hi); have hcz20_0 : w19.cell? ⟨gb780, 0, none⟩ = some (.slice A1_0 l1_0.length c1_0) := (blk_cell BK780.out 0).trans rfl; have hcz20_1 : w19.cell? ⟨gb780, 1, none⟩ = some (.int .i64 a1_1) := (blk_cell BK780.out 1).trans rfl; have hcz20_2 : w19.cell? ⟨gb780, 2, none⟩ = some (.slice A1_2 l1_2.length c1_2) := (blk_cell BK780.out 2).trans rfl; have hcz20_3 : w19.cell? ⟨gb780, 3, none⟩ = some (.int .i64 a1_3) := (blk_cell BK780.out 3).trans rfl; have hfz20_0 := blk_frozen BK780.out 0; have hfz20_1 := blk_frozen BK780.out 1; have hfz20_2 := blk_frozen BK780.out 2; have hfz20_3 := blk_frozen BK780.out 3) | (go_at_call 69; (with_reducible refine (impl_InRange.calls a1_1 0 1000000 t783 _ A15.out).mono ?_); rintro e w' ⟨rfl, ⟨nd, rfl⟩⟩))
          go_meet
          case rel => exact ⟨_, (!t783), rS, H', ⟨by first | omega | exact Nat.le_refl _⟩, ⟨bK BK780⟩, ⟨bG⟩⟩
      · replace c8 := Bool.eq_false_iff.mpr c8
        subst c8
        have H1 : (impl_IsControl.j0 k l0 true l1_0 a1_1 l1_2 a1_3) = some r := by rw [if_neg (show ¬ (false = true) by decide)] at H; exact H
        clear H
        have H := H1
        clear H1
        have H' := Aside0.mk H
        clear H
        obtain ⟨hcz21_0, hcz21_1, hcz21_2, hcz21_3, hfz21_0, hfz21_1, hfz21_2, hfz21_3⟩ := blkc4 BK780
        go_wp2_with (first | ((with_reducible refine gate_callee (f := 100) rfl ?_); refine gL (some 8) Try.func100 #[.slice A0 l0.length c0, .slice A1_0 l1_0.length c1_0] ?_; (with_reducible refine (impl_IsTogether.calls k _ _ l0 _ _ l1_0 true _ ?side1 ?side2 ?side3 ?side4 A5.out).mono ?_); (case side1 => exact cB HR0); (case side2 => exact HC0.out); (case side3 => exact cB HR1_0); (case side4 => exact HC1_0.out); rintro e w22 ⟨rfl, hb⟩; refine ⟨_, rfl, ?_⟩; replace BK780 := Aside0.mk (blk_below (g := gb780) (bK BK780) hb); replace HB := Aside0.mk (below_step bG hb); (try clear hb); (try clear hb2); (try clear hk); (try clear hi); have hcz23_0 : w22.cell? ⟨gb780, 0, none⟩ = some (.slice A1_0 l1_0.length c1_0) := (blk_cell BK780.out 0).trans rfl; have hcz23_1 : w22.cell? ⟨gb780, 1, none⟩ = some (.int .i64 a1_1) := (blk_cell BK780.out 1).trans rfl; have hcz23_2 : w22.cell? ⟨gb780, 2, none⟩ = some (.slice A1_2 l1_2.length c1_2) := (blk_cell BK780.out 2).trans rfl; have hcz23_3 : w22.cell? ⟨gb780, 3, none⟩ = some (.int .i64 a1_3) := (blk_cell BK780.out 3).trans rfl; have hfz23_0 := blk_frozen BK780.out 0; have hfz23_1 := blk_frozen BK780.out 1; have hfz23_2 := blk_frozen BK780.out 2; have hfz23_3 := blk_frozen BK780.out 3) | (go_at_call 100; (with_reducible refine (impl_IsTogether.calls k _ _ l0 _ _ l1_2 false _ ?side1 ?side2 ?side3 ?side4 A7.out).mono ?_); (case side1 => exact cB HR0); (case side2 => exact HC0.out); (case side3 => exact cB HR1_2); (case side4 => exact HC1_2.out); rintro e w24 ⟨rfl, hb⟩; replace BK780 := Aside0.mk (blk_below (g := gb780) (bK BK780) hb); replace HB := Aside0.mk (below_step bG hb); (try clear hb); (try clear hb2); (try clear hk); (try clear hi)))
        go_meet
        case rel => exact ⟨_, (true), rS, H', ⟨by first | omega | exact Nat.le_refl _⟩, ⟨bK BK780⟩, ⟨bG⟩⟩
    · replace c6 := Bool.eq_false_iff.mpr c6
      subst c6
      have H1 : (impl_IsControl.j0 k l0 true l1_0 a1_1 l1_2 a1_3) = some r := by rw [if_neg (show ¬ (false = true) by decide)] at H; exact H
      clear H
      have H := H1
      clear H1
      have H' := Aside0.mk H
      clear H
      obtain ⟨hcz25_0, hcz25_1, hcz25_2, hcz25_3, hfz25_0, hfz25_1, hfz25_2, hfz25_3⟩ := blkc4 BK780
      go_wp2_with (first | ((with_reducible refine gate_callee (f := 100) rfl ?_); refine gL (some 8) Try.func100 #[.slice A0 l0.length c0, .slice A1_0 l1_0.length c1_0] ?_; (with_reducible refine (impl_IsTogether.calls k _ _ l0 _ _ l1_0 false _ ?side1 ?side2 ?side3 ?side4 A5.out).mono ?_); (case side1 => exact cB HR0); (case side2 => exact HC0.out); (case side3 => exact cB HR1_0); (case side4 => exact HC1_0.out); rintro e w26 ⟨rfl, hb⟩; refine ⟨_, rfl, ?_⟩; replace BK780 := Aside0.mk (blk_below (g := gb780) (bK BK780) hb); replace HB := Aside0.mk (below_step bG hb); (try clear hb); (try clear hb2); (try clear hk); (try clear hi)))
      go_meet
      case rel => exact ⟨_, (true), rS, H', ⟨by first | omega | exact Nat.le_refl _⟩, ⟨bK BK780⟩, ⟨bG⟩⟩
  case rest =>
    clear HC3
    try clear c1
    try clear p2
    try clear c5
    try clear c6
    try clear c8
    try clear c9
    try clear c9b0
    try clear c9b1
    try clear c9b2
    try clear c10
    try clear hcz10_0
    try clear hcz10_1
    try clear hcz10_2
    try clear hcz10_3
    try clear hcz12_0
    try clear hcz12_1
    try clear hcz12_2
    try clear hcz12_3
    try clear hcz14_0
    try clear hcz14_1
    try clear hcz14_2
    try clear hcz14_3
    try clear hcz16_0
    try clear hcz16_1
    try clear hcz16_2
    try clear hcz16_3
    try clear hcz18_0
    try clear hcz18_1
    try clear hcz18_2
    try clear hcz18_3
    try clear hcz20_0
    try clear hcz20_1
    try clear hcz20_2
    try clear hcz20_3
    try clear hcz21_0
    try clear hcz21_1
    try clear hcz21_2
    try clear hcz21_3
    try clear hcz23_0
    try clear hcz23_1
    try clear hcz23_2
    try clear hcz23_3
    try clear hcz25_0
    try clear hcz25_1
    try clear hcz25_2
    try clear hcz25_3
    try clear hfz10_0
    try clear hfz10_1
    try clear hfz10_2
    try clear hfz10_3
    try clear hfz12_0
    try clear hfz12_1
    try clear hfz12_2
    try clear hfz12_3
    try clear hfz14_0
    try clear hfz14_1
    try clear hfz14_2
    try clear hfz14_3
    try clear hfz16_0
    try clear hfz16_1
    try clear hfz16_2
    try clear hfz16_3
    try clear hfz18_0
    try clear hfz18_1
    try clear hfz18_2
    try clear hfz18_3
    try clear hfz20_0
    try clear hfz20_1
    try clear hfz20_2
    try clear hfz20_3
    try clear hfz21_0
    try clear hfz21_1
    try clear hfz21_2
    try clear hfz21_3
    try clear hfz23_0
    try clear hfz23_1
    try clear hfz23_2
    try clear hfz23_3
    try clear hfz25_0
    try clear hfz25_1
    try clear hfz25_2
    try clear hfz25_3
    obtain ⟨kq, x28_2, rfl, HA, HJ2, BK780, HB⟩ := hcut
    cases kq with
    | zero => exact absurd HA.out (by simp [impl_IsControl.j0])
    | succ kj2 =>
      have H := HA.out
      clear HA
      simp only [impl_IsControl.j0] at H
      by_cases c27 : x28_2 = true
      · subst c27
        have H1 : (some false) = some r := by rw [if_pos rfl] at H; exact H
        clear H
        have H := H1
        clear H1
        obtain rfl := Option.some.inj H
        go_wp2
        go_ret
        exact ⟨rA, bG⟩
      · replace c27 := Bool.eq_false_iff.mpr c27
        subst c27
        have H1 : (if (l1_2.length : Int) = 0 then (some (a1_3 == 0)) else ((impl_ClearBetween.f kj2 l0 l1_0 l1_2).bind fun t784 => ((impl_InRange.f a1_3 1 t784).bind fun t785 => (some t785)))) = some r := by rw [if_neg (show ¬ (false = true) by decide)] at H; exact H
        clear H
        have H := H1
        clear H1
        by_cases c28 : (l1_2.length : Int) = 0
        · rw [if_pos c28] at H
          have c28b0 : ((l1_2.length : Int) == 0) = true := beq_iff_eq.mpr c28
          have c28b1 : ((l1_2.length : Int) != 0) = false := bne_eq_false_iff_eq.mpr c28
          clear c28
          obtain rfl := Option.some.inj H
          obtain ⟨hcz29_0, hcz29_1, hcz29_2, hcz29_3, hfz29_0, hfz29_1, hfz29_2, hfz29_3⟩ := blkc4 BK780
          go_wp2
          go_ret
          exact ⟨rA, bG⟩
        · rw [if_neg c28] at H
          have c28b0 : ((l1_2.length : Int) == 0) = false := beq_eq_false_iff_ne.mpr c28
          have c28b1 : ((l1_2.length : Int) != 0) = true := bne_iff_ne.mpr c28
          have c28b2 : ¬ (l1_2 = []) := fun h_ => c28 (by rw [h_]; rfl)
          obtain ⟨t784, A30, H⟩ := bindE H
          try dsimp only at H
          obtain ⟨t785, A31, H⟩ := bindE H
          try dsimp only at H
          obtain rfl := Option.some.inj H
          obtain ⟨hcz32_0, hcz32_1, hcz32_2, hcz32_3, hfz32_0, hfz32_1, hfz32_2, hfz32_3⟩ := blkc4 BK780
          try go_wp2
          replace BK780 := Aside0.mk (blk_drew BK780.out)
          have HBo := HB
          replace HB := Aside0.mk (below_drew1 HB.out)
          refine start_ (n := 10) (S := fun w' => w'.cell? ⟨gb780, 0, none⟩ = some (.slice A1_0 l1_0.length c1_0) ∧ w'.cell? ⟨gb780, 1, none⟩ = some (.int .i64 a1_1) ∧ w'.cell? ⟨gb780, 2, none⟩ = some (.slice A1_2 l1_2.length c1_2) ∧ w'.cell? ⟨gb780, 3, none⟩ = some (.int .i64 a1_3)) (ds := []) (mb 10 0) (by kernel_rfl) rfl rfl ⟨(blk_cell BK780.out 0).trans rfl, (blk_cell BK780.out 1).trans rfl, (blk_cell BK780.out 2).trans rfl, (blk_cell BK780.out 3).trans rfl⟩ (fun hHeld => ?_); refine with_tabW impl_IsControl.tab5 impl_IsControl.bits5 (fun HT_ HW_ => ?_)
          generalize wc.drew = w33 at BK780 HB hHeld ⊢
          refine pA (i := 0) (N := some 36) (mb 10 1) HT_ ?_
          refine pA (i := 2) (N := some 38) (mb 10 5) HT_ ?_
          refine pA (i := 3) (N := some 39) (mb 10 13) HT_ ?_
          refine pA (i := 5) (N := some 41) (mb 10 45) HT_ ?_
          refine tA4 (i := 1) (N := some 37) (mb 10 47) HT_ HW_ hHeld ?_
          refine tA4 (i := 4) (N := some 40) (mb 10 63) HT_ HW_ hHeld ?_
          refine tA4 (i := 6) (N := some 42) (mb 10 127) HT_ HW_ hHeld ?_
          refine oA (i := 7) (N := some 43) (mb 10 255) HT_ (fun K hK => ?_)
          refine gA Try.func101 #[.slice A0 l0.length c0, .slice A1_0 l1_0.length c1_0, .slice A1_2 l1_2.length c1_2] ?_
          with_reducible refine (impl_ClearBetween.calls kj2 _ _ l0 _ _ l1_0 _ _ l1_2 t784 _ ?side1 ?side2 ?side3 ?side4 ?side5 ?side6 A30.out).mono ?_
          (case side1 => exact cB HR0)
          (case side2 => exact HC0.out)
          (case side3 => exact cB HR1_0)
          (case side4 => exact HC1_0.out)
          (case side5 => exact cB HR1_2)
          (case side6 => exact HC1_2.out)
          rintro e w34 ⟨rfl, hb⟩
          refine ⟨_, rfl, ?_⟩
          replace BK780 := Aside0.mk (blk_below (g := gb780) (bK BK780) hb)
          replace HB := Aside0.mk (below_step bG hb)
          (try clear hb)
          (try clear hb2)
          (try clear hk)
          (try clear hi)
          refine hK.out _ _ ⟨(blk_cell BK780.out 0).trans rfl, (blk_cell BK780.out 1).trans rfl, (blk_cell BK780.out 2).trans rfl, (blk_cell BK780.out 3).trans rfl⟩ (fun hHeld => ?_)
          clear hK K
          refine nA ?_
          refine oA (i := 8) (N := some 44) (mb 10 511) HT_ (fun K hK => ?_)
          refine gA Try.func69 #[.int .i64 a1_3, .int .i64 1, .int .i64 t784] ?_
          with_reducible refine (impl_InRange.calls a1_3 1 t784 t785 _ A31.out).mono ?_
          rintro e w' ⟨rfl, ⟨nd, rfl⟩⟩
          refine ⟨_, rfl, ?_⟩
          refine hK.out _ _ ⟨(blk_cell BK780.out 0).trans rfl, (blk_cell BK780.out 1).trans rfl, (blk_cell BK780.out 2).trans rfl, (blk_cell BK780.out 3).trans rfl⟩ (fun hHeld => ?_)
          clear hK K
          refine nA ?_
          refine pA (i := 9) (N := some 4) (mb 10 1023) HT_ ?_
          refine eA HT_ ?_
          try go_wp2
          go_ret
          exact ⟨rA, bG⟩

/-! ### impl_CanEnd: function 60 -/
def impl_CanEnd.f (k : Nat) (l0 : List (S90)) (l1_0 : List Int) (a1_1 : Int) (l1_2 : List Int) (a1_3 : Int) : Option (Bool) := (impl_IsControl.f k l0 l1_0 a1_1 l1_2 a1_3).bind fun t841 => (if t841 = true then (if (l1_2.length : Int) = 0 then ((impl_LeastGreen.f k l0 l1_0).bind fun t842 => (some (decide (a1_1 ≥ t842)))) else (some false)) else (some false))
theorem impl_CanEnd.mono : ∀ a0 a1 a2 a3 a4 k, LeO (impl_CanEnd.f k a0 a1 a2 a3 a4) (impl_CanEnd.f (k + 1) a0 a1 a2 a3 a4) := by
  intro a0 a1 a2 a3 a4 k
  unfold impl_CanEnd.f
  repeat' first | (with_reducible first | exact LeO.refl _ | exact LeO.none _ | refine LeO.ite ?_ ?_ | refine LeO.bind ?_ (fun _ => ?_) | exact impl_IsControl.mono _ _ _ _ _ _ | exact impl_LeastGreen.mono _ _ _) | exact LeO.none _ | refine LeO.ite ?_ ?_ | refine LeO.bind ?_ (fun _ => ?_) | exact impl_IsControl.mono _ _ _ _ _ _ | exact impl_LeastGreen.mono _ _ _
def impl_CanEnd.T1 : Bool × List (List Nat × List Nat) := (true, [([], []), ([], []), ([0, 1], [0, 1]), ([2, 2], [2]), ([3], [3]), ([4, 3], [3, 4]), ([5, 3], [3, 5]), ([6, 3], [3, 6]), ([3, 7], [3, 7]), ([8, 3], [8]), ([9], [9]), ([10, 9], [9, 10]), ([9], [9]), ([9], [9]), ([13, 9], [9, 13]), ([12, 14, 9, 9], [9, 12, 14]), ([11, 15, 9], [9, 11, 15]), ([9, 16], [9, 16]), ([17, 15, 0, 1, 2, 3, 4, 5, 6, 7, 8, 9, 10, 11, 12, 13, 14, 15, 16, 17], [17])])
def impl_CanEnd.B1 : List Nat := [0, 0, 3, 7, 15, 31, 63, 127, 255, 511, 1023, 2047, 1023, 1023, 9215, 29695, 65535, 131071, 262143]
theorem impl_CanEnd.tab1 : rtab .any (opsOf Try.f60 1) = impl_CanEnd.T1 := by kernel_rfl
theorem impl_CanEnd.bits1 : waitsOk impl_CanEnd.T1.2 impl_CanEnd.B1 = true := by kernel_rfl
set_option maxHeartbeats 8000000 in
set_option maxRecDepth 100000 in
theorem impl_CanEnd.calls (k : Nat) (A0 : Option Addr) (c0 : Nat) (l0 : List (S90)) (A1_0 : Option Addr) (c1_0 : Nat) (l1_0 : List Int) (a1_1 : Int) (A1_2 : Option Addr) (c1_2 : Nat) (l1_2 : List Int) (a1_3 : Int) (r : Bool) (w : World) (hr0 : Kd.C k90 w A0 l0.length l0) (hc0 : l0.length ≤ c0) (hr1_0 : Kd.C (Kd.int .i64) w A1_0 l1_0.length l1_0) (hc1_0 : l1_0.length ≤ c1_0) (hr1_2 : Kd.C (Kd.int .i64) w A1_2 l1_2.length l1_2) (hc1_2 : l1_2.length ≤ c1_2) (h : impl_CanEnd.f k l0 l1_0 a1_1 l1_2 a1_3 = some r) :
    Calls Try.prog 60 #[.slice A0 l0.length c0, .agg #[.slice A1_0 l1_0.length c1_0, .int .i64 a1_1, .slice A1_2 l1_2.length c1_2, .int .i64 a1_3]] w fun e w' => e = .returned (.bool r) ∧ Below w.heap.size w w' := by
  have hu70 := Try.underlying70
  have HR0 := Aside0.mk hr0
  have HC0 := Aside0.mk hc0
  clear hr0 hc0
  have HR1_0 := Aside0.mk hr1_0
  have HC1_0 := Aside0.mk hc1_0
  clear hr1_0 hc1_0
  have HR1_2 := Aside0.mk hr1_2
  have HC1_2 := Aside0.mk hc1_2
  clear hr1_2 hc1_2
  have HB := Aside0.mk (Below.refl w.heap.size w)
  have H : ((impl_IsControl.f k l0 l1_0 a1_1 l1_2 a1_3).bind fun t841 => (if t841 = true then (if (l1_2.length : Int) = 0 then ((impl_LeastGreen.f k l0 l1_0).bind fun t842 => (some (decide (a1_1 ≥ t842)))) else (some false)) else (some false))) = some r := h
  clear h
  obtain ⟨t841, A3, H⟩ := bindE H
  try dsimp only at H
  by_cases c4 : t841 = true
  · subst c4
    have H1 : (if (l1_2.length : Int) = 0 then ((impl_LeastGreen.f k l0 l1_0).bind fun t842 => (some (decide (a1_1 ≥ t842)))) else (some false)) = some r := by rw [if_pos rfl] at H; exact H
    clear H
    have H := H1
    clear H1
    by_cases c5 : (l1_2.length : Int) = 0
    · rw [if_pos c5] at H
      have c5b0 : ((l1_2.length : Int) == 0) = true := beq_iff_eq.mpr c5
      have c5b1 : ((l1_2.length : Int) != 0) = false := bne_eq_false_iff_eq.mpr c5
      clear c5
      obtain ⟨t842, A6, H⟩ := bindE H
      try dsimp only at H
      obtain rfl := Option.some.inj H
      go_enter Try.func60, Try.ntmps60
      try go_wp2_with (first | ((with_reducible refine gate_dst (N := 3) rfl ?_); (try (refine gate_guard (by rfl) ?_; dsimp only)); refine bE (N := 3) (cs := #[.slice A1_0 l1_0.length c1_0, .int .i64 a1_1, .slice A1_2 l1_2.length c1_2, .int .i64 a1_3]) (t := 70) ?_; intro gb840 hg w7 hbox hb; have n0_ := Aside0.mk (below_step bA hb); have n1_ := Aside0.mk (hbox); have n2_ := Aside0.mk ((by rw [hg]; exact (below_size bA) : w.heap.size ≤ gb840)); have n3_ := Aside0.mk ((by rw [hg]; exact (below_size bA) : w.heap.size ≤ gb840)); clear HB; have HB := n0_; have BK840 := n1_; have GW840 := n2_; have GE840 := n3_; clear n0_ n1_ n2_ n3_; clear hb hbox hg))
      replace BK840 := Aside0.mk (blk_drew BK840.out)
      have HBo := HB
      replace HB := Aside0.mk (below_drew1 HB.out)
      refine start_ (n := 19) (S := fun w' => w'.cell? ⟨gb840, 0, none⟩ = some (.slice A1_0 l1_0.length c1_0) ∧ w'.cell? ⟨gb840, 1, none⟩ = some (.int .i64 a1_1) ∧ w'.cell? ⟨gb840, 2, none⟩ = some (.slice A1_2 l1_2.length c1_2) ∧ w'.cell? ⟨gb840, 3, none⟩ = some (.int .i64 a1_3)) (ds := []) (mb 19 0) (by kernel_rfl) rfl rfl ⟨(blk_cell BK840.out 0).trans rfl, (blk_cell BK840.out 1).trans rfl, (blk_cell BK840.out 2).trans rfl, (blk_cell BK840.out 3).trans rfl⟩ (fun hHeld => ?_); refine with_tabW impl_CanEnd.tab1 impl_CanEnd.bits1 (fun HT_ HW_ => ?_)
      generalize w7.drew = w8 at BK840 HB hHeld ⊢
      refine pA (i := 0) (N := some 5) (mb 19 1) HT_ ?_
      refine tA4 (i := 1) (N := some 6) (mb 19 3) HT_ HW_ hHeld ?_
      refine oA (i := 2) (N := some 7) (mb 19 7) HT_ (fun K hK => ?_)
      refine gA Try.func57 #[.slice A0 l0.length c0, .agg #[.slice A1_0 l1_0.length c1_0, .int .i64 a1_1, .slice A1_2 l1_2.length c1_2, .int .i64 a1_3]] ?_
      with_reducible refine (impl_IsControl.calls k _ _ l0 _ _ l1_0 a1_1 _ _ l1_2 a1_3 true _ ?side1 ?side2 ?side3 ?side4 ?side5 ?side6 A3.out).mono ?_
      (case side1 => exact cB HR0)
      (case side2 => exact HC0.out)
      (case side3 => exact cB HR1_0)
      (case side4 => exact HC1_0.out)
      (case side5 => exact cB HR1_2)
      (case side6 => exact HC1_2.out)
      rintro e w9 ⟨rfl, hb⟩
      refine ⟨_, rfl, ?_⟩
      replace BK840 := Aside0.mk (blk_below (g := gb840) (bK BK840) hb)
      replace HB := Aside0.mk (below_step bG hb)
      (try clear hb)
      (try clear hb2)
      (try clear hk)
      (try clear hi)
      refine hK.out _ _ ⟨(blk_cell BK840.out 0).trans rfl, (blk_cell BK840.out 1).trans rfl, (blk_cell BK840.out 2).trans rfl, (blk_cell BK840.out 3).trans rfl⟩ (fun hHeld => ?_)
      clear hK K
      refine nA ?_
      refine pA (i := 3) (N := some 8) (mb 19 15) HT_ ?_
      refine pA (i := 4) (N := some 9) (mb 19 31) HT_ ?_
      refine tA4 (i := 5) (N := some 10) (mb 19 63) HT_ HW_ hHeld ?_
      refine pA (i := 6) (N := some 11) (mb 19 127) HT_ ?_
      refine pA (i := 7) (N := some 12) (mb 19 255) HT_ ?_
      refine pA (i := 8) (N := some 13) (mb 19 511) HT_ ?_
      refine pA (i := 9) (N := some 14) (mb 19 1023) HT_ ?_
      refine pA (i := 10) (N := some 15) (mb 19 2047) HT_ ?_
      refine pA (i := 12) (N := some 17) (mb 19 6143) HT_ ?_
      refine pA (i := 13) (N := some 18) (mb 19 14335) HT_ ?_
      refine tA4 (i := 11) (N := some 16) (mb 19 16383) HT_ HW_ hHeld ?_
      refine tA4 (i := 14) (N := some 19) (mb 19 32767) HT_ HW_ hHeld ?_
      refine oA (i := 15) (N := some 20) (mb 19 65535) HT_ (fun K hK => ?_)
      refine gA Try.func103 #[.slice A0 l0.length c0, .slice A1_0 l1_0.length c1_0] ?_
      with_reducible refine (impl_LeastGreen.calls k _ _ l0 _ _ l1_0 t842 _ ?side1 ?side2 ?side3 ?side4 A6.out).mono ?_
      (case side1 => exact cB HR0)
      (case side2 => exact HC0.out)
      (case side3 => exact cB HR1_0)
      (case side4 => exact HC1_0.out)
      rintro e w10 ⟨rfl, hb⟩
      refine ⟨_, rfl, ?_⟩
      replace BK840 := Aside0.mk (blk_below (g := gb840) (bK BK840) hb)
      replace HB := Aside0.mk (below_step bG hb)
      (try clear hb)
      (try clear hb2)
      (try clear hk)
      (try clear hi)
      refine hK.out _ _ ⟨(blk_cell BK840.out 0).trans rfl, (blk_cell BK840.out 1).trans rfl, (blk_cell BK840.out 2).trans rfl, (blk_cell BK840.out 3).trans rfl⟩ (fun hHeld => ?_)
      clear hK K
      refine nA ?_
      refine pA (i := 16) (N := some 21) (mb 19 131071) HT_ ?_
      refine pA (i := 17) (N := some 22) (mb 19 262143) HT_ ?_
      refine pA (i := 18) (N := some 4) (mb 19 524287) HT_ ?_
      refine eA HT_ ?_
      try go_wp2
      go_ret
      exact ⟨rA, bG⟩
    · rw [if_neg c5] at H
      have c5b0 : ((l1_2.length : Int) == 0) = false := beq_eq_false_iff_ne.mpr c5
      have c5b1 : ((l1_2.length : Int) != 0) = true := bne_iff_ne.mpr c5
      have c5b2 : ¬ (l1_2 = []) := fun h_ => c5 (by rw [h_]; rfl)
      obtain rfl := Option.some.inj H
      go_enter Try.func60, Try.ntmps60
      try go_wp2_with (first | ((with_reducible refine gate_dst (N := 3) rfl ?_); (try (refine gate_guard (by rfl) ?_; dsimp only)); refine bE (N := 3) (cs := #[.slice A1_0 l1_0.length c1_0, .int .i64 a1_1, .slice A1_2 l1_2.length c1_2, .int .i64 a1_3]) (t := 70) ?_; intro gb840 hg w11 hbox hb; have n0_ := Aside0.mk (below_step bA hb); have n1_ := Aside0.mk (hbox); have n2_ := Aside0.mk ((by rw [hg]; exact (below_size bA) : w.heap.size ≤ gb840)); have n3_ := Aside0.mk ((by rw [hg]; exact (below_size bA) : w.heap.size ≤ gb840)); clear HB; have HB := n0_; have BK840 := n1_; have GW840 := n2_; have GE840 := n3_; clear n0_ n1_ n2_ n3_; clear hb hbox hg))
      replace BK840 := Aside0.mk (blk_drew BK840.out)
      have HBo := HB
      replace HB := Aside0.mk (below_drew1 HB.out)
      refine start_ (n := 19) (S := fun w' => w'.cell? ⟨gb840, 0, none⟩ = some (.slice A1_0 l1_0.length c1_0) ∧ w'.cell? ⟨gb840, 1, none⟩ = some (.int .i64 a1_1) ∧ w'.cell? ⟨gb840, 2, none⟩ = some (.slice A1_2 l1_2.length c1_2) ∧ w'.cell? ⟨gb840, 3, none⟩ = some (.int .i64 a1_3)) (ds := []) (mb 19 0) (by kernel_rfl) rfl rfl ⟨(blk_cell BK840.out 0).trans rfl, (blk_cell BK840.out 1).trans rfl, (blk_cell BK840.out 2).trans rfl, (blk_cell BK840.out 3).trans rfl⟩ (fun hHeld => ?_); refine with_tabW impl_CanEnd.tab1 impl_CanEnd.bits1 (fun HT_ HW_ => ?_)
      generalize w11.drew = w12 at BK840 HB hHeld ⊢
      refine pA (i := 0) (N := some 5) (mb 19 1) HT_ ?_
      refine tA4 (i := 1) (N := some 6) (mb 19 3) HT_ HW_ hHeld ?_
      refine oA (i := 2) (N := some 7) (mb 19 7) HT_ (fun K hK => ?_)
      refine gA Try.func57 #[.slice A0 l0.length c0, .agg #[.slice A1_0 l1_0.length c1_0, .int .i64 a1_1, .slice A1_2 l1_2.length c1_2, .int .i64 a1_3]] ?_
      with_reducible refine (impl_IsControl.calls k _ _ l0 _ _ l1_0 a1_1 _ _ l1_2 a1_3 true _ ?side1 ?side2 ?side3 ?side4 ?side5 ?side6 A3.out).mono ?_
      (case side1 => exact cB HR0)
      (case side2 => exact HC0.out)
      (case side3 => exact cB HR1_0)
      (case side4 => exact HC1_0.out)
      (case side5 => exact cB HR1_2)
      (case side6 => exact HC1_2.out)
      rintro e w13 ⟨rfl, hb⟩
      refine ⟨_, rfl, ?_⟩
      replace BK840 := Aside0.mk (blk_below (g := gb840) (bK BK840) hb)
      replace HB := Aside0.mk (below_step bG hb)
      (try clear hb)
      (try clear hb2)
      (try clear hk)
      (try clear hi)
      refine hK.out _ _ ⟨(blk_cell BK840.out 0).trans rfl, (blk_cell BK840.out 1).trans rfl, (blk_cell BK840.out 2).trans rfl, (blk_cell BK840.out 3).trans rfl⟩ (fun hHeld => ?_)
      clear hK K
      refine nA ?_
      refine pA (i := 3) (N := some 8) (mb 19 15) HT_ ?_
      refine pA (i := 4) (N := some 9) (mb 19 31) HT_ ?_
      refine tA4 (i := 5) (N := some 10) (mb 19 63) HT_ HW_ hHeld ?_
      refine pA (i := 6) (N := some 11) (mb 19 127) HT_ ?_
      refine pA (i := 7) (N := some 12) (mb 19 255) HT_ ?_
      refine pA (i := 8) (N := some 13) (mb 19 511) HT_ ?_
      refine pA (i := 9) (N := some 14) (mb 19 1023) HT_ ?_
      refine pU (i := 10) (N := some 15) (mb 19 2047) HT_ ?_
      refine pU (i := 11) (N := some 16) (mb 19 4095) HT_ ?_
      refine pU (i := 12) (N := some 17) (mb 19 8191) HT_ ?_
      refine pU (i := 13) (N := some 18) (mb 19 16383) HT_ ?_
      refine pU (i := 14) (N := some 19) (mb 19 32767) HT_ ?_
      refine pU (i := 15) (N := some 20) (mb 19 65535) HT_ ?_
      refine pU (i := 16) (N := some 21) (mb 19 131071) HT_ ?_
      refine pA (i := 17) (N := some 22) (mb 19 262143) HT_ ?_
      refine pA (i := 18) (N := some 4) (mb 19 524287) HT_ ?_
      refine eA HT_ ?_
      try go_wp2
      go_ret
      exact ⟨rA, bG⟩
  · replace c4 := Bool.eq_false_iff.mpr c4
    subst c4
    have H1 : (some false) = some r := by rw [if_neg (show ¬ (false = true) by decide)] at H; exact H
    clear H
    have H := H1
    clear H1
    obtain rfl := Option.some.inj H
    go_enter Try.func60, Try.ntmps60
    try go_wp2_with (first | ((with_reducible refine gate_dst (N := 3) rfl ?_); (try (refine gate_guard (by rfl) ?_; dsimp only)); refine bE (N := 3) (cs := #[.slice A1_0 l1_0.length c1_0, .int .i64 a1_1, .slice A1_2 l1_2.length c1_2, .int .i64 a1_3]) (t := 70) ?_; intro gb840 hg w14 hbox hb; have n0_ := Aside0.mk (below_step bA hb); have n1_ := Aside0.mk (hbox); have n2_ := Aside0.mk ((by rw [hg]; exact (below_size bA) : w.heap.size ≤ gb840)); have n3_ := Aside0.mk ((by rw [hg]; exact (below_size bA) : w.heap.size ≤ gb840)); clear HB; have HB := n0_; have BK840 := n1_; have GW840 := n2_; have GE840 := n3_; clear n0_ n1_ n2_ n3_; clear hb hbox hg))
    replace BK840 := Aside0.mk (blk_drew BK840.out)
    have HBo := HB
    replace HB := Aside0.mk (below_drew1 HB.out)
    refine start_ (n := 19) (S := fun w' => w'.cell? ⟨gb840, 0, none⟩ = some (.slice A1_0 l1_0.length c1_0) ∧ w'.cell? ⟨gb840, 1, none⟩ = some (.int .i64 a1_1) ∧ w'.cell? ⟨gb840, 2, none⟩ = some (.slice A1_2 l1_2.length c1_2) ∧ w'.cell? ⟨gb840, 3, none⟩ = some (.int .i64 a1_3)) (ds := []) (mb 19 0) (by kernel_rfl) rfl rfl ⟨(blk_cell BK840.out 0).trans rfl, (blk_cell BK840.out 1).trans rfl, (blk_cell BK840.out 2).trans rfl, (blk_cell BK840.out 3).trans rfl⟩ (fun hHeld => ?_); refine with_tabW impl_CanEnd.tab1 impl_CanEnd.bits1 (fun HT_ HW_ => ?_)
    generalize w14.drew = w15 at BK840 HB hHeld ⊢
    refine pA (i := 0) (N := some 5) (mb 19 1) HT_ ?_
    refine tA4 (i := 1) (N := some 6) (mb 19 3) HT_ HW_ hHeld ?_
    refine oA (i := 2) (N := some 7) (mb 19 7) HT_ (fun K hK => ?_)
    refine gA Try.func57 #[.slice A0 l0.length c0, .agg #[.slice A1_0 l1_0.length c1_0, .int .i64 a1_1, .slice A1_2 l1_2.length c1_2, .int .i64 a1_3]] ?_
    with_reducible refine (impl_IsControl.calls k _ _ l0 _ _ l1_0 a1_1 _ _ l1_2 a1_3 false _ ?side1 ?side2 ?side3 ?side4 ?side5 ?side6 A3.out).mono ?_
    (case side1 => exact cB HR0)
    (case side2 => exact HC0.out)
    (case side3 => exact cB HR1_0)
    (case side4 => exact HC1_0.out)
    (case side5 => exact cB HR1_2)
    (case side6 => exact HC1_2.out)
    rintro e w16 ⟨rfl, hb⟩
    refine ⟨_, rfl, ?_⟩
    replace BK840 := Aside0.mk (blk_below (g := gb840) (bK BK840) hb)
    replace HB := Aside0.mk (below_step bG hb)
    (try clear hb)
    (try clear hb2)
    (try clear hk)
    (try clear hi)
    refine hK.out _ _ ⟨(blk_cell BK840.out 0).trans rfl, (blk_cell BK840.out 1).trans rfl, (blk_cell BK840.out 2).trans rfl, (blk_cell BK840.out 3).trans rfl⟩ (fun hHeld => ?_)
    clear hK K
    refine nA ?_
    refine pA (i := 3) (N := some 8) (mb 19 15) HT_ ?_
    refine pU (i := 4) (N := some 9) (mb 19 31) HT_ ?_
    refine pU (i := 5) (N := some 10) (mb 19 63) HT_ ?_
    refine pU (i := 6) (N := some 11) (mb 19 127) HT_ ?_
    refine pU (i := 7) (N := some 12) (mb 19 255) HT_ ?_
    refine pA (i := 8) (N := some 13) (mb 19 511) HT_ ?_
    refine pA (i := 9) (N := some 14) (mb 19 1023) HT_ ?_
    refine pU (i := 10) (N := some 15) (mb 19 2047) HT_ ?_
    refine pU (i := 11) (N := some 16) (mb 19 4095) HT_ ?_
    refine pU (i := 12) (N := some 17) (mb 19 8191) HT_ ?_
    refine pU (i := 13) (N := some 18) (mb 19 16383) HT_ ?_
    refine pU (i := 14) (N := some 19) (mb 19 32767) HT_ ?_
    refine pU (i := 15) (N := some 20) (mb 19 65535) HT_ ?_
    refine pU (i := 16) (N := some 21) (mb 19 131071) HT_ ?_
    refine pA (i := 17) (N := some 22) (mb 19 262143) HT_ ?_
    refine pA (i := 18) (N := some 4) (mb 19 524287) HT_ ?_
    refine eA HT_ ?_
    try go_wp2
    go_ret
    exact ⟨rA, bG⟩

/-! ### impl_LightsOf: function 62 -/
def impl_LightsOf.l0 : Nat → List Int → List (S90) → Int → Int → List Int → Int → List Int → Int → Option (List Int)
  | 0, _, _, _, _, _, _, _, _ => none
  | k + 1, x5, x15, x16, x17, x906000, x906001, x906002, x906003 => if x17 < x16 then (if 0 ≤ x17 then (if x17 < (x15.length : Int) then ((slices_Contains_int_int.f k x906000 ((rd_T90 x15 x17).f0)).bind fun t912 => (if t912 = true then (if (x906002.length : Int) > 0 then ((slices_Contains_int_int.f k x906002 ((rd_T90 x15 x17).f0)).bind fun t913 => (if t913 = true then (if x5.length < 17592186044416 then (impl_LightsOf.l0 k (x5 ++ [1]) x15 x16 (wrap64 (x17 + 1)) x906000 x906001 x906002 x906003) else (none)) else (if x5.length < 17592186044416 then (impl_LightsOf.l0 k (x5 ++ [2]) x15 x16 (wrap64 (x17 + 1)) x906000 x906001 x906002 x906003) else (none)))) else (if x5.length < 17592186044416 then (impl_LightsOf.l0 k (x5 ++ [1]) x15 x16 (wrap64 (x17 + 1)) x906000 x906001 x906002 x906003) else (none))) else (if x5.length < 17592186044416 then (impl_LightsOf.l0 k (x5 ++ [0]) x15 x16 (wrap64 (x17 + 1)) x906000 x906001 x906002 x906003) else (none)))) else (none)) else (none)) else (some x5)
def impl_LightsOf.f (k : Nat) (l0 : List (S90)) (l1_0 : List Int) (a1_1 : Int) (l1_2 : List Int) (a1_3 : Int) : Option (List Int) := (some (([] : List Int) : List Int)).bind fun y906 => ((impl_IsControl.f k l0 l1_0 a1_1 l1_2 a1_3).bind fun t909 => (if t909 = true then (impl_LightsOf.l0 k y906 l0 (l0.length : Int) 0 l1_0 a1_1 l1_2 a1_3) else (some y906)))
theorem impl_LightsOf.mono_l : ∀ k, (∀ y0 y1 y2 y3 y4 y5 y6 y7, LeO (impl_LightsOf.l0 k y0 y1 y2 y3 y4 y5 y6 y7) (impl_LightsOf.l0 (k + 1) y0 y1 y2 y3 y4 y5 y6 y7))
  | 0 => fun _ _ _ _ _ _ _ _ r h => by simp [impl_LightsOf.l0] at h
  | k + 1 => by
    have ih0 := impl_LightsOf.mono_l k
    · intro y0 y1 y2 y3 y4 y5 y6 y7
      unfold impl_LightsOf.l0
      repeat' first | (with_reducible first | exact LeO.refl _ | exact LeO.none _ | refine LeO.ite ?_ ?_ | refine LeO.bind ?_ (fun _ => ?_) | exact ih0 _ _ _ _ _ _ _ _ | exact impl_IsControl.mono _ _ _ _ _ _ | exact slices_Contains_int_int.mono _ _ _) | exact LeO.none _ | refine LeO.ite ?_ ?_ | refine LeO.bind ?_ (fun _ => ?_) | exact ih0 _ _ _ _ _ _ _ _ | exact impl_IsControl.mono _ _ _ _ _ _ | exact slices_Contains_int_int.mono _ _ _
theorem impl_LightsOf.mono : ∀ a0 a1 a2 a3 a4 k, LeO (impl_LightsOf.f k a0 a1 a2 a3 a4) (impl_LightsOf.f (k + 1) a0 a1 a2 a3 a4) := by
  intro a0 a1 a2 a3 a4 k
  have ih0 := impl_LightsOf.mono_l k
  unfold impl_LightsOf.f
  repeat' first | (with_reducible first | exact LeO.refl _ | exact LeO.none _ | refine LeO.ite ?_ ?_ | refine LeO.bind ?_ (fun _ => ?_) | exact ih0 _ _ _ _ _ _ _ _ | exact impl_IsControl.mono _ _ _ _ _ _ | exact slices_Contains_int_int.mono _ _ _) | exact LeO.none _ | refine LeO.ite ?_ ?_ | refine LeO.bind ?_ (fun _ => ?_) | exact ih0 _ _ _ _ _ _ _ _ | exact impl_IsControl.mono _ _ _ _ _ _ | exact slices_Contains_int_int.mono _ _ _
set_option maxHeartbeats 8000000 in
set_option maxRecDepth 100000 in
theorem impl_LightsOf.calls (k : Nat) (A0 : Option Addr) (c0 : Nat) (l0 : List (S90)) (A1_0 : Option Addr) (c1_0 : Nat) (l1_0 : List Int) (a1_1 : Int) (A1_2 : Option Addr) (c1_2 : Nat) (l1_2 : List Int) (a1_3 : Int) (r : List Int) (w : World) (hr0 : Kd.C k90 w A0 l0.length l0) (hc0 : l0.length ≤ c0) (hr1_0 : Kd.C (Kd.int .i64) w A1_0 l1_0.length l1_0) (hc1_0 : l1_0.length ≤ c1_0) (hr1_2 : Kd.C (Kd.int .i64) w A1_2 l1_2.length l1_2) (hc1_2 : l1_2.length ≤ c1_2) (h : impl_LightsOf.f k l0 l1_0 a1_1 l1_2 a1_3 = some r) :
    Calls Try.prog 62 #[.slice A0 l0.length c0, .agg #[.slice A1_0 l1_0.length c1_0, .int .i64 a1_1, .slice A1_2 l1_2.length c1_2, .int .i64 a1_3]] w fun e w' => ∃ v0_ : Value, e = .returned (v0_) ∧ Kd.R (Kd.int .i64) 3 w' w.heap.size (fun _ => True) v0_ r ∧ Below w.heap.size w w' := by
  have hu70 := Try.underlying70
  have hu90 := Try.underlying90
  have HR0 := Aside0.mk hr0
  have HC0 := Aside0.mk hc0
  clear hr0 hc0
  have HR1_0 := Aside0.mk hr1_0
  have HC1_0 := Aside0.mk hc1_0
  clear hr1_0 hc1_0
  have HR1_2 := Aside0.mk hr1_2
  have HC1_2 := Aside0.mk hc1_2
  clear hr1_2 hc1_2
  have HB := Aside0.mk (Below.refl w.heap.size w)
  have H : ((some (([] : List Int) : List Int)).bind fun y906 => ((impl_IsControl.f k l0 l1_0 a1_1 l1_2 a1_3).bind fun t909 => (if t909 = true then (impl_LightsOf.l0 k y906 l0 (l0.length : Int) 0 l1_0 a1_1 l1_2 a1_3) else (some y906)))) = some r := h
  clear h
  obtain ⟨y906, hy906⟩ : ∃ y_ : List Int, y_ = (([] : List Int)) := ⟨_, rfl⟩
  replace H : ((impl_IsControl.f k l0 l1_0 a1_1 l1_2 a1_3).bind fun t909 => (if t909 = true then (impl_LightsOf.l0 k y906 l0 (l0.length : Int) 0 l1_0 a1_1 l1_2 a1_3) else (some y906))) = some r := by first | (rw [hy906]; with_reducible exact H) | (have H2_ := (Option.bind_some _ _).symm.trans H; rw [hy906]; with_reducible exact H2_) | (have H2_ := (Option.bind_some _ _).symm.trans H; with_reducible exact H2_) | with_reducible exact H | (rw [hy906]; exact H) | exact H
  have Ny906 := Aside0.mk hy906
  clear hy906
  obtain ⟨t909, A3, H⟩ := bindE H
  try dsimp only at H
  by_cases c4 : t909 = true
  · subst c4
    have H1 : (impl_LightsOf.l0 k y906 l0 (l0.length : Int) 0 l1_0 a1_1 l1_2 a1_3) = some r := by rw [if_pos rfl] at H; exact H
    clear H
    have H := H1
    clear H1
    have H' := Aside0.mk H
    clear H
    go_enter Try.func62, Try.ntmps62
    go_wp2_with (first | ((with_reducible refine gate_dst (N := 3) rfl ?_); refine bE (N := 3) (cs := #[.slice A1_0 l1_0.length c1_0, .int .i64 a1_1, .slice A1_2 l1_2.length c1_2, .int .i64 a1_3]) (t := 70) ?_; intro gb905 hg w5 hbox hb; have n0_ := Aside0.mk (below_step bA hb); have n1_ := Aside0.mk (hbox); have n2_ := Aside0.mk ((by rw [hg]; exact (below_size bA) : w.heap.size ≤ gb905)); have n3_ := Aside0.mk ((by rw [hg]; exact (below_size bA) : w.heap.size ≤ gb905)); clear HB; have HB := n0_; have BK905 := n1_; have GW905 := n2_; have GE905 := n3_; clear n0_ n1_ n2_ n3_; clear hb hbox hg) | ((with_reducible refine gate_dst (N := 9) rfl ?_); refine Kd.R_lit (Kd.int .i64) _ 3 ?hg (N := 9) ?hd (xs := ([] : List Int)) (inner := []) (ok := fun _ => True) (okp := fun _ => True) ?hr ?hp (fun _ hk => hk) trivial (Below.refl _ _) (Nat.le_refl _) (by simp) ?_; (case hd => rfl); (case hg => rfl); (case hr => first | (go_simp; done) | (go_simp; rfl)); (case hp => exact (Reps.none _ _)); intro v907 w6 ho7 hb hg_ hnew_; clear hg_ hnew_; (first | rw [← Ny906.out] at ho7 | (simp only [Int.reduceToNat] at ho7; rw [← Ny906.out] at ho7)); have HO908 := Aside0.mk (Kd.R_lower ho7 (below_size bG)); replace BK905 := Aside0.mk (blk_below (g := gb905) (bK BK905) hb); replace HB := Aside0.mk (below_step bG hb); clear hb ho7; have hcz8_0 : w6.cell? ⟨gb905, 0, none⟩ = some (.slice A1_0 l1_0.length c1_0) := (blk_cell BK905.out 0).trans rfl; have hcz8_1 : w6.cell? ⟨gb905, 1, none⟩ = some (.int .i64 a1_1) := (blk_cell BK905.out 1).trans rfl; have hcz8_2 : w6.cell? ⟨gb905, 2, none⟩ = some (.slice A1_2 l1_2.length c1_2) := (blk_cell BK905.out 2).trans rfl; have hcz8_3 : w6.cell? ⟨gb905, 3, none⟩ = some (.int .i64 a1_3) := (blk_cell BK905.out 3).trans rfl; have hfz8_0 := blk_frozen BK905.out 0; have hfz8_1 := blk_frozen BK905.out 1; have hfz8_2 := blk_frozen BK905.out 2; have hfz8_3 := blk_frozen BK905.out 3) | ((with_reducible refine gate_callee (f := 57) rfl ?_); refine gL (some 12) Try.func57 #[.slice A0 l0.length c0, .agg #[.slice A1_0 l1_0.length c1_0, .int .i64 a1_1, .slice A1_2 l1_2.length c1_2, .int .i64 a1_3]] ?_; (with_reducible refine (impl_IsControl.calls k _ _ l0 _ _ l1_0 a1_1 _ _ l1_2 a1_3 true _ ?side1 ?side2 ?side3 ?side4 ?side5 ?side6 A3.out).mono ?_); (case side1 => exact cB HR0); (case side2 => exact HC0.out); (case side3 => exact cB HR1_0); (case side4 => exact HC1_0.out); (case side5 => exact cB HR1_2); (case side6 => exact HC1_2.out); rintro e w9 ⟨rfl, hb⟩; refine ⟨_, rfl, ?_⟩; replace HO908 := Aside0.mk (Kd.R_below (rK HO908) hb); replace BK905 := Aside0.mk (blk_below (g := gb905) (bK BK905) hb); replace HB := Aside0.mk (below_step bG hb); (try clear hb); (try clear hb2); (try clear hk); (try clear hi)))
    go_loopg [5, 17] k (fun kq v5 v17 w' => ∃ (x5_1 : List Int) (x17_1 : Int), v17 = .int .i64 x17_1 ∧ Aside0 (impl_LightsOf.l0 kq x5_1 l0 (l0.length : Int) x17_1 l1_0 a1_1 l1_2 a1_3 = some r) ∧ Aside0 (kq ≤ k) ∧ Aside0 (Kd.R (Kd.int .i64) 3 w' w.heap.size (fun _ => True) v5 x5_1) ∧ Aside0 (w'.heap[gb905]? = some (.cells #[(.slice A1_0 l1_0.length c1_0), .int .i64 a1_1, (.slice A1_2 l1_2.length c1_2), .int .i64 a1_3] 70 (0, 0))) ∧ Aside0 (Below w.heap.size w w'))
    case atStart => exact ⟨(y906), (0), rS, H', ⟨Nat.le_refl _⟩, ⟨rK HO908⟩, ⟨bK BK905⟩, ⟨bG⟩⟩
    case round =>
      clear H'
      try clear c1
      try clear p2
      try clear c4
      try clear c5
      try clear c6
      try clear hcz8_0
      try clear hcz8_1
      try clear hcz8_2
      try clear hcz8_3
      try clear hfz8_0
      try clear hfz8_1
      try clear hfz8_2
      try clear hfz8_3
      obtain ⟨x5_1, x17_1, rfl, HA, HK1, HO_5, BK905, HB⟩ := hrel
      cases gk with
      | zero => exact absurd HA.out (by simp [impl_LightsOf.l0])
      | succ k1 =>
        have H := HA.out
        clear HA
        simp only [impl_LightsOf.l0] at H
        by_cases c10 : x17_1 < (l0.length : Int)
        · rw [if_pos c10] at H
          have c10b0 : decide (x17_1 < (l0.length : Int)) = true := decide_eq_true c10
          clear c10
          have c11 : 0 ≤ x17_1 := ifN H
          replace H := ifT H
          have c11b0 : decide (0 ≤ x17_1) = true := decide_eq_true c11
          clear c11
          have c12 : x17_1 < (l0.length : Int) := ifN H
          replace H := ifT H
          have c12b0 : decide (x17_1 < (l0.length : Int)) = true := decide_eq_true c12
          clear c12
          obtain ⟨t912, A13, H⟩ := bindE H
          try dsimp only at H
          by_cases c14 : t912 = true
          · subst c14
            have H1 : (if (l1_2.length : Int) > 0 then ((slices_Contains_int_int.f k1 l1_2 ((rd_T90 l0 x17_1).f0)).bind fun t913 => (if t913 = true then (if x5_1.length < 17592186044416 then (impl_LightsOf.l0 k1 (x5_1 ++ [1]) l0 (l0.length : Int) (wrap64 (x17_1 + 1)) l1_0 a1_1 l1_2 a1_3) else (none)) else (if x5_1.length < 17592186044416 then (impl_LightsOf.l0 k1 (x5_1 ++ [2]) l0 (l0.length : Int) (wrap64 (x17_1 + 1)) l1_0 a1_1 l1_2 a1_3) else (none)))) else (if x5_1.length < 17592186044416 then (impl_LightsOf.l0 k1 (x5_1 ++ [1]) l0 (l0.length : Int) (wrap64 (x17_1 + 1)) l1_0 a1_1 l1_2 a1_3) else (none))) = some r := by rw [if_pos rfl] at H; exact H
            clear H
            have H := H1
            clear H1
            by_cases c15 : (l1_2.length : Int) > 0
            · rw [if_pos c15] at H
              have c15b0 : decide (0 < (l1_2.length : Int)) = true := decide_eq_true c15
              have c15b1 : decide (0 < l1_2.length) = true := decide_eq_true (by omega)
              clear c15
              obtain ⟨t913, A16, H⟩ := bindE H
              try dsimp only at H
              by_cases c17 : t913 = true
              · subst c17
                have H1 : (if x5_1.length < 17592186044416 then (impl_LightsOf.l0 k1 (x5_1 ++ [1]) l0 (l0.length : Int) (wrap64 (x17_1 + 1)) l1_0 a1_1 l1_2 a1_3) else (none)) = some r := by rw [if_pos rfl] at H; exact H
                clear H
                have H := H1
                clear H1
                have c18 : x5_1.length < 17592186044416 := ifN H
                replace H := ifT H
                have LMc18 := Aside0.mk c18
                clear c18
                obtain ⟨y914, hy914⟩ : ∃ y_ : List Int, y_ = (x5_1 ++ [1]) := ⟨_, rfl⟩
                replace H : (impl_LightsOf.l0 k1 y914 l0 (l0.length : Int) (wrap64 (x17_1 + 1)) l1_0 a1_1 l1_2 a1_3) = some r := by first | (rw [hy914]; with_reducible exact H) | (have H2_ := (Option.bind_some _ _).symm.trans H; rw [hy914]; with_reducible exact H2_) | (have H2_ := (Option.bind_some _ _).symm.trans H; with_reducible exact H2_) | with_reducible exact H | (rw [hy914]; exact H) | exact H
                have Ny914 := Aside0.mk hy914
                clear hy914
                have H' := Aside0.mk H
                clear H
                have p910 : 0 ≤ (x17_1 : Int) := dA
                have q910 : x17_1 < (l0.length : Int) := dA
                obtain ⟨ad910, e910, hx910_0, hx910_1, hx910_2, hx910_3⟩ := at_T90 HR0.out x17_1 p910 q910
                cases e910
                replace hx910_0 := hC HB hx910_0
                replace hx910_1 := hC HB hx910_1
                replace hx910_2 := hC HB hx910_2
                replace hx910_3 := hC HB hx910_3
                replace p910 := eq_true p910
                replace q910 := eq_true q910
                go_wp2_with (first | ((with_reducible refine gate_dst (N := 7) rfl ?_); refine bE (N := 7) (cs := #[.int .i64 0, .int .i64 0, .int .i64 0, .int .i64 0]) (t := 90) ?_; intro gb911 hg w19 hbox hb; have n0_ := Aside0.mk (Kd.R_below (rK HO_5) hb); have n1_ := Aside0.mk (blk_below (g := gb905) (bK BK905) hb); have n2_ := Aside0.mk (below_step bG hb); have n3_ := Aside0.mk (hbox); have n4_ := Aside0.mk ((by rw [hg]; exact (below_size bG) : w.heap.size ≤ gb911)); have n5_ := Aside0.mk ((by rw [hg]; exact (below_size bG) : w.heap.size ≤ gb911)); have n6_ := Aside0.mk ((by rw [hg]; exact Nat.ne_of_lt (blk_lt (g := gb905) (o := .cells #[.slice A1_0 l1_0.length c1_0, .int .i64 a1_1, .slice A1_2 l1_2.length c1_2, .int .i64 a1_3] 70 (0, 0)) (bK BK905)) : gb905 ≠ gb911)); have n7_ := Aside0.mk ((by rw [hg]; exact Nat.ne_of_gt (blk_lt (g := gb905) (o := .cells #[.slice A1_0 l1_0.length c1_0, .int .i64 a1_1, .slice A1_2 l1_2.length c1_2, .int .i64 a1_3] 70 (0, 0)) (bK BK905)) : gb911 ≠ gb905)); clear HO_5; clear BK905; clear HB; have HO_5 := n0_; have BK905 := n1_; have HB := n2_; have BK911 := n3_; have GW911 := n4_; have GE911 := n5_; have NB905_911 := n6_; have NB911_905 := n7_; clear n0_ n1_ n2_ n3_ n4_ n5_ n6_ n7_; clear hb hbox hg; have hnb20 := NB911_905.out; have hnc20 := NB905_911.out; obtain ⟨hcz21_0, hcz21_1, hcz21_2, hcz21_3, hfz21_0, hfz21_1, hfz21_2, hfz21_3⟩ := blkc4 BK911; have hcz22_0 : w19.cell? ⟨gb905, 0, none⟩ = some (.slice A1_0 l1_0.length c1_0) := (blk_cell BK905.out 0).trans rfl; have hcz22_1 : w19.cell? ⟨gb905, 1, none⟩ = some (.int .i64 a1_1) := (blk_cell BK905.out 1).trans rfl; have hcz22_2 : w19.cell? ⟨gb905, 2, none⟩ = some (.slice A1_2 l1_2.length c1_2) := (blk_cell BK905.out 2).trans rfl; have hcz22_3 : w19.cell? ⟨gb905, 3, none⟩ = some (.int .i64 a1_3) := (blk_cell BK905.out 3).trans rfl; have hfz22_0 := blk_frozen BK905.out 0; have hfz22_1 := blk_frozen BK905.out 1; have hfz22_2 := blk_frozen BK905.out 2; have hfz22_3 := blk_frozen BK905.out 3) | ((with_reducible refine gate_callee (f := 105) rfl ?_); refine gL (some 25) Try.func105 #[.slice A1_0 l1_0.length c1_0, .int .i64 ((rd_T90 l0 x17_1).f0)] ?_; (with_reducible refine (slices_Contains_int_int.calls k1 _ _ l1_0 ((rd_T90 l0 x17_1).f0) true _ ?side1 ?side2 A13.out).mono ?_); (case side1 => exact Kd.C_below HR1_0.out bG); (case side2 => exact HC1_0.out); rintro e w' ⟨rfl, ⟨nd, rfl⟩⟩; refine ⟨_, rfl, ?_⟩) | (go_at_call 105; (with_reducible refine (slices_Contains_int_int.calls k1 _ _ l1_2 ((rd_T90 l0 x17_1).f0) true _ ?side1 ?side2 A16.out).mono ?_); (case side1 => exact Kd.C_below HR1_2.out bG); (case side2 => exact HC1_2.out); rintro e w' ⟨rfl, ⟨nd, rfl⟩⟩) | ((with_reducible refine gate_builtin (b := .append) (xs := #[.tmp 38, .tmp 40]) rfl ?_); at_builtin; refine Kd.R_append (Kd.int .i64) (w0 := w) w.heap.size rfl (.tmp 38) (.tmp 40) 22 3 (.int .i64 0) 8 rfl Try.underlying22 info3 rfl (by decide) (by omega) u5 x5_1 1 [.int .i64 1] (fun _ => True) (fun _ => False) rfl (by first | (go_simp; done) | (go_simp; rfl)) ?aP (fun _ hk => hk.elim) ?aF ?aO ?aB ?aS ?aL ?_; (case aP => exact rfl); (case aB => exact bG); (case aF => exact (fun _ _ => trivial)); (case aO => exact (by (with_reducible repeat (first | apply Kd.R_alloc | apply Kd.R_drewN | apply Kd.R_drew)); exact Kd.R_mono (Kd.R_far (p := ⟨gb911, 3, none⟩) (Kd.R_far (p := ⟨gb911, 2, none⟩) (Kd.R_far (p := ⟨gb911, 1, none⟩) (Kd.R_far (p := ⟨gb911, 0, none⟩) (Kd.R_types HO_5.out BK911.out (by decide)) (fun _ hk => hk.2) (.int .i64 ((rd_T90 l0 x17_1).f0))) (fun _ hk => hk.2) (.int .i64 ((rd_T90 l0 x17_1).f1))) (fun _ hk => hk.2) (.int .i64 ((rd_T90 l0 x17_1).f2))) (fun _ hk => hk.2) (.int .i64 ((rd_T90 l0 x17_1).f3))) (fun _ hk => trivial))); (case aS => exact (below_size bG)); (case aL => have := LMc18.out; omega); intro v915 w23 ho hb hg hat; rw [← Ny914.out] at ho; have n0_ := Aside0.mk (blk_grown (g := gb905) (o := .cells #[.slice A1_0 l1_0.length c1_0, .int .i64 a1_1, .slice A1_2 l1_2.length c1_2, .int .i64 a1_3] 70 (0, 0)) (by (with_reducible repeat (first | refine blk_drewN ?_ _ | refine blk_drew ?_ | refine blk_alloc ?_ _)); refine blk_far ?_ NB905_911.out _; (with_reducible repeat (first | refine blk_drewN ?_ _ | refine blk_drew ?_ | refine blk_alloc ?_ _)); refine blk_far ?_ NB905_911.out _; (with_reducible repeat (first | refine blk_drewN ?_ _ | refine blk_drew ?_ | refine blk_alloc ?_ _)); refine blk_far ?_ NB905_911.out _; (with_reducible repeat (first | refine blk_drewN ?_ _ | refine blk_drew ?_ | refine blk_alloc ?_ _)); refine blk_far ?_ NB905_911.out _; (with_reducible repeat (first | refine blk_drewN ?_ _ | refine blk_drew ?_ | refine blk_alloc ?_ _)); exact BK905.out) hg (Kd.R_ne HO_5.out BK905.out (by decide))); have n1_ := Aside0.mk (blk_grown (g := gb911) (o := .cells #[.int .i64 ((rd_T90 l0 x17_1).f0), .int .i64 ((rd_T90 l0 x17_1).f1), .int .i64 ((rd_T90 l0 x17_1).f2), .int .i64 ((rd_T90 l0 x17_1).f3)] 90 (0, 0)) (by (with_reducible repeat (first | refine blk_drewN ?_ _ | refine blk_drew ?_ | refine blk_alloc ?_ _)); refine blk_put (cs := #[.int .i64 ((rd_T90 l0 x17_1).f0), .int .i64 ((rd_T90 l0 x17_1).f1), .int .i64 ((rd_T90 l0 x17_1).f2), .int .i64 0]) ?_ 3 _ rfl; (with_reducible repeat (first | refine blk_drewN ?_ _ | refine blk_drew ?_ | refine blk_alloc ?_ _)); refine blk_put (cs := #[.int .i64 ((rd_T90 l0 x17_1).f0), .int .i64 ((rd_T90 l0 x17_1).f1), .int .i64 0, .int .i64 0]) ?_ 2 _ rfl; (with_reducible repeat (first | refine blk_drewN ?_ _ | refine blk_drew ?_ | refine blk_alloc ?_ _)); refine blk_put (cs := #[.int .i64 ((rd_T90 l0 x17_1).f0), .int .i64 0, .int .i64 0, .int .i64 0]) ?_ 1 _ rfl; (with_reducible repeat (first | refine blk_drewN ?_ _ | refine blk_drew ?_ | refine blk_alloc ?_ _)); refine blk_put (cs := #[.int .i64 0, .int .i64 0, .int .i64 0, .int .i64 0]) ?_ 0 _ rfl; (with_reducible repeat (first | refine blk_drewN ?_ _ | refine blk_drew ?_ | refine blk_alloc ?_ _)); exact BK911.out) hg (Kd.R_ne HO_5.out BK911.out (by decide))); have n2_ := Aside0.mk (hb); have n3_ := Aside0.mk (ho); clear BK905; clear BK911; clear HB; clear HO_5; have BK905 := n0_; have BK911 := n1_; have HB := n2_; have HO916 := n3_; clear n0_ n1_ n2_ n3_; clear ho hb hg hat))
                go_roundg k1
                case measure => have := HK1.out; omega
                case rel => exact ⟨(y914), (wrap64 (x17_1 + 1)), rS, H', ⟨by have := HK1.out; omega⟩, ⟨rK HO916⟩, ⟨bK BK905⟩, ⟨bG⟩⟩
              · replace c17 := Bool.eq_false_iff.mpr c17
                subst c17
                have H1 : (if x5_1.length < 17592186044416 then (impl_LightsOf.l0 k1 (x5_1 ++ [2]) l0 (l0.length : Int) (wrap64 (x17_1 + 1)) l1_0 a1_1 l1_2 a1_3) else (none)) = some r := by rw [if_neg (show ¬ (false = true) by decide)] at H; exact H
                clear H
                have H := H1
                clear H1
                have c24 : x5_1.length < 17592186044416 := ifN H
                replace H := ifT H
                have LMc24 := Aside0.mk c24
                clear c24
                obtain ⟨y917, hy917⟩ : ∃ y_ : List Int, y_ = (x5_1 ++ [2]) := ⟨_, rfl⟩
                replace H : (impl_LightsOf.l0 k1 y917 l0 (l0.length : Int) (wrap64 (x17_1 + 1)) l1_0 a1_1 l1_2 a1_3) = some r := by first | (rw [hy917]; with_reducible exact H) | (have H2_ := (Option.bind_some _ _).symm.trans H; rw [hy917]; with_reducible exact H2_) | (have H2_ := (Option.bind_some _ _).symm.trans H; with_reducible exact H2_) | with_reducible exact H | (rw [hy917]; exact H) | exact H
                have Ny917 := Aside0.mk hy917
                clear hy917
                have H' := Aside0.mk H
                clear H
                have p910 : 0 ≤ (x17_1 : Int) := dA
                have q910 : x17_1 < (l0.length : Int) := dA
                obtain ⟨ad910, e910, hx910_0, hx910_1, hx910_2, hx910_3⟩ := at_T90 HR0.out x17_1 p910 q910
                cases e910
                replace hx910_0 := hC HB hx910_0
                replace hx910_1 := hC HB hx910_1
                replace hx910_2 := hC HB hx910_2
                replace hx910_3 := hC HB hx910_3
                replace p910 := eq_true p910
                replace q910 := eq_true q910
                go_wp2_with (first | ((with_reducible refine gate_dst (N := 7) rfl ?_); refine bE (N := 7) (cs := #[.int .i64 0, .int .i64 0, .int .i64 0, .int .i64 0]) (t := 90) ?_; intro gb911 hg w25 hbox hb; have n0_ := Aside0.mk (Kd.R_below (rK HO_5) hb); have n1_ := Aside0.mk (blk_below (g := gb905) (bK BK905) hb); have n2_ := Aside0.mk (below_step bG hb); have n3_ := Aside0.mk (hbox); have n4_ := Aside0.mk ((by rw [hg]; exact (below_size bG) : w.heap.size ≤ gb911)); have n5_ := Aside0.mk ((by rw [hg]; exact (below_size bG) : w.heap.size ≤ gb911)); have n6_ := Aside0.mk ((by rw [hg]; exact Nat.ne_of_lt (blk_lt (g := gb905) (o := .cells #[.slice A1_0 l1_0.length c1_0, .int .i64 a1_1, .slice A1_2 l1_2.length c1_2, .int .i64 a1_3] 70 (0, 0)) (bK BK905)) : gb905 ≠ gb911)); have n7_ := Aside0.mk ((by rw [hg]; exact Nat.ne_of_gt (blk_lt (g := gb905) (o := .cells #[.slice A1_0 l1_0.length c1_0, .int .i64 a1_1, .slice A1_2 l1_2.length c1_2, .int .i64 a1_3] 70 (0, 0)) (bK BK905)) : gb911 ≠ gb905)); clear HO_5; clear BK905; clear HB; have HO_5 := n0_; have BK905 := n1_; have HB := n2_; have BK911 := n3_; have GW911 := n4_; have GE911 := n5_; have NB905_911 := n6_; have NB911_905 := n7_; clear n0_ n1_ n2_ n3_ n4_ n5_ n6_ n7_; clear hb hbox hg; have hnb26 := NB911_905.out; have hnc26 := NB905_911.out; obtain ⟨hcz27_0, hcz27_1, hcz27_2, hcz27_3, hfz27_0, hfz27_1, hfz27_2, hfz27_3⟩ := blkc4 BK911; have hcz28_0 : w25.cell? ⟨gb905, 0, none⟩ = some (.slice A1_0 l1_0.length c1_0) := (blk_cell BK905.out 0).trans rfl; have hcz28_1 : w25.cell? ⟨gb905, 1, none⟩ = some (.int .i64 a1_1) := (blk_cell BK905.out 1).trans rfl; have hcz28_2 : w25.cell? ⟨gb905, 2, none⟩ = some (.slice A1_2 l1_2.length c1_2) := (blk_cell BK905.out 2).trans rfl; have hcz28_3 : w25.cell? ⟨gb905, 3, none⟩ = some (.int .i64 a1_3) := (blk_cell BK905.out 3).trans rfl; have hfz28_0 := blk_frozen BK905.out 0; have hfz28_1 := blk_frozen BK905.out 1; have hfz28_2 := blk_frozen BK905.out 2; have hfz28_3 := blk_frozen BK905.out 3) | ((with_reducible refine gate_callee (f := 105) rfl ?_); refine gL (some 25) Try.func105 #[.slice A1_0 l1_0.length c1_0, .int .i64 ((rd_T90 l0 x17_1).f0)] ?_; (with_reducible refine (slices_Contains_int_int.calls k1 _ _ l1_0 ((rd_T90 l0 x17_1).f0) true _ ?side1 ?side2 A13.out).mono ?_); (case side1 => exact Kd.C_below HR1_0.out bG); (case side2 => exact HC1_0.out); rintro e w' ⟨rfl, ⟨nd, rfl⟩⟩; refine ⟨_, rfl, ?_⟩) | (go_at_call 105; (with_reducible refine (slices_Contains_int_int.calls k1 _ _ l1_2 ((rd_T90 l0 x17_1).f0) false _ ?side1 ?side2 A16.out).mono ?_); (case side1 => exact Kd.C_below HR1_2.out bG); (case side2 => exact HC1_2.out); rintro e w' ⟨rfl, ⟨nd, rfl⟩⟩) | ((with_reducible refine gate_builtin (b := .append) (xs := #[.tmp 38, .tmp 40]) rfl ?_); at_builtin; refine Kd.R_append (Kd.int .i64) (w0 := w) w.heap.size rfl (.tmp 38) (.tmp 40) 22 3 (.int .i64 0) 8 rfl Try.underlying22 info3 rfl (by decide) (by omega) u5 x5_1 2 [.int .i64 2] (fun _ => True) (fun _ => False) rfl (by first | (go_simp; done) | (go_simp; rfl)) ?aP (fun _ hk => hk.elim) ?aF ?aO ?aB ?aS ?aL ?_; (case aP => exact rfl); (case aB => exact bG); (case aF => exact (fun _ _ => trivial)); (case aO => exact (by (with_reducible repeat (first | apply Kd.R_alloc | apply Kd.R_drewN | apply Kd.R_drew)); exact Kd.R_mono (Kd.R_far (p := ⟨gb911, 3, none⟩) (Kd.R_far (p := ⟨gb911, 2, none⟩) (Kd.R_far (p := ⟨gb911, 1, none⟩) (Kd.R_far (p := ⟨gb911, 0, none⟩) (Kd.R_types HO_5.out BK911.out (by decide)) (fun _ hk => hk.2) (.int .i64 ((rd_T90 l0 x17_1).f0))) (fun _ hk => hk.2) (.int .i64 ((rd_T90 l0 x17_1).f1))) (fun _ hk => hk.2) (.int .i64 ((rd_T90 l0 x17_1).f2))) (fun _ hk => hk.2) (.int .i64 ((rd_T90 l0 x17_1).f3))) (fun _ hk => trivial))); (case aS => exact (below_size bG)); (case aL => have := LMc24.out; omega); intro v918 w29 ho hb hg hat; rw [← Ny917.out] at ho; have n0_ := Aside0.mk (blk_grown (g := gb905) (o := .cells #[.slice A1_0 l1_0.length c1_0, .int .i64 a1_1, .slice A1_2 l1_2.length c1_2, .int .i64 a1_3] 70 (0, 0)) (by (with_reducible repeat (first | refine blk_drewN ?_ _ | refine blk_drew ?_ | refine blk_alloc ?_ _)); refine blk_far ?_ NB905_911.out _; (with_reducible repeat (first | refine blk_drewN ?_ _ | refine blk_drew ?_ | refine blk_alloc ?_ _)); refine blk_far ?_ NB905_911.out _; (with_reducible repeat (first | refine blk_drewN ?_ _ | refine blk_drew ?_ | refine blk_alloc ?_ _)); refine blk_far ?_ NB905_911.out _; (with_reducible repeat (first | refine blk_drewN ?_ _ | refine blk_drew ?_ | refine blk_alloc ?_ _)); refine blk_far ?_ NB905_911.out _; (with_reducible repeat (first | refine blk_drewN ?_ _ | refine blk_drew ?_ | refine blk_alloc ?_ _)); exact BK905.out) hg (Kd.R_ne HO_5.out BK905.out (by decide))); have n1_ := Aside0.mk (blk_grown (g := gb911) (o := .cells #[.int .i64 ((rd_T90 l0 x17_1).f0), .int .i64 ((rd_T90 l0 x17_1).f1), .int .i64 ((rd_T90 l0 x17_1).f2), .int .i64 ((rd_T90 l0 x17_1).f3)] 90 (0, 0)) (by (with_reducible repeat (first | refine blk_drewN ?_ _ | refine blk_drew ?_ | refine blk_alloc ?_ _)); refine blk_put (cs := #[.int .i64 ((rd_T90 l0 x17_1).f0), .int .i64 ((rd_T90 l0 x17_1).f1), .int .i64 ((rd_T90 l0 x17_1).f2), .int .i64 0]) ?_ 3 _ rfl; (with_reducible repeat (first | refine blk_drewN ?_ _ | refine blk_drew ?_ | refine blk_alloc ?_ _)); refine blk_put (cs := #[.int .i64 ((rd_T90 l0 x17_1).f0), .int .i64 ((rd_T90 l0 x17_1).f1), .int .i64 0, .int .i64 0]) ?_ 2 _ rfl; (with_reducible repeat (first | refine blk_drewN ?_ _ | refine blk_drew ?_ | refine blk_alloc ?_ _)); refine blk_put (cs := #[.int .i64 ((rd_T90 l0 x17_1).f0), .int .i64 0, .int .i64 0, .int .i64 0]) ?_ 1 _ rfl; (with_reducible repeat (first | refine blk_drewN ?_ _ | refine blk_drew ?_ | refine blk_alloc ?_ _)); refine blk_put (cs := #[.int .i64 0, .int .i64 0, .int .i64 0, .int .i64 0]) ?_ 0 _ rfl; (with_reducible repeat (first | refine blk_drewN ?_ _ | refine blk_drew ?_ | refine blk_alloc ?_ _)); exact BK911.out) hg (Kd.R_ne HO_5.out BK911.out (by decide))); have n2_ := Aside0.mk (hb); have n3_ := Aside0.mk (ho); clear BK905; clear BK911; clear HB; clear HO_5; have BK905 := n0_; have BK911 := n1_; have HB := n2_; have HO919 := n3_; clear n0_ n1_ n2_ n3_; clear ho hb hg hat))
                go_roundg k1
                case measure => have := HK1.out; omega
                case rel => exact ⟨(y917), (wrap64 (x17_1 + 1)), rS, H', ⟨by have := HK1.out; omega⟩, ⟨rK HO919⟩, ⟨bK BK905⟩, ⟨bG⟩⟩
            · rw [if_neg c15] at H
              have c15b0 : decide (0 < (l1_2.length : Int)) = false := decide_eq_false c15
              have c15b1 : decide (0 < l1_2.length) = false := decide_eq_false (by omega)
              clear c15
              have c30 : x5_1.length < 17592186044416 := ifN H
              replace H := ifT H
              have LMc30 := Aside0.mk c30
              clear c30
              obtain ⟨y920, hy920⟩ : ∃ y_ : List Int, y_ = (x5_1 ++ [1]) := ⟨_, rfl⟩
              replace H : (impl_LightsOf.l0 k1 y920 l0 (l0.length : Int) (wrap64 (x17_1 + 1)) l1_0 a1_1 l1_2 a1_3) = some r := by first | (rw [hy920]; with_reducible exact H) | (have H2_ := (Option.bind_some _ _).symm.trans H; rw [hy920]; with_reducible exact H2_) | (have H2_ := (Option.bind_some _ _).symm.trans H; with_reducible exact H2_) | with_reducible exact H | (rw [hy920]; exact H) | exact H
              have Ny920 := Aside0.mk hy920
              clear hy920
              have H' := Aside0.mk H
              clear H
              have p910 : 0 ≤ (x17_1 : Int) := dA
              have q910 : x17_1 < (l0.length : Int) := dA
              obtain ⟨ad910, e910, hx910_0, hx910_1, hx910_2, hx910_3⟩ := at_T90 HR0.out x17_1 p910 q910
              cases e910
              replace hx910_0 := hC HB hx910_0
              replace hx910_1 := hC HB hx910_1
              replace hx910_2 := hC HB hx910_2
              replace hx910_3 := hC HB hx910_3
              replace p910 := eq_true p910
              replace q910 := eq_true q910
              go_wp2_with (first | ((with_reducible refine gate_dst (N := 7) rfl ?_); refine bE (N := 7) (cs := #[.int .i64 0, .int .i64 0, .int .i64 0, .int .i64 0]) (t := 90) ?_; intro gb911 hg w31 hbox hb; have n0_ := Aside0.mk (Kd.R_below (rK HO_5) hb); have n1_ := Aside0.mk (blk_below (g := gb905) (bK BK905) hb); have n2_ := Aside0.mk (below_step bG hb); have n3_ := Aside0.mk (hbox); have n4_ := Aside0.mk ((by rw [hg]; exact (below_size bG) : w.heap.size ≤ gb911)); have n5_ := Aside0.mk ((by rw [hg]; exact (below_size bG) : w.heap.size ≤ gb911)); have n6_ := Aside0.mk ((by rw [hg]; exact Nat.ne_of_lt (blk_lt (g := gb905) (o := .cells #[.slice A1_0 l1_0.length c1_0, .int .i64 a1_1, .slice A1_2 l1_2.length c1_2, .int .i64 a1_3] 70 (0, 0)) (bK BK905)) : gb905 ≠ gb911)); have n7_ := Aside0.mk ((by rw [hg]; exact Nat.ne_of_gt (blk_lt (g := gb905) (o := .cells #[.slice A1_0 l1_0.length c1_0, .int .i64 a1_1, .slice A1_2 l1_2.length c1_2, .int .i64 a1_3] 70 (0, 0)) (bK BK905)) : gb911 ≠ gb905)); clear HO_5; clear BK905; clear HB; have HO_5 := n0_; have BK905 := n1_; have HB := n2_; have BK911 := n3_; have GW911 := n4_; have GE911 := n5_; have NB905_911 := n6_; have NB911_905 := n7_; clear n0_ n1_ n2_ n3_ n4_ n5_ n6_ n7_; clear hb hbox hg; have hnb32 := NB911_905.out; have hnc32 := NB905_911.out; obtain ⟨hcz33_0, hcz33_1, hcz33_2, hcz33_3, hfz33_0, hfz33_1, hfz33_2, hfz33_3⟩ := blkc4 BK911; have hcz34_0 : w31.cell? ⟨gb905, 0, none⟩ = some (.slice A1_0 l1_0.length c1_0) := (blk_cell BK905.out 0).trans rfl; have hcz34_1 : w31.cell? ⟨gb905, 1, none⟩ = some (.int .i64 a1_1) := (blk_cell BK905.out 1).trans rfl; have hcz34_2 : w31.cell? ⟨gb905, 2, none⟩ = some (.slice A1_2 l1_2.length c1_2) := (blk_cell BK905.out 2).trans rfl; have hcz34_3 : w31.cell? ⟨gb905, 3, none⟩ = some (.int .i64 a1_3) := (blk_cell BK905.out 3).trans rfl; have hfz34_0 := blk_frozen BK905.out 0; have hfz34_1 := blk_frozen BK905.out 1; have hfz34_2 := blk_frozen BK905.out 2; have hfz34_3 := blk_frozen BK905.out 3) | ((with_reducible refine gate_callee (f := 105) rfl ?_); refine gL (some 25) Try.func105 #[.slice A1_0 l1_0.length c1_0, .int .i64 ((rd_T90 l0 x17_1).f0)] ?_; (with_reducible refine (slices_Contains_int_int.calls k1 _ _ l1_0 ((rd_T90 l0 x17_1).f0) true _ ?side1 ?side2 A13.out).mono ?_); (case side1 => exact Kd.C_below HR1_0.out bG); (case side2 => exact HC1_0.out); rintro e w' ⟨rfl, ⟨nd, rfl⟩⟩; refine ⟨_, rfl, ?_⟩) | ((with_reducible refine gate_builtin (b := .append) (xs := #[.tmp 38, .tmp 40]) rfl ?_); at_builtin; refine Kd.R_append (Kd.int .i64) (w0 := w) w.heap.size rfl (.tmp 38) (.tmp 40) 22 3 (.int .i64 0) 8 rfl Try.underlying22 info3 rfl (by decide) (by omega) u5 x5_1 1 [.int .i64 1] (fun _ => True) (fun _ => False) rfl (by first | (go_simp; done) | (go_simp; rfl)) ?aP (fun _ hk => hk.elim) ?aF ?aO ?aB ?aS ?aL ?_; (case aP => exact rfl); (case aB => exact bG); (case aF => exact (fun _ _ => trivial)); (case aO => exact (by (with_reducible repeat (first | apply Kd.R_alloc | apply Kd.R_drewN | apply Kd.R_drew)); exact Kd.R_mono (Kd.R_far (p := ⟨gb911, 3, none⟩) (Kd.R_far (p := ⟨gb911, 2, none⟩) (Kd.R_far (p := ⟨gb911, 1, none⟩) (Kd.R_far (p := ⟨gb911, 0, none⟩) (Kd.R_types HO_5.out BK911.out (by decide)) (fun _ hk => hk.2) (.int .i64 ((rd_T90 l0 x17_1).f0))) (fun _ hk => hk.2) (.int .i64 ((rd_T90 l0 x17_1).f1))) (fun _ hk => hk.2) (.int .i64 ((rd_T90 l0 x17_1).f2))) (fun _ hk => hk.2) (.int .i64 ((rd_T90 l0 x17_1).f3))) (fun _ hk => trivial))); (case aS => exact (below_size bG)); (case aL => have := LMc30.out; omega); intro v921 w35 ho hb hg hat; rw [← Ny920.out] at ho; have n0_ := Aside0.mk (blk_grown (g := gb905) (o := .cells #[.slice A1_0 l1_0.length c1_0, .int .i64 a1_1, .slice A1_2 l1_2.length c1_2, .int .i64 a1_3] 70 (0, 0)) (by (with_reducible repeat (first | refine blk_drewN ?_ _ | refine blk_drew ?_ | refine blk_alloc ?_ _)); refine blk_far ?_ NB905_911.out _; (with_reducible repeat (first | refine blk_drewN ?_ _ | refine blk_drew ?_ | refine blk_alloc ?_ _)); refine blk_far ?_ NB905_911.out _; (with_reducible repeat (first | refine blk_drewN ?_ _ | refine blk_drew ?_ | refine blk_alloc ?_ _)); refine blk_far ?_ NB905_911.out _; (with_reducible repeat (first | refine blk_drewN ?_ _ | refine blk_drew ?_ | refine blk_alloc ?_ _)); refine blk_far ?_ NB905_911.out _; (with_reducible repeat (first | refine blk_drewN ?_ _ | refine blk_drew ?_ | refine blk_alloc ?_ _)); exact BK905.out) hg (Kd.R_ne HO_5.out BK905.out (by decide))); have n1_ := Aside0.mk (blk_grown (g := gb911) (o := .cells #[.int .i64 ((rd_T90 l0 x17_1).f0), .int .i64 ((rd_T90 l0 x17_1).f1), .int .i64 ((rd_T90 l0 x17_1).f2), .int .i64 ((rd_T90 l0 x17_1).f3)] 90 (0, 0)) (by (with_reducible repeat (first | refine blk_drewN ?_ _ | refine blk_drew ?_ | refine blk_alloc ?_ _)); refine blk_put (cs := #[.int .i64 ((rd_T90 l0 x17_1).f0), .int .i64 ((rd_T90 l0 x17_1).f1), .int .i64 ((rd_T90 l0 x17_1).f2), .int .i64 0]) ?_ 3 _ rfl; (with_reducible repeat (first | refine blk_drewN ?_ _ | refine blk_drew ?_ | refine blk_alloc ?_ _)); refine blk_put (cs := #[.int .i64 ((rd_T90 l0 x17_1).f0), .int .i64 ((rd_T90 l0 x17_1).f1), .int .i64 0, .int .i64 0]) ?_ 2 _ rfl; (with_reducible repeat (first | refine blk_drewN ?_ _ | refine blk_drew ?_ | refine blk_alloc ?_ _)); refine blk_put (cs := #[.int .i64 ((rd_T90 l0 x17_1).f0), .int .i64 0, .int .i64 0, .int .i64 0]) ?_ 1 _ rfl; (with_reducible repeat (first | refine blk_drewN ?_ _ | refine blk_drew ?_ | refine blk_alloc ?_ _)); refine blk_put (cs := #[.int .i64 0, .int .i64 0, .int .i64 0, .int .i64 0]) ?_ 0 _ rfl; (with_reducible repeat (first | refine blk_drewN ?_ _ | refine blk_drew ?_ | refine blk_alloc ?_ _)); exact BK911.out) hg (Kd.R_ne HO_5.out BK911.out (by decide))); have n2_ := Aside0.mk (hb); have n3_ := Aside0.mk (ho); clear BK905; clear BK911; clear HB; clear HO_5; have BK905 := n0_; have BK911 := n1_; have HB := n2_; have HO922 := n3_; clear n0_ n1_ n2_ n3_; clear ho hb hg hat))
              go_roundg k1
              case measure => have := HK1.out; omega
              case rel => exact ⟨(y920), (wrap64 (x17_1 + 1)), rS, H', ⟨by have := HK1.out; omega⟩, ⟨rK HO922⟩, ⟨bK BK905⟩, ⟨bG⟩⟩
          · replace c14 := Bool.eq_false_iff.mpr c14
            subst c14
            have H1 : (if x5_1.length < 17592186044416 then (impl_LightsOf.l0 k1 (x5_1 ++ [0]) l0 (l0.length : Int) (wrap64 (x17_1 + 1)) l1_0 a1_1 l1_2 a1_3) else (none)) = some r := by rw [if_neg (show ¬ (false = true) by decide)] at H; exact H
            clear H
            have H := H1
            clear H1
            have c36 : x5_1.length < 17592186044416 := ifN H
            replace H := ifT H
            have LMc36 := Aside0.mk c36
            clear c36
            obtain ⟨y923, hy923⟩ : ∃ y_ : List Int, y_ = (x5_1 ++ [0]) := ⟨_, rfl⟩
            replace H : (impl_LightsOf.l0 k1 y923 l0 (l0.length : Int) (wrap64 (x17_1 + 1)) l1_0 a1_1 l1_2 a1_3) = some r := by first | (rw [hy923]; with_reducible exact H) | (have H2_ := (Option.bind_some _ _).symm.trans H; rw [hy923]; with_reducible exact H2_) | (have H2_ := (Option.bind_some _ _).symm.trans H; with_reducible exact H2_) | with_reducible exact H | (rw [hy923]; exact H) | exact H
            have Ny923 := Aside0.mk hy923
            clear hy923
            have H' := Aside0.mk H
            clear H
            have p910 : 0 ≤ (x17_1 : Int) := dA
            have q910 : x17_1 < (l0.length : Int) := dA
            obtain ⟨ad910, e910, hx910_0, hx910_1, hx910_2, hx910_3⟩ := at_T90 HR0.out x17_1 p910 q910
            cases e910
            replace hx910_0 := hC HB hx910_0
            replace hx910_1 := hC HB hx910_1
            replace hx910_2 := hC HB hx910_2
            replace hx910_3 := hC HB hx910_3
            replace p910 := eq_true p910
            replace q910 := eq_true q910
            go_wp2_with (first | ((with_reducible refine gate_dst (N := 7) rfl ?_); refine bE (N := 7) (cs := #[.int .i64 0, .int .i64 0, .int .i64 0, .int .i64 0]) (t := 90) ?_; intro gb911 hg w37 hbox hb; have n0_ := Aside0.mk (Kd.R_below (rK HO_5) hb); have n1_ := Aside0.mk (blk_below (g := gb905) (bK BK905) hb); have n2_ := Aside0.mk (below_step bG hb); have n3_ := Aside0.mk (hbox); have n4_ := Aside0.mk ((by rw [hg]; exact (below_size bG) : w.heap.size ≤ gb911)); have n5_ := Aside0.mk ((by rw [hg]; exact (below_size bG) : w.heap.size ≤ gb911)); have n6_ := Aside0.mk ((by rw [hg]; exact Nat.ne_of_lt (blk_lt (g := gb905) (o := .cells #[.slice A1_0 l1_0.length c1_0, .int .i64 a1_1, .slice A1_2 l1_2.length c1_2, .int .i64 a1_3] 70 (0, 0)) (bK BK905)) : gb905 ≠ gb911)); have n7_ := Aside0.mk ((by rw [hg]; exact Nat.ne_of_gt (blk_lt (g := gb905) (o := .cells #[.slice A1_0 l1_0.length c1_0, .int .i64 a1_1, .slice A1_2 l1_2.length c1_2, .int .i64 a1_3] 70 (0, 0)) (bK BK905)) : gb911 ≠ gb905)); clear HO_5; clear BK905; clear HB; have HO_5 := n0_; have BK905 := n1_; have HB := n2_; have BK911 := n3_; have GW911 := n4_; have GE911 := n5_; have NB905_911 := n6_; have NB911_905 := n7_; clear n0_ n1_ n2_ n3_ n4_ n5_ n6_ n7_; clear hb hbox hg; have hnb38 := NB911_905.out; have hnc38 := NB905_911.out; obtain ⟨hcz39_0, hcz39_1, hcz39_2, hcz39_3, hfz39_0, hfz39_1, hfz39_2, hfz39_3⟩ := blkc4 BK911; have hcz40_0 : w37.cell? ⟨gb905, 0, none⟩ = some (.slice A1_0 l1_0.length c1_0) := (blk_cell BK905.out 0).trans rfl; have hcz40_1 : w37.cell? ⟨gb905, 1, none⟩ = some (.int .i64 a1_1) := (blk_cell BK905.out 1).trans rfl; have hcz40_2 : w37.cell? ⟨gb905, 2, none⟩ = some (.slice A1_2 l1_2.length c1_2) := (blk_cell BK905.out 2).trans rfl; have hcz40_3 : w37.cell? ⟨gb905, 3, none⟩ = some (.int .i64 a1_3) := (blk_cell BK905.out 3).trans rfl; have hfz40_0 := blk_frozen BK905.out 0; have hfz40_1 := blk_frozen BK905.out 1; have hfz40_2 := blk_frozen BK905.out 2; have hfz40_3 := blk_frozen BK905.out 3) | ((with_reducible refine gate_callee (f := 105) rfl ?_); refine gL (some 25) Try.func105 #[.slice A1_0 l1_0.length c1_0, .int .i64 ((rd_T90 l0 x17_1).f0)] ?_; (with_reducible refine (slices_Contains_int_int.calls k1 _ _ l1_0 ((rd_T90 l0 x17_1).f0) false _ ?side1 ?side2 A13.out).mono ?_); (case side1 => exact Kd.C_below HR1_0.out bG); (case side2 => exact HC1_0.out); rintro e w' ⟨rfl, ⟨nd, rfl⟩⟩; refine ⟨_, rfl, ?_⟩) | ((with_reducible refine gate_builtin (b := .append) (xs := #[.tmp 38, .tmp 40]) rfl ?_); at_builtin; refine Kd.R_append (Kd.int .i64) (w0 := w) w.heap.size rfl (.tmp 38) (.tmp 40) 22 3 (.int .i64 0) 8 rfl Try.underlying22 info3 rfl (by decide) (by omega) u5 x5_1 0 [.int .i64 0] (fun _ => True) (fun _ => False) rfl (by first | (go_simp; done) | (go_simp; rfl)) ?aP (fun _ hk => hk.elim) ?aF ?aO ?aB ?aS ?aL ?_; (case aP => exact rfl); (case aB => exact bG); (case aF => exact (fun _ _ => trivial)); (case aO => exact (by (with_reducible repeat (first | apply Kd.R_alloc | apply Kd.R_drewN | apply Kd.R_drew)); exact Kd.R_mono (Kd.R_far (p := ⟨gb911, 3, none⟩) (Kd.R_far (p := ⟨gb911, 2, none⟩) (Kd.R_far (p := ⟨gb911, 1, none⟩) (Kd.R_far (p := ⟨gb911, 0, none⟩) (Kd.R_types HO_5.out BK911.out (by decide)) (fun _ hk => hk.2) (.int .i64 ((rd_T90 l0 x17_1).f0))) (fun _ hk => hk.2) (.int .i64 ((rd_T90 l0 x17_1).f1))) (fun _ hk => hk.2) (.int .i64 ((rd_T90 l0 x17_1).f2))) (fun _ hk => hk.2) (.int .i64 ((rd_T90 l0 x17_1).f3))) (fun _ hk => trivial))); (case aS => exact (below_size bG)); (case aL => have := LMc36.out; omega); intro v924 w41 ho hb hg hat; rw [← Ny923.out] at ho; have n0_ := Aside0.mk (blk_grown (g := gb905) (o := .cells #[.slice A1_0 l1_0.length c1_0, .int .i64 a1_1, .slice A1_2 l1_2.length c1_2, .int .i64 a1_3] 70 (0, 0)) (by (with_reducible repeat (first | refine blk_drewN ?_ _ | refine blk_drew ?_ | refine blk_alloc ?_ _)); refine blk_far ?_ NB905_911.out _; (with_reducible repeat (first | refine blk_drewN ?_ _ | refine blk_drew ?_ | refine blk_alloc ?_ _)); refine blk_far ?_ NB905_911.out _; (with_reducible repeat (first | refine blk_drewN ?_ _ | refine blk_drew ?_ | refine blk_alloc ?_ _)); refine blk_far ?_ NB905_911.out _; (with_reducible repeat (first | refine blk_drewN ?_ _ | refine blk_drew ?_ | refine blk_alloc ?_ _)); refine blk_far ?_ NB905_911.out _; (with_reducible repeat (first | refine blk_drewN ?_ _ | refine blk_drew ?_ | refine blk_alloc ?_ _)); exact BK905.out) hg (Kd.R_ne HO_5.out BK905.out (by decide))); have n1_ := Aside0.mk (blk_grown (g := gb911) (o := .cells #[.int .i64 ((rd_T90 l0 x17_1).f0), .int .i64 ((rd_T90 l0 x17_1).f1), .int .i64 ((rd_T90 l0 x17_1).f2), .int .i64 ((rd_T90 l0 x17_1).f3)] 90 (0, 0)) (by (with_reducible repeat (first | refine blk_drewN ?_ _ | refine blk_drew ?_ | refine blk_alloc ?_ _)); refine blk_put (cs := #[.int .i64 ((rd_T90 l0 x17_1).f0), .int .i64 ((rd_T90 l0 x17_1).f1), .int .i64 ((rd_T90 l0 x17_1).f2), .int .i64 0]) ?_ 3 _ rfl; (with_reducible repeat (first | refine blk_drewN ?_ _ | refine blk_drew ?_ | refine blk_alloc ?_ _)); refine blk_put (cs := #[.int .i64 ((rd_T90 l0 x17_1).f0), .int .i64 ((rd_T90 l0 x17_1).f1), .int .i64 0, .int .i64 0]) ?_ 2 _ rfl; (with_reducible repeat (first | refine blk_drewN ?_ _ | refine blk_drew ?_ | refine blk_alloc ?_ _)); refine blk_put (cs := #[.int .i64 ((rd_T90 l0 x17_1).f0), .int .i64 0, .int .i64 0, .int .i64 0]) ?_ 1 _ rfl; (with_reducible repeat (first | refine blk_drewN ?_ _ | refine blk_drew ?_ | refine blk_alloc ?_ _)); refine blk_put (cs := #[.int .i64 0, .int .i64 0, .int .i64 0, .int .i64 0]) ?_ 0 _ rfl; (with_reducible repeat (first | refine blk_drewN ?_ _ | refine blk_drew ?_ | refine blk_alloc ?_ _)); exact BK911.out) hg (Kd.R_ne HO_5.out BK911.out (by decide))); have n2_ := Aside0.mk (hb); have n3_ := Aside0.mk (ho); clear BK905; clear BK911; clear HB; clear HO_5; have BK905 := n0_; have BK911 := n1_; have HB := n2_; have HO925 := n3_; clear n0_ n1_ n2_ n3_; clear ho hb hg hat))
            go_roundg k1
            case measure => have := HK1.out; omega
            case rel => exact ⟨(y923), (wrap64 (x17_1 + 1)), rS, H', ⟨by have := HK1.out; omega⟩, ⟨rK HO925⟩, ⟨bK BK905⟩, ⟨bG⟩⟩
        · rw [if_neg c10] at H
          have c10b0 : decide (x17_1 < (l0.length : Int)) = false := decide_eq_false c10
          clear c10
          obtain rfl := Option.some.inj H
          go_wp2
          go_ret
          exact ⟨_, by first | rfl | (simp [errW_none, errW_some] <;> rfl) | (simp [*, errW_none, errW_some] <;> rfl), by (with_reducible repeat (first | apply Kd.R_alloc | apply Kd.R_drewN | apply Kd.R_drew)); exact HO_5.out, bG⟩
  · replace c4 := Bool.eq_false_iff.mpr c4
    subst c4
    have H1 : (some y906) = some r := by rw [if_neg (show ¬ (false = true) by decide)] at H; exact H
    clear H
    have H := H1
    clear H1
    obtain rfl := Option.some.inj H
    go_enter Try.func62, Try.ntmps62
    go_wp2_with (first | ((with_reducible refine gate_dst (N := 3) rfl ?_); refine bE (N := 3) (cs := #[.slice A1_0 l1_0.length c1_0, .int .i64 a1_1, .slice A1_2 l1_2.length c1_2, .int .i64 a1_3]) (t := 70) ?_; intro gb905 hg w42 hbox hb; have n0_ := Aside0.mk (below_step bA hb); have n1_ := Aside0.mk (hbox); have n2_ := Aside0.mk ((by rw [hg]; exact (below_size bA) : w.heap.size ≤ gb905)); have n3_ := Aside0.mk ((by rw [hg]; exact (below_size bA) : w.heap.size ≤ gb905)); clear HB; have HB := n0_; have BK905 := n1_; have GW905 := n2_; have GE905 := n3_; clear n0_ n1_ n2_ n3_; clear hb hbox hg) | ((with_reducible refine gate_dst (N := 9) rfl ?_); refine Kd.R_lit (Kd.int .i64) _ 3 ?hg (N := 9) ?hd (xs := ([] : List Int)) (inner := []) (ok := fun _ => True) (okp := fun _ => True) ?hr ?hp (fun _ hk => hk) trivial (Below.refl _ _) (Nat.le_refl _) (by simp) ?_; (case hd => rfl); (case hg => rfl); (case hr => first | (go_simp; done) | (go_simp; rfl)); (case hp => exact (Reps.none _ _)); intro v907 w43 ho44 hb hg_ hnew_; clear hg_ hnew_; (first | rw [← Ny906.out] at ho44 | (simp only [Int.reduceToNat] at ho44; rw [← Ny906.out] at ho44)); have HO908 := Aside0.mk (Kd.R_lower ho44 (below_size bG)); replace BK905 := Aside0.mk (blk_below (g := gb905) (bK BK905) hb); replace HB := Aside0.mk (below_step bG hb); clear hb ho44; have hcz45_0 : w43.cell? ⟨gb905, 0, none⟩ = some (.slice A1_0 l1_0.length c1_0) := (blk_cell BK905.out 0).trans rfl; have hcz45_1 : w43.cell? ⟨gb905, 1, none⟩ = some (.int .i64 a1_1) := (blk_cell BK905.out 1).trans rfl; have hcz45_2 : w43.cell? ⟨gb905, 2, none⟩ = some (.slice A1_2 l1_2.length c1_2) := (blk_cell BK905.out 2).trans rfl; have hcz45_3 : w43.cell? ⟨gb905, 3, none⟩ = some (.int .i64 a1_3) := (blk_cell BK905.out 3).trans rfl; have hfz45_0 := blk_frozen BK905.out 0; have hfz45_1 := blk_frozen BK905.out 1; have hfz45_2 := blk_frozen BK905.out 2; have hfz45_3 := blk_frozen BK905.out 3) | ((with_reducible refine gate_callee (f := 57) rfl ?_); refine gL (some 12) Try.func57 #[.slice A0 l0.length c0, .agg #[.slice A1_0 l1_0.length c1_0, .int .i64 a1_1, .slice A1_2 l1_2.length c1_2, .int .i64 a1_3]] ?_; (with_reducible refine (impl_IsControl.calls k _ _ l0 _ _ l1_0 a1_1 _ _ l1_2 a1_3 false _ ?side1 ?side2 ?side3 ?side4 ?side5 ?side6 A3.out).mono ?_); (case side1 => exact cB HR0); (case side2 => exact HC0.out); (case side3 => exact cB HR1_0); (case side4 => exact HC1_0.out); (case side5 => exact cB HR1_2); (case side6 => exact HC1_2.out); rintro e w46 ⟨rfl, hb⟩; refine ⟨_, rfl, ?_⟩; replace HO908 := Aside0.mk (Kd.R_below (rK HO908) hb); replace BK905 := Aside0.mk (blk_below (g := gb905) (bK BK905) hb); replace HB := Aside0.mk (below_step bG hb); (try clear hb); (try clear hb2); (try clear hk); (try clear hi)))
    go_ret
    exact ⟨_, by first | rfl | (simp [errW_none, errW_some] <;> rfl) | (simp [*, errW_none, errW_some] <;> rfl), by (with_reducible repeat (first | apply Kd.R_alloc | apply Kd.R_drewN | apply Kd.R_drew)); exact HO908.out, bG⟩

end Go.Proofs.Ytimmadeghcghoaa.P
