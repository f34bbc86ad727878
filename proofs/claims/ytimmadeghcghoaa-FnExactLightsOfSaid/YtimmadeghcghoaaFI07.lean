/- Printed by myprint.py (wip/tools) over the kit's print: what Go's functions compute, and that they do. Lean checks it. -/
import Derived.Test.YtimmadeghcghoaaF0
import Derived.Test.YtimmadeghcghoaaFI04
import Derived.Test.YtimmadeghcghoaaFI05
import Derived.Test.YtimmadeghcghoaaFZHas
namespace Go.Proofs.Ytimmadeghcghoaa.P
open Go.RowKit Go.Proofs.YtimmadeghcghoaaW.PrintWords Go.Proofs.YtimmadeghcghoaaW.PrintLast Go.Proofs.YtimmadeghcghoaaW.PrintMore Go.Proofs.Ytimmadeghcghoaa.Sq
attribute [local go_sem] max2_int min2_int max_two min_two max_three min_three max_four min_four
set_option linter.unusedVariables false
set_option linter.unusedSimpArgs false

/-! ### impl_sieve: function 134 -/
def impl_sieve.l0 : Nat → List Int → Bool → List Int → List Int → Int → Int → Option (List Int)
  | 0, _, _, _, _, _, _ => none
  | k + 1, x1, x2, x7, x11, x12, x13 => if x13 < x12 then (if 0 ≤ x13 then (if x13 < (x11.length : Int) then ((slices_Contains_int_int.f k x1 (rd x11 x13)).bind fun t754 => (if (t754 == x2) = true then (if x7.length < 17592186044416 then (impl_sieve.l0 k x1 x2 (x7 ++ [rd x11 x13]) x11 x12 (wrap64 (x13 + 1))) else (none)) else (impl_sieve.l0 k x1 x2 x7 x11 x12 (wrap64 (x13 + 1))))) else (none)) else (none)) else (some x7)
def impl_sieve.f (k : Nat) (l0 : List Int) (l1 : List Int) (a2 : Bool) : Option (List Int) := impl_sieve.l0 k l1 a2 (([] : List Int)) l0 (l0.length : Int) 0
theorem impl_sieve.mono_l : ∀ k, (∀ y0 y1 y2 y3 y4 y5, LeO (impl_sieve.l0 k y0 y1 y2 y3 y4 y5) (impl_sieve.l0 (k + 1) y0 y1 y2 y3 y4 y5))
  | 0 => fun _ _ _ _ _ _ r h => by simp [impl_sieve.l0] at h
  | k + 1 => by
    have ih0 := impl_sieve.mono_l k
    · intro y0 y1 y2 y3 y4 y5
      unfold impl_sieve.l0
      repeat' first | (with_reducible first | exact LeO.refl _ | exact LeO.none _ | refine LeO.ite ?_ ?_ | refine LeO.bind ?_ (fun _ => ?_) | exact ih0 _ _ _ _ _ _ | exact slices_Contains_int_int.mono _ _ _) | exact LeO.none _ | refine LeO.ite ?_ ?_ | refine LeO.bind ?_ (fun _ => ?_) | exact ih0 _ _ _ _ _ _ | exact slices_Contains_int_int.mono _ _ _
theorem impl_sieve.mono : ∀ a0 a1 a2 k, LeO (impl_sieve.f k a0 a1 a2) (impl_sieve.f (k + 1) a0 a1 a2) := by
  intro a0 a1 a2 k
  have ih0 := impl_sieve.mono_l k
  unfold impl_sieve.f
  repeat' first | (with_reducible first | exact LeO.refl _ | exact LeO.none _ | refine LeO.ite ?_ ?_ | refine LeO.bind ?_ (fun _ => ?_) | exact ih0 _ _ _ _ _ _ | exact slices_Contains_int_int.mono _ _ _) | exact LeO.none _ | refine LeO.ite ?_ ?_ | refine LeO.bind ?_ (fun _ => ?_) | exact ih0 _ _ _ _ _ _ | exact slices_Contains_int_int.mono _ _ _
set_option maxHeartbeats 8000000 in
set_option maxRecDepth 100000 in
theorem impl_sieve.calls (k : Nat) (A0 : Option Addr) (c0 : Nat) (l0 : List Int) (A1 : Option Addr) (c1 : Nat) (l1 : List Int) (a2 : Bool) (r : List Int) (w : World) (hr0 : Kd.C (Kd.int .i64) w A0 l0.length l0) (hc0 : l0.length ≤ c0) (hr1 : Kd.C (Kd.int .i64) w A1 l1.length l1) (hc1 : l1.length ≤ c1) (h : impl_sieve.f k l0 l1 a2 = some r) :
    Calls Try.prog 134 #[.slice A0 l0.length c0, .slice A1 l1.length c1, .bool a2] w fun e w' => ∃ v0_ : Value, e = .returned (v0_) ∧ Kd.R (Kd.int .i64) 3 w' w.heap.size (fun _ => True) v0_ r ∧ Below w.heap.size w w' := by
  have HR0 := Aside0.mk hr0
  have HC0 := Aside0.mk hc0
  clear hr0 hc0
  have HR1 := Aside0.mk hr1
  have HC1 := Aside0.mk hc1
  clear hr1 hc1
  have HB := Aside0.mk (Below.refl w.heap.size w)
  have H : (impl_sieve.l0 k l1 a2 (([] : List Int)) l0 (l0.length : Int) 0) = some r := h
  clear h
  obtain ⟨y750, hy750⟩ : ∃ y_ : List Int, y_ = (([] : List Int)) := ⟨_, rfl⟩
  replace H : (impl_sieve.l0 k l1 a2 y750 l0 (l0.length : Int) 0) = some r := by first | (rw [hy750]; with_reducible exact H) | (have H2_ := (Option.bind_some _ _).symm.trans H; rw [hy750]; with_reducible exact H2_) | (have H2_ := (Option.bind_some _ _).symm.trans H; with_reducible exact H2_) | with_reducible exact H | (rw [hy750]; exact H) | exact H
  have Ny750 := Aside0.mk hy750
  clear hy750
  have H' := Aside0.mk H
  clear H
  go_enter Try.func134, Try.ntmps134
  go_wp2_with (first | ((with_reducible refine gate_dst (N := 10) rfl ?_); refine Kd.R_lit (Kd.int .i64) _ 3 ?hg (N := 10) ?hd (xs := ([] : List Int)) (inner := []) (ok := fun _ => True) (okp := fun _ => True) ?hr ?hp (fun _ hk => hk) trivial (Below.refl _ _) (Nat.le_refl _) (by simp) ?_; (case hd => rfl); (case hg => rfl); (case hr => first | (go_simp; done) | (go_simp; rfl)); (case hp => exact (Reps.none _ _)); intro v751 w4 ho5 hb hg_ hnew_; clear hg_ hnew_; (first | rw [← Ny750.out] at ho5 | (simp only [Int.reduceToNat] at ho5; rw [← Ny750.out] at ho5)); have HO752 := Aside0.mk (Kd.R_lower ho5 (below_size bA)); replace HB := Aside0.mk (below_step bA hb); clear hb ho5))
  go_loopg [7, 13] k (fun kq v7 v13 w' => ∃ (x7_1 : List Int) (x13_1 : Int), v13 = .int .i64 x13_1 ∧ Aside0 (impl_sieve.l0 kq l1 a2 x7_1 l0 (l0.length : Int) x13_1 = some r) ∧ Aside0 (kq ≤ k) ∧ Aside0 (Kd.R (Kd.int .i64) 3 w' w.heap.size (fun _ => True) v7 x7_1) ∧ Aside0 (Below w.heap.size w w'))
  case atStart => exact ⟨(y750), (0), rS, H', ⟨Nat.le_refl _⟩, ⟨rK HO752⟩, ⟨bA⟩⟩
  case round =>
    clear H'
    try clear c1
    try clear p2
    obtain ⟨x7_1, x13_1, rfl, HA, HK1, HO_7, HB⟩ := hrel
    cases gk with
    | zero => exact absurd HA.out (by simp [impl_sieve.l0])
    | succ k1 =>
      have H := HA.out
      clear HA
      simp only [impl_sieve.l0] at H
      by_cases c6 : x13_1 < (l0.length : Int)
      · rw [if_pos c6] at H
        have c6b0 : decide (x13_1 < (l0.length : Int)) = true := decide_eq_true c6
        clear c6
        have c7 : 0 ≤ x13_1 := ifN H
        replace H := ifT H
        have c7b0 : decide (0 ≤ x13_1) = true := decide_eq_true c7
        clear c7
        have c8 : x13_1 < (l0.length : Int) := ifN H
        replace H := ifT H
        have c8b0 : decide (x13_1 < (l0.length : Int)) = true := decide_eq_true c8
        clear c8
        obtain ⟨t754, A9, H⟩ := bindE H
        try dsimp only at H
        by_cases c10 : (t754 == a2) = true
        · rw [if_pos c10] at H
          have c10b0 : (t754 == a2) = true := c10
          (try (have c10b1 : decide (t754 = a2) = true := by simpa using c10))
          (try (have c10b2 : (t754 == a2) = true := by simpa using c10))
          clear c10
          have c11 : x7_1.length < 17592186044416 := ifN H
          replace H := ifT H
          have LMc11 := Aside0.mk c11
          clear c11
          obtain ⟨y755, hy755⟩ : ∃ y_ : List Int, y_ = (x7_1 ++ [rd l0 x13_1]) := ⟨_, rfl⟩
          replace H : (impl_sieve.l0 k1 l1 a2 y755 l0 (l0.length : Int) (wrap64 (x13_1 + 1))) = some r := by first | (rw [hy755]; with_reducible exact H) | (have H2_ := (Option.bind_some _ _).symm.trans H; rw [hy755]; with_reducible exact H2_) | (have H2_ := (Option.bind_some _ _).symm.trans H; with_reducible exact H2_) | with_reducible exact H | (rw [hy755]; exact H) | exact H
          have Ny755 := Aside0.mk hy755
          clear hy755
          have H' := Aside0.mk H
          clear H
          have p753 : 0 ≤ (x13_1 : Int) := dA
          have q753 : x13_1 < (l0.length : Int) := dA
          obtain ⟨ad753, e753, hx753_0⟩ := Kd.at_int HR0.out x13_1 p753 q753
          cases e753
          replace hx753_0 := hC HB hx753_0
          replace p753 := eq_true p753
          replace q753 := eq_true q753
          go_wp2_with (first | ((with_reducible refine gate_callee (f := 105) rfl ?_); refine gL (some 19) Try.func105 #[.slice A1 l1.length c1, .int .i64 (rd l0 x13_1)] ?_; (with_reducible refine (slices_Contains_int_int.calls k1 _ _ l1 (rd l0 x13_1) t754 _ ?side1 ?side2 A9.out).mono ?_); (case side1 => exact cB HR1); (case side2 => exact HC1.out); rintro e w' ⟨rfl, ⟨nd, rfl⟩⟩; refine ⟨_, rfl, ?_⟩) | ((with_reducible refine gate_builtin (b := .append) (xs := #[.tmp 22, .tmp 24]) rfl ?_); at_builtin; refine Kd.R_append (Kd.int .i64) (w0 := w) w.heap.size rfl (.tmp 22) (.tmp 24) 22 3 (.int .i64 0) 8 rfl Try.underlying22 info3 rfl (by decide) (by omega) u7 x7_1 (rd l0 x13_1) [.int .i64 (rd l0 x13_1)] (fun _ => True) (fun _ => False) rfl rfl ?aP (fun _ hk => hk.elim) ?aF ?aO ?aB ?aS ?aL ?_; (case aP => exact rfl); (case aB => exact bA); (case aF => exact (fun _ _ => trivial)); (case aO => exact (rK HO_7)); (case aS => exact (below_size bA)); (case aL => have := LMc11.out; omega); intro v756 w12 ho hb hg hat; rw [← Ny755.out] at ho; have n0_ := Aside0.mk (hb); have n1_ := Aside0.mk (ho); clear HB; clear HO_7; have HB := n0_; have HO757 := n1_; clear n0_ n1_; clear ho hb hg hat))
          go_roundg k1
          case measure => have := HK1.out; omega
          case rel => exact ⟨(y755), (wrap64 (x13_1 + 1)), rS, H', ⟨by have := HK1.out; omega⟩, ⟨rK HO757⟩, ⟨bA⟩⟩
        · rw [if_neg c10] at H
          have c10b0 : (t754 == a2) = false := by simpa using c10
          (try (have c10b1 : decide (t754 = a2) = false := by simpa using c10))
          (try (have c10b2 : (t754 == a2) = false := by simpa using c10))
          (try (have c10b3 : ¬ (t754 = a2) := by simpa using c10))
          clear c10
          have H' := Aside0.mk H
          clear H
          have p753 : 0 ≤ (x13_1 : Int) := dA
          have q753 : x13_1 < (l0.length : Int) := dA
          obtain ⟨ad753, e753, hx753_0⟩ := Kd.at_int HR0.out x13_1 p753 q753
          cases e753
          replace hx753_0 := hC HB hx753_0
          replace p753 := eq_true p753
          replace q753 := eq_true q753
          go_wp2_with (first | ((with_reducible refine gate_callee (f := 105) rfl ?_); refine gL (some 19) Try.func105 #[.slice A1 l1.length c1, .int .i64 (rd l0 x13_1)] ?_; (with_reducible refine (slices_Contains_int_int.calls k1 _ _ l1 (rd l0 x13_1) t754 _ ?side1 ?side2 A9.out).mono ?_); (case side1 => exact cB HR1); (case side2 => exact HC1.out); rintro e w' ⟨rfl, ⟨nd, rfl⟩⟩; refine ⟨_, rfl, ?_⟩))
          go_roundg k1
          case measure => have := HK1.out; omega
          case rel => exact ⟨(x7_1), (wrap64 (x13_1 + 1)), rS, H', ⟨by have := HK1.out; omega⟩, ⟨rK HO_7⟩, ⟨bA⟩⟩
      · rw [if_neg c6] at H
        have c6b0 : decide (x13_1 < (l0.length : Int)) = false := decide_eq_false c6
        clear c6
        obtain rfl := Option.some.inj H
        go_wp2
        go_ret
        exact ⟨_, by first | rfl | (simp [errW_none, errW_some] <;> rfl) | (simp [*, errW_none, errW_some] <;> rfl), by (with_reducible repeat (first | apply Kd.R_alloc | apply Kd.R_drewN | apply Kd.R_drew)); exact HO_7.out, bA⟩

/-! ### impl_Closes: function 130 -/
def impl_Closes.f (k : Nat) (l0 : List Int) (l1 : List Int) : Option (List Int) := (impl_sieve.f k l0 l1 false).bind fun t758 => (some t758)
theorem impl_Closes.mono : ∀ a0 a1 k, LeO (impl_Closes.f k a0 a1) (impl_Closes.f (k + 1) a0 a1) := by
  intro a0 a1 k
  unfold impl_Closes.f
  repeat' first | (with_reducible first | exact LeO.refl _ | exact LeO.none _ | refine LeO.ite ?_ ?_ | refine LeO.bind ?_ (fun _ => ?_) | exact impl_sieve.mono _ _ _ _) | exact LeO.none _ | refine LeO.ite ?_ ?_ | refine LeO.bind ?_ (fun _ => ?_) | exact impl_sieve.mono _ _ _ _
set_option maxHeartbeats 8000000 in
set_option maxRecDepth 100000 in
theorem impl_Closes.calls (k : Nat) (A0 : Option Addr) (c0 : Nat) (l0 : List Int) (A1 : Option Addr) (c1 : Nat) (l1 : List Int) (r : List Int) (w : World) (hr0 : Kd.C (Kd.int .i64) w A0 l0.length l0) (hc0 : l0.length ≤ c0) (hr1 : Kd.C (Kd.int .i64) w A1 l1.length l1) (hc1 : l1.length ≤ c1) (h : impl_Closes.f k l0 l1 = some r) :
    Calls Try.prog 130 #[.slice A0 l0.length c0, .slice A1 l1.length c1] w fun e w' => ∃ v0_ : Value, e = .returned (v0_) ∧ Kd.R (Kd.int .i64) 3 w' w.heap.size (fun _ => True) v0_ r ∧ Below w.heap.size w w' := by
  have HR0 := Aside0.mk hr0
  have HC0 := Aside0.mk hc0
  clear hr0 hc0
  have HR1 := Aside0.mk hr1
  have HC1 := Aside0.mk hc1
  clear hr1 hc1
  have HB := Aside0.mk (Below.refl w.heap.size w)
  have H : ((impl_sieve.f k l0 l1 false).bind fun t758 => (some t758)) = some r := h
  clear h
  obtain ⟨t758, A3, H⟩ := bindE H
  try dsimp only at H
  obtain rfl := Option.some.inj H
  go_enter Try.func130, Try.ntmps130
  go_wp2_with (first | ((with_reducible refine gate_callee (f := 134) rfl ?_); refine gL (some 7) Try.func134 #[.slice A0 l0.length c0, .slice A1 l1.length c1, .bool false] ?_; (with_reducible refine (impl_sieve.calls k _ _ l0 _ _ l1 false t758 _ ?side1 ?side2 ?side3 ?side4 A3.out).mono ?_); (case side1 => exact cO HR0); (case side2 => exact HC0.out); (case side3 => exact cO HR1); (case side4 => exact HC1.out); rintro e w4 ⟨v759, rfl, ho0, hb⟩; refine ⟨_, rfl, ?_⟩; have HO760 := Aside0.mk (Kd.R_lower ho0 (below_size bA)); replace HB := Aside0.mk (below_step bA hb); (try clear hb); (try clear hb2); (try clear hk); (try clear hi); (try clear ho0)))
  go_ret
  exact ⟨_, by first | rfl | (simp [errW_none, errW_some] <;> rfl) | (simp [*, errW_none, errW_some] <;> rfl), by (with_reducible repeat (first | apply Kd.R_alloc | apply Kd.R_drewN | apply Kd.R_drew)); exact HO760.out, bA⟩

/-! ### impl_ClearOf: function 131 -/
def impl_ClearOf.f (a0_0 : Int) (a0_1 : Int) (a0_2 : Int) (a0_3 : Int) : Option (Int) := (impl_IsPath.f a0_0 a0_1 a0_2 a0_3).bind fun t762 => (if t762 = true then (if a0_1 = 1 then (some 2) else (if a0_1 = 3 then (some 3) else (some 5))) else (some 0))
set_option maxHeartbeats 8000000 in
set_option maxRecDepth 100000 in
theorem impl_ClearOf.calls (a0_0 : Int) (a0_1 : Int) (a0_2 : Int) (a0_3 : Int) (r : Int) (w : World) (h : impl_ClearOf.f a0_0 a0_1 a0_2 a0_3 = some r) :
    Calls Try.prog 131 #[.agg #[.int .i64 a0_0, .int .i64 a0_1, .int .i64 a0_2, .int .i64 a0_3]] w fun e w' => e = .returned (.int .i64 r) ∧ Below w.heap.size w w' := by
  have hu90 := Try.underlying90
  have HB := Aside0.mk (Below.refl w.heap.size w)
  have H : ((impl_IsPath.f a0_0 a0_1 a0_2 a0_3).bind fun t762 => (if t762 = true then (if a0_1 = 1 then (some 2) else (if a0_1 = 3 then (some 3) else (some 5))) else (some 0))) = some r := h
  clear h
  obtain ⟨t762, A2, H⟩ := bindE H
  try dsimp only at H
  by_cases c3 : t762 = true
  · subst c3
    have H1 : (if a0_1 = 1 then (some 2) else (if a0_1 = 3 then (some 3) else (some 5))) = some r := by rw [if_pos rfl] at H; exact H
    clear H
    have H := H1
    clear H1
    by_cases c4 : a0_1 = 1
    · rw [if_pos c4] at H
      have c4b0 : (a0_1 == 1) = true := beq_iff_eq.mpr c4
      have c4b1 : (a0_1 != 1) = false := bne_eq_false_iff_eq.mpr c4
      clear c4
      obtain rfl := Option.some.inj H
      go_enter Try.func131, Try.ntmps131
      go_wp2_with (first | ((with_reducible refine gate_dst (N := 1) rfl ?_); refine bE (N := 1) (cs := #[.int .i64 a0_0, .int .i64 a0_1, .int .i64 a0_2, .int .i64 a0_3]) (t := 90) ?_; intro gb761 hg w5 hbox hb; have n0_ := Aside0.mk (below_step bA hb); have n1_ := Aside0.mk (hbox); have n2_ := Aside0.mk ((by rw [hg]; exact (below_size bA) : w.heap.size ≤ gb761)); have n3_ := Aside0.mk ((by rw [hg]; exact (below_size bA) : w.heap.size ≤ gb761)); clear HB; have HB := n0_; have BK761 := n1_; have GW761 := n2_; have GE761 := n3_; clear n0_ n1_ n2_ n3_; clear hb hbox hg; have hcz6_0 : w5.cell? ⟨gb761, 0, none⟩ = some (.int .i64 a0_0) := (blk_cell BK761.out 0).trans rfl; have hcz6_1 : w5.cell? ⟨gb761, 1, none⟩ = some (.int .i64 a0_1) := (blk_cell BK761.out 1).trans rfl; have hcz6_2 : w5.cell? ⟨gb761, 2, none⟩ = some (.int .i64 a0_2) := (blk_cell BK761.out 2).trans rfl; have hcz6_3 : w5.cell? ⟨gb761, 3, none⟩ = some (.int .i64 a0_3) := (blk_cell BK761.out 3).trans rfl; have hfz6_0 := blk_frozen BK761.out 0; have hfz6_1 := blk_frozen BK761.out 1; have hfz6_2 := blk_frozen BK761.out 2; have hfz6_3 := blk_frozen BK761.out 3) | ((with_reducible refine gate_callee (f := 112) rfl ?_); refine gL (some 4) Try.func112 #[.agg #[.int .i64 a0_0, .int .i64 a0_1, .int .i64 a0_2, .int .i64 a0_3]] ?_; (with_reducible refine (impl_IsPath.calls a0_0 a0_1 a0_2 a0_3 true _ A2.out).mono ?_); rintro e w7 ⟨rfl, hb⟩; refine ⟨_, rfl, ?_⟩; replace BK761 := Aside0.mk (blk_below (g := gb761) (bK BK761) hb); replace HB := Aside0.mk (below_step bG hb); (try clear hb); (try clear hb2); (try clear hk); (try clear hi); obtain ⟨hcz8_0, hcz8_1, hcz8_2, hcz8_3, hfz8_0, hfz8_1, hfz8_2, hfz8_3⟩ := blkc4 BK761))
      go_ret
      exact ⟨rA, bG⟩
    · rw [if_neg c4] at H
      have c4b0 : (a0_1 == 1) = false := beq_eq_false_iff_ne.mpr c4
      have c4b1 : (a0_1 != 1) = true := bne_iff_ne.mpr c4
      by_cases c9 : a0_1 = 3
      · rw [if_pos c9] at H
        have c9b0 : (a0_1 == 3) = true := beq_iff_eq.mpr c9
        have c9b1 : (a0_1 != 3) = false := bne_eq_false_iff_eq.mpr c9
        clear c9
        obtain rfl := Option.some.inj H
        go_enter Try.func131, Try.ntmps131
        go_wp2_with (first | ((with_reducible refine gate_dst (N := 1) rfl ?_); refine bE (N := 1) (cs := #[.int .i64 a0_0, .int .i64 a0_1, .int .i64 a0_2, .int .i64 a0_3]) (t := 90) ?_; intro gb761 hg w10 hbox hb; have n0_ := Aside0.mk (below_step bA hb); have n1_ := Aside0.mk (hbox); have n2_ := Aside0.mk ((by rw [hg]; exact (below_size bA) : w.heap.size ≤ gb761)); have n3_ := Aside0.mk ((by rw [hg]; exact (below_size bA) : w.heap.size ≤ gb761)); clear HB; have HB := n0_; have BK761 := n1_; have GW761 := n2_; have GE761 := n3_; clear n0_ n1_ n2_ n3_; clear hb hbox hg; have hcz11_0 : w10.cell? ⟨gb761, 0, none⟩ = some (.int .i64 a0_0) := (blk_cell BK761.out 0).trans rfl; have hcz11_1 : w10.cell? ⟨gb761, 1, none⟩ = some (.int .i64 a0_1) := (blk_cell BK761.out 1).trans rfl; have hcz11_2 : w10.cell? ⟨gb761, 2, none⟩ = some (.int .i64 a0_2) := (blk_cell BK761.out 2).trans rfl; have hcz11_3 : w10.cell? ⟨gb761, 3, none⟩ = some (.int .i64 a0_3) := (blk_cell BK761.out 3).trans rfl; have hfz11_0 := blk_frozen BK761.out 0; have hfz11_1 := blk_frozen BK761.out 1; have hfz11_2 := blk_frozen BK761.out 2; have hfz11_3 := blk_frozen BK761.out 3) | ((with_reducible refine gate_callee (f := 112) rfl ?_); refine gL (some 4) Try.func112 #[.agg #[.int .i64 a0_0, .int .i64 a0_1, .int .i64 a0_2, .int .i64 a0_3]] ?_; (with_reducible refine (impl_IsPath.calls a0_0 a0_1 a0_2 a0_3 true _ A2.out).mono ?_); rintro e w12 ⟨rfl, hb⟩; refine ⟨_, rfl, ?_⟩; replace BK761 := Aside0.mk (blk_below (g := gb761) (bK BK761) hb); replace HB := Aside0.mk (below_step bG hb); (try clear hb); (try clear hb2); (try clear hk); (try clear hi); obtain ⟨hcz13_0, hcz13_1, hcz13_2, hcz13_3, hfz13_0, hfz13_1, hfz13_2, hfz13_3⟩ := blkc4 BK761))
        go_ret
        exact ⟨rA, bG⟩
      · rw [if_neg c9] at H
        have c9b0 : (a0_1 == 3) = false := beq_eq_false_iff_ne.mpr c9
        have c9b1 : (a0_1 != 3) = true := bne_iff_ne.mpr c9
        obtain rfl := Option.some.inj H
        go_enter Try.func131, Try.ntmps131
        go_wp2_with (first | ((with_reducible refine gate_dst (N := 1) rfl ?_); refine bE (N := 1) (cs := #[.int .i64 a0_0, .int .i64 a0_1, .int .i64 a0_2, .int .i64 a0_3]) (t := 90) ?_; intro gb761 hg w14 hbox hb; have n0_ := Aside0.mk (below_step bA hb); have n1_ := Aside0.mk (hbox); have n2_ := Aside0.mk ((by rw [hg]; exact (below_size bA) : w.heap.size ≤ gb761)); have n3_ := Aside0.mk ((by rw [hg]; exact (below_size bA) : w.heap.size ≤ gb761)); clear HB; have HB := n0_; have BK761 := n1_; have GW761 := n2_; have GE761 := n3_; clear n0_ n1_ n2_ n3_; clear hb hbox hg; have hcz15_0 : w14.cell? ⟨gb761, 0, none⟩ = some (.int .i64 a0_0) := (blk_cell BK761.out 0).trans rfl; have hcz15_1 : w14.cell? ⟨gb761, 1, none⟩ = some (.int .i64 a0_1) := (blk_cell BK761.out 1).trans rfl; have hcz15_2 : w14.cell? ⟨gb761, 2, none⟩ = some (.int .i64 a0_2) := (blk_cell BK761.out 2).trans rfl; have hcz15_3 : w14.cell? ⟨gb761, 3, none⟩ = some (.int .i64 a0_3) := (blk_cell BK761.out 3).trans rfl; have hfz15_0 := blk_frozen BK761.out 0; have hfz15_1 := blk_frozen BK761.out 1; have hfz15_2 := blk_frozen BK761.out 2; have hfz15_3 := blk_frozen BK761.out 3) | ((with_reducible refine gate_callee (f := 112) rfl ?_); refine gL (some 4) Try.func112 #[.agg #[.int .i64 a0_0, .int .i64 a0_1, .int .i64 a0_2, .int .i64 a0_3]] ?_; (with_reducible refine (impl_IsPath.calls a0_0 a0_1 a0_2 a0_3 true _ A2.out).mono ?_); rintro e w16 ⟨rfl, hb⟩; refine ⟨_, rfl, ?_⟩; replace BK761 := Aside0.mk (blk_below (g := gb761) (bK BK761) hb); replace HB := Aside0.mk (below_step bG hb); (try clear hb); (try clear hb2); (try clear hk); (try clear hi); obtain ⟨hcz17_0, hcz17_1, hcz17_2, hcz17_3, hfz17_0, hfz17_1, hfz17_2, hfz17_3⟩ := blkc4 BK761))
        go_ret
        exact ⟨rA, bG⟩
  · replace c3 := Bool.eq_false_iff.mpr c3
    subst c3
    have H1 : (some 0) = some r := by rw [if_neg (show ¬ (false = true) by decide)] at H; exact H
    clear H
    have H := H1
    clear H1
    obtain rfl := Option.some.inj H
    go_enter Try.func131, Try.ntmps131
    go_wp2_with (first | ((with_reducible refine gate_dst (N := 1) rfl ?_); refine bE (N := 1) (cs := #[.int .i64 a0_0, .int .i64 a0_1, .int .i64 a0_2, .int .i64 a0_3]) (t := 90) ?_; intro gb761 hg w18 hbox hb; have n0_ := Aside0.mk (below_step bA hb); have n1_ := Aside0.mk (hbox); have n2_ := Aside0.mk ((by rw [hg]; exact (below_size bA) : w.heap.size ≤ gb761)); have n3_ := Aside0.mk ((by rw [hg]; exact (below_size bA) : w.heap.size ≤ gb761)); clear HB; have HB := n0_; have BK761 := n1_; have GW761 := n2_; have GE761 := n3_; clear n0_ n1_ n2_ n3_; clear hb hbox hg; have hcz19_0 : w18.cell? ⟨gb761, 0, none⟩ = some (.int .i64 a0_0) := (blk_cell BK761.out 0).trans rfl; have hcz19_1 : w18.cell? ⟨gb761, 1, none⟩ = some (.int .i64 a0_1) := (blk_cell BK761.out 1).trans rfl; have hcz19_2 : w18.cell? ⟨gb761, 2, none⟩ = some (.int .i64 a0_2) := (blk_cell BK761.out 2).trans rfl; have hcz19_3 : w18.cell? ⟨gb761, 3, none⟩ = some (.int .i64 a0_3) := (blk_cell BK761.out 3).trans rfl; have hfz19_0 := blk_frozen BK761.out 0; have hfz19_1 := blk_frozen BK761.out 1; have hfz19_2 := blk_frozen BK761.out 2; have hfz19_3 := blk_frozen BK761.out 3) | ((with_reducible refine gate_callee (f := 112) rfl ?_); refine gL (some 4) Try.func112 #[.agg #[.int .i64 a0_0, .int .i64 a0_1, .int .i64 a0_2, .int .i64 a0_3]] ?_; (with_reducible refine (impl_IsPath.calls a0_0 a0_1 a0_2 a0_3 false _ A2.out).mono ?_); rintro e w20 ⟨rfl, hb⟩; refine ⟨_, rfl, ?_⟩; replace BK761 := Aside0.mk (blk_below (g := gb761) (bK BK761) hb); replace HB := Aside0.mk (below_step bG hb); (try clear hb); (try clear hb2); (try clear hk); (try clear hi)))
    go_ret
    exact ⟨rA, bG⟩

/-! ### impl_ClearBetween: function 101 -/
mutual
def impl_ClearBetween.j0 : Nat → List (S90) → List Int → List Int → Int → Bool → Option (Int)
  | 0, _, _, _, _, _ => none
  | k + 1, x0, x1, x2, x7, x22 => if x22 = true then (some x7) else ((impl_Closes.f k x1 x2).bind fun t765 => (impl_ClearBetween.l0 k x0 x1 x2 x7 t765 (t765.length : Int) 0))
def impl_ClearBetween.l0 : Nat → List (S90) → List Int → List Int → Int → List Int → Int → Int → Option (Int)
  | 0, _, _, _, _, _, _, _ => none
  | k + 1, x0, x1, x2, x7, x26, x27, x28 => if x28 < x27 then (if 0 ≤ x28 then (if x28 < (x26.length : Int) then ((impl_Closes.f k x2 x1).bind fun t769 => (impl_ClearBetween.l1 k x0 x1 x2 x7 (rd x26 x28) x26 x27 x28 t769 (t769.length : Int) 0)) else (none)) else (none)) else (some x7)
def impl_ClearBetween.l1 : Nat → List (S90) → List Int → List Int → Int → Int → List Int → Int → Int → List Int → Int → Int → Option (Int)
  | 0, _, _, _, _, _, _, _, _, _, _, _ => none
  | k + 1, x0, x1, x2, x7, x9, x26, x27, x28, x34, x35, x36 => if x36 < x35 then (if 0 ≤ x36 then (if x36 < (x34.length : Int) then ((impl_FindPath.f x0 x9).bind fun t773 => (if 0 ≤ t773 then (if t773 < (x0.length : Int) then ((impl_FindPath.f x0 (rd x34 x36)).bind fun t776 => (if 0 ≤ t776 then (if t776 < (x0.length : Int) then ((impl_Conflict.f k ((rd_T90 x0 t773).f0) ((rd_T90 x0 t773).f1) ((rd_T90 x0 t773).f2) ((rd_T90 x0 t773).f3) ((rd_T90 x0 t776).f0) ((rd_T90 x0 t776).f1) ((rd_T90 x0 t776).f2) ((rd_T90 x0 t776).f3)).bind fun t778 => (if t778 = true then ((impl_ClearOf.f ((rd_T90 x0 t773).f0) ((rd_T90 x0 t773).f1) ((rd_T90 x0 t773).f2) ((rd_T90 x0 t773).f3)).bind fun t779 => (impl_ClearBetween.l1 k x0 x1 x2 (mx x7 t779) x9 x26 x27 x28 x34 x35 (wrap64 (x36 + 1)))) else (impl_ClearBetween.l1 k x0 x1 x2 x7 x9 x26 x27 x28 x34 x35 (wrap64 (x36 + 1))))) else (none)) else (none))) else (none)) else (none))) else (none)) else (none)) else (impl_ClearBetween.l0 k x0 x1 x2 x7 x26 x27 (wrap64 (x28 + 1)))
end
def impl_ClearBetween.f (k : Nat) (l0 : List (S90)) (l1 : List Int) (l2 : List Int) : Option (Int) := (impl_IsTogether.f k l0 l1).bind fun t763 => (if t763 = true then ((impl_IsTogether.f k l0 l2).bind fun t764 => (impl_ClearBetween.j0 k l0 l1 l2 0 (!t764))) else (impl_ClearBetween.j0 k l0 l1 l2 0 true))
theorem impl_ClearBetween.mono_l : ∀ k, (∀ y0 y1 y2 y3 y4, LeO (impl_ClearBetween.j0 k y0 y1 y2 y3 y4) (impl_ClearBetween.j0 (k + 1) y0 y1 y2 y3 y4)) ∧ (∀ y0 y1 y2 y3 y4 y5 y6, LeO (impl_ClearBetween.l0 k y0 y1 y2 y3 y4 y5 y6) (impl_ClearBetween.l0 (k + 1) y0 y1 y2 y3 y4 y5 y6)) ∧ (∀ y0 y1 y2 y3 y4 y5 y6 y7 y8 y9 y10, LeO (impl_ClearBetween.l1 k y0 y1 y2 y3 y4 y5 y6 y7 y8 y9 y10) (impl_ClearBetween.l1 (k + 1) y0 y1 y2 y3 y4 y5 y6 y7 y8 y9 y10))
  | 0 => ⟨fun _ _ _ _ _ r h => by simp [impl_ClearBetween.j0] at h, fun _ _ _ _ _ _ _ r h => by simp [impl_ClearBetween.l0] at h, fun _ _ _ _ _ _ _ _ _ _ _ r h => by simp [impl_ClearBetween.l1] at h⟩
  | k + 1 => by
    obtain ⟨ih0, ih1, ih2⟩ := impl_ClearBetween.mono_l k
    refine ⟨?_, ?_, ?_⟩
    · intro y0 y1 y2 y3 y4
      unfold impl_ClearBetween.j0
      repeat' first | (with_reducible first | exact LeO.refl _ | exact LeO.none _ | refine LeO.ite ?_ ?_ | refine LeO.bind ?_ (fun _ => ?_) | exact ih0 _ _ _ _ _ | exact ih1 _ _ _ _ _ _ _ | exact ih2 _ _ _ _ _ _ _ _ _ _ _ | exact impl_Closes.mono _ _ _ | exact impl_Conflict.mono _ _ _ _ _ _ _ _ _ | exact impl_IsTogether.mono _ _ _) | exact LeO.none _ | refine LeO.ite ?_ ?_ | refine LeO.bind ?_ (fun _ => ?_) | exact ih0 _ _ _ _ _ | exact ih1 _ _ _ _ _ _ _ | exact ih2 _ _ _ _ _ _ _ _ _ _ _ | exact impl_Closes.mono _ _ _ | exact impl_Conflict.mono _ _ _ _ _ _ _ _ _ | exact impl_IsTogether.mono _ _ _
    · intro y0 y1 y2 y3 y4 y5 y6
      unfold impl_ClearBetween.l0
      repeat' first | (with_reducible first | exact LeO.refl _ | exact LeO.none _ | refine LeO.ite ?_ ?_ | refine LeO.bind ?_ (fun _ => ?_) | exact ih0 _ _ _ _ _ | exact ih1 _ _ _ _ _ _ _ | exact ih2 _ _ _ _ _ _ _ _ _ _ _ | exact impl_Closes.mono _ _ _ | exact impl_Conflict.mono _ _ _ _ _ _ _ _ _ | exact impl_IsTogether.mono _ _ _) | exact LeO.none _ | refine LeO.ite ?_ ?_ | refine LeO.bind ?_ (fun _ => ?_) | exact ih0 _ _ _ _ _ | exact ih1 _ _ _ _ _ _ _ | exact ih2 _ _ _ _ _ _ _ _ _ _ _ | exact impl_Closes.mono _ _ _ | exact impl_Conflict.mono _ _ _ _ _ _ _ _ _ | exact impl_IsTogether.mono _ _ _
    · intro y0 y1 y2 y3 y4 y5 y6 y7 y8 y9 y10
      unfold impl_ClearBetween.l1
      repeat' first | (with_reducible first | exact LeO.refl _ | exact LeO.none _ | refine LeO.ite ?_ ?_ | refine LeO.bind ?_ (fun _ => ?_) | exact ih0 _ _ _ _ _ | exact ih1 _ _ _ _ _ _ _ | exact ih2 _ _ _ _ _ _ _ _ _ _ _ | exact impl_Closes.mono _ _ _ | exact impl_Conflict.mono _ _ _ _ _ _ _ _ _ | exact impl_IsTogether.mono _ _ _) | exact LeO.none _ | refine LeO.ite ?_ ?_ | refine LeO.bind ?_ (fun _ => ?_) | exact ih0 _ _ _ _ _ | exact ih1 _ _ _ _ _ _ _ | exact ih2 _ _ _ _ _ _ _ _ _ _ _ | exact impl_Closes.mono _ _ _ | exact impl_Conflict.mono _ _ _ _ _ _ _ _ _ | exact impl_IsTogether.mono _ _ _
theorem impl_ClearBetween.mono : ∀ a0 a1 a2 k, LeO (impl_ClearBetween.f k a0 a1 a2) (impl_ClearBetween.f (k + 1) a0 a1 a2) := by
  intro a0 a1 a2 k
  obtain ⟨ih0, ih1, ih2⟩ := impl_ClearBetween.mono_l k
  unfold impl_ClearBetween.f
  repeat' first | (with_reducible first | exact LeO.refl _ | exact LeO.none _ | refine LeO.ite ?_ ?_ | refine LeO.bind ?_ (fun _ => ?_) | exact ih0 _ _ _ _ _ | exact ih1 _ _ _ _ _ _ _ | exact ih2 _ _ _ _ _ _ _ _ _ _ _ | exact impl_Closes.mono _ _ _ | exact impl_Conflict.mono _ _ _ _ _ _ _ _ _ | exact impl_IsTogether.mono _ _ _) | exact LeO.none _ | refine LeO.ite ?_ ?_ | refine LeO.bind ?_ (fun _ => ?_) | exact ih0 _ _ _ _ _ | exact ih1 _ _ _ _ _ _ _ | exact ih2 _ _ _ _ _ _ _ _ _ _ _ | exact impl_Closes.mono _ _ _ | exact impl_Conflict.mono _ _ _ _ _ _ _ _ _ | exact impl_IsTogether.mono _ _ _
def impl_ClearBetween.T11 : Bool × List (List Nat × List Nat) := (true, [([], []), ([], []), ([], []), ([], []), ([2, 3], [2, 3]), ([1, 4], [1, 4]), ([5], [5]), ([0, 6, 4], [0, 6])])
def impl_ClearBetween.B11 : List Nat := [0, 0, 0, 0, 12, 30, 62, 127]
theorem impl_ClearBetween.tab11 : rtab .any (opsOf Try.f101 11) = impl_ClearBetween.T11 := by kernel_rfl
theorem impl_ClearBetween.bits11 : waitsOk impl_ClearBetween.T11.2 impl_ClearBetween.B11 = true := by kernel_rfl
set_option maxHeartbeats 8000000 in
set_option maxRecDepth 100000 in
theorem impl_ClearBetween.calls (k : Nat) (A0 : Option Addr) (c0 : Nat) (l0 : List (S90)) (A1 : Option Addr) (c1 : Nat) (l1 : List Int) (A2 : Option Addr) (c2 : Nat) (l2 : List Int) (r : Int) (w : World) (hr0 : Kd.C k90 w A0 l0.length l0) (hc0 : l0.length ≤ c0) (hr1 : Kd.C (Kd.int .i64) w A1 l1.length l1) (hc1 : l1.length ≤ c1) (hr2 : Kd.C (Kd.int .i64) w A2 l2.length l2) (hc2 : l2.length ≤ c2) (h : impl_ClearBetween.f k l0 l1 l2 = some r) :
    Calls Try.prog 101 #[.slice A0 l0.length c0, .slice A1 l1.length c1, .slice A2 l2.length c2] w fun e w' => e = .returned (.int .i64 r) ∧ Below w.heap.size w w' := by
  have hu90 := Try.underlying90
  have HR0 := Aside0.mk hr0
  have HC0 := Aside0.mk hc0
  clear hr0 hc0
  have HR1 := Aside0.mk hr1
  have HC1 := Aside0.mk hc1
  clear hr1 hc1
  have HR2 := Aside0.mk hr2
  have HC2 := Aside0.mk hc2
  clear hr2 hc2
  have HB := Aside0.mk (Below.refl w.heap.size w)
  have H : ((impl_IsTogether.f k l0 l1).bind fun t763 => (if t763 = true then ((impl_IsTogether.f k l0 l2).bind fun t764 => (impl_ClearBetween.j0 k l0 l1 l2 0 (!t764))) else (impl_ClearBetween.j0 k l0 l1 l2 0 true))) = some r := h
  clear h
  have HC4 := Aside0.mk H
  clear H
  go_enter Try.func101, Try.ntmps101
  go_upto_region 2 with (fail)
  go_cut [22] (fun v22 wc => ∃ (kq : Nat) (x22_3 : Bool), v22 = .bool x22_3 ∧ Aside0 (impl_ClearBetween.j0 kq l0 l1 l2 0 x22_3 = some r) ∧ Aside0 (kq ≤ k) ∧ Aside0 (Below w.heap.size w wc))
  case first =>
    have H := HC4.out
    clear HC4
    obtain ⟨t763, A5, H⟩ := bindE H
    try dsimp only at H
    by_cases c6 : t763 = true
    · subst c6
      have H1 : ((impl_IsTogether.f k l0 l2).bind fun t764 => (impl_ClearBetween.j0 k l0 l1 l2 0 (!t764))) = some r := by rw [if_pos rfl] at H; exact H
      clear H
      have H := H1
      clear H1
      obtain ⟨t764, A7, H⟩ := bindE H
      try dsimp only at H
      have H' := Aside0.mk H
      clear H
      go_wp2_with (first | ((with_reducible refine gate_callee (f := 100) rfl ?_); refine gL (some 15) Try.func100 #[.slice A0 l0.length c0, .slice A1 l1.length c1] ?_; (with_reducible refine (impl_IsTogether.calls k _ _ l0 _ _ l1 true _ ?side1 ?side2 ?side3 ?side4 A5.out).mono ?_); (case side1 => exact cB HR0); (case side2 => exact HC0.out); (case side3 => exact cB HR1); (case side4 => exact HC1.out); rintro e w8 ⟨rfl, hb⟩; refine ⟨_, rfl, ?_⟩; replace HB := Aside0.mk (below_step bA hb); (try clear hb); (try clear hb2); (try clear hk); (try clear hi)) | (go_at_call 100; (with_reducible refine (impl_IsTogether.calls k _ _ l0 _ _ l2 t764 _ ?side1 ?side2 ?side3 ?side4 A7.out).mono ?_); (case side1 => exact cB HR0); (case side2 => exact HC0.out); (case side3 => exact cB HR2); (case side4 => exact HC2.out); rintro e w9 ⟨rfl, hb⟩; replace HB := Aside0.mk (below_step bA hb); (try clear hb); (try clear hb2); (try clear hk); (try clear hi)))
      go_meet
      case rel => exact ⟨_, (!t764), rS, H', ⟨by first | omega | exact Nat.le_refl _⟩, ⟨bA⟩⟩
    · replace c6 := Bool.eq_false_iff.mpr c6
      subst c6
      have H1 : (impl_ClearBetween.j0 k l0 l1 l2 0 true) = some r := by rw [if_neg (show ¬ (false = true) by decide)] at H; exact H
      clear H
      have H := H1
      clear H1
      have H' := Aside0.mk H
      clear H
      go_wp2_with (first | ((with_reducible refine gate_callee (f := 100) rfl ?_); refine gL (some 15) Try.func100 #[.slice A0 l0.length c0, .slice A1 l1.length c1] ?_; (with_reducible refine (impl_IsTogether.calls k _ _ l0 _ _ l1 false _ ?side1 ?side2 ?side3 ?side4 A5.out).mono ?_); (case side1 => exact cB HR0); (case side2 => exact HC0.out); (case side3 => exact cB HR1); (case side4 => exact HC1.out); rintro e w10 ⟨rfl, hb⟩; refine ⟨_, rfl, ?_⟩; replace HB := Aside0.mk (below_step bA hb); (try clear hb); (try clear hb2); (try clear hk); (try clear hi)))
      go_meet
      case rel => exact ⟨_, (true), rS, H', ⟨by first | omega | exact Nat.le_refl _⟩, ⟨bA⟩⟩
  case rest =>
    clear HC4
    try clear c1
    try clear c2
    try clear p2
    try clear c6
    try clear c10
    obtain ⟨kq, x22_3, rfl, HA, HJ3, HB⟩ := hcut
    cases kq with
    | zero => exact absurd HA.out (by simp [impl_ClearBetween.j0])
    | succ kj3 =>
      have H := HA.out
      clear HA
      simp only [impl_ClearBetween.j0] at H
      by_cases c11 : x22_3 = true
      · subst c11
        have H1 : (some 0) = some r := by rw [if_pos rfl] at H; exact H
        clear H
        have H := H1
        clear H1
        obtain rfl := Option.some.inj H
        go_wp2
        go_ret
        exact ⟨rA, bA⟩
      · replace c11 := Bool.eq_false_iff.mpr c11
        subst c11
        have H1 : ((impl_Closes.f kj3 l1 l2).bind fun t765 => (impl_ClearBetween.l0 kj3 l0 l1 l2 0 t765 (t765.length : Int) 0)) = some r := by rw [if_neg (show ¬ (false = true) by decide)] at H; exact H
        clear H
        have H := H1
        clear H1
        obtain ⟨t765, A12, H⟩ := bindE H
        try dsimp only at H
        have H' := Aside0.mk H
        clear H
        go_wp2_with (first | ((with_reducible refine gate_callee (f := 130) rfl ?_); refine gL (some 26) Try.func130 #[.slice A1 l1.length c1, .slice A2 l2.length c2] ?_; (with_reducible refine (impl_Closes.calls kj3 _ _ l1 _ _ l2 t765 _ ?side1 ?side2 ?side3 ?side4 A12.out).mono ?_); (case side1 => exact cB HR1); (case side2 => exact HC1.out); (case side3 => exact cB HR2); (case side4 => exact HC2.out); rintro e w13 ⟨v766, rfl, ho0, hb⟩; refine ⟨_, rfl, ?_⟩; have HO767 := Aside0.mk (Kd.R_lower ho0 (below_size bA)); replace HB := Aside0.mk (below_step bA hb); (try clear hb); (try clear hb2); (try clear hk); (try clear hi); (try clear ho0); obtain ⟨Ao14, co14, eo14⟩ := Kd.R_slice HO767.out; subst eo14))
        go_loopg [7, 28] kj3 (fun kq v7 v28 w' => ∃ (x7_2 : Int) (x28_2 : Int), v7 = .int .i64 x7_2 ∧ v28 = .int .i64 x28_2 ∧ Aside0 (impl_ClearBetween.l0 kq l0 l1 l2 x7_2 t765 (t765.length : Int) x28_2 = some r) ∧ Aside0 (kq ≤ kj3) ∧ Aside0 (Kd.R (Kd.int .i64) 3 w' w.heap.size (fun _ => True) (.slice Ao14 t765.length co14) t765) ∧ Aside0 (Below w.heap.size w w'))
        case atStart => exact ⟨(0), (0), rS, rS, H', ⟨Nat.le_refl _⟩, ⟨rK HO767⟩, ⟨bA⟩⟩
        case round =>
          clear H'
          try clear c1
          try clear c2
          try clear p2
          try clear c6
          try clear c10
          try clear c11
          try clear c13
          try clear p2
          obtain ⟨x7_2, x28_2, rfl, rfl, HA, HK2, HO_26, HB⟩ := hrel
          cases gk with
          | zero => exact absurd HA.out (by simp [impl_ClearBetween.l0])
          | succ k2 =>
            have H := HA.out
            clear HA
            simp only [impl_ClearBetween.l0] at H
            by_cases c15 : x28_2 < (t765.length : Int)
            · rw [if_pos c15] at H
              have c15b0 : decide (x28_2 < (t765.length : Int)) = true := decide_eq_true c15
              clear c15
              have c16 : 0 ≤ x28_2 := ifN H
              replace H := ifT H
              have c16b0 : decide (0 ≤ x28_2) = true := decide_eq_true c16
              clear c16
              have c17 : x28_2 < (t765.length : Int) := ifN H
              replace H := ifT H
              have c17b0 : decide (x28_2 < (t765.length : Int)) = true := decide_eq_true c17
              clear c17
              obtain ⟨t769, A18, H⟩ := bindE H
              try dsimp only at H
              have H' := Aside0.mk H
              clear H
              have p768 : 0 ≤ (x28_2 : Int) := dA
              have q768 : x28_2 < (t765.length : Int) := dA
              obtain ⟨ad768, e768, hx768_0⟩ := Kd.at_int (Kd.R_reads' HO_26.out).2.2 x28_2 p768 q768
              cases e768
              replace p768 := eq_true p768
              replace q768 := eq_true q768
              go_wp2_with (first | ((with_reducible refine gate_callee (f := 130) rfl ?_); refine gL (some 34) Try.func130 #[.slice A2 l2.length c2, .slice A1 l1.length c1] ?_; (with_reducible refine (impl_Closes.calls k2 _ _ l2 _ _ l1 t769 _ ?side1 ?side2 ?side3 ?side4 A18.out).mono ?_); (case side1 => exact cB HR2); (case side2 => exact HC2.out); (case side3 => exact cB HR1); (case side4 => exact HC1.out); rintro e w19 ⟨v770, rfl, ho0, hb⟩; refine ⟨_, rfl, ?_⟩; have HO771 := Aside0.mk (Kd.R_lower (Kd.R_new' ho0 (Kd.R_lt (rK HO_26))) (below_size bA)); replace HO_26 := Aside0.mk (Kd.R_elder' (rK HO_26) (Kd.R_base ho0) hb); replace HB := Aside0.mk (below_step bA hb); (try clear hb); (try clear hb2); (try clear hk); (try clear hi); (try clear ho0); obtain ⟨Ao20, co20, eo20⟩ := Kd.R_slice HO771.out; subst eo20))
              go_loopg [7, 36] k2 (fun kq v7 v36 w' => ∃ (x7_3 : Int) (x36_3 : Int), v7 = .int .i64 x7_3 ∧ v36 = .int .i64 x36_3 ∧ Aside0 (impl_ClearBetween.l1 kq l0 l1 l2 x7_3 (rd t765 x28_2) t765 (t765.length : Int) x28_2 t769 (t769.length : Int) x36_3 = some r) ∧ Aside0 (kq ≤ k2) ∧ Aside0 (Kd.R (Kd.int .i64) 3 w' w.heap.size (fun k_ => some k_ ≠ ((.slice Ao20 t769.length co20) : Value).ownBlock) (.slice (some ad768) t765.length co14) t765) ∧ Aside0 (Kd.R (Kd.int .i64) 3 w' w.heap.size (fun k_ => some k_ ≠ ((.slice (some ad768) t765.length co14) : Value).ownBlock) (.slice Ao20 t769.length co20) t769) ∧ Aside0 (Below w.heap.size w w'))
              case atStart => exact ⟨(x7_2), (0), rS, rS, H', ⟨Nat.le_refl _⟩, ⟨by (with_reducible repeat (first | apply Kd.R_alloc | apply Kd.R_drewN | apply Kd.R_drew)); exact Kd.R_mono HO_26.out (fun _ hk => hk.2)⟩, ⟨by (with_reducible repeat (first | apply Kd.R_alloc | apply Kd.R_drewN | apply Kd.R_drew)); exact Kd.R_mono HO771.out (fun _ hk => hk.2)⟩, ⟨bA⟩⟩
              case round =>
                clear H'
                try clear c1
                try clear c2
                try clear p2
                try clear c6
                try clear p7
                try clear q7
                try clear hx7
                try clear c10
                try clear c11
                try clear c13
                try clear c15
                try clear c15b0
                try clear c16
                try clear c16b0
                try clear c17
                try clear c17b0
                try clear hx768_0
                try clear p2
                try clear p768
                try clear q768
                obtain ⟨x7_3, x36_3, rfl, rfl, HA, HK3, HO_26, HO_34, HB⟩ := hrel
                cases gk with
                | zero => exact absurd HA.out (by simp [impl_ClearBetween.l1])
                | succ k3 =>
                  have H := HA.out
                  clear HA
                  simp only [impl_ClearBetween.l1] at H
                  by_cases c21 : x36_3 < (t769.length : Int)
                  · rw [if_pos c21] at H
                    have c21b0 : decide (x36_3 < (t769.length : Int)) = true := decide_eq_true c21
                    clear c21
                    have c22 : 0 ≤ x36_3 := ifN H
                    replace H := ifT H
                    have c22b0 : decide (0 ≤ x36_3) = true := decide_eq_true c22
                    clear c22
                    have c23 : x36_3 < (t769.length : Int) := ifN H
                    replace H := ifT H
                    have c23b0 : decide (x36_3 < (t769.length : Int)) = true := decide_eq_true c23
                    clear c23
                    obtain ⟨t773, A24, H⟩ := bindE H
                    try dsimp only at H
                    have c25 : 0 ≤ t773 := ifN H
                    replace H := ifT H
                    have c25b0 : decide (0 ≤ t773) = true := decide_eq_true c25
                    clear c25
                    have c26 : t773 < (l0.length : Int) := ifN H
                    replace H := ifT H
                    have c26b0 : decide (t773 < (l0.length : Int)) = true := decide_eq_true c26
                    clear c26
                    obtain ⟨t776, A27, H⟩ := bindE H
                    try dsimp only at H
                    have c28 : 0 ≤ t776 := ifN H
                    replace H := ifT H
                    have c28b0 : decide (0 ≤ t776) = true := decide_eq_true c28
                    clear c28
                    have c29 : t776 < (l0.length : Int) := ifN H
                    replace H := ifT H
                    have c29b0 : decide (t776 < (l0.length : Int)) = true := decide_eq_true c29
                    clear c29
                    obtain ⟨t778, A30, H⟩ := bindE H
                    try dsimp only at H
                    by_cases c31 : t778 = true
                    · subst c31
                      have H1 : ((impl_ClearOf.f ((rd_T90 l0 t773).f0) ((rd_T90 l0 t773).f1) ((rd_T90 l0 t773).f2) ((rd_T90 l0 t773).f3)).bind fun t779 => (impl_ClearBetween.l1 k3 l0 l1 l2 (mx x7_3 t779) (rd t765 x28_2) t765 (t765.length : Int) x28_2 t769 (t769.length : Int) (wrap64 (x36_3 + 1)))) = some r := by rw [if_pos rfl] at H; exact H
                      clear H
                      have H := H1
                      clear H1
                      obtain ⟨t779, A32, H⟩ := bindE H
                      try dsimp only at H
                      obtain ⟨ji33, hji33⟩ : ∃ j_ : Int, (mx x7_3 t779) = j_ := ⟨_, rfl⟩
                      replace H : (impl_ClearBetween.l1 k3 l0 l1 l2 ji33 (rd t765 x28_2) t765 (t765.length : Int) x28_2 t769 (t769.length : Int) (wrap64 (x36_3 + 1))) = some r := by first | (rw [hji33] at H; exact H) | (simp only [hji33] at H ⊢; exact H)
                      (try rw [hji33] at A24)
                      (try rw [hji33] at A27)
                      (try rw [hji33] at A30)
                      (try rw [hji33] at A32)
                      have hji33_ : (if x7_3 < t779 then t779 else x7_3) = ji33 := hji33
                      have H' := Aside0.mk H
                      clear H
                      have p772 : 0 ≤ (x36_3 : Int) := dA
                      have q772 : x36_3 < (t769.length : Int) := dA
                      obtain ⟨ad772, e772, hx772_0⟩ := Kd.at_int (Kd.R_reads' HO_34.out).2.2 x36_3 p772 q772
                      cases e772
                      replace p772 := eq_true p772
                      replace q772 := eq_true q772
                      try go_wp2_with (first | ((with_reducible refine gate_callee (f := 84) rfl ?_); refine gL (some 43) Try.func84 #[.slice A0 l0.length c0, .int .i64 (rd t765 x28_2)] ?_; (with_reducible refine (impl_FindPath.calls _ _ l0 (rd t765 x28_2) t773 _ ?side1 ?side2 A24.out).mono ?_); (case side1 => exact cB HR0); (case side2 => exact HC0.out); rintro e w34 ⟨rfl, hb⟩; refine ⟨_, rfl, ?_⟩; replace HO_26 := Aside0.mk (Kd.R_below (rK HO_26) hb); replace HO_34 := Aside0.mk (Kd.R_below (rK HO_34) hb); replace HB := Aside0.mk (below_step bA hb); (try clear hb); (try clear hb2); (try clear hk); (try clear hi); have p774 : 0 ≤ (t773 : Int) := dA; have q774 : t773 < (l0.length : Int) := dA; obtain ⟨ad774, e774, hx774_0, hx774_1, hx774_2, hx774_3⟩ := at_T90 HR0.out t773 p774 q774; cases e774; replace hx774_0 := hC HB hx774_0; replace hx774_1 := hC HB hx774_1; replace hx774_2 := hC HB hx774_2; replace hx774_3 := hC HB hx774_3; replace p774 := eq_true p774; replace q774 := eq_true q774) | ((with_reducible refine gate_dst (N := 12) rfl ?_); refine bE (N := 12) (cs := #[.int .i64 0, .int .i64 0, .int .i64 0, .int .i64 0]) (t := 90) ?_; intro gb775 hg w35 hbox hb; have n0_ := Aside0.mk (Kd.R_below (rK HO_26) hb); have n1_ := Aside0.mk (Kd.R_below (rK HO_34) hb); have n2_ := Aside0.mk (below_step bA hb); have n3_ := Aside0.mk (hbox); have n4_ := Aside0.mk ((by rw [hg]; exact (below_size bA) : w.heap.size ≤ gb775)); have n5_ := Aside0.mk ((by rw [hg]; exact (below_size bA) : w.heap.size ≤ gb775)); clear HO_26; clear HO_34; clear HB; have HO_26 := n0_; have HO_34 := n1_; have HB := n2_; have BK775 := n3_; have GW775 := n4_; have GE775 := n5_; clear n0_ n1_ n2_ n3_ n4_ n5_; clear hb hbox hg; obtain ⟨hcz36_0, hcz36_1, hcz36_2, hcz36_3, hfz36_0, hfz36_1, hfz36_2, hfz36_3⟩ := blkc4 BK775))
                      have n0_ : Aside0 (Kd.R (Kd.int .i64) 3 ((((w35.setCell ⟨gb775, 0, none⟩ (.int .i64 ((rd_T90 l0 t773).f0))).setCell ⟨gb775, 1, none⟩ (.int .i64 ((rd_T90 l0 t773).f1))).setCell ⟨gb775, 2, none⟩ (.int .i64 ((rd_T90 l0 t773).f2))).setCell ⟨gb775, 3, none⟩ (.int .i64 ((rd_T90 l0 t773).f3))) w.heap.size (fun k_ => some k_ ≠ (.slice (some ad772) t769.length co20 : Value).ownBlock) (.slice (some ad768) t765.length co14) t765) := ⟨by (with_reducible repeat (first | apply Kd.R_alloc | apply Kd.R_drewN | apply Kd.R_drew)); exact Kd.R_mono (Kd.R_far (p := ⟨gb775, 3, none⟩) (Kd.R_far (p := ⟨gb775, 2, none⟩) (Kd.R_far (p := ⟨gb775, 1, none⟩) (Kd.R_far (p := ⟨gb775, 0, none⟩) (Kd.R_types HO_26.out BK775.out (by decide)) (fun _ hk => hk.2) (.int .i64 ((rd_T90 l0 t773).f0))) (fun _ hk => hk.2) (.int .i64 ((rd_T90 l0 t773).f1))) (fun _ hk => hk.2) (.int .i64 ((rd_T90 l0 t773).f2))) (fun _ hk => hk.2) (.int .i64 ((rd_T90 l0 t773).f3))) (fun _ hk => hk.1)⟩
                      have n1_ : Aside0 (Kd.R (Kd.int .i64) 3 ((((w35.setCell ⟨gb775, 0, none⟩ (.int .i64 ((rd_T90 l0 t773).f0))).setCell ⟨gb775, 1, none⟩ (.int .i64 ((rd_T90 l0 t773).f1))).setCell ⟨gb775, 2, none⟩ (.int .i64 ((rd_T90 l0 t773).f2))).setCell ⟨gb775, 3, none⟩ (.int .i64 ((rd_T90 l0 t773).f3))) w.heap.size (fun k_ => some k_ ≠ (.slice (some ad768) t765.length co14 : Value).ownBlock) (.slice (some ad772) t769.length co20) t769) := ⟨by (with_reducible repeat (first | apply Kd.R_alloc | apply Kd.R_drewN | apply Kd.R_drew)); exact Kd.R_mono (Kd.R_far (p := ⟨gb775, 3, none⟩) (Kd.R_far (p := ⟨gb775, 2, none⟩) (Kd.R_far (p := ⟨gb775, 1, none⟩) (Kd.R_far (p := ⟨gb775, 0, none⟩) (Kd.R_types HO_34.out BK775.out (by decide)) (fun _ hk => hk.2) (.int .i64 ((rd_T90 l0 t773).f0))) (fun _ hk => hk.2) (.int .i64 ((rd_T90 l0 t773).f1))) (fun _ hk => hk.2) (.int .i64 ((rd_T90 l0 t773).f2))) (fun _ hk => hk.2) (.int .i64 ((rd_T90 l0 t773).f3))) (fun _ hk => hk.1)⟩
                      have n2_ : Aside0 (((((w35.setCell ⟨gb775, 0, none⟩ (.int .i64 ((rd_T90 l0 t773).f0))).setCell ⟨gb775, 1, none⟩ (.int .i64 ((rd_T90 l0 t773).f1))).setCell ⟨gb775, 2, none⟩ (.int .i64 ((rd_T90 l0 t773).f2))).setCell ⟨gb775, 3, none⟩ (.int .i64 ((rd_T90 l0 t773).f3))).heap[gb775]? = some (.cells #[.int .i64 ((rd_T90 l0 t773).f0), .int .i64 ((rd_T90 l0 t773).f1), .int .i64 ((rd_T90 l0 t773).f2), .int .i64 ((rd_T90 l0 t773).f3)] 90 (0, 0))) := ⟨by (with_reducible repeat (first | refine blk_drewN ?_ _ | refine blk_drew ?_ | refine blk_alloc ?_ _)); refine blk_put (cs := #[.int .i64 ((rd_T90 l0 t773).f0), .int .i64 ((rd_T90 l0 t773).f1), .int .i64 ((rd_T90 l0 t773).f2), .int .i64 0]) ?_ 3 _ rfl; (with_reducible repeat (first | refine blk_drewN ?_ _ | refine blk_drew ?_ | refine blk_alloc ?_ _)); refine blk_put (cs := #[.int .i64 ((rd_T90 l0 t773).f0), .int .i64 ((rd_T90 l0 t773).f1), .int .i64 0, .int .i64 0]) ?_ 2 _ rfl; (with_reducible repeat (first | refine blk_drewN ?_ _ | refine blk_drew ?_ | refine blk_alloc ?_ _)); refine blk_put (cs := #[.int .i64 ((rd_T90 l0 t773).f0), .int .i64 0, .int .i64 0, .int .i64 0]) ?_ 1 _ rfl; (with_reducible repeat (first | refine blk_drewN ?_ _ | refine blk_drew ?_ | refine blk_alloc ?_ _)); refine blk_put (cs := #[.int .i64 0, .int .i64 0, .int .i64 0, .int .i64 0]) ?_ 0 _ rfl; (with_reducible repeat (first | refine blk_drewN ?_ _ | refine blk_drew ?_ | refine blk_alloc ?_ _)); exact BK775.out⟩
                      have n3_ : Aside0 (Below w.heap.size w ((((w35.setCell ⟨gb775, 0, none⟩ (.int .i64 ((rd_T90 l0 t773).f0))).setCell ⟨gb775, 1, none⟩ (.int .i64 ((rd_T90 l0 t773).f1))).setCell ⟨gb775, 2, none⟩ (.int .i64 ((rd_T90 l0 t773).f2))).setCell ⟨gb775, 3, none⟩ (.int .i64 ((rd_T90 l0 t773).f3)))) := ⟨bG⟩
                      (try clear HO_26)
                      (try clear HO_34)
                      (try clear BK775)
                      (try clear HB)
                      generalize ((((w35.setCell ⟨gb775, 0, none⟩ (.int .i64 ((rd_T90 l0 t773).f0))).setCell ⟨gb775, 1, none⟩ (.int .i64 ((rd_T90 l0 t773).f1))).setCell ⟨gb775, 2, none⟩ (.int .i64 ((rd_T90 l0 t773).f2))).setCell ⟨gb775, 3, none⟩ (.int .i64 ((rd_T90 l0 t773).f3))) = w37 at n0_ n1_ n2_ n3_ ⊢
                      have HO_26 := n0_
                      have HO_34 := n1_
                      have BK775 := n2_
                      have HB := n3_
                      clear n0_ n1_ n2_ n3_
                      replace HO_26 := Aside0.mk (Kd.R_drew HO_26.out)
                      replace HO_34 := Aside0.mk (Kd.R_drew HO_34.out)
                      replace BK775 := Aside0.mk (blk_drew BK775.out)
                      have HBo := HB
                      replace HB := Aside0.mk (below_drew1 HB.out)
                      have p777 : 0 ≤ (t776 : Int) := dA
                      have q777 : t776 < (l0.length : Int) := dA
                      obtain ⟨ad777, e777, hx777_0, hx777_1, hx777_2, hx777_3⟩ := at_T90 HR0.out t776 p777 q777
                      have hw777_3 := hx777_3
                      have hw777_2 := hx777_2
                      have hw777_1 := hx777_1
                      have hw777_0 := hx777_0
                      obtain rfl : ad774 = ad777 := (by injection e777)
                      replace hx777_0 := hC HB hx777_0
                      replace hx777_1 := hC HB hx777_1
                      replace hx777_2 := hC HB hx777_2
                      replace hx777_3 := hC HB hx777_3
                      replace p777 := eq_true p777
                      replace q777 := eq_true q777
                      refine start_ (n := 8) (S := fun w' => w'.cell? ⟨gb775, 0, none⟩ = some (.int .i64 ((rd_T90 l0 t773).f0)) ∧ w'.cell? ⟨gb775, 1, none⟩ = some (.int .i64 ((rd_T90 l0 t773).f1)) ∧ w'.cell? ⟨gb775, 2, none⟩ = some (.int .i64 ((rd_T90 l0 t773).f2)) ∧ w'.cell? ⟨gb775, 3, none⟩ = some (.int .i64 ((rd_T90 l0 t773).f3)) ∧ w'.cell? (ad774.add ((t776).toNat * 4)) = some (.int .i64 ((rd_T90 l0 t776).f0)) ∧ w'.cell? ⟨(ad774.add ((t776).toNat * 4)).block, (ad774.add ((t776).toNat * 4)).off + 1, none⟩ = some (.int .i64 ((rd_T90 l0 t776).f1)) ∧ w'.cell? ⟨(ad774.add ((t776).toNat * 4)).block, (ad774.add ((t776).toNat * 4)).off + 2, none⟩ = some (.int .i64 ((rd_T90 l0 t776).f2)) ∧ w'.cell? ⟨(ad774.add ((t776).toNat * 4)).block, (ad774.add ((t776).toNat * 4)).off + 3, none⟩ = some (.int .i64 ((rd_T90 l0 t776).f3))) (ds := []) (mb 8 0) (by kernel_rfl) rfl rfl ⟨(blk_cell BK775.out 0).trans rfl, (blk_cell BK775.out 1).trans rfl, (blk_cell BK775.out 2).trans rfl, (blk_cell BK775.out 3).trans rfl, (hC HB hw777_0), (hC HB hw777_1), (hC HB hw777_2), (hC HB hw777_3)⟩ (fun hHeld => ?_); refine with_tabW impl_ClearBetween.tab11 impl_ClearBetween.bits11 (fun HT_ HW_ => ?_)
                      generalize w37.drew = w38 at HO_26 HO_34 BK775 HB hx777_0 hx777_1 hx777_2 hx777_3 hHeld ⊢
                      refine pA (i := 1) (N := some 47) (mb 8 2) HT_ ?_
                      refine pA (i := 2) (N := some 48) (mb 8 6) HT_ ?_
                      refine pA (i := 3) (N := some 49) (mb 8 14) HT_ ?_
                      refine tA8 (i := 0) (N := some 46) (mb 8 15) HT_ HW_ hHeld ?_
                      refine oA (i := 4) (N := some 50) (mb 8 31) HT_ (fun K hK => ?_)
                      refine gA Try.func84 #[.slice (some ad774) l0.length c0, .int .i64 (rd t769 x36_3)] ?_
                      with_reducible refine (impl_FindPath.calls _ _ l0 (rd t769 x36_3) t776 _ ?side1 ?side2 A27.out).mono ?_
                      (case side1 => exact cB HR0)
                      (case side2 => exact HC0.out)
                      rintro e w39 ⟨rfl, hb⟩
                      refine ⟨_, rfl, ?_⟩
                      replace HO_26 := Aside0.mk (Kd.R_below (rK HO_26) hb)
                      replace HO_34 := Aside0.mk (Kd.R_below (rK HO_34) hb)
                      replace BK775 := Aside0.mk (blk_below (g := gb775) (bK BK775) hb)
                      replace HB := Aside0.mk (below_step bG hb)
                      (try clear hb)
                      (try clear hb2)
                      (try clear hk)
                      (try clear hi)
                      refine hK.out _ _ ⟨(blk_cell BK775.out 0).trans rfl, (blk_cell BK775.out 1).trans rfl, (blk_cell BK775.out 2).trans rfl, (blk_cell BK775.out 3).trans rfl, (hC HB hw777_0), (hC HB hw777_1), (hC HB hw777_2), (hC HB hw777_3)⟩ (fun hHeld => ?_)
                      clear hK K
                      refine nA ?_
                      refine pA (i := 5) (N := some 51) (mb 8 63) HT_ ?_
                      refine tA8 (i := 6) (N := some 52) (mb 8 127) HT_ HW_ hHeld ?_
                      refine oA (i := 7) (N := some 53) (mb 8 255) HT_ (fun K hK => ?_)
                      refine gA Try.func92 #[.agg #[.int .i64 ((rd_T90 l0 t773).f0), .int .i64 ((rd_T90 l0 t773).f1), .int .i64 ((rd_T90 l0 t773).f2), .int .i64 ((rd_T90 l0 t773).f3)], .agg #[.int .i64 ((rd_T90 l0 t776).f0), .int .i64 ((rd_T90 l0 t776).f1), .int .i64 ((rd_T90 l0 t776).f2), .int .i64 ((rd_T90 l0 t776).f3)]] ?_
                      with_reducible refine (impl_Conflict.calls k3 ((rd_T90 l0 t773).f0) ((rd_T90 l0 t773).f1) ((rd_T90 l0 t773).f2) ((rd_T90 l0 t773).f3) ((rd_T90 l0 t776).f0) ((rd_T90 l0 t776).f1) ((rd_T90 l0 t776).f2) ((rd_T90 l0 t776).f3) true _ A30.out).mono ?_
                      rintro e w40 ⟨rfl, hb⟩
                      refine ⟨_, rfl, ?_⟩
                      replace HO_26 := Aside0.mk (Kd.R_below (rK HO_26) hb)
                      replace HO_34 := Aside0.mk (Kd.R_below (rK HO_34) hb)
                      replace BK775 := Aside0.mk (blk_below (g := gb775) (bK BK775) hb)
                      replace HB := Aside0.mk (below_step bG hb)
                      (try clear hb)
                      (try clear hb2)
                      (try clear hk)
                      (try clear hi)
                      refine hK.out _ _ ⟨(blk_cell BK775.out 0).trans rfl, (blk_cell BK775.out 1).trans rfl, (blk_cell BK775.out 2).trans rfl, (blk_cell BK775.out 3).trans rfl, (hC HB hw777_0), (hC HB hw777_1), (hC HB hw777_2), (hC HB hw777_3)⟩ (fun hHeld => ?_)
                      clear hK K
                      refine nA ?_
                      refine eA HT_ ?_
                      obtain ⟨hcz41_0, hcz41_1, hcz41_2, hcz41_3, hfz41_0, hfz41_1, hfz41_2, hfz41_3⟩ := blkc4 BK775
                      try go_wp2_with (first | ((with_reducible refine gate_callee (f := 131) rfl ?_); refine gL (some 56) Try.func131 #[.agg #[.int .i64 ((rd_T90 l0 t773).f0), .int .i64 ((rd_T90 l0 t773).f1), .int .i64 ((rd_T90 l0 t773).f2), .int .i64 ((rd_T90 l0 t773).f3)]] ?_; (with_reducible refine (impl_ClearOf.calls ((rd_T90 l0 t773).f0) ((rd_T90 l0 t773).f1) ((rd_T90 l0 t773).f2) ((rd_T90 l0 t773).f3) t779 _ A32.out).mono ?_); rintro e w42 ⟨rfl, hb⟩; refine ⟨_, rfl, ?_⟩; replace HO_26 := Aside0.mk (Kd.R_below (rK HO_26) hb); replace HO_34 := Aside0.mk (Kd.R_below (rK HO_34) hb); replace BK775 := Aside0.mk (blk_below (g := gb775) (bK BK775) hb); replace HB := Aside0.mk (below_step bG hb); (try clear hb); (try clear hb2); (try clear hk); (try clear hi)))
                      go_roundg k3
                      case measure => have := HJ3.out; have := HK2.out; have := HK3.out; omega
                      case rel => exact ⟨(ji33), (wrap64 (x36_3 + 1)), (by first | rfl | (simp; done) | (simp only [← hji33] <;> (first | rfl | simp)) | (simp [*]; done)), rS, H', ⟨by have := HJ3.out; have := HK2.out; have := HK3.out; omega⟩, ⟨rK HO_26⟩, ⟨rK HO_34⟩, ⟨bG⟩⟩
                    · replace c31 := Bool.eq_false_iff.mpr c31
                      subst c31
                      have H1 : (impl_ClearBetween.l1 k3 l0 l1 l2 x7_3 (rd t765 x28_2) t765 (t765.length : Int) x28_2 t769 (t769.length : Int) (wrap64 (x36_3 + 1))) = some r := by rw [if_neg (show ¬ (false = true) by decide)] at H; exact H
                      clear H
                      have H := H1
                      clear H1
                      have H' := Aside0.mk H
                      clear H
                      have p772 : 0 ≤ (x36_3 : Int) := dA
                      have q772 : x36_3 < (t769.length : Int) := dA
                      obtain ⟨ad772, e772, hx772_0⟩ := Kd.at_int (Kd.R_reads' HO_34.out).2.2 x36_3 p772 q772
                      cases e772
                      replace p772 := eq_true p772
                      replace q772 := eq_true q772
                      try go_wp2_with (first | ((with_reducible refine gate_callee (f := 84) rfl ?_); refine gL (some 43) Try.func84 #[.slice A0 l0.length c0, .int .i64 (rd t765 x28_2)] ?_; (with_reducible refine (impl_FindPath.calls _ _ l0 (rd t765 x28_2) t773 _ ?side1 ?side2 A24.out).mono ?_); (case side1 => exact cB HR0); (case side2 => exact HC0.out); rintro e w43 ⟨rfl, hb⟩; refine ⟨_, rfl, ?_⟩; replace HO_26 := Aside0.mk (Kd.R_below (rK HO_26) hb); replace HO_34 := Aside0.mk (Kd.R_below (rK HO_34) hb); replace HB := Aside0.mk (below_step bA hb); (try clear hb); (try clear hb2); (try clear hk); (try clear hi); have p774 : 0 ≤ (t773 : Int) := dA; have q774 : t773 < (l0.length : Int) := dA; obtain ⟨ad774, e774, hx774_0, hx774_1, hx774_2, hx774_3⟩ := at_T90 HR0.out t773 p774 q774; cases e774; replace hx774_0 := hC HB hx774_0; replace hx774_1 := hC HB hx774_1; replace hx774_2 := hC HB hx774_2; replace hx774_3 := hC HB hx774_3; replace p774 := eq_true p774; replace q774 := eq_true q774) | ((with_reducible refine gate_dst (N := 12) rfl ?_); refine bE (N := 12) (cs := #[.int .i64 0, .int .i64 0, .int .i64 0, .int .i64 0]) (t := 90) ?_; intro gb775 hg w44 hbox hb; have n0_ := Aside0.mk (Kd.R_below (rK HO_26) hb); have n1_ := Aside0.mk (Kd.R_below (rK HO_34) hb); have n2_ := Aside0.mk (below_step bA hb); have n3_ := Aside0.mk (hbox); have n4_ := Aside0.mk ((by rw [hg]; exact (below_size bA) : w.heap.size ≤ gb775)); have n5_ := Aside0.mk ((by rw [hg]; exact (below_size bA) : w.heap.size ≤ gb775)); clear HO_26; clear HO_34; clear HB; have HO_26 := n0_; have HO_34 := n1_; have HB := n2_; have BK775 := n3_; have GW775 := n4_; have GE775 := n5_; clear n0_ n1_ n2_ n3_ n4_ n5_; clear hb hbox hg; obtain ⟨hcz45_0, hcz45_1, hcz45_2, hcz45_3, hfz45_0, hfz45_1, hfz45_2, hfz45_3⟩ := blkc4 BK775))
                      have n0_ : Aside0 (Kd.R (Kd.int .i64) 3 ((((w44.setCell ⟨gb775, 0, none⟩ (.int .i64 ((rd_T90 l0 t773).f0))).setCell ⟨gb775, 1, none⟩ (.int .i64 ((rd_T90 l0 t773).f1))).setCell ⟨gb775, 2, none⟩ (.int .i64 ((rd_T90 l0 t773).f2))).setCell ⟨gb775, 3, none⟩ (.int .i64 ((rd_T90 l0 t773).f3))) w.heap.size (fun k_ => some k_ ≠ (.slice (some ad772) t769.length co20 : Value).ownBlock) (.slice (some ad768) t765.length co14) t765) := ⟨by (with_reducible repeat (first | apply Kd.R_alloc | apply Kd.R_drewN | apply Kd.R_drew)); exact Kd.R_mono (Kd.R_far (p := ⟨gb775, 3, none⟩) (Kd.R_far (p := ⟨gb775, 2, none⟩) (Kd.R_far (p := ⟨gb775, 1, none⟩) (Kd.R_far (p := ⟨gb775, 0, none⟩) (Kd.R_types HO_26.out BK775.out (by decide)) (fun _ hk => hk.2) (.int .i64 ((rd_T90 l0 t773).f0))) (fun _ hk => hk.2) (.int .i64 ((rd_T90 l0 t773).f1))) (fun _ hk => hk.2) (.int .i64 ((rd_T90 l0 t773).f2))) (fun _ hk => hk.2) (.int .i64 ((rd_T90 l0 t773).f3))) (fun _ hk => hk.1)⟩
                      have n1_ : Aside0 (Kd.R (Kd.int .i64) 3 ((((w44.setCell ⟨gb775, 0, none⟩ (.int .i64 ((rd_T90 l0 t773).f0))).setCell ⟨gb775, 1, none⟩ (.int .i64 ((rd_T90 l0 t773).f1))).setCell ⟨gb775, 2, none⟩ (.int .i64 ((rd_T90 l0 t773).f2))).setCell ⟨gb775, 3, none⟩ (.int .i64 ((rd_T90 l0 t773).f3))) w.heap.size (fun k_ => some k_ ≠ (.slice (some ad768) t765.length co14 : Value).ownBlock) (.slice (some ad772) t769.length co20) t769) := ⟨by (with_reducible repeat (first | apply Kd.R_alloc | apply Kd.R_drewN | apply Kd.R_drew)); exact Kd.R_mono (Kd.R_far (p := ⟨gb775, 3, none⟩) (Kd.R_far (p := ⟨gb775, 2, none⟩) (Kd.R_far (p := ⟨gb775, 1, none⟩) (Kd.R_far (p := ⟨gb775, 0, none⟩) (Kd.R_types HO_34.out BK775.out (by decide)) (fun _ hk => hk.2) (.int .i64 ((rd_T90 l0 t773).f0))) (fun _ hk => hk.2) (.int .i64 ((rd_T90 l0 t773).f1))) (fun _ hk => hk.2) (.int .i64 ((rd_T90 l0 t773).f2))) (fun _ hk => hk.2) (.int .i64 ((rd_T90 l0 t773).f3))) (fun _ hk => hk.1)⟩
                      have n2_ : Aside0 (((((w44.setCell ⟨gb775, 0, none⟩ (.int .i64 ((rd_T90 l0 t773).f0))).setCell ⟨gb775, 1, none⟩ (.int .i64 ((rd_T90 l0 t773).f1))).setCell ⟨gb775, 2, none⟩ (.int .i64 ((rd_T90 l0 t773).f2))).setCell ⟨gb775, 3, none⟩ (.int .i64 ((rd_T90 l0 t773).f3))).heap[gb775]? = some (.cells #[.int .i64 ((rd_T90 l0 t773).f0), .int .i64 ((rd_T90 l0 t773).f1), .int .i64 ((rd_T90 l0 t773).f2), .int .i64 ((rd_T90 l0 t773).f3)] 90 (0, 0))) := ⟨by (with_reducible repeat (first | refine blk_drewN ?_ _ | refine blk_drew ?_ | refine blk_alloc ?_ _)); refine blk_put (cs := #[.int .i64 ((rd_T90 l0 t773).f0), .int .i64 ((rd_T90 l0 t773).f1), .int .i64 ((rd_T90 l0 t773).f2), .int .i64 0]) ?_ 3 _ rfl; (with_reducible repeat (first | refine blk_drewN ?_ _ | refine blk_drew ?_ | refine blk_alloc ?_ _)); refine blk_put (cs := #[.int .i64 ((rd_T90 l0 t773).f0), .int .i64 ((rd_T90 l0 t773).f1), .int .i64 0, .int .i64 0]) ?_ 2 _ rfl; (with_reducible repeat (first | refine blk_drewN ?_ _ | refine blk_drew ?_ | refine blk_alloc ?_ _)); refine blk_put (cs := #[.int .i64 ((rd_T90 l0 t773).f0), .int .i64 0, .int .i64 0, .int .i64 0]) ?_ 1 _ rfl; (with_reducible repeat (first | refine blk_drewN ?_ _ | refine blk_drew ?_ | refine blk_alloc ?_ _)); refine blk_put (cs := #[.int .i64 0, .int .i64 0, .int .i64 0, .int .i64 0]) ?_ 0 _ rfl; (with_reducible repeat (first | refine blk_drewN ?_ _ | refine blk_drew ?_ | refine blk_alloc ?_ _)); exact BK775.out⟩
                      have n3_ : Aside0 (Below w.heap.size w ((((w44.setCell ⟨gb775, 0, none⟩ (.int .i64 ((rd_T90 l0 t773).f0))).setCell ⟨gb775, 1, none⟩ (.int .i64 ((rd_T90 l0 t773).f1))).setCell ⟨gb775, 2, none⟩ (.int .i64 ((rd_T90 l0 t773).f2))).setCell ⟨gb775, 3, none⟩ (.int .i64 ((rd_T90 l0 t773).f3)))) := ⟨bG⟩
                      (try clear HO_26)
                      (try clear HO_34)
                      (try clear BK775)
                      (try clear HB)
                      generalize ((((w44.setCell ⟨gb775, 0, none⟩ (.int .i64 ((rd_T90 l0 t773).f0))).setCell ⟨gb775, 1, none⟩ (.int .i64 ((rd_T90 l0 t773).f1))).setCell ⟨gb775, 2, none⟩ (.int .i64 ((rd_T90 l0 t773).f2))).setCell ⟨gb775, 3, none⟩ (.int .i64 ((rd_T90 l0 t773).f3))) = w46 at n0_ n1_ n2_ n3_ ⊢
                      have HO_26 := n0_
                      have HO_34 := n1_
                      have BK775 := n2_
                      have HB := n3_
                      clear n0_ n1_ n2_ n3_
                      replace HO_26 := Aside0.mk (Kd.R_drew HO_26.out)
                      replace HO_34 := Aside0.mk (Kd.R_drew HO_34.out)
                      replace BK775 := Aside0.mk (blk_drew BK775.out)
                      have HBo := HB
                      replace HB := Aside0.mk (below_drew1 HB.out)
                      have p777 : 0 ≤ (t776 : Int) := dA
                      have q777 : t776 < (l0.length : Int) := dA
                      obtain ⟨ad777, e777, hx777_0, hx777_1, hx777_2, hx777_3⟩ := at_T90 HR0.out t776 p777 q777
                      have hw777_3 := hx777_3
                      have hw777_2 := hx777_2
                      have hw777_1 := hx777_1
                      have hw777_0 := hx777_0
                      obtain rfl : ad774 = ad777 := (by injection e777)
                      replace hx777_0 := hC HB hx777_0
                      replace hx777_1 := hC HB hx777_1
                      replace hx777_2 := hC HB hx777_2
                      replace hx777_3 := hC HB hx777_3
                      replace p777 := eq_true p777
                      replace q777 := eq_true q777
                      refine start_ (n := 8) (S := fun w' => w'.cell? ⟨gb775, 0, none⟩ = some (.int .i64 ((rd_T90 l0 t773).f0)) ∧ w'.cell? ⟨gb775, 1, none⟩ = some (.int .i64 ((rd_T90 l0 t773).f1)) ∧ w'.cell? ⟨gb775, 2, none⟩ = some (.int .i64 ((rd_T90 l0 t773).f2)) ∧ w'.cell? ⟨gb775, 3, none⟩ = some (.int .i64 ((rd_T90 l0 t773).f3)) ∧ w'.cell? (ad774.add ((t776).toNat * 4)) = some (.int .i64 ((rd_T90 l0 t776).f0)) ∧ w'.cell? ⟨(ad774.add ((t776).toNat * 4)).block, (ad774.add ((t776).toNat * 4)).off + 1, none⟩ = some (.int .i64 ((rd_T90 l0 t776).f1)) ∧ w'.cell? ⟨(ad774.add ((t776).toNat * 4)).block, (ad774.add ((t776).toNat * 4)).off + 2, none⟩ = some (.int .i64 ((rd_T90 l0 t776).f2)) ∧ w'.cell? ⟨(ad774.add ((t776).toNat * 4)).block, (ad774.add ((t776).toNat * 4)).off + 3, none⟩ = some (.int .i64 ((rd_T90 l0 t776).f3))) (ds := []) (mb 8 0) (by kernel_rfl) rfl rfl ⟨(blk_cell BK775.out 0).trans rfl, (blk_cell BK775.out 1).trans rfl, (blk_cell BK775.out 2).trans rfl, (blk_cell BK775.out 3).trans rfl, (hC HB hw777_0), (hC HB hw777_1), (hC HB hw777_2), (hC HB hw777_3)⟩ (fun hHeld => ?_); refine with_tabW impl_ClearBetween.tab11 impl_ClearBetween.bits11 (fun HT_ HW_ => ?_)
                      generalize w46.drew = w47 at HO_26 HO_34 BK775 HB hx777_0 hx777_1 hx777_2 hx777_3 hHeld ⊢
                      refine pA (i := 1) (N := some 47) (mb 8 2) HT_ ?_
                      refine pA (i := 2) (N := some 48) (mb 8 6) HT_ ?_
                      refine pA (i := 3) (N := some 49) (mb 8 14) HT_ ?_
                      refine tA8 (i := 0) (N := some 46) (mb 8 15) HT_ HW_ hHeld ?_
                      refine oA (i := 4) (N := some 50) (mb 8 31) HT_ (fun K hK => ?_)
                      refine gA Try.func84 #[.slice (some ad774) l0.length c0, .int .i64 (rd t769 x36_3)] ?_
                      with_reducible refine (impl_FindPath.calls _ _ l0 (rd t769 x36_3) t776 _ ?side1 ?side2 A27.out).mono ?_
                      (case side1 => exact cB HR0)
                      (case side2 => exact HC0.out)
                      rintro e w48 ⟨rfl, hb⟩
                      refine ⟨_, rfl, ?_⟩
                      replace HO_26 := Aside0.mk (Kd.R_below (rK HO_26) hb)
                      replace HO_34 := Aside0.mk (Kd.R_below (rK HO_34) hb)
                      replace BK775 := Aside0.mk (blk_below (g := gb775) (bK BK775) hb)
                      replace HB := Aside0.mk (below_step bG hb)
                      (try clear hb)
                      (try clear hb2)
                      (try clear hk)
                      (try clear hi)
                      refine hK.out _ _ ⟨(blk_cell BK775.out 0).trans rfl, (blk_cell BK775.out 1).trans rfl, (blk_cell BK775.out 2).trans rfl, (blk_cell BK775.out 3).trans rfl, (hC HB hw777_0), (hC HB hw777_1), (hC HB hw777_2), (hC HB hw777_3)⟩ (fun hHeld => ?_)
                      clear hK K
                      refine nA ?_
                      refine pA (i := 5) (N := some 51) (mb 8 63) HT_ ?_
                      refine tA8 (i := 6) (N := some 52) (mb 8 127) HT_ HW_ hHeld ?_
                      refine oA (i := 7) (N := some 53) (mb 8 255) HT_ (fun K hK => ?_)
                      refine gA Try.func92 #[.agg #[.int .i64 ((rd_T90 l0 t773).f0), .int .i64 ((rd_T90 l0 t773).f1), .int .i64 ((rd_T90 l0 t773).f2), .int .i64 ((rd_T90 l0 t773).f3)], .agg #[.int .i64 ((rd_T90 l0 t776).f0), .int .i64 ((rd_T90 l0 t776).f1), .int .i64 ((rd_T90 l0 t776).f2), .int .i64 ((rd_T90 l0 t776).f3)]] ?_
                      with_reducible refine (impl_Conflict.calls k3 ((rd_T90 l0 t773).f0) ((rd_T90 l0 t773).f1) ((rd_T90 l0 t773).f2) ((rd_T90 l0 t773).f3) ((rd_T90 l0 t776).f0) ((rd_T90 l0 t776).f1) ((rd_T90 l0 t776).f2) ((rd_T90 l0 t776).f3) false _ A30.out).mono ?_
                      rintro e w49 ⟨rfl, hb⟩
                      refine ⟨_, rfl, ?_⟩
                      replace HO_26 := Aside0.mk (Kd.R_below (rK HO_26) hb)
                      replace HO_34 := Aside0.mk (Kd.R_below (rK HO_34) hb)
                      replace BK775 := Aside0.mk (blk_below (g := gb775) (bK BK775) hb)
                      replace HB := Aside0.mk (below_step bG hb)
                      (try clear hb)
                      (try clear hb2)
                      (try clear hk)
                      (try clear hi)
                      refine hK.out _ _ ⟨(blk_cell BK775.out 0).trans rfl, (blk_cell BK775.out 1).trans rfl, (blk_cell BK775.out 2).trans rfl, (blk_cell BK775.out 3).trans rfl, (hC HB hw777_0), (hC HB hw777_1), (hC HB hw777_2), (hC HB hw777_3)⟩ (fun hHeld => ?_)
                      clear hK K
                      refine nA ?_
                      refine eA HT_ ?_
                      try go_wp2
                      go_roundg k3
                      case measure => have := HJ3.out; have := HK2.out; have := HK3.out; omega
                      case rel => exact ⟨(x7_3), (wrap64 (x36_3 + 1)), rS, rS, H', ⟨by have := HJ3.out; have := HK2.out; have := HK3.out; omega⟩, ⟨rK HO_26⟩, ⟨rK HO_34⟩, ⟨bG⟩⟩
                  · rw [if_neg c21] at H
                    have c21b0 : decide (x36_3 < (t769.length : Int)) = false := decide_eq_false c21
                    clear c21
                    have H' := Aside0.mk H
                    clear H
                    go_wp2
                    go_roundg k3
                    case measure => have := HJ3.out; have := HK2.out; have := HK3.out; omega
                    case rel => exact ⟨(x7_3), (wrap64 (x28_2 + 1)), rS, rS, H', ⟨by have := HJ3.out; have := HK2.out; have := HK3.out; omega⟩, ⟨by (with_reducible repeat (first | apply Kd.R_alloc | apply Kd.R_drewN | apply Kd.R_drew)); exact Kd.R_mono HO_26.out (fun _ hk => trivial)⟩, ⟨bA⟩⟩
            · rw [if_neg c15] at H
              have c15b0 : decide (x28_2 < (t765.length : Int)) = false := decide_eq_false c15
              clear c15
              obtain rfl := Option.some.inj H
              go_wp2
              go_ret
              exact ⟨rA, bA⟩

end Go.Proofs.Ytimmadeghcghoaa.P
