/- Printed by myprint.py (wip/tools) over the kit's print: what Go's functions compute, and that they do. Lean checks it. -/
import Derived.Test.YtbpnbflfpgakmaaF0
import Derived.Test.YtbpnbflfpgakmaaFS01
import Derived.Test.YtbpnbflfpgakmaaFS04
import Derived.Test.YtbpnbflfpgakmaaFS05
import Derived.Test.YtbpnbflfpgakmaaFS06
namespace Go.Proofs.Ytbpnbflfpgakmaa.P
open Go.RowKit Go.Proofs.YtbpnbflfpgakmaaW.PrintWords Go.Proofs.YtbpnbflfpgakmaaW.PrintLast Go.Proofs.YtbpnbflfpgakmaaW.PrintMore Go.Proofs.Ytbpnbflfpgakmaa.Sq
attribute [local go_sem] max2_int min2_int max_two min_two max_three min_three max_four min_four
set_option linter.unusedVariables false
set_option linter.unusedSimpArgs false

/-! ### spec_Closes: function 85 -/
def spec_Closes.l0 : Nat → List Int → List Int → List Int → Int → Option (List Int)
  | 0, _, _, _, _ => none
  | k + 1, x0, x1, x5, x6 => if x6 < (x0.length : Int) then (if 0 ≤ x6 then ((spec_l6Has.f k x1 (rd x0 x6)).bind fun t307 => (if t307 = true then (spec_Closes.l0 k x0 x1 x5 (wrap64 (x6 + 1))) else (if x5.length < 17592186044416 then (spec_Closes.l0 k x0 x1 (x5 ++ [rd x0 x6]) (wrap64 (x6 + 1))) else (none)))) else (none)) else (some x5)
def spec_Closes.f (k : Nat) (l0 : List Int) (l1 : List Int) : Option (List Int) := spec_Closes.l0 k l0 l1 (([] : List Int)) 0
theorem spec_Closes.mono_l : ∀ k, (∀ y0 y1 y2 y3, LeO (spec_Closes.l0 k y0 y1 y2 y3) (spec_Closes.l0 (k + 1) y0 y1 y2 y3))
  | 0 => fun _ _ _ _ r h => by simp [spec_Closes.l0] at h
  | k + 1 => by
    have ih0 := spec_Closes.mono_l k
    · intro y0 y1 y2 y3
      unfold spec_Closes.l0
      repeat' first | (with_reducible first | exact LeO.refl _ | exact LeO.none _ | refine LeO.ite ?_ ?_ | refine LeO.bind ?_ (fun _ => ?_) | exact ih0 _ _ _ _ | exact spec_l6Has.mono _ _ _) | exact LeO.none _ | refine LeO.ite ?_ ?_ | refine LeO.bind ?_ (fun _ => ?_) | exact ih0 _ _ _ _ | exact spec_l6Has.mono _ _ _
theorem spec_Closes.mono : ∀ a0 a1 k, LeO (spec_Closes.f k a0 a1) (spec_Closes.f (k + 1) a0 a1) := by
  intro a0 a1 k
  have ih0 := spec_Closes.mono_l k
  unfold spec_Closes.f
  repeat' first | (with_reducible first | exact LeO.refl _ | exact LeO.none _ | refine LeO.ite ?_ ?_ | refine LeO.bind ?_ (fun _ => ?_) | exact ih0 _ _ _ _ | exact spec_l6Has.mono _ _ _) | exact LeO.none _ | refine LeO.ite ?_ ?_ | refine LeO.bind ?_ (fun _ => ?_) | exact ih0 _ _ _ _ | exact spec_l6Has.mono _ _ _
set_option maxHeartbeats 8000000 in
set_option maxRecDepth 100000 in
theorem spec_Closes.calls (k : Nat) (A0 : Option Addr) (c0 : Nat) (l0 : List Int) (A1 : Option Addr) (c1 : Nat) (l1 : List Int) (r : List Int) (w : World) (hr0 : Kd.C (Kd.int .i64) w A0 l0.length l0) (hc0 : l0.length ≤ c0) (hr1 : Kd.C (Kd.int .i64) w A1 l1.length l1) (hc1 : l1.length ≤ c1) (h : spec_Closes.f k l0 l1 = some r) :
    Calls Try.prog 85 #[.slice A0 l0.length c0, .slice A1 l1.length c1] w fun e w' => ∃ v0_ : Value, e = .returned (v0_) ∧ Kd.R (Kd.int .i64) 3 w' w.heap.size (fun _ => True) v0_ r ∧ Below w.heap.size w w' := by
  have HR0 := Aside0.mk hr0
  have HC0 := Aside0.mk hc0
  clear hr0 hc0
  have HR1 := Aside0.mk hr1
  have HC1 := Aside0.mk hc1
  clear hr1 hc1
  have HB := Aside0.mk (Below.refl w.heap.size w)
  have H : (spec_Closes.l0 k l0 l1 (([] : List Int)) 0) = some r := h
  clear h
  obtain ⟨y303, hy303⟩ : ∃ y_ : List Int, y_ = (([] : List Int)) := ⟨_, rfl⟩
  replace H : (spec_Closes.l0 k l0 l1 y303 0) = some r := by first | (rw [hy303]; with_reducible exact H) | (have H2_ := (Option.bind_some _ _).symm.trans H; rw [hy303]; with_reducible exact H2_) | (have H2_ := (Option.bind_some _ _).symm.trans H; with_reducible exact H2_) | with_reducible exact H | (rw [hy303]; exact H) | exact H
  have Ny303 := Aside0.mk hy303
  clear hy303
  have H' := Aside0.mk H
  clear H
  go_enter Try.func85, Try.ntmps85
  go_wp2_with (first | ((with_reducible refine gate_dst (N := 7) rfl ?_); refine Kd.R_lit (Kd.int .i64) _ 3 ?hg (N := 7) ?hd (xs := ([] : List Int)) (inner := []) (ok := fun _ => True) (okp := fun _ => True) ?hr ?hp (fun _ hk => hk) trivial (Below.refl _ _) (Nat.le_refl _) (by simp) ?_; (case hd => rfl); (case hg => rfl); (case hr => first | (go_simp; done) | (go_simp; rfl)); (case hp => exact (Reps.none _ _)); intro v304 w3 ho4 hb hg_ hnew_; clear hg_ hnew_; (first | rw [← Ny303.out] at ho4 | (simp only [Int.reduceToNat] at ho4; rw [← Ny303.out] at ho4)); have HO305 := Aside0.mk (Kd.R_lower ho4 (below_size bA)); replace HB := Aside0.mk (below_step bA hb); clear hb ho4))
  go_loopg [5, 6] k (fun kq v5 v6 w' => ∃ (x5_1 : List Int) (x6_1 : Int), v6 = .int .i64 x6_1 ∧ Aside0 (spec_Closes.l0 kq l0 l1 x5_1 x6_1 = some r) ∧ Aside0 (kq ≤ k) ∧ Aside0 (Kd.R (Kd.int .i64) 3 w' w.heap.size (fun _ => True) v5 x5_1) ∧ Aside0 (Below w.heap.size w w'))
  case atStart => exact ⟨(y303), (0), rS, H', ⟨Nat.le_refl _⟩, ⟨rK HO305⟩, ⟨bA⟩⟩
  case round =>
    clear H'
    try clear c1
    try clear p2
    obtain ⟨x5_1, x6_1, rfl, HA, HK1, HO_5, HB⟩ := hrel
    cases gk with
    | zero => exact absurd HA.out (by simp [spec_Closes.l0])
    | succ k1 =>
      have H := HA.out
      clear HA
      simp only [spec_Closes.l0] at H
      by_cases c5 : x6_1 < (l0.length : Int)
      · rw [if_pos c5] at H
        have c5b0 : decide (x6_1 < (l0.length : Int)) = true := decide_eq_true c5
        clear c5
        have c6 : 0 ≤ x6_1 := ifN H
        replace H := ifT H
        have c6b0 : decide (0 ≤ x6_1) = true := decide_eq_true c6
        clear c6
        obtain ⟨t307, A7, H⟩ := bindE H
        try dsimp only at H
        by_cases c8 : t307 = true
        · subst c8
          have H1 : (spec_Closes.l0 k1 l0 l1 x5_1 (wrap64 (x6_1 + 1))) = some r := by rw [if_pos rfl] at H; exact H
          clear H
          have H := H1
          clear H1
          have H' := Aside0.mk H
          clear H
          have p306 : 0 ≤ (x6_1 : Int) := dA
          have q306 : x6_1 < (l0.length : Int) := dA
          obtain ⟨ad306, e306, hx306_0⟩ := Kd.at_int HR0.out x6_1 p306 q306
          cases e306
          replace hx306_0 := hC HB hx306_0
          replace p306 := eq_true p306
          replace q306 := eq_true q306
          go_wp2_with (first | ((with_reducible refine gate_callee (f := 78) rfl ?_); refine gL (some 19) Try.func78 #[.slice A1 l1.length c1, .int .i64 (rd l0 x6_1)] ?_; (with_reducible refine (spec_l6Has.calls k1 _ _ l1 (rd l0 x6_1) true _ ?side1 ?side2 A7.out).mono ?_); (case side1 => exact cB HR1); (case side2 => exact HC1.out); rintro e w' ⟨rfl, ⟨nd, rfl⟩⟩; refine ⟨_, rfl, ?_⟩))
          go_roundg k1
          case measure => have := HK1.out; omega
          case rel => exact ⟨(x5_1), (wrap64 (x6_1 + 1)), rS, H', ⟨by have := HK1.out; omega⟩, ⟨rK HO_5⟩, ⟨bA⟩⟩
        · replace c8 := Bool.eq_false_iff.mpr c8
          subst c8
          have H1 : (if x5_1.length < 17592186044416 then (spec_Closes.l0 k1 l0 l1 (x5_1 ++ [rd l0 x6_1]) (wrap64 (x6_1 + 1))) else (none)) = some r := by rw [if_neg (show ¬ (false = true) by decide)] at H; exact H
          clear H
          have H := H1
          clear H1
          have c9 : x5_1.length < 17592186044416 := ifN H
          replace H := ifT H
          have LMc9 := Aside0.mk c9
          clear c9
          obtain ⟨y309, hy309⟩ : ∃ y_ : List Int, y_ = (x5_1 ++ [rd l0 x6_1]) := ⟨_, rfl⟩
          replace H : (spec_Closes.l0 k1 l0 l1 y309 (wrap64 (x6_1 + 1))) = some r := by first | (rw [hy309]; with_reducible exact H) | (have H2_ := (Option.bind_some _ _).symm.trans H; rw [hy309]; with_reducible exact H2_) | (have H2_ := (Option.bind_some _ _).symm.trans H; with_reducible exact H2_) | with_reducible exact H | (rw [hy309]; exact H) | exact H
          have Ny309 := Aside0.mk hy309
          clear hy309
          have H' := Aside0.mk H
          clear H
          have p306 : 0 ≤ (x6_1 : Int) := dA
          have q306 : x6_1 < (l0.length : Int) := dA
          obtain ⟨ad306, e306, hx306_0⟩ := Kd.at_int HR0.out x6_1 p306 q306
          cases e306
          replace hx306_0 := hC HB hx306_0
          replace p306 := eq_true p306
          replace q306 := eq_true q306
          go_wp2_with (first | ((with_reducible refine gate_callee (f := 78) rfl ?_); refine gL (some 19) Try.func78 #[.slice A1 l1.length c1, .int .i64 (rd l0 x6_1)] ?_; (with_reducible refine (spec_l6Has.calls k1 _ _ l1 (rd l0 x6_1) false _ ?side1 ?side2 A7.out).mono ?_); (case side1 => exact cB HR1); (case side2 => exact HC1.out); rintro e w' ⟨rfl, ⟨nd, rfl⟩⟩; refine ⟨_, rfl, ?_⟩; have p308 : 0 ≤ (x6_1 : Int) := dA; have q308 : x6_1 < (l0.length : Int) := dA; obtain ⟨ad308, e308, hx308_0⟩ := Kd.at_int HR0.out x6_1 p308 q308; obtain rfl : ad306 = ad308 := (by injection e308); replace hx308_0 := hC HB hx308_0; replace p308 := eq_true p308; replace q308 := eq_true q308) | ((with_reducible refine gate_builtin (b := .append) (xs := #[.tmp 21, .tmp 26]) rfl ?_); at_builtin; refine Kd.R_append (Kd.int .i64) (w0 := w) w.heap.size rfl (.tmp 21) (.tmp 26) 41 3 (.int .i64 0) 8 rfl Try.underlying41 info3 rfl (by decide) (by omega) u5 x5_1 (rd l0 x6_1) [.int .i64 (rd l0 x6_1)] (fun _ => True) (fun _ => False) rfl rfl ?aP (fun _ hk => hk.elim) ?aF ?aO ?aB ?aS ?aL ?_; (case aP => exact rfl); (case aB => exact bA); (case aF => exact (fun _ _ => trivial)); (case aO => exact (rK HO_5)); (case aS => exact (below_size bA)); (case aL => have := LMc9.out; omega); intro v310 w10 ho hb hg hat; rw [← Ny309.out] at ho; have n0_ := Aside0.mk (hb); have n1_ := Aside0.mk (ho); clear HB; clear HO_5; have HB := n0_; have HO311 := n1_; clear n0_ n1_; clear ho hb hg hat))
          go_roundg k1
          case measure => have := HK1.out; omega
          case rel => exact ⟨(y309), (wrap64 (x6_1 + 1)), rS, H', ⟨by have := HK1.out; omega⟩, ⟨rK HO311⟩, ⟨bA⟩⟩
      · rw [if_neg c5] at H
        have c5b0 : decide (x6_1 < (l0.length : Int)) = false := decide_eq_false c5
        clear c5
        obtain rfl := Option.some.inj H
        go_wp2
        go_ret
        exact ⟨_, by first | rfl | (simp [errW_none, errW_some] <;> rfl) | (simp [*, errW_none, errW_some] <;> rfl), by (with_reducible repeat (first | apply Kd.R_alloc | apply Kd.R_drewN | apply Kd.R_drew)); exact HO_5.out, bA⟩

/-! ### spec_ClearOf: function 86 -/
def spec_ClearOf.f (a0_0 : Int) (a0_1 : Int) (a0_2 : Int) (a0_3 : Int) : Option (Int) := (spec_IsPath.f a0_0 a0_1 a0_2 a0_3).bind fun t313 => (if t313 = true then ((some (([0, 2, 5, 3] : List Int) : List Int)).bind fun y314 => (if 0 ≤ a0_1 then (if a0_1 < (y314.length : Int) then (some (rd y314 a0_1)) else (none)) else (none))) else (some 0))
set_option maxHeartbeats 8000000 in
set_option maxRecDepth 100000 in
theorem spec_ClearOf.calls (a0_0 : Int) (a0_1 : Int) (a0_2 : Int) (a0_3 : Int) (r : Int) (w : World) (h : spec_ClearOf.f a0_0 a0_1 a0_2 a0_3 = some r) :
    Calls Try.prog 86 #[.agg #[.int .i64 a0_0, .int .i64 a0_1, .int .i64 a0_2, .int .i64 a0_3]] w fun e w' => e = .returned (.int .i64 r) ∧ Below w.heap.size w w' := by
  have hu58 := Try.underlying58
  have HB := Aside0.mk (Below.refl w.heap.size w)
  have H : ((spec_IsPath.f a0_0 a0_1 a0_2 a0_3).bind fun t313 => (if t313 = true then ((some (([0, 2, 5, 3] : List Int) : List Int)).bind fun y314 => (if 0 ≤ a0_1 then (if a0_1 < (y314.length : Int) then (some (rd y314 a0_1)) else (none)) else (none))) else (some 0))) = some r := h
  clear h
  obtain ⟨t313, A2, H⟩ := bindE H
  try dsimp only at H
  by_cases c3 : t313 = true
  · subst c3
    have H1 : ((some (([0, 2, 5, 3] : List Int) : List Int)).bind fun y314 => (if 0 ≤ a0_1 then (if a0_1 < (y314.length : Int) then (some (rd y314 a0_1)) else (none)) else (none))) = some r := by rw [if_pos rfl] at H; exact H
    clear H
    have H := H1
    clear H1
    obtain ⟨y314, hy314⟩ : ∃ y_ : List Int, y_ = (([0, 2, 5, 3] : List Int)) := ⟨_, rfl⟩
    replace H : (if 0 ≤ a0_1 then (if a0_1 < (y314.length : Int) then (some (rd y314 a0_1)) else (none)) else (none)) = some r := by first | (rw [hy314]; with_reducible exact H) | (have H2_ := (Option.bind_some _ _).symm.trans H; rw [hy314]; with_reducible exact H2_) | (have H2_ := (Option.bind_some _ _).symm.trans H; with_reducible exact H2_) | with_reducible exact H | (rw [hy314]; exact H) | exact H
    have Ny314 := Aside0.mk hy314
    clear hy314
    have c4 : 0 ≤ a0_1 := ifN H
    replace H := ifT H
    have c4b0 : decide (0 ≤ a0_1) = true := decide_eq_true c4
    clear c4
    have c5 : a0_1 < (y314.length : Int) := ifN H
    replace H := ifT H
    have c5b0 : decide (a0_1 < (y314.length : Int)) = true := decide_eq_true c5
    clear c5
    obtain rfl := Option.some.inj H
    go_enter Try.func86, Try.ntmps86
    go_wp2_with (first | ((with_reducible refine gate_dst (N := 1) rfl ?_); refine bE (N := 1) (cs := #[.int .i64 a0_0, .int .i64 a0_1, .int .i64 a0_2, .int .i64 a0_3]) (t := 58) ?_; intro gb312 hg w6 hbox hb; have n0_ := Aside0.mk (below_step bA hb); have n1_ := Aside0.mk (hbox); have n2_ := Aside0.mk ((by rw [hg]; exact (below_size bA) : w.heap.size ≤ gb312)); have n3_ := Aside0.mk ((by rw [hg]; exact (below_size bA) : w.heap.size ≤ gb312)); clear HB; have HB := n0_; have BK312 := n1_; have GW312 := n2_; have GE312 := n3_; clear n0_ n1_ n2_ n3_; clear hb hbox hg; have hcz7_0 : w6.cell? ⟨gb312, 0, none⟩ = some (.int .i64 a0_0) := (blk_cell BK312.out 0).trans rfl; have hcz7_1 : w6.cell? ⟨gb312, 1, none⟩ = some (.int .i64 a0_1) := (blk_cell BK312.out 1).trans rfl; have hcz7_2 : w6.cell? ⟨gb312, 2, none⟩ = some (.int .i64 a0_2) := (blk_cell BK312.out 2).trans rfl; have hcz7_3 : w6.cell? ⟨gb312, 3, none⟩ = some (.int .i64 a0_3) := (blk_cell BK312.out 3).trans rfl; have hfz7_0 := blk_frozen BK312.out 0; have hfz7_1 := blk_frozen BK312.out 1; have hfz7_2 := blk_frozen BK312.out 2; have hfz7_3 := blk_frozen BK312.out 3) | ((with_reducible refine gate_callee (f := 91) rfl ?_); refine gL (some 4) Try.func91 #[.agg #[.int .i64 a0_0, .int .i64 a0_1, .int .i64 a0_2, .int .i64 a0_3]] ?_; (with_reducible refine (spec_IsPath.calls a0_0 a0_1 a0_2 a0_3 true _ A2.out).mono ?_); rintro e w8 ⟨rfl, hb⟩; refine ⟨_, rfl, ?_⟩; replace BK312 := Aside0.mk (blk_below (g := gb312) (bK BK312) hb); replace HB := Aside0.mk (below_step bG hb); (try clear hb); (try clear hb2); (try clear hk); (try clear hi)) | ((with_reducible refine gate_dst (N := 6) rfl ?_); refine Kd.R_lit (Kd.int .i64) _ 3 ?hg (N := 6) ?hd (xs := ([0, 2, 5, 3] : List Int)) (inner := [.int .i64 0, .int .i64 2, .int .i64 5, .int .i64 3]) (ok := fun _ => True) (okp := fun _ => True) ?hr ?hp (fun _ hk => hk) trivial (Below.refl _ _) (Nat.le_refl _) (by simp) ?_; (case hd => rfl); (case hg => rfl); (case hr => first | (go_simp; done) | (go_simp; rfl)); (case hp => exact (Reps.one (show Kd.M (Kd.int .i64) _ _ _ 0 [.int .i64 0] from rfl) (Reps.one (show Kd.M (Kd.int .i64) _ _ _ 2 [.int .i64 2] from rfl) (Reps.one (show Kd.M (Kd.int .i64) _ _ _ 5 [.int .i64 5] from rfl) (Reps.one (show Kd.M (Kd.int .i64) _ _ _ 3 [.int .i64 3] from rfl) (Reps.none _ _)))))); intro v315 w9 ho10 hb hg_ hnew_; clear hg_ hnew_; (first | rw [← Ny314.out] at ho10 | (simp only [Int.reduceToNat] at ho10; rw [← Ny314.out] at ho10)); have HO316 := Aside0.mk (Kd.R_lower ho10 (below_size bG)); replace BK312 := Aside0.mk (blk_below (g := gb312) (bK BK312) hb); replace HB := Aside0.mk (below_step bG hb); clear hb ho10; obtain ⟨hcz11_0, hcz11_1, hcz11_2, hcz11_3, hfz11_0, hfz11_1, hfz11_2, hfz11_3⟩ := blkc4 BK312; obtain ⟨Ao12, co12, eo12⟩ := Kd.R_slice HO316.out; subst eo12; have p317 : 0 ≤ (a0_1 : Int) := dA; have q317 : a0_1 < (y314.length : Int) := dA; obtain ⟨ad317, e317, hx317_0⟩ := Kd.at_int (Kd.R_reads' HO316.out).2.2 a0_1 p317 q317; cases e317; replace p317 := eq_true p317; replace q317 := eq_true q317))
    go_ret
    exact ⟨rA, bG⟩
  · replace c3 := Bool.eq_false_iff.mpr c3
    subst c3
    have H1 : (some 0) = some r := by rw [if_neg (show ¬ (false = true) by decide)] at H; exact H
    clear H
    have H := H1
    clear H1
    obtain rfl := Option.some.inj H
    go_enter Try.func86, Try.ntmps86
    go_wp2_with (first | ((with_reducible refine gate_dst (N := 1) rfl ?_); refine bE (N := 1) (cs := #[.int .i64 a0_0, .int .i64 a0_1, .int .i64 a0_2, .int .i64 a0_3]) (t := 58) ?_; intro gb312 hg w13 hbox hb; have n0_ := Aside0.mk (below_step bA hb); have n1_ := Aside0.mk (hbox); have n2_ := Aside0.mk ((by rw [hg]; exact (below_size bA) : w.heap.size ≤ gb312)); have n3_ := Aside0.mk ((by rw [hg]; exact (below_size bA) : w.heap.size ≤ gb312)); clear HB; have HB := n0_; have BK312 := n1_; have GW312 := n2_; have GE312 := n3_; clear n0_ n1_ n2_ n3_; clear hb hbox hg; have hcz14_0 : w13.cell? ⟨gb312, 0, none⟩ = some (.int .i64 a0_0) := (blk_cell BK312.out 0).trans rfl; have hcz14_1 : w13.cell? ⟨gb312, 1, none⟩ = some (.int .i64 a0_1) := (blk_cell BK312.out 1).trans rfl; have hcz14_2 : w13.cell? ⟨gb312, 2, none⟩ = some (.int .i64 a0_2) := (blk_cell BK312.out 2).trans rfl; have hcz14_3 : w13.cell? ⟨gb312, 3, none⟩ = some (.int .i64 a0_3) := (blk_cell BK312.out 3).trans rfl; have hfz14_0 := blk_frozen BK312.out 0; have hfz14_1 := blk_frozen BK312.out 1; have hfz14_2 := blk_frozen BK312.out 2; have hfz14_3 := blk_frozen BK312.out 3) | ((with_reducible refine gate_callee (f := 91) rfl ?_); refine gL (some 4) Try.func91 #[.agg #[.int .i64 a0_0, .int .i64 a0_1, .int .i64 a0_2, .int .i64 a0_3]] ?_; (with_reducible refine (spec_IsPath.calls a0_0 a0_1 a0_2 a0_3 false _ A2.out).mono ?_); rintro e w15 ⟨rfl, hb⟩; refine ⟨_, rfl, ?_⟩; replace BK312 := Aside0.mk (blk_below (g := gb312) (bK BK312) hb); replace HB := Aside0.mk (below_step bG hb); (try clear hb); (try clear hb2); (try clear hk); (try clear hi)))
    go_ret
    exact ⟨rA, bG⟩

/-! ### spec_ClearBetween: function 66 -/
mutual
def spec_ClearBetween.l0 : Nat → List (S58) → List Int → List Int → Int → List Int → List Int → Int → Option (Int)
  | 0, _, _, _, _, _, _, _ => none
  | k + 1, x0, x1, x2, x7, x8, x9, x10 => if x10 < (x8.length : Int) then ((spec_IsTogether.f k x0 x1).bind fun t324 => (if t324 = true then ((spec_IsTogether.f k x0 x2).bind fun t325 => (spec_ClearBetween.j1 k x0 x1 x2 x7 x8 x9 x10 t325)) else (spec_ClearBetween.j1 k x0 x1 x2 x7 x8 x9 x10 false))) else (spec_ClearBetween.j1 k x0 x1 x2 x7 x8 x9 x10 false)
def spec_ClearBetween.j1 : Nat → List (S58) → List Int → List Int → Int → List Int → List Int → Int → Bool → Option (Int)
  | 0, _, _, _, _, _, _, _, _ => none
  | k + 1, x0, x1, x2, x7, x8, x9, x10, x32 => if x32 = true then (spec_ClearBetween.l1 k x0 x1 x2 x7 x8 x9 x10 0) else (some x7)
def spec_ClearBetween.l1 : Nat → List (S58) → List Int → List Int → Int → List Int → List Int → Int → Int → Option (Int)
  | 0, _, _, _, _, _, _, _, _ => none
  | k + 1, x0, x1, x2, x7, x8, x9, x10, x11 => if x11 < (x9.length : Int) then (if 0 ≤ x10 then (if x10 < (x8.length : Int) then ((spec_FindPath.f k x0 (rd x8 x10)).bind fun t327 => (if 0 ≤ t327 then (if t327 < (x0.length : Int) then (if 0 ≤ x11 then ((spec_FindPath.f k x0 (rd x9 x11)).bind fun t331 => (if 0 ≤ t331 then (if t331 < (x0.length : Int) then ((spec_Conflict.f k ((rd_T58 x0 t327).f0) ((rd_T58 x0 t327).f1) ((rd_T58 x0 t327).f2) ((rd_T58 x0 t327).f3) ((rd_T58 x0 t331).f0) ((rd_T58 x0 t331).f1) ((rd_T58 x0 t331).f2) ((rd_T58 x0 t331).f3)).bind fun t333 => (if t333 = true then ((spec_ClearOf.f ((rd_T58 x0 t327).f0) ((rd_T58 x0 t327).f1) ((rd_T58 x0 t327).f2) ((rd_T58 x0 t327).f3)).bind fun t334 => ((spec_Max.f x7 t334).bind fun t335 => (spec_ClearBetween.l1 k x0 x1 x2 t335 x8 x9 x10 (wrap64 (x11 + 1))))) else (spec_ClearBetween.l1 k x0 x1 x2 x7 x8 x9 x10 (wrap64 (x11 + 1))))) else (none)) else (none))) else (none)) else (none)) else (none))) else (none)) else (none)) else (spec_ClearBetween.l0 k x0 x1 x2 x7 x8 x9 (wrap64 (x10 + 1)))
end
def spec_ClearBetween.f (k : Nat) (l0 : List (S58)) (l1 : List Int) (l2 : List Int) : Option (Int) := (spec_Closes.f k l1 l2).bind fun t318 => ((spec_Closes.f k l2 l1).bind fun t321 => (spec_ClearBetween.l0 k l0 l1 l2 0 t318 t321 0))
theorem spec_ClearBetween.mono_l : ∀ k, (∀ y0 y1 y2 y3 y4 y5 y6, LeO (spec_ClearBetween.l0 k y0 y1 y2 y3 y4 y5 y6) (spec_ClearBetween.l0 (k + 1) y0 y1 y2 y3 y4 y5 y6)) ∧ (∀ y0 y1 y2 y3 y4 y5 y6 y7, LeO (spec_ClearBetween.j1 k y0 y1 y2 y3 y4 y5 y6 y7) (spec_ClearBetween.j1 (k + 1) y0 y1 y2 y3 y4 y5 y6 y7)) ∧ (∀ y0 y1 y2 y3 y4 y5 y6 y7, LeO (spec_ClearBetween.l1 k y0 y1 y2 y3 y4 y5 y6 y7) (spec_ClearBetween.l1 (k + 1) y0 y1 y2 y3 y4 y5 y6 y7))
  | 0 => ⟨fun _ _ _ _ _ _ _ r h => by simp [spec_ClearBetween.l0] at h, fun _ _ _ _ _ _ _ _ r h => by simp [spec_ClearBetween.j1] at h, fun _ _ _ _ _ _ _ _ r h => by simp [spec_ClearBetween.l1] at h⟩
  | k + 1 => by
    obtain ⟨ih0, ih1, ih2⟩ := spec_ClearBetween.mono_l k
    refine ⟨?_, ?_, ?_⟩
    · intro y0 y1 y2 y3 y4 y5 y6
      unfold spec_ClearBetween.l0
      repeat' first | (with_reducible first | exact LeO.refl _ | exact LeO.none _ | refine LeO.ite ?_ ?_ | refine LeO.bind ?_ (fun _ => ?_) | exact ih0 _ _ _ _ _ _ _ | exact ih1 _ _ _ _ _ _ _ _ | exact ih2 _ _ _ _ _ _ _ _ | exact spec_Closes.mono _ _ _ | exact spec_Conflict.mono _ _ _ _ _ _ _ _ _ | exact spec_FindPath.mono _ _ _ | exact spec_IsTogether.mono _ _ _) | exact LeO.none _ | refine LeO.ite ?_ ?_ | refine LeO.bind ?_ (fun _ => ?_) | exact ih0 _ _ _ _ _ _ _ | exact ih1 _ _ _ _ _ _ _ _ | exact ih2 _ _ _ _ _ _ _ _ | exact spec_Closes.mono _ _ _ | exact spec_Conflict.mono _ _ _ _ _ _ _ _ _ | exact spec_FindPath.mono _ _ _ | exact spec_IsTogether.mono _ _ _
    · intro y0 y1 y2 y3 y4 y5 y6 y7
      unfold spec_ClearBetween.j1
      repeat' first | (with_reducible first | exact LeO.refl _ | exact LeO.none _ | refine LeO.ite ?_ ?_ | refine LeO.bind ?_ (fun _ => ?_) | exact ih0 _ _ _ _ _ _ _ | exact ih1 _ _ _ _ _ _ _ _ | exact ih2 _ _ _ _ _ _ _ _ | exact spec_Closes.mono _ _ _ | exact spec_Conflict.mono _ _ _ _ _ _ _ _ _ | exact spec_FindPath.mono _ _ _ | exact spec_IsTogether.mono _ _ _) | exact LeO.none _ | refine LeO.ite ?_ ?_ | refine LeO.bind ?_ (fun _ => ?_) | exact ih0 _ _ _ _ _ _ _ | exact ih1 _ _ _ _ _ _ _ _ | exact ih2 _ _ _ _ _ _ _ _ | exact spec_Closes.mono _ _ _ | exact spec_Conflict.mono _ _ _ _ _ _ _ _ _ | exact spec_FindPath.mono _ _ _ | exact spec_IsTogether.mono _ _ _
    · intro y0 y1 y2 y3 y4 y5 y6 y7
      unfold spec_ClearBetween.l1
      repeat' first | (with_reducible first | exact LeO.refl _ | exact LeO.none _ | refine LeO.ite ?_ ?_ | refine LeO.bind ?_ (fun _ => ?_) | exact ih0 _ _ _ _ _ _ _ | exact ih1 _ _ _ _ _ _ _ _ | exact ih2 _ _ _ _ _ _ _ _ | exact spec_Closes.mono _ _ _ | exact spec_Conflict.mono _ _ _ _ _ _ _ _ _ | exact spec_FindPath.mono _ _ _ | exact spec_IsTogether.mono _ _ _) | exact LeO.none _ | refine LeO.ite ?_ ?_ | refine LeO.bind ?_ (fun _ => ?_) | exact ih0 _ _ _ _ _ _ _ | exact ih1 _ _ _ _ _ _ _ _ | exact ih2 _ _ _ _ _ _ _ _ | exact spec_Closes.mono _ _ _ | exact spec_Conflict.mono _ _ _ _ _ _ _ _ _ | exact spec_FindPath.mono _ _ _ | exact spec_IsTogether.mono _ _ _
theorem spec_ClearBetween.mono : ∀ a0 a1 a2 k, LeO (spec_ClearBetween.f k a0 a1 a2) (spec_ClearBetween.f (k + 1) a0 a1 a2) := by
  intro a0 a1 a2 k
  obtain ⟨ih0, ih1, ih2⟩ := spec_ClearBetween.mono_l k
  unfold spec_ClearBetween.f
  repeat' first | (with_reducible first | exact LeO.refl _ | exact LeO.none _ | refine LeO.ite ?_ ?_ | refine LeO.bind ?_ (fun _ => ?_) | exact ih0 _ _ _ _ _ _ _ | exact ih1 _ _ _ _ _ _ _ _ | exact ih2 _ _ _ _ _ _ _ _ | exact spec_Closes.mono _ _ _ | exact spec_Conflict.mono _ _ _ _ _ _ _ _ _ | exact spec_FindPath.mono _ _ _ | exact spec_IsTogether.mono _ _ _) | exact LeO.none _ | refine LeO.ite ?_ ?_ | refine LeO.bind ?_ (fun _ => ?_) | exact ih0 _ _ _ _ _ _ _ | exact ih1 _ _ _ _ _ _ _ _ | exact ih2 _ _ _ _ _ _ _ _ | exact spec_Closes.mono _ _ _ | exact spec_Conflict.mono _ _ _ _ _ _ _ _ _ | exact spec_FindPath.mono _ _ _ | exact spec_IsTogether.mono _ _ _
def spec_ClearBetween.T11 : Bool × List (List Nat × List Nat) := (true, [([], []), ([], []), ([], []), ([], []), ([], []), ([3, 4], [3, 4]), ([5], [5]), ([2, 6], [2, 6]), ([1, 7], [1, 7]), ([8], [8]), ([0, 9, 7], [0, 9])])
def spec_ClearBetween.B11 : List Nat := [0, 0, 0, 0, 0, 24, 56, 124, 254, 510, 1023]
theorem spec_ClearBetween.tab11 : rtab .any (opsOf Try.f66 11) = spec_ClearBetween.T11 := by kernel_rfl
theorem spec_ClearBetween.bits11 : waitsOk spec_ClearBetween.T11.2 spec_ClearBetween.B11 = true := by kernel_rfl
set_option maxHeartbeats 8000000 in
set_option maxRecDepth 100000 in
theorem spec_ClearBetween.calls (k : Nat) (A0 : Option Addr) (c0 : Nat) (l0 : List (S58)) (A1 : Option Addr) (c1 : Nat) (l1 : List Int) (A2 : Option Addr) (c2 : Nat) (l2 : List Int) (r : Int) (w : World) (hr0 : Kd.C k58 w A0 l0.length l0) (hc0 : l0.length ≤ c0) (hr1 : Kd.C (Kd.int .i64) w A1 l1.length l1) (hc1 : l1.length ≤ c1) (hr2 : Kd.C (Kd.int .i64) w A2 l2.length l2) (hc2 : l2.length ≤ c2) (h : spec_ClearBetween.f k l0 l1 l2 = some r) :
    Calls Try.prog 66 #[.slice A0 l0.length c0, .slice A1 l1.length c1, .slice A2 l2.length c2] w fun e w' => e = .returned (.int .i64 r) ∧ Below w.heap.size w w' := by
  have hu58 := Try.underlying58
  have HR0 := Aside0.mk hr0
  have HC0 := Aside0.mk hc0
  clear hr0 hc0
  have HR1 := Aside0.mk hr1
  have HC1 := Aside0.mk hc1
  clear hr1 hc1
  have HR2 := Aside0.mk hr2
  have HC2 := Aside0.mk hc2
  clear hr2 hc2
  have HB := Aside0.mk (Below.refl w.heap.size w)
  have H : ((spec_Closes.f k l1 l2).bind fun t318 => ((spec_Closes.f k l2 l1).bind fun t321 => (spec_ClearBetween.l0 k l0 l1 l2 0 t318 t321 0))) = some r := h
  clear h
  obtain ⟨t318, A4, H⟩ := bindE H
  try dsimp only at H
  obtain ⟨t321, A5, H⟩ := bindE H
  try dsimp only at H
  have H' := Aside0.mk H
  clear H
  go_enter Try.func66, Try.ntmps66
  go_wp2_with (first | ((with_reducible refine gate_callee (f := 85) rfl ?_); refine gL (some 15) Try.func85 #[.slice A1 l1.length c1, .slice A2 l2.length c2] ?_; (with_reducible refine (spec_Closes.calls k _ _ l1 _ _ l2 t318 _ ?side1 ?side2 ?side3 ?side4 A4.out).mono ?_); (case side1 => exact cO HR1); (case side2 => exact HC1.out); (case side3 => exact cO HR2); (case side4 => exact HC2.out); rintro e w6 ⟨v319, rfl, ho0, hb⟩; refine ⟨_, rfl, ?_⟩; have HO320 := Aside0.mk (Kd.R_lower ho0 (below_size bA)); replace HB := Aside0.mk (below_step bA hb); (try clear hb); (try clear hb2); (try clear hk); (try clear hi); (try clear ho0)) | ((with_reducible refine gate_callee (f := 85) rfl ?_); refine gL (some 18) Try.func85 #[.slice A2 l2.length c2, .slice A1 l1.length c1] ?_; (with_reducible refine (spec_Closes.calls k _ _ l2 _ _ l1 t321 _ ?side1 ?side2 ?side3 ?side4 A5.out).mono ?_); (case side1 => exact cB HR2); (case side2 => exact HC2.out); (case side3 => exact cB HR1); (case side4 => exact HC1.out); rintro e w7 ⟨v322, rfl, ho0, hb⟩; refine ⟨_, rfl, ?_⟩; have HO323 := Aside0.mk (Kd.R_lower (Kd.R_new' ho0 (Kd.R_lt (rK HO320))) (below_size bA)); replace HO320 := Aside0.mk (Kd.R_elder' (rK HO320) (Kd.R_base ho0) hb); replace HB := Aside0.mk (below_step bA hb); (try clear hb); (try clear hb2); (try clear hk); (try clear hi); (try clear ho0)))
  go_loopg [7, 10] k (fun kq v7 v10 w' => ∃ (x7_1 : Int) (x10_1 : Int), v7 = .int .i64 x7_1 ∧ v10 = .int .i64 x10_1 ∧ Aside0 (spec_ClearBetween.l0 kq l0 l1 l2 x7_1 t318 t321 x10_1 = some r) ∧ Aside0 (kq ≤ k) ∧ Aside0 (Kd.R (Kd.int .i64) 3 w' w.heap.size (fun k_ => some k_ ≠ (v322 : Value).ownBlock) v319 t318) ∧ Aside0 (Kd.R (Kd.int .i64) 3 w' w.heap.size (fun k_ => some k_ ≠ (v319 : Value).ownBlock) v322 t321) ∧ Aside0 (Below w.heap.size w w'))
  case atStart => exact ⟨(0), (0), rS, rS, H', ⟨Nat.le_refl _⟩, ⟨by (with_reducible repeat (first | apply Kd.R_alloc | apply Kd.R_drewN | apply Kd.R_drew)); exact Kd.R_mono HO320.out (fun _ hk => hk.2)⟩, ⟨by (with_reducible repeat (first | apply Kd.R_alloc | apply Kd.R_drewN | apply Kd.R_drew)); exact Kd.R_mono HO323.out (fun _ hk => hk.2)⟩, ⟨bA⟩⟩
  case round =>
    clear H'
    try clear c1
    try clear c2
    try clear p2
    try clear c6
    obtain ⟨x7_1, x10_1, rfl, rfl, HA, HK1, HO_8, HO_9, HB⟩ := hrel
    cases gk with
    | zero => exact absurd HA.out (by simp [spec_ClearBetween.l0])
    | succ k1 =>
      have H := HA.out
      clear HA
      simp only [spec_ClearBetween.l0] at H
      have HC8 := Aside0.mk H
      clear H
      go_upto_region 5 with (fail)
      go_cut [32] (fun v32 wc => ∃ (kq : Nat) (x32_7 : Bool), v32 = .bool x32_7 ∧ Aside0 (spec_ClearBetween.j1 kq l0 l1 l2 x7_1 t318 t321 x10_1 x32_7 = some r) ∧ Aside0 (kq ≤ k1) ∧ Aside0 (Kd.R (Kd.int .i64) 3 wc w.heap.size (fun k_ => some k_ ≠ (v322 : Value).ownBlock) v319 t318) ∧ Aside0 (Kd.R (Kd.int .i64) 3 wc w.heap.size (fun k_ => some k_ ≠ (v319 : Value).ownBlock) v322 t321) ∧ Aside0 (Below w.heap.size w wc))
      case first =>
        have H := HC8.out
        clear HC8
        by_cases c9 : x10_1 < (t318.length : Int)
        · rw [if_pos c9] at H
          have c9b0 : decide (x10_1 < (t318.length : Int)) = true := decide_eq_true c9
          clear c9
          (first | rw [c9b0] | (simp only [i64_w, i32_w]; rw [c9b0]) | skip)
          obtain ⟨t324, A10, H⟩ := bindE H
          try dsimp only at H
          by_cases c11 : t324 = true
          · subst c11
            have H1 : ((spec_IsTogether.f k1 l0 l2).bind fun t325 => (spec_ClearBetween.j1 k1 l0 l1 l2 x7_1 t318 t321 x10_1 t325)) = some r := by rw [if_pos rfl] at H; exact H
            clear H
            have H := H1
            clear H1
            obtain ⟨t325, A12, H⟩ := bindE H
            try dsimp only at H
            have H' := Aside0.mk H
            clear H
            obtain ⟨Ao13, co13, eo13⟩ := Kd.R_slice HO_8.out
            subst eo13
            go_wp2_with (first | (go_at_call 52; (with_reducible refine (spec_IsTogether.calls k1 _ _ l0 _ _ l1 true _ ?side1 ?side2 ?side3 ?side4 A10.out).mono ?_); (case side1 => exact cB HR0); (case side2 => exact HC0.out); (case side3 => exact cB HR1); (case side4 => exact HC1.out); rintro e w14 ⟨rfl, hb⟩; replace HO_8 := Aside0.mk (Kd.R_below (rK HO_8) hb); replace HO_9 := Aside0.mk (Kd.R_below (rK HO_9) hb); replace HB := Aside0.mk (below_step bA hb); (try clear hb); (try clear hb2); (try clear hk); (try clear hi)) | (go_at_call 52; (with_reducible refine (spec_IsTogether.calls k1 _ _ l0 _ _ l2 t325 _ ?side1 ?side2 ?side3 ?side4 A12.out).mono ?_); (case side1 => exact cB HR0); (case side2 => exact HC0.out); (case side3 => exact cB HR2); (case side4 => exact HC2.out); rintro e w15 ⟨rfl, hb⟩; replace HO_8 := Aside0.mk (Kd.R_below (rK HO_8) hb); replace HO_9 := Aside0.mk (Kd.R_below (rK HO_9) hb); replace HB := Aside0.mk (below_step bA hb); (try clear hb); (try clear hb2); (try clear hk); (try clear hi)))
            go_meet
            case rel => exact ⟨_, (t325), rS, H', ⟨by have := HK1.out; first | omega | exact Nat.le_refl _⟩, ⟨rK HO_8⟩, ⟨rK HO_9⟩, ⟨bA⟩⟩
          · replace c11 := Bool.eq_false_iff.mpr c11
            subst c11
            have H1 : (spec_ClearBetween.j1 k1 l0 l1 l2 x7_1 t318 t321 x10_1 false) = some r := by rw [if_neg (show ¬ (false = true) by decide)] at H; exact H
            clear H
            have H := H1
            clear H1
            have H' := Aside0.mk H
            clear H
            obtain ⟨Ao16, co16, eo16⟩ := Kd.R_slice HO_8.out
            subst eo16
            go_wp2_with (first | (go_at_call 52; (with_reducible refine (spec_IsTogether.calls k1 _ _ l0 _ _ l1 false _ ?side1 ?side2 ?side3 ?side4 A10.out).mono ?_); (case side1 => exact cB HR0); (case side2 => exact HC0.out); (case side3 => exact cB HR1); (case side4 => exact HC1.out); rintro e w17 ⟨rfl, hb⟩; replace HO_8 := Aside0.mk (Kd.R_below (rK HO_8) hb); replace HO_9 := Aside0.mk (Kd.R_below (rK HO_9) hb); replace HB := Aside0.mk (below_step bA hb); (try clear hb); (try clear hb2); (try clear hk); (try clear hi)))
            go_meet
            case rel => exact ⟨_, (false), rS, H', ⟨by have := HK1.out; first | omega | exact Nat.le_refl _⟩, ⟨rK HO_8⟩, ⟨rK HO_9⟩, ⟨bA⟩⟩
        · rw [if_neg c9] at H
          have c9b0 : decide (x10_1 < (t318.length : Int)) = false := decide_eq_false c9
          clear c9
          (first | rw [c9b0] | (simp only [i64_w, i32_w]; rw [c9b0]) | skip)
          have H' := Aside0.mk H
          clear H
          obtain ⟨Ao18, co18, eo18⟩ := Kd.R_slice HO_8.out
          subst eo18
          go_wp2
          go_meet
          case rel => exact ⟨_, (false), rS, H', ⟨by have := HK1.out; first | omega | exact Nat.le_refl _⟩, ⟨rK HO_8⟩, ⟨rK HO_9⟩, ⟨bA⟩⟩
      case rest =>
        clear HC8
        try clear c1
        try clear c2
        try clear p2
        try clear c6
        try clear c8
        try clear c9
        try clear c9b0
        try clear c11
        try clear p2
        obtain ⟨kq, x32_7, rfl, HA, HJ7, HO_8, HO_9, HB⟩ := hcut
        cases kq with
        | zero => exact absurd HA.out (by simp [spec_ClearBetween.j1])
        | succ kj7 =>
          have H := HA.out
          clear HA
          simp only [spec_ClearBetween.j1] at H
          by_cases c19 : x32_7 = true
          · subst c19
            have H1 : (spec_ClearBetween.l1 kj7 l0 l1 l2 x7_1 t318 t321 x10_1 0) = some r := by rw [if_pos rfl] at H; exact H
            clear H
            have H := H1
            clear H1
            have H' := Aside0.mk H
            clear H
            go_wp2
            go_loopg [7, 11] kj7 (fun kq v7 v11 w' => ∃ (x7_3 : Int) (x11_3 : Int), v7 = .int .i64 x7_3 ∧ v11 = .int .i64 x11_3 ∧ Aside0 (spec_ClearBetween.l1 kq l0 l1 l2 x7_3 t318 t321 x10_1 x11_3 = some r) ∧ Aside0 (kq ≤ kj7) ∧ Aside0 (Kd.R (Kd.int .i64) 3 w' w.heap.size (fun k_ => some k_ ≠ (v322 : Value).ownBlock) v319 t318) ∧ Aside0 (Kd.R (Kd.int .i64) 3 w' w.heap.size (fun k_ => some k_ ≠ (v319 : Value).ownBlock) v322 t321) ∧ Aside0 (Below w.heap.size w w'))
            case atStart => exact ⟨(x7_1), (0), rS, rS, H', ⟨Nat.le_refl _⟩, ⟨rK HO_8⟩, ⟨rK HO_9⟩, ⟨bA⟩⟩
            case round =>
              clear H'
              try clear c1
              try clear c2
              try clear p2
              try clear c6
              try clear c8
              try clear c9
              try clear c9b0
              try clear c11
              try clear c19
              try clear p2
              obtain ⟨x7_3, x11_3, rfl, rfl, HA, HK3, HO_8, HO_9, HB⟩ := hrel
              cases gk with
              | zero => exact absurd HA.out (by simp [spec_ClearBetween.l1])
              | succ k3 =>
                have H := HA.out
                clear HA
                simp only [spec_ClearBetween.l1] at H
                by_cases c20 : x11_3 < (t321.length : Int)
                · rw [if_pos c20] at H
                  have c20b0 : decide (x11_3 < (t321.length : Int)) = true := decide_eq_true c20
                  clear c20
                  have c21 : 0 ≤ x10_1 := ifN H
                  replace H := ifT H
                  have c21b0 : decide (0 ≤ x10_1) = true := decide_eq_true c21
                  clear c21
                  have c22 : x10_1 < (t318.length : Int) := ifN H
                  replace H := ifT H
                  have c22b0 : decide (x10_1 < (t318.length : Int)) = true := decide_eq_true c22
                  clear c22
                  obtain ⟨t327, A23, H⟩ := bindE H
                  try dsimp only at H
                  have c24 : 0 ≤ t327 := ifN H
                  replace H := ifT H
                  have c24b0 : decide (0 ≤ t327) = true := decide_eq_true c24
                  clear c24
                  have c25 : t327 < (l0.length : Int) := ifN H
                  replace H := ifT H
                  have c25b0 : decide (t327 < (l0.length : Int)) = true := decide_eq_true c25
                  clear c25
                  have c26 : 0 ≤ x11_3 := ifN H
                  replace H := ifT H
                  have c26b0 : decide (0 ≤ x11_3) = true := decide_eq_true c26
                  clear c26
                  obtain ⟨t331, A27, H⟩ := bindE H
                  try dsimp only at H
                  have c28 : 0 ≤ t331 := ifN H
                  replace H := ifT H
                  have c28b0 : decide (0 ≤ t331) = true := decide_eq_true c28
                  clear c28
                  have c29 : t331 < (l0.length : Int) := ifN H
                  replace H := ifT H
                  have c29b0 : decide (t331 < (l0.length : Int)) = true := decide_eq_true c29
                  clear c29
                  obtain ⟨t333, A30, H⟩ := bindE H
                  try dsimp only at H
                  by_cases c31 : t333 = true
                  · subst c31
                    have H1 : ((spec_ClearOf.f ((rd_T58 l0 t327).f0) ((rd_T58 l0 t327).f1) ((rd_T58 l0 t327).f2) ((rd_T58 l0 t327).f3)).bind fun t334 => ((spec_Max.f x7_3 t334).bind fun t335 => (spec_ClearBetween.l1 k3 l0 l1 l2 t335 t318 t321 x10_1 (wrap64 (x11_3 + 1))))) = some r := by rw [if_pos rfl] at H; exact H
                    clear H
                    have H := H1
                    clear H1
                    obtain ⟨t334, A32, H⟩ := bindE H
                    try dsimp only at H
                    obtain ⟨t335, A33, H⟩ := bindE H
                    try dsimp only at H
                    have H' := Aside0.mk H
                    clear H
                    obtain ⟨Ao34, co34, eo34⟩ := Kd.R_slice HO_9.out
                    subst eo34
                    obtain ⟨Ao35, co35, eo35⟩ := Kd.R_slice HO_8.out
                    subst eo35
                    have p326 : 0 ≤ (x10_1 : Int) := dA
                    have q326 : x10_1 < (t318.length : Int) := dA
                    obtain ⟨ad326, e326, hx326_0⟩ := Kd.at_int (Kd.R_reads' HO_8.out).2.2 x10_1 p326 q326
                    cases e326
                    replace p326 := eq_true p326
                    replace q326 := eq_true q326
                    try go_wp2_with (first | ((with_reducible refine gate_callee (f := 68) rfl ?_); refine gL (some 47) Try.func68 #[.slice A0 l0.length c0, .int .i64 (rd t318 x10_1)] ?_; (with_reducible refine (spec_FindPath.calls k3 _ _ l0 (rd t318 x10_1) t327 _ ?side1 ?side2 A23.out).mono ?_); (case side1 => exact cB HR0); (case side2 => exact HC0.out); rintro e w' ⟨rfl, ⟨nd, rfl⟩⟩; refine ⟨_, rfl, ?_⟩; (try (rw [drewN_self wr]; generalize hq_ : World.drewN wr _ = wr; have n0_ : Aside0 (Kd.R (Kd.int .i64) 3 wr w.heap.size (fun k_ => some k_ ≠ (.slice Ao34 t321.length co34 : Value).ownBlock) (.slice (some ad326) t318.length co35) t318) := ⟨by rw [← hq_]; exact (rK HO_8)⟩; have n1_ : Aside0 (Kd.R (Kd.int .i64) 3 wr w.heap.size (fun k_ => some k_ ≠ (.slice (some ad326) t318.length co35 : Value).ownBlock) (.slice Ao34 t321.length co34) t321) := ⟨by rw [← hq_]; exact (rK HO_9)⟩; have n2_ : Aside0 (Below w.heap.size w wr) := ⟨by rw [← hq_]; exact bA⟩; clear HO_8 HO_9 HB hq_; have HO_8 := n0_; have HO_9 := n1_; have HB := n2_; clear n0_ n1_ n2_)); have p328 : 0 ≤ (t327 : Int) := dA; have q328 : t327 < (l0.length : Int) := dA; obtain ⟨ad328, e328, hx328_0, hx328_1, hx328_2, hx328_3⟩ := at_T58 HR0.out t327 p328 q328; cases e328; replace hx328_0 := hC HB hx328_0; replace hx328_1 := hC HB hx328_1; replace hx328_2 := hC HB hx328_2; replace hx328_3 := hC HB hx328_3; replace p328 := eq_true p328; replace q328 := eq_true q328) | ((with_reducible refine gate_dst (N := 12) rfl ?_); refine bE (N := 12) (cs := #[.int .i64 0, .int .i64 0, .int .i64 0, .int .i64 0]) (t := 58) ?_; intro gb329 hg w36 hbox hb; have n0_ := Aside0.mk (Kd.R_below (rK HO_8) hb); have n1_ := Aside0.mk (Kd.R_below (rK HO_9) hb); have n2_ := Aside0.mk (below_step bA hb); have n3_ := Aside0.mk (hbox); have n4_ := Aside0.mk ((by rw [hg]; exact (below_size bA) : w.heap.size ≤ gb329)); have n5_ := Aside0.mk ((by rw [hg]; exact (below_size bA) : w.heap.size ≤ gb329)); clear HO_8; clear HO_9; clear HB; have HO_8 := n0_; have HO_9 := n1_; have HB := n2_; have BK329 := n3_; have GW329 := n4_; have GE329 := n5_; clear n0_ n1_ n2_ n3_ n4_ n5_; clear hb hbox hg; obtain ⟨hcz37_0, hcz37_1, hcz37_2, hcz37_3, hfz37_0, hfz37_1, hfz37_2, hfz37_3⟩ := blkc4 BK329))
                    have n0_ : Aside0 (Kd.R (Kd.int .i64) 3 ((((w36.setCell ⟨gb329, 0, none⟩ (.int .i64 ((rd_T58 l0 t327).f0))).setCell ⟨gb329, 1, none⟩ (.int .i64 ((rd_T58 l0 t327).f1))).setCell ⟨gb329, 2, none⟩ (.int .i64 ((rd_T58 l0 t327).f2))).setCell ⟨gb329, 3, none⟩ (.int .i64 ((rd_T58 l0 t327).f3))) w.heap.size (fun k_ => some k_ ≠ (.slice Ao34 t321.length co34 : Value).ownBlock) (.slice (some ad326) t318.length co35) t318) := ⟨by (with_reducible repeat (first | apply Kd.R_alloc | apply Kd.R_drewN | apply Kd.R_drew)); exact Kd.R_mono (Kd.R_far (p := ⟨gb329, 3, none⟩) (Kd.R_far (p := ⟨gb329, 2, none⟩) (Kd.R_far (p := ⟨gb329, 1, none⟩) (Kd.R_far (p := ⟨gb329, 0, none⟩) (Kd.R_types HO_8.out BK329.out (by decide)) (fun _ hk => hk.2) (.int .i64 ((rd_T58 l0 t327).f0))) (fun _ hk => hk.2) (.int .i64 ((rd_T58 l0 t327).f1))) (fun _ hk => hk.2) (.int .i64 ((rd_T58 l0 t327).f2))) (fun _ hk => hk.2) (.int .i64 ((rd_T58 l0 t327).f3))) (fun _ hk => hk.1)⟩
                    have n1_ : Aside0 (Kd.R (Kd.int .i64) 3 ((((w36.setCell ⟨gb329, 0, none⟩ (.int .i64 ((rd_T58 l0 t327).f0))).setCell ⟨gb329, 1, none⟩ (.int .i64 ((rd_T58 l0 t327).f1))).setCell ⟨gb329, 2, none⟩ (.int .i64 ((rd_T58 l0 t327).f2))).setCell ⟨gb329, 3, none⟩ (.int .i64 ((rd_T58 l0 t327).f3))) w.heap.size (fun k_ => some k_ ≠ (.slice (some ad326) t318.length co35 : Value).ownBlock) (.slice Ao34 t321.length co34) t321) := ⟨by (with_reducible repeat (first | apply Kd.R_alloc | apply Kd.R_drewN | apply Kd.R_drew)); exact Kd.R_mono (Kd.R_far (p := ⟨gb329, 3, none⟩) (Kd.R_far (p := ⟨gb329, 2, none⟩) (Kd.R_far (p := ⟨gb329, 1, none⟩) (Kd.R_far (p := ⟨gb329, 0, none⟩) (Kd.R_types HO_9.out BK329.out (by decide)) (fun _ hk => hk.2) (.int .i64 ((rd_T58 l0 t327).f0))) (fun _ hk => hk.2) (.int .i64 ((rd_T58 l0 t327).f1))) (fun _ hk => hk.2) (.int .i64 ((rd_T58 l0 t327).f2))) (fun _ hk => hk.2) (.int .i64 ((rd_T58 l0 t327).f3))) (fun _ hk => hk.1)⟩
                    have n2_ : Aside0 (((((w36.setCell ⟨gb329, 0, none⟩ (.int .i64 ((rd_T58 l0 t327).f0))).setCell ⟨gb329, 1, none⟩ (.int .i64 ((rd_T58 l0 t327).f1))).setCell ⟨gb329, 2, none⟩ (.int .i64 ((rd_T58 l0 t327).f2))).setCell ⟨gb329, 3, none⟩ (.int .i64 ((rd_T58 l0 t327).f3))).heap[gb329]? = some (.cells #[.int .i64 ((rd_T58 l0 t327).f0), .int .i64 ((rd_T58 l0 t327).f1), .int .i64 ((rd_T58 l0 t327).f2), .int .i64 ((rd_T58 l0 t327).f3)] 58 (0, 0))) := ⟨by (with_reducible repeat (first | refine blk_drewN ?_ _ | refine blk_drew ?_ | refine blk_alloc ?_ _)); refine blk_put (cs := #[.int .i64 ((rd_T58 l0 t327).f0), .int .i64 ((rd_T58 l0 t327).f1), .int .i64 ((rd_T58 l0 t327).f2), .int .i64 0]) ?_ 3 _ rfl; (with_reducible repeat (first | refine blk_drewN ?_ _ | refine blk_drew ?_ | refine blk_alloc ?_ _)); refine blk_put (cs := #[.int .i64 ((rd_T58 l0 t327).f0), .int .i64 ((rd_T58 l0 t327).f1), .int .i64 0, .int .i64 0]) ?_ 2 _ rfl; (with_reducible repeat (first | refine blk_drewN ?_ _ | refine blk_drew ?_ | refine blk_alloc ?_ _)); refine blk_put (cs := #[.int .i64 ((rd_T58 l0 t327).f0), .int .i64 0, .int .i64 0, .int .i64 0]) ?_ 1 _ rfl; (with_reducible repeat (first | refine blk_drewN ?_ _ | refine blk_drew ?_ | refine blk_alloc ?_ _)); refine blk_put (cs := #[.int .i64 0, .int .i64 0, .int .i64 0, .int .i64 0]) ?_ 0 _ rfl; (with_reducible repeat (first | refine blk_drewN ?_ _ | refine blk_drew ?_ | refine blk_alloc ?_ _)); exact BK329.out⟩
                    have n3_ : Aside0 (Below w.heap.size w ((((w36.setCell ⟨gb329, 0, none⟩ (.int .i64 ((rd_T58 l0 t327).f0))).setCell ⟨gb329, 1, none⟩ (.int .i64 ((rd_T58 l0 t327).f1))).setCell ⟨gb329, 2, none⟩ (.int .i64 ((rd_T58 l0 t327).f2))).setCell ⟨gb329, 3, none⟩ (.int .i64 ((rd_T58 l0 t327).f3)))) := ⟨bG⟩
                    (try clear HO_8)
                    (try clear HO_9)
                    (try clear BK329)
                    (try clear HB)
                    generalize ((((w36.setCell ⟨gb329, 0, none⟩ (.int .i64 ((rd_T58 l0 t327).f0))).setCell ⟨gb329, 1, none⟩ (.int .i64 ((rd_T58 l0 t327).f1))).setCell ⟨gb329, 2, none⟩ (.int .i64 ((rd_T58 l0 t327).f2))).setCell ⟨gb329, 3, none⟩ (.int .i64 ((rd_T58 l0 t327).f3))) = w38 at n0_ n1_ n2_ n3_ ⊢
                    have HO_8 := n0_
                    have HO_9 := n1_
                    have BK329 := n2_
                    have HB := n3_
                    clear n0_ n1_ n2_ n3_
                    replace HO_8 := Aside0.mk (Kd.R_drew HO_8.out)
                    replace HO_9 := Aside0.mk (Kd.R_drew HO_9.out)
                    replace BK329 := Aside0.mk (blk_drew BK329.out)
                    have HBo := HB
                    replace HB := Aside0.mk (below_drew1 HB.out)
                    have p330 : 0 ≤ (x11_3 : Int) := dA
                    have q330 : x11_3 < (t321.length : Int) := dA
                    obtain ⟨ad330, e330, hx330_0⟩ := Kd.at_int (Kd.R_reads' HO_9.out).2.2 x11_3 p330 q330
                    cases e330
                    replace p330 := eq_true p330
                    replace q330 := eq_true q330
                    have p332 : 0 ≤ (t331 : Int) := dA
                    have q332 : t331 < (l0.length : Int) := dA
                    obtain ⟨ad332, e332, hx332_0, hx332_1, hx332_2, hx332_3⟩ := at_T58 HR0.out t331 p332 q332
                    have hw332_3 := hx332_3
                    have hw332_2 := hx332_2
                    have hw332_1 := hx332_1
                    have hw332_0 := hx332_0
                    obtain rfl : ad328 = ad332 := (by injection e332)
                    replace hx332_0 := hC HB hx332_0
                    replace hx332_1 := hC HB hx332_1
                    replace hx332_2 := hC HB hx332_2
                    replace hx332_3 := hC HB hx332_3
                    replace p332 := eq_true p332
                    replace q332 := eq_true q332
                    refine start_ (n := 11) (S := fun w' => w'.cell? ⟨gb329, 0, none⟩ = some (.int .i64 ((rd_T58 l0 t327).f0)) ∧ w'.cell? ⟨gb329, 1, none⟩ = some (.int .i64 ((rd_T58 l0 t327).f1)) ∧ w'.cell? ⟨gb329, 2, none⟩ = some (.int .i64 ((rd_T58 l0 t327).f2)) ∧ w'.cell? ⟨gb329, 3, none⟩ = some (.int .i64 ((rd_T58 l0 t327).f3)) ∧ w'.cell? (ad330.add (x11_3).toNat) = some (.int .i64 (rd t321 x11_3)) ∧ w'.cell? (ad328.add ((t331).toNat * 4)) = some (.int .i64 ((rd_T58 l0 t331).f0)) ∧ w'.cell? ⟨(ad328.add ((t331).toNat * 4)).block, (ad328.add ((t331).toNat * 4)).off + 1, none⟩ = some (.int .i64 ((rd_T58 l0 t331).f1)) ∧ w'.cell? ⟨(ad328.add ((t331).toNat * 4)).block, (ad328.add ((t331).toNat * 4)).off + 2, none⟩ = some (.int .i64 ((rd_T58 l0 t331).f2)) ∧ w'.cell? ⟨(ad328.add ((t331).toNat * 4)).block, (ad328.add ((t331).toNat * 4)).off + 3, none⟩ = some (.int .i64 ((rd_T58 l0 t331).f3))) (ds := []) (mb 11 0) (by kernel_rfl) rfl rfl ⟨(blk_cell BK329.out 0).trans rfl, (blk_cell BK329.out 1).trans rfl, (blk_cell BK329.out 2).trans rfl, (blk_cell BK329.out 3).trans rfl, hx330_0, (hC HB hw332_0), (hC HB hw332_1), (hC HB hw332_2), (hC HB hw332_3)⟩ (fun hHeld => ?_); refine with_tabW spec_ClearBetween.tab11 spec_ClearBetween.bits11 (fun HT_ HW_ => ?_)
                    generalize w38.drew = w39 at HO_8 HO_9 BK329 HB hx330_0 hx332_0 hx332_1 hx332_2 hx332_3 hHeld ⊢
                    refine pA (i := 1) (N := some 51) (mb 11 2) HT_ ?_
                    refine pA (i := 2) (N := some 52) (mb 11 6) HT_ ?_
                    refine pA (i := 3) (N := some 53) (mb 11 14) HT_ ?_
                    refine pA (i := 4) (N := some 54) (mb 11 30) HT_ ?_
                    refine pA (i := 5) (N := some 55) (mb 11 62) HT_ ?_
                    refine tA9 (i := 0) (N := some 50) (mb 11 63) HT_ HW_ hHeld ?_
                    refine tA9 (i := 6) (N := some 56) (mb 11 127) HT_ HW_ hHeld ?_
                    refine oA (i := 7) (N := some 57) (mb 11 255) HT_ (fun K hK => ?_)
                    refine gA Try.func68 #[.slice (some ad328) l0.length c0, .int .i64 (rd t321 x11_3)] ?_
                    with_reducible refine (spec_FindPath.calls k3 _ _ l0 (rd t321 x11_3) t331 _ ?side1 ?side2 A27.out).mono ?_
                    (case side1 => exact cB HR0)
                    (case side2 => exact HC0.out)
                    rintro e w' ⟨rfl, ⟨nd, rfl⟩⟩
                    refine ⟨_, rfl, ?_⟩
                    refine hK.out _ _ ⟨(blk_cell BK329.out 0).trans rfl, (blk_cell BK329.out 1).trans rfl, (blk_cell BK329.out 2).trans rfl, (blk_cell BK329.out 3).trans rfl, hHeld.2.2.2.2.1, (hC HB hw332_0), (hC HB hw332_1), (hC HB hw332_2), (hC HB hw332_3)⟩ (fun hHeld => ?_)
                    clear hK K
                    refine nA ?_
                    refine pA (i := 8) (N := some 58) (mb 11 511) HT_ ?_
                    refine tA9 (i := 9) (N := some 59) (mb 11 1023) HT_ HW_ hHeld ?_
                    refine oA (i := 10) (N := some 60) (mb 11 2047) HT_ (fun K hK => ?_)
                    refine gA Try.func76 #[.agg #[.int .i64 ((rd_T58 l0 t327).f0), .int .i64 ((rd_T58 l0 t327).f1), .int .i64 ((rd_T58 l0 t327).f2), .int .i64 ((rd_T58 l0 t327).f3)], .agg #[.int .i64 ((rd_T58 l0 t331).f0), .int .i64 ((rd_T58 l0 t331).f1), .int .i64 ((rd_T58 l0 t331).f2), .int .i64 ((rd_T58 l0 t331).f3)]] ?_
                    with_reducible refine (spec_Conflict.calls k3 ((rd_T58 l0 t327).f0) ((rd_T58 l0 t327).f1) ((rd_T58 l0 t327).f2) ((rd_T58 l0 t327).f3) ((rd_T58 l0 t331).f0) ((rd_T58 l0 t331).f1) ((rd_T58 l0 t331).f2) ((rd_T58 l0 t331).f3) true _ A30.out).mono ?_
                    rintro e w40 ⟨rfl, hb⟩
                    have HS4_ := (hb.cell (World.block_lt_of_cell? _ _ (hHeld.2.2.2.2.1))).trans (hHeld.2.2.2.2.1)
                    refine ⟨_, rfl, ?_⟩
                    replace HO_8 := Aside0.mk (Kd.R_below (rK HO_8) hb)
                    replace HO_9 := Aside0.mk (Kd.R_below (rK HO_9) hb)
                    replace BK329 := Aside0.mk (blk_below (g := gb329) (bK BK329) hb)
                    replace HB := Aside0.mk (below_step bG hb)
                    (try clear hb)
                    (try clear hb2)
                    (try clear hk)
                    (try clear hi)
                    refine hK.out _ _ ⟨(blk_cell BK329.out 0).trans rfl, (blk_cell BK329.out 1).trans rfl, (blk_cell BK329.out 2).trans rfl, (blk_cell BK329.out 3).trans rfl, HS4_, (hC HB hw332_0), (hC HB hw332_1), (hC HB hw332_2), (hC HB hw332_3)⟩ (fun hHeld => ?_)
                    clear hK K
                    refine nA ?_
                    refine eA HT_ ?_
                    obtain ⟨hcz41_0, hcz41_1, hcz41_2, hcz41_3, hfz41_0, hfz41_1, hfz41_2, hfz41_3⟩ := blkc4 BK329
                    try go_wp2_with (first | ((with_reducible refine gate_callee (f := 86) rfl ?_); refine gL (some 63) Try.func86 #[.agg #[.int .i64 ((rd_T58 l0 t327).f0), .int .i64 ((rd_T58 l0 t327).f1), .int .i64 ((rd_T58 l0 t327).f2), .int .i64 ((rd_T58 l0 t327).f3)]] ?_; (with_reducible refine (spec_ClearOf.calls ((rd_T58 l0 t327).f0) ((rd_T58 l0 t327).f1) ((rd_T58 l0 t327).f2) ((rd_T58 l0 t327).f3) t334 _ A32.out).mono ?_); rintro e w42 ⟨rfl, hb⟩; refine ⟨_, rfl, ?_⟩; replace HO_8 := Aside0.mk (Kd.R_below (rK HO_8) hb); replace HO_9 := Aside0.mk (Kd.R_below (rK HO_9) hb); replace BK329 := Aside0.mk (blk_below (g := gb329) (bK BK329) hb); replace HB := Aside0.mk (below_step bG hb); (try clear hb); (try clear hb2); (try clear hk); (try clear hi)) | ((with_reducible refine gate_callee (f := 67) rfl ?_); refine gL (some 64) Try.func67 #[.int .i64 x7_3, .int .i64 t334] ?_; (with_reducible refine (spec_Max.calls x7_3 t334 t335 _ A33.out).mono ?_); rintro e w' ⟨rfl, ⟨nd, rfl⟩⟩; refine ⟨_, rfl, ?_⟩))
                    go_roundg k3
                    case measure => have := HK1.out; have := HJ7.out; have := HK3.out; omega
                    case rel => exact ⟨(t335), (wrap64 (x11_3 + 1)), rS, rS, H', ⟨by have := HK1.out; have := HJ7.out; have := HK3.out; omega⟩, ⟨rK HO_8⟩, ⟨rK HO_9⟩, ⟨bG⟩⟩
                  · replace c31 := Bool.eq_false_iff.mpr c31
                    subst c31
                    have H1 : (spec_ClearBetween.l1 k3 l0 l1 l2 x7_3 t318 t321 x10_1 (wrap64 (x11_3 + 1))) = some r := by rw [if_neg (show ¬ (false = true) by decide)] at H; exact H
                    clear H
                    have H := H1
                    clear H1
                    have H' := Aside0.mk H
                    clear H
                    obtain ⟨Ao43, co43, eo43⟩ := Kd.R_slice HO_9.out
                    subst eo43
                    obtain ⟨Ao44, co44, eo44⟩ := Kd.R_slice HO_8.out
                    subst eo44
                    have p326 : 0 ≤ (x10_1 : Int) := dA
                    have q326 : x10_1 < (t318.length : Int) := dA
                    obtain ⟨ad326, e326, hx326_0⟩ := Kd.at_int (Kd.R_reads' HO_8.out).2.2 x10_1 p326 q326
                    cases e326
                    replace p326 := eq_true p326
                    replace q326 := eq_true q326
                    try go_wp2_with (first | ((with_reducible refine gate_callee (f := 68) rfl ?_); refine gL (some 47) Try.func68 #[.slice A0 l0.length c0, .int .i64 (rd t318 x10_1)] ?_; (with_reducible refine (spec_FindPath.calls k3 _ _ l0 (rd t318 x10_1) t327 _ ?side1 ?side2 A23.out).mono ?_); (case side1 => exact cB HR0); (case side2 => exact HC0.out); rintro e w' ⟨rfl, ⟨nd, rfl⟩⟩; refine ⟨_, rfl, ?_⟩; (try (rw [drewN_self wr]; generalize hq_ : World.drewN wr _ = wr; have n0_ : Aside0 (Kd.R (Kd.int .i64) 3 wr w.heap.size (fun k_ => some k_ ≠ (.slice Ao43 t321.length co43 : Value).ownBlock) (.slice (some ad326) t318.length co44) t318) := ⟨by rw [← hq_]; exact (rK HO_8)⟩; have n1_ : Aside0 (Kd.R (Kd.int .i64) 3 wr w.heap.size (fun k_ => some k_ ≠ (.slice (some ad326) t318.length co44 : Value).ownBlock) (.slice Ao43 t321.length co43) t321) := ⟨by rw [← hq_]; exact (rK HO_9)⟩; have n2_ : Aside0 (Below w.heap.size w wr) := ⟨by rw [← hq_]; exact bA⟩; clear HO_8 HO_9 HB hq_; have HO_8 := n0_; have HO_9 := n1_; have HB := n2_; clear n0_ n1_ n2_)); have p328 : 0 ≤ (t327 : Int) := dA; have q328 : t327 < (l0.length : Int) := dA; obtain ⟨ad328, e328, hx328_0, hx328_1, hx328_2, hx328_3⟩ := at_T58 HR0.out t327 p328 q328; cases e328; replace hx328_0 := hC HB hx328_0; replace hx328_1 := hC HB hx328_1; replace hx328_2 := hC HB hx328_2; replace hx328_3 := hC HB hx328_3; replace p328 := eq_true p328; replace q328 := eq_true q328) | ((with_reducible refine gate_dst (N := 12) rfl ?_); refine bE (N := 12) (cs := #[.int .i64 0, .int .i64 0, .int .i64 0, .int .i64 0]) (t := 58) ?_; intro gb329 hg w45 hbox hb; have n0_ := Aside0.mk (Kd.R_below (rK HO_8) hb); have n1_ := Aside0.mk (Kd.R_below (rK HO_9) hb); have n2_ := Aside0.mk (below_step bA hb); have n3_ := Aside0.mk (hbox); have n4_ := Aside0.mk ((by rw [hg]; exact (below_size bA) : w.heap.size ≤ gb329)); have n5_ := Aside0.mk ((by rw [hg]; exact (below_size bA) : w.heap.size ≤ gb329)); clear HO_8; clear HO_9; clear HB; have HO_8 := n0_; have HO_9 := n1_; have HB := n2_; have BK329 := n3_; have GW329 := n4_; have GE329 := n5_; clear n0_ n1_ n2_ n3_ n4_ n5_; clear hb hbox hg; obtain ⟨hcz46_0, hcz46_1, hcz46_2, hcz46_3, hfz46_0, hfz46_1, hfz46_2, hfz46_3⟩ := blkc4 BK329))
                    have n0_ : Aside0 (Kd.R (Kd.int .i64) 3 ((((w45.setCell ⟨gb329, 0, none⟩ (.int .i64 ((rd_T58 l0 t327).f0))).setCell ⟨gb329, 1, none⟩ (.int .i64 ((rd_T58 l0 t327).f1))).setCell ⟨gb329, 2, none⟩ (.int .i64 ((rd_T58 l0 t327).f2))).setCell ⟨gb329, 3, none⟩ (.int .i64 ((rd_T58 l0 t327).f3))) w.heap.size (fun k_ => some k_ ≠ (.slice Ao43 t321.length co43 : Value).ownBlock) (.slice (some ad326) t318.length co44) t318) := ⟨by (with_reducible repeat (first | apply Kd.R_alloc | apply Kd.R_drewN | apply Kd.R_drew)); exact Kd.R_mono (Kd.R_far (p := ⟨gb329, 3, none⟩) (Kd.R_far (p := ⟨gb329, 2, none⟩) (Kd.R_far (p := ⟨gb329, 1, none⟩) (Kd.R_far (p := ⟨gb329, 0, none⟩) (Kd.R_types HO_8.out BK329.out (by decide)) (fun _ hk => hk.2) (.int .i64 ((rd_T58 l0 t327).f0))) (fun _ hk => hk.2) (.int .i64 ((rd_T58 l0 t327).f1))) (fun _ hk => hk.2) (.int .i64 ((rd_T58 l0 t327).f2))) (fun _ hk => hk.2) (.int .i64 ((rd_T58 l0 t327).f3))) (fun _ hk => hk.1)⟩
                    have n1_ : Aside0 (Kd.R (Kd.int .i64) 3 ((((w45.setCell ⟨gb329, 0, none⟩ (.int .i64 ((rd_T58 l0 t327).f0))).setCell ⟨gb329, 1, none⟩ (.int .i64 ((rd_T58 l0 t327).f1))).setCell ⟨gb329, 2, none⟩ (.int .i64 ((rd_T58 l0 t327).f2))).setCell ⟨gb329, 3, none⟩ (.int .i64 ((rd_T58 l0 t327).f3))) w.heap.size (fun k_ => some k_ ≠ (.slice (some ad326) t318.length co44 : Value).ownBlock) (.slice Ao43 t321.length co43) t321) := ⟨by (with_reducible repeat (first | apply Kd.R_alloc | apply Kd.R_drewN | apply Kd.R_drew)); exact Kd.R_mono (Kd.R_far (p := ⟨gb329, 3, none⟩) (Kd.R_far (p := ⟨gb329, 2, none⟩) (Kd.R_far (p := ⟨gb329, 1, none⟩) (Kd.R_far (p := ⟨gb329, 0, none⟩) (Kd.R_types HO_9.out BK329.out (by decide)) (fun _ hk => hk.2) (.int .i64 ((rd_T58 l0 t327).f0))) (fun _ hk => hk.2) (.int .i64 ((rd_T58 l0 t327).f1))) (fun _ hk => hk.2) (.int .i64 ((rd_T58 l0 t327).f2))) (fun _ hk => hk.2) (.int .i64 ((rd_T58 l0 t327).f3))) (fun _ hk => hk.1)⟩
                    have n2_ : Aside0 (((((w45.setCell ⟨gb329, 0, none⟩ (.int .i64 ((rd_T58 l0 t327).f0))).setCell ⟨gb329, 1, none⟩ (.int .i64 ((rd_T58 l0 t327).f1))).setCell ⟨gb329, 2, none⟩ (.int .i64 ((rd_T58 l0 t327).f2))).setCell ⟨gb329, 3, none⟩ (.int .i64 ((rd_T58 l0 t327).f3))).heap[gb329]? = some (.cells #[.int .i64 ((rd_T58 l0 t327).f0), .int .i64 ((rd_T58 l0 t327).f1), .int .i64 ((rd_T58 l0 t327).f2), .int .i64 ((rd_T58 l0 t327).f3)] 58 (0, 0))) := ⟨by (with_reducible repeat (first | refine blk_drewN ?_ _ | refine blk_drew ?_ | refine blk_alloc ?_ _)); refine blk_put (cs := #[.int .i64 ((rd_T58 l0 t327).f0), .int .i64 ((rd_T58 l0 t327).f1), .int .i64 ((rd_T58 l0 t327).f2), .int .i64 0]) ?_ 3 _ rfl; (with_reducible repeat (first | refine blk_drewN ?_ _ | refine blk_drew ?_ | refine blk_alloc ?_ _)); refine blk_put (cs := #[.int .i64 ((rd_T58 l0 t327).f0), .int .i64 ((rd_T58 l0 t327).f1), .int .i64 0, .int .i64 0]) ?_ 2 _ rfl; (with_reducible repeat (first | refine blk_drewN ?_ _ | refine blk_drew ?_ | refine blk_alloc ?_ _)); refine blk_put (cs := #[.int .i64 ((rd_T58 l0 t327).f0), .int .i64 0, .int .i64 0, .int .i64 0]) ?_ 1 _ rfl; (with_reducible repeat (first | refine blk_drewN ?_ _ | refine blk_drew ?_ | refine blk_alloc ?_ _)); refine blk_put (cs := #[.int .i64 0, .int .i64 0, .int .i64 0, .int .i64 0]) ?_ 0 _ rfl; (with_reducible repeat (first | refine blk_drewN ?_ _ | refine blk_drew ?_ | refine blk_alloc ?_ _)); exact BK329.out⟩
                    have n3_ : Aside0 (Below w.heap.size w ((((w45.setCell ⟨gb329, 0, none⟩ (.int .i64 ((rd_T58 l0 t327).f0))).setCell ⟨gb329, 1, none⟩ (.int .i64 ((rd_T58 l0 t327).f1))).setCell ⟨gb329, 2, none⟩ (.int .i64 ((rd_T58 l0 t327).f2))).setCell ⟨gb329, 3, none⟩ (.int .i64 ((rd_T58 l0 t327).f3)))) := ⟨bG⟩
                    (try clear HO_8)
                    (try clear HO_9)
                    (try clear BK329)
                    (try clear HB)
                    generalize ((((w45.setCell ⟨gb329, 0, none⟩ (.int .i64 ((rd_T58 l0 t327).f0))).setCell ⟨gb329, 1, none⟩ (.int .i64 ((rd_T58 l0 t327).f1))).setCell ⟨gb329, 2, none⟩ (.int .i64 ((rd_T58 l0 t327).f2))).setCell ⟨gb329, 3, none⟩ (.int .i64 ((rd_T58 l0 t327).f3))) = w47 at n0_ n1_ n2_ n3_ ⊢
                    have HO_8 := n0_
                    have HO_9 := n1_
                    have BK329 := n2_
                    have HB := n3_
                    clear n0_ n1_ n2_ n3_
                    replace HO_8 := Aside0.mk (Kd.R_drew HO_8.out)
                    replace HO_9 := Aside0.mk (Kd.R_drew HO_9.out)
                    replace BK329 := Aside0.mk (blk_drew BK329.out)
                    have HBo := HB
                    replace HB := Aside0.mk (below_drew1 HB.out)
                    have p330 : 0 ≤ (x11_3 : Int) := dA
                    have q330 : x11_3 < (t321.length : Int) := dA
                    obtain ⟨ad330, e330, hx330_0⟩ := Kd.at_int (Kd.R_reads' HO_9.out).2.2 x11_3 p330 q330
                    cases e330
                    replace p330 := eq_true p330
                    replace q330 := eq_true q330
                    have p332 : 0 ≤ (t331 : Int) := dA
                    have q332 : t331 < (l0.length : Int) := dA
                    obtain ⟨ad332, e332, hx332_0, hx332_1, hx332_2, hx332_3⟩ := at_T58 HR0.out t331 p332 q332
                    have hw332_3 := hx332_3
                    have hw332_2 := hx332_2
                    have hw332_1 := hx332_1
                    have hw332_0 := hx332_0
                    obtain rfl : ad328 = ad332 := (by injection e332)
                    replace hx332_0 := hC HB hx332_0
                    replace hx332_1 := hC HB hx332_1
                    replace hx332_2 := hC HB hx332_2
                    replace hx332_3 := hC HB hx332_3
                    replace p332 := eq_true p332
                    replace q332 := eq_true q332
                    refine start_ (n := 11) (S := fun w' => w'.cell? ⟨gb329, 0, none⟩ = some (.int .i64 ((rd_T58 l0 t327).f0)) ∧ w'.cell? ⟨gb329, 1, none⟩ = some (.int .i64 ((rd_T58 l0 t327).f1)) ∧ w'.cell? ⟨gb329, 2, none⟩ = some (.int .i64 ((rd_T58 l0 t327).f2)) ∧ w'.cell? ⟨gb329, 3, none⟩ = some (.int .i64 ((rd_T58 l0 t327).f3)) ∧ w'.cell? (ad330.add (x11_3).toNat) = some (.int .i64 (rd t321 x11_3)) ∧ w'.cell? (ad328.add ((t331).toNat * 4)) = some (.int .i64 ((rd_T58 l0 t331).f0)) ∧ w'.cell? ⟨(ad328.add ((t331).toNat * 4)).block, (ad328.add ((t331).toNat * 4)).off + 1, none⟩ = some (.int .i64 ((rd_T58 l0 t331).f1)) ∧ w'.cell? ⟨(ad328.add ((t331).toNat * 4)).block, (ad328.add ((t331).toNat * 4)).off + 2, none⟩ = some (.int .i64 ((rd_T58 l0 t331).f2)) ∧ w'.cell? ⟨(ad328.add ((t331).toNat * 4)).block, (ad328.add ((t331).toNat * 4)).off + 3, none⟩ = some (.int .i64 ((rd_T58 l0 t331).f3))) (ds := []) (mb 11 0) (by kernel_rfl) rfl rfl ⟨(blk_cell BK329.out 0).trans rfl, (blk_cell BK329.out 1).trans rfl, (blk_cell BK329.out 2).trans rfl, (blk_cell BK329.out 3).trans rfl, hx330_0, (hC HB hw332_0), (hC HB hw332_1), (hC HB hw332_2), (hC HB hw332_3)⟩ (fun hHeld => ?_); refine with_tabW spec_ClearBetween.tab11 spec_ClearBetween.bits11 (fun HT_ HW_ => ?_)
                    generalize w47.drew = w48 at HO_8 HO_9 BK329 HB hx330_0 hx332_0 hx332_1 hx332_2 hx332_3 hHeld ⊢
                    refine pA (i := 1) (N := some 51) (mb 11 2) HT_ ?_
                    refine pA (i := 2) (N := some 52) (mb 11 6) HT_ ?_
                    refine pA (i := 3) (N := some 53) (mb 11 14) HT_ ?_
                    refine pA (i := 4) (N := some 54) (mb 11 30) HT_ ?_
                    refine pA (i := 5) (N := some 55) (mb 11 62) HT_ ?_
                    refine tA9 (i := 0) (N := some 50) (mb 11 63) HT_ HW_ hHeld ?_
                    refine tA9 (i := 6) (N := some 56) (mb 11 127) HT_ HW_ hHeld ?_
                    refine oA (i := 7) (N := some 57) (mb 11 255) HT_ (fun K hK => ?_)
                    refine gA Try.func68 #[.slice (some ad328) l0.length c0, .int .i64 (rd t321 x11_3)] ?_
                    with_reducible refine (spec_FindPath.calls k3 _ _ l0 (rd t321 x11_3) t331 _ ?side1 ?side2 A27.out).mono ?_
                    (case side1 => exact cB HR0)
                    (case side2 => exact HC0.out)
                    rintro e w' ⟨rfl, ⟨nd, rfl⟩⟩
                    refine ⟨_, rfl, ?_⟩
                    refine hK.out _ _ ⟨(blk_cell BK329.out 0).trans rfl, (blk_cell BK329.out 1).trans rfl, (blk_cell BK329.out 2).trans rfl, (blk_cell BK329.out 3).trans rfl, hHeld.2.2.2.2.1, (hC HB hw332_0), (hC HB hw332_1), (hC HB hw332_2), (hC HB hw332_3)⟩ (fun hHeld => ?_)
                    clear hK K
                    refine nA ?_
                    refine pA (i := 8) (N := some 58) (mb 11 511) HT_ ?_
                    refine tA9 (i := 9) (N := some 59) (mb 11 1023) HT_ HW_ hHeld ?_
                    refine oA (i := 10) (N := some 60) (mb 11 2047) HT_ (fun K hK => ?_)
                    refine gA Try.func76 #[.agg #[.int .i64 ((rd_T58 l0 t327).f0), .int .i64 ((rd_T58 l0 t327).f1), .int .i64 ((rd_T58 l0 t327).f2), .int .i64 ((rd_T58 l0 t327).f3)], .agg #[.int .i64 ((rd_T58 l0 t331).f0), .int .i64 ((rd_T58 l0 t331).f1), .int .i64 ((rd_T58 l0 t331).f2), .int .i64 ((rd_T58 l0 t331).f3)]] ?_
                    with_reducible refine (spec_Conflict.calls k3 ((rd_T58 l0 t327).f0) ((rd_T58 l0 t327).f1) ((rd_T58 l0 t327).f2) ((rd_T58 l0 t327).f3) ((rd_T58 l0 t331).f0) ((rd_T58 l0 t331).f1) ((rd_T58 l0 t331).f2) ((rd_T58 l0 t331).f3) false _ A30.out).mono ?_
                    rintro e w49 ⟨rfl, hb⟩
                    have HS4_ := (hb.cell (World.block_lt_of_cell? _ _ (hHeld.2.2.2.2.1))).trans (hHeld.2.2.2.2.1)
                    refine ⟨_, rfl, ?_⟩
                    replace HO_8 := Aside0.mk (Kd.R_below (rK HO_8) hb)
                    replace HO_9 := Aside0.mk (Kd.R_below (rK HO_9) hb)
                    replace BK329 := Aside0.mk (blk_below (g := gb329) (bK BK329) hb)
                    replace HB := Aside0.mk (below_step bG hb)
                    (try clear hb)
                    (try clear hb2)
                    (try clear hk)
                    (try clear hi)
                    refine hK.out _ _ ⟨(blk_cell BK329.out 0).trans rfl, (blk_cell BK329.out 1).trans rfl, (blk_cell BK329.out 2).trans rfl, (blk_cell BK329.out 3).trans rfl, HS4_, (hC HB hw332_0), (hC HB hw332_1), (hC HB hw332_2), (hC HB hw332_3)⟩ (fun hHeld => ?_)
                    clear hK K
                    refine nA ?_
                    refine eA HT_ ?_
                    try go_wp2
                    go_roundg k3
                    case measure => have := HK1.out; have := HJ7.out; have := HK3.out; omega
                    case rel => exact ⟨(x7_3), (wrap64 (x11_3 + 1)), rS, rS, H', ⟨by have := HK1.out; have := HJ7.out; have := HK3.out; omega⟩, ⟨rK HO_8⟩, ⟨rK HO_9⟩, ⟨bG⟩⟩
                · rw [if_neg c20] at H
                  have c20b0 : decide (x11_3 < (t321.length : Int)) = false := decide_eq_false c20
                  clear c20
                  have H' := Aside0.mk H
                  clear H
                  obtain ⟨Ao50, co50, eo50⟩ := Kd.R_slice HO_9.out
                  subst eo50
                  go_wp2
                  go_roundg k3
                  case measure => have := HK1.out; have := HJ7.out; have := HK3.out; omega
                  case rel => exact ⟨(x7_3), (wrap64 (x10_1 + 1)), rS, rS, H', ⟨by have := HK1.out; have := HJ7.out; have := HK3.out; omega⟩, ⟨rK HO_8⟩, ⟨rK HO_9⟩, ⟨bA⟩⟩
          · replace c19 := Bool.eq_false_iff.mpr c19
            subst c19
            have H1 : (some x7_1) = some r := by rw [if_neg (show ¬ (false = true) by decide)] at H; exact H
            clear H
            have H := H1
            clear H1
            obtain rfl := Option.some.inj H
            go_wp2
            go_ret
            exact ⟨rA, bA⟩

end Go.Proofs.Ytbpnbflfpgakmaa.P
