/- Printed by myprint.py (wip/tools) over the kit's print: what Go's functions compute, and that they do. Lean checks it. -/
import Derived.Test.YtimmadeghcghoaaF0
import Derived.Test.YtimmadeghcghoaaFX00
namespace Go.Proofs.Ytimmadeghcghoaa.P
open Go.RowKit Go.Proofs.YtimmadeghcghoaaW.PrintWords Go.Proofs.YtimmadeghcghoaaW.PrintLast Go.Proofs.YtimmadeghcghoaaW.PrintMore Go.Proofs.Ytimmadeghcghoaa.Sq
attribute [local go_sem] max2_int min2_int max_two min_two max_three min_three max_four min_four
set_option linter.unusedVariables false
set_option linter.unusedSimpArgs false

/-! ### laws_szPathS: function 31 -/
def laws_szPathS.f (l0 : List (S92)) (a1 : Int) : Option (Int) := if (wrap64 (a1 - (l0.length : Int))) < 0 then (some (-1)) else (some (wrap64 (a1 - (l0.length : Int))))
set_option maxHeartbeats 8000000 in
set_option maxRecDepth 100000 in
theorem laws_szPathS.calls (A0 : Option Addr) (c0 : Nat) (l0 : List (S92)) (a1 : Int) (r : Int) (w : World) (hr0 : Kd.C k92 w A0 l0.length l0) (hc0 : l0.length ≤ c0) (h : laws_szPathS.f l0 a1 = some r) :
  Calls Try.prog 31 #[.slice A0 l0.length c0, .int .i64 a1] w fun e w' => e = .returned (.int .i64 r) ∧ Drawn0 w w' := by
 have HR0 := Aside0.mk hr0
 have HC0 := Aside0.mk hc0
 clear hr0 hc0
 have H : (if (wrap64 (a1 - (l0.length : Int))) < 0 then (some (-1)) else (some (wrap64 (a1 - (l0.length : Int))))) = some r := h
 clear h
 by_cases c3 : (wrap64 (a1 - (l0.length : Int))) < 0
 ·
  rw [if_pos c3] at H
  have c3b0 : decide ((wrap64 (a1 - (l0.length : Int))) < 0) = true := decide_eq_true c3
  clear c3
  obtain rfl := Option.some.inj H
  go_enter Try.func31, Try.ntmps31
  go_wp2
  go_ret
  exact ⟨by first | rfl | (simp; done) | (simp [*]; done), by repeat (first | exact Drawn0.refl _ | apply Drawn0.step)⟩
 ·
  rw [if_neg c3] at H
  have c3b0 : decide ((wrap64 (a1 - (l0.length : Int))) < 0) = false := decide_eq_false c3
  clear c3
  obtain rfl := Option.some.inj H
  go_enter Try.func31, Try.ntmps31
  go_wp2
  go_ret
  exact ⟨by first | rfl | (simp; done) | (simp [*]; done), by repeat (first | exact Drawn0.refl _ | apply Drawn0.step)⟩

/-! ### laws_toPath: function 81 -/
def laws_toPath.f (a0_0 : Int) (a0_1 : Int) (a0_2 : Int) (a0_3 : Int) : Option (Int × Int × Int × Int) := some (a0_0, a0_1, a0_2, a0_3)
set_option maxHeartbeats 8000000 in
set_option maxRecDepth 100000 in
theorem laws_toPath.calls (a0_0 : Int) (a0_1 : Int) (a0_2 : Int) (a0_3 : Int) (r1 : Int) (r2 : Int) (r3 : Int) (r4 : Int) (w : World) (h : laws_toPath.f a0_0 a0_1 a0_2 a0_3 = some (r1, r2, r3, r4)) :
  Calls Try.prog 81 #[.agg #[.int .i64 a0_0, .int .i64 a0_1, .int .i64 a0_2, .int .i64 a0_3]] w fun e w' => e = .returned (.agg #[.int .i64 r1, .int .i64 r2, .int .i64 r3, .int .i64 r4]) ∧ Below w.heap.size w w' := by
 have hu92 := Try.underlying92
 have hu90 := Try.underlying90
 have HB := Aside0.mk (Below.refl w.heap.size w)
 have H : (some (a0_0, a0_1, a0_2, a0_3)) = some (r1, r2, r3, r4) := h
 clear h
 simp only [Option.some.injEq, Prod.mk.injEq] at H
 obtain ⟨rfl, rfl, rfl, rfl⟩ := H
 go_enter Try.func81, Try.ntmps81
 go_wp2_with (first | ((with_reducible refine gate_dst (N := 1) rfl ?_); refine bE (N := 1) (cs := #[.int .i64 a0_0, .int .i64 a0_1, .int .i64 a0_2, .int .i64 a0_3]) (t := 92) ?_; intro gb199 hg w2 hbox hb; have n0_ := Aside0.mk (below_step bA hb); have n1_ := Aside0.mk (hbox); have n2_ := Aside0.mk ((by rw [hg]; exact (below_size bA) : w.heap.size ≤ gb199)); have n3_ := Aside0.mk ((by rw [hg]; exact (below_size bA) : w.heap.size ≤ gb199)); clear HB; have HB := n0_; have BK199 := n1_; have GW199 := n2_; have GE199 := n3_; clear n0_ n1_ n2_ n3_; clear hb hbox hg) | ((with_reducible refine gate_dst (N := 2) rfl ?_); refine bE (N := 2) (cs := #[.int .i64 0, .int .i64 0, .int .i64 0, .int .i64 0]) (t := 90) ?_; intro gb200 hg w3 hbox hb; have n0_ := Aside0.mk (blk_below (g := gb199) (bK BK199) hb); have n1_ := Aside0.mk (below_step bG hb); have n2_ := Aside0.mk (hbox); have n3_ := Aside0.mk ((by rw [hg]; exact (below_size bG) : w.heap.size ≤ gb200)); have n4_ := Aside0.mk ((by rw [hg]; exact (below_size bG) : w.heap.size ≤ gb200)); have n5_ := Aside0.mk ((by rw [hg]; exact Nat.ne_of_lt (blk_lt (g := gb199) (o := .cells #[.int .i64 a0_0, .int .i64 a0_1, .int .i64 a0_2, .int .i64 a0_3] 92 (0, 0)) (bK BK199)) : gb199 ≠ gb200)); have n6_ := Aside0.mk ((by rw [hg]; exact Nat.ne_of_gt (blk_lt (g := gb199) (o := .cells #[.int .i64 a0_0, .int .i64 a0_1, .int .i64 a0_2, .int .i64 a0_3] 92 (0, 0)) (bK BK199)) : gb200 ≠ gb199)); clear BK199; clear HB; have BK199 := n0_; have HB := n1_; have BK200 := n2_; have GW200 := n3_; have GE200 := n4_; have NB199_200 := n5_; have NB200_199 := n6_; clear n0_ n1_ n2_ n3_ n4_ n5_ n6_; clear hb hbox hg) | ((with_reducible refine gate_dst (N := 3) rfl ?_); refine bE (N := 3) (cs := #[.int .i64 0, .int .i64 0, .int .i64 0, .int .i64 0]) (t := 90) ?_; intro gb201 hg w4 hbox hb; have n0_ := Aside0.mk (blk_below (g := gb199) (bK BK199) hb); have n1_ := Aside0.mk (blk_below (g := gb200) (bK BK200) hb); have n2_ := Aside0.mk (below_step bG hb); have n3_ := Aside0.mk (hbox); have n4_ := Aside0.mk ((by rw [hg]; exact (below_size bG) : w.heap.size ≤ gb201)); have n5_ := Aside0.mk ((by rw [hg]; exact (below_size bG) : w.heap.size ≤ gb201)); have n6_ := Aside0.mk ((by rw [hg]; exact Nat.ne_of_lt (blk_lt (g := gb199) (o := .cells #[.int .i64 a0_0, .int .i64 a0_1, .int .i64 a0_2, .int .i64 a0_3] 92 (0, 0)) (bK BK199)) : gb199 ≠ gb201)); have n7_ := Aside0.mk ((by rw [hg]; exact Nat.ne_of_gt (blk_lt (g := gb199) (o := .cells #[.int .i64 a0_0, .int .i64 a0_1, .int .i64 a0_2, .int .i64 a0_3] 92 (0, 0)) (bK BK199)) : gb201 ≠ gb199)); have n8_ := Aside0.mk ((by rw [hg]; exact Nat.ne_of_lt (blk_lt (g := gb200) (o := .cells #[.int .i64 0, .int .i64 0, .int .i64 0, .int .i64 0] 90 (0, 0)) (bK BK200)) : gb200 ≠ gb201)); have n9_ := Aside0.mk ((by rw [hg]; exact Nat.ne_of_gt (blk_lt (g := gb200) (o := .cells #[.int .i64 0, .int .i64 0, .int .i64 0, .int .i64 0] 90 (0, 0)) (bK BK200)) : gb201 ≠ gb200)); clear BK199; clear BK200; clear HB; have BK199 := n0_; have BK200 := n1_; have HB := n2_; have BK201 := n3_; have GW201 := n4_; have GE201 := n5_; have NB199_201 := n6_; have NB201_199 := n7_; have NB200_201 := n8_; have NB201_200 := n9_; clear n0_ n1_ n2_ n3_ n4_ n5_ n6_ n7_ n8_ n9_; clear hb hbox hg; have hnb5 := NB199_200.out; have hnc5 := NB200_199.out; have hnb6 := NB199_201.out; have hnc6 := NB201_199.out; obtain ⟨hcz7_0, hcz7_1, hcz7_2, hcz7_3, hfz7_0, hfz7_1, hfz7_2, hfz7_3⟩ := blkc4 BK199; have hnb8 := NB201_200.out; have hnc8 := NB200_201.out; obtain ⟨hcz9_0, hcz9_1, hcz9_2, hcz9_3, hfz9_0, hfz9_1, hfz9_2, hfz9_3⟩ := blkc4 BK201; obtain ⟨hcz10_0, hcz10_1, hcz10_2, hcz10_3, hfz10_0, hfz10_1, hfz10_2, hfz10_3⟩ := blkc4 BK200))
 refine bodyPost_ret (results_cell_row rfl _ _ gb200 90 #[.int .i64 a0_0, .int .i64 a0_1, .int .i64 a0_2, .int .i64 a0_3] (0, 0) _ rfl (by (with_reducible repeat (first | refine blk_drewN ?_ _ | refine blk_drew ?_ | refine blk_alloc ?_ _)); refine blk_put (cs := #[.int .i64 a0_0, .int .i64 a0_1, .int .i64 a0_2, .int .i64 0]) ?_ 3 _ rfl; (with_reducible repeat (first | refine blk_drewN ?_ _ | refine blk_drew ?_ | refine blk_alloc ?_ _)); refine blk_put (cs := #[.int .i64 a0_0, .int .i64 a0_1, .int .i64 0, .int .i64 0]) ?_ 2 _ rfl; (with_reducible repeat (first | refine blk_drewN ?_ _ | refine blk_drew ?_ | refine blk_alloc ?_ _)); refine blk_put (cs := #[.int .i64 a0_0, .int .i64 0, .int .i64 0, .int .i64 0]) ?_ 1 _ rfl; (with_reducible repeat (first | refine blk_drewN ?_ _ | refine blk_drew ?_ | refine blk_alloc ?_ _)); refine blk_put (cs := #[.int .i64 0, .int .i64 0, .int .i64 0, .int .i64 0]) ?_ 0 _ rfl; (with_reducible repeat (first | refine blk_drewN ?_ _ | refine blk_drew ?_ | refine blk_alloc ?_ _)); refine blk_far ?_ NB200_201.out _; (with_reducible repeat (first | refine blk_drewN ?_ _ | refine blk_drew ?_ | refine blk_alloc ?_ _)); refine blk_far ?_ NB200_201.out _; (with_reducible repeat (first | refine blk_drewN ?_ _ | refine blk_drew ?_ | refine blk_alloc ?_ _)); refine blk_far ?_ NB200_201.out _; (with_reducible repeat (first | refine blk_drewN ?_ _ | refine blk_drew ?_ | refine blk_alloc ?_ _)); refine blk_far ?_ NB200_201.out _; (with_reducible repeat (first | refine blk_drewN ?_ _ | refine blk_drew ?_ | refine blk_alloc ?_ _)); exact BK200.out) Try.underlying90 rfl (by kernel_rfl)) rfl ?_
 exact ⟨rA, bG⟩

/-! ### laws_toPathS: function 34 -/
def laws_toPathS.l0 : Nat → List (S92) → List (S90) → Int → Option ((List (S90)))
 | 0, _, _, _ => none
 | k + 1, x0, x3, x4 => if x4 < (x0.length : Int) then (if 0 ≤ x4 then ((laws_toPath.f ((rd_T92 x0 x4).f0) ((rd_T92 x0 x4).f1) ((rd_T92 x0 x4).f2) ((rd_T92 x0 x4).f3)).bind fun bt206 => (if x4 < (x3.length : Int) then (laws_toPathS.l0 k x0 (x3.set (x4 : Int).toNat (⟨bt206.1, bt206.2.1, bt206.2.2.1, bt206.2.2.2⟩ : S90)) (wrap64 (x4 + 1))) else (none))) else (none)) else (some x3)
def laws_toPathS.f (k : Nat) (l0 : List (S92)) : Option ((List (S90))) := if 0 ≤ (l0.length : Int) then (if ((l0.length : Int) : Int).toNat ≤ 8796093022208 then (laws_toPathS.l0 k l0 (List.replicate ((l0.length : Int) : Int).toNat z90) 0) else (none)) else (none)
theorem laws_toPathS.mono_l : ∀ k, (∀ y0 y1 y2, LeO (laws_toPathS.l0 k y0 y1 y2) (laws_toPathS.l0 (k + 1) y0 y1 y2))
 | 0 => fun _ _ _ r h => by simp [laws_toPathS.l0] at h
 | k + 1 => by
  have ih0 := laws_toPathS.mono_l k
  ·
   intro y0 y1 y2
   unfold laws_toPathS.l0
   repeat' first | (with_reducible first | exact LeO.refl _ | exact LeO.none _ | refine LeO.ite ?_ ?_ | refine LeO.bind ?_ (fun _ => ?_) | exact ih0 _ _ _) | exact LeO.none _ | refine LeO.ite ?_ ?_ | refine LeO.bind ?_ (fun _ => ?_) | exact ih0 _ _ _
theorem laws_toPathS.mono : ∀ a0 k, LeO (laws_toPathS.f k a0) (laws_toPathS.f (k + 1) a0) := by
 intro a0 k
 have ih0 := laws_toPathS.mono_l k
 unfold laws_toPathS.f
 repeat' first | (with_reducible first | exact LeO.refl _ | exact LeO.none _ | refine LeO.ite ?_ ?_ | refine LeO.bind ?_ (fun _ => ?_) | exact ih0 _ _ _) | exact LeO.none _ | refine LeO.ite ?_ ?_ | refine LeO.bind ?_ (fun _ => ?_) | exact ih0 _ _ _
set_option maxHeartbeats 8000000 in
set_option maxRecDepth 100000 in
theorem laws_toPathS.calls (k : Nat) (A0 : Option Addr) (c0 : Nat) (l0 : List (S92)) (r : List (S90)) (w : World) (hr0 : Kd.C k92 w A0 l0.length l0) (hc0 : l0.length ≤ c0) (h : laws_toPathS.f k l0 = some r) :
  Calls Try.prog 34 #[.slice A0 l0.length c0] w fun e w' => ∃ v0_ : Value, e = .returned (v0_) ∧ Kd.R k90 90 w' w.heap.size (fun _ => True) v0_ r ∧ Below w.heap.size w w' := by
 have hu92 := Try.underlying92
 have hu90 := Try.underlying90
 have HR0 := Aside0.mk hr0
 have HC0 := Aside0.mk hc0
 clear hr0 hc0
 have HB := Aside0.mk (Below.refl w.heap.size w)
 have H : (if 0 ≤ (l0.length : Int) then (if ((l0.length : Int) : Int).toNat ≤ 8796093022208 then (laws_toPathS.l0 k l0 (List.replicate ((l0.length : Int) : Int).toNat z90) 0) else (none)) else (none)) = some r := h
 clear h
 have c2 : 0 ≤ (l0.length : Int) := ifN H
 replace H := ifT H
 have c2b0 := eq_true c2
 have c2b1 : decide (0 ≤ (l0.length : Int)) = true := decide_eq_true c2
 clear c2
 have c3 : ((l0.length : Int) : Int).toNat ≤ 8796093022208 := ifN H
 replace H := ifT H
 have c3b0 := eq_true c3
 have c3b1 : decide (((l0.length : Int) : Int).toNat ≤ 8796093022208) = true := decide_eq_true c3
 clear c3
 obtain ⟨y202, hy202⟩ : ∃ y_ : List (S90), y_ = (List.replicate ((l0.length : Int) : Int).toNat z90) := ⟨_, rfl⟩
 replace H : (laws_toPathS.l0 k l0 y202 0) = some r := by first | (rw [hy202]; with_reducible exact H) | (have H2_ := (Option.bind_some _ _).symm.trans H; rw [hy202]; with_reducible exact H2_) | (have H2_ := (Option.bind_some _ _).symm.trans H; with_reducible exact H2_) | with_reducible exact H | (rw [hy202]; exact H) | exact H
 have Ny202 := Aside0.mk hy202
 clear hy202
 have H' := Aside0.mk H
 clear H
 go_enter Try.func34, Try.ntmps34
 go_wp2_with (first | ((with_reducible refine gate_dst (N := 7) rfl ?_); refine Kd.R_make k90 _ 90 rfl (N := 7) rfl 43 _ _ rfl (l0.length : Int) rfl rfl Try.underlying43 (.agg #[(.int .i64 0), (.int .i64 0), (.int .i64 0), (.int .i64 0)]) 32 info90 rfl (by decide) (by omega) z90 (ok := fun _ => True) (okp := fun _ => True) (k90_mkM _ _ _ z90 ) (fun _ hk => hk) trivial (dA) (Nat.le_trans (Nat.mul_le_mul_right _ (dA : (l0.length : Int).toNat ≤ 8796093022208)) (by omega)) (Below.refl _ _) (Nat.le_refl _) ?_; intro v203 w4 ho5 hb hg_ hnew_; clear hg_ hnew_; (first | rw [← Ny202.out] at ho5 | (simp only [Int.reduceToNat] at ho5; rw [← Ny202.out] at ho5)); have HO204 := Aside0.mk (Kd.R_lower ho5 (below_size bA)); replace HB := Aside0.mk (below_step bA hb); clear hb ho5))
 go_loopg [4] k (fun kq v4 w' => ∃ (x3_1 : List (S90)) (x4_1 : Int), v4 = .int .i64 x4_1 ∧ Aside0 (laws_toPathS.l0 kq l0 x3_1 x4_1 = some r) ∧ Aside0 (kq ≤ k) ∧ Aside0 (Kd.R k90 90 w' w.heap.size (fun _ => True) v203 x3_1) ∧ Aside0 (Below w.heap.size w w'))
 case atStart => exact ⟨(y202), (0), rS, H', ⟨Nat.le_refl _⟩, ⟨rK HO204⟩, ⟨bA⟩⟩
 case round =>
  clear H'
  try clear c2
  try clear c2b0
  try clear c2b1
  try clear p2
  try clear c3
  try clear c3b0
  try clear c3b1
  obtain ⟨x3_1, x4_1, rfl, HA, HK1, HO_3, HB⟩ := hrel
  cases gk with
  | zero => exact absurd HA.out (by simp [laws_toPathS.l0])
  | succ k1 =>
   have H := HA.out
   clear HA
   simp only [laws_toPathS.l0] at H
   by_cases c6 : x4_1 < (l0.length : Int)
   ·
    rw [if_pos c6] at H
    have c6b0 : decide (x4_1 < (l0.length : Int)) = true := decide_eq_true c6
    clear c6
    have c7 : 0 ≤ x4_1 := ifN H
    replace H := ifT H
    have c7b0 : decide (0 ≤ x4_1) = true := decide_eq_true c7
    clear c7
    obtain ⟨⟨t206, t207, t208, t209⟩, A8, H⟩ := bindE H
    try dsimp only at H
    have c9 : x4_1 < (x3_1.length : Int) := ifN H
    replace H := ifT H
    have c9b0 : decide (x4_1 < (x3_1.length : Int)) = true := decide_eq_true c9
    clear c9
    obtain ⟨y210, hy210⟩ : ∃ y_ : List (S90), y_ = (x3_1.set (x4_1 : Int).toNat (⟨t206, t207, t208, t209⟩ : S90)) := ⟨_, rfl⟩
    replace H : (laws_toPathS.l0 k1 l0 y210 (wrap64 (x4_1 + 1))) = some r := by first | (rw [hy210]; with_reducible exact H) | (have H2_ := (Option.bind_some _ _).symm.trans H; rw [hy210]; with_reducible exact H2_) | (have H2_ := (Option.bind_some _ _).symm.trans H; with_reducible exact H2_) | with_reducible exact H | (rw [hy210]; exact H) | exact H
    have Ny210 := Aside0.mk hy210
    clear hy210
    have H' := Aside0.mk H
    clear H
    have p205 : 0 ≤ (x4_1 : Int) := dA
    have q205 : x4_1 < (l0.length : Int) := dA
    obtain ⟨ad205, e205, hx205_0, hx205_1, hx205_2, hx205_3⟩ := at_T92 HR0.out x4_1 p205 q205
    cases e205
    replace hx205_0 := hC HB hx205_0
    replace hx205_1 := hC HB hx205_1
    replace hx205_2 := hC HB hx205_2
    replace hx205_3 := hC HB hx205_3
    replace p205 := eq_true p205
    replace q205 := eq_true q205
    go_wp2_with (first | ((with_reducible refine gate_callee (f := 81) rfl ?_); refine gL (some 20) Try.func81 #[.agg #[.int .i64 ((rd_T92 l0 x4_1).f0), .int .i64 ((rd_T92 l0 x4_1).f1), .int .i64 ((rd_T92 l0 x4_1).f2), .int .i64 ((rd_T92 l0 x4_1).f3)]] ?_; (with_reducible refine (laws_toPath.calls ((rd_T92 l0 x4_1).f0) ((rd_T92 l0 x4_1).f1) ((rd_T92 l0 x4_1).f2) ((rd_T92 l0 x4_1).f3) t206 t207 t208 t209 _ A8.out).mono ?_); rintro e w11 ⟨rfl, hb⟩; refine ⟨_, rfl, ?_⟩; replace HO_3 := Aside0.mk (Kd.R_below (rK HO_3) hb); replace HB := Aside0.mk (below_step bA hb); (try clear hb); (try clear hb2); (try clear hk); (try clear hi); have p10 : 0 ≤ (x4_1 : Int) := dA; have q10 : (x4_1 : Int) < ((x3_1.length : Int) : Int) := dA; obtain ⟨go10, co10, eo10, gb10, gl10, cl10, HG10⟩ := Kd.R_form HO_3.out (by omega); (first | cases eo10 | (injection eo10 with ea_ en_ ec_; (first | subst ea_ | (injection ea_ with ea_; subst ea_)); subst ec_; clear en_)); have GB10 := Aside0.mk gb10; have GG10 := Aside0.mk HG10; clear gb10 gl10 HG10; obtain ⟨ce10, hcl10, hM10, hcc10, hfr10⟩ := Kd.R_elem HO_3.out z90 (x4_1 : Int) p10 q10; obtain rfl := k90_openM hM10; have hx10_0 : w11.cell? ⟨go10, (x4_1 : Int).toNat * 4, none⟩ = some (.int .i64 ((rd_T90 x3_1 x4_1).f0)) := hcc10 0 _ rfl; have hx10_1 : w11.cell? ⟨go10, (x4_1 : Int).toNat * 4 + 1, none⟩ = some (.int .i64 ((rd_T90 x3_1 x4_1).f1)) := hcc10 1 _ rfl; have hx10_2 : w11.cell? ⟨go10, (x4_1 : Int).toNat * 4 + 2, none⟩ = some (.int .i64 ((rd_T90 x3_1 x4_1).f2)) := hcc10 2 _ rfl; have hx10_3 : w11.cell? ⟨go10, (x4_1 : Int).toNat * 4 + 3, none⟩ = some (.int .i64 ((rd_T90 x3_1 x4_1).f3)) := hcc10 3 _ rfl; have hf10_0 : w11.frozen? ⟨go10, (x4_1 : Int).toNat * 4, none⟩ = false := hfr10 0; have hf10_1 : w11.frozen? ⟨go10, (x4_1 : Int).toNat * 4 + 1, none⟩ = false := hfr10 1; have hf10_2 : w11.frozen? ⟨go10, (x4_1 : Int).toNat * 4 + 2, none⟩ = false := hfr10 2; have hf10_3 : w11.frozen? ⟨go10, (x4_1 : Int).toNat * 4 + 3, none⟩ = false := hfr10 3; clear hcl10 hcc10 hfr10 hM10; replace p10 := eq_true p10; replace q10 := eq_true q10; have HX12 := Aside0.mk (show Kd.R k90 90 w11 w.heap.size (fun _ => True) (.slice (some ⟨go10, 0, none⟩) x3_1.length co10) x3_1 from (rK HO_3)); obtain ⟨ce12, hcl12, hM12, hcc12, hfr12⟩ := Kd.R_elem HX12.out z90 (x4_1 : Int) (dA) (by have h_ : (x4_1 : Int) < ((x3_1.length : Int) : Int) := dA; first | exact h_ | (have e_ := (Kd.R_reads' HO_3.out).1; omega) | simpa using h_); obtain rfl := k90_openM hM12; have HP12 := Kd.R_seg HX12.out (x4_1 : Int) (dA) (by have h_ : (x4_1 : Int) < ((x3_1.length : Int) : Int) := dA; first | exact h_ | (have e_ := (Kd.R_reads' HO_3.out).1; omega) | simpa using h_) (seg := [.int .i64 t206, .int .i64 t207, .int .i64 t208, .int .i64 t209]) (j := 0) hcl12 hcc12 (show 4 ≤ 4 from by decide) (x' := (⟨t206, t207, t208, t209⟩ : S90)) (k90_mkM _ _ _ (⟨t206, t207, t208, t209⟩ : S90) ) (fun _ hk => hk); have hx12_0 := hcc12 0 _ rfl; (try simp only [show (k90).sz = 4 from rfl, Nat.mul_one, Nat.add_zero] at hx12_0); have hf12_0 := hfr12 0; (try simp only [show (k90).sz = 4 from rfl, Nat.mul_one, Nat.add_zero] at hf12_0); have hx12_1 := hcc12 1 _ rfl; (try simp only [show (k90).sz = 4 from rfl, Nat.mul_one, Nat.add_zero] at hx12_1); have hf12_1 := hfr12 1; (try simp only [show (k90).sz = 4 from rfl, Nat.mul_one, Nat.add_zero] at hf12_1); have hx12_2 := hcc12 2 _ rfl; (try simp only [show (k90).sz = 4 from rfl, Nat.mul_one, Nat.add_zero] at hx12_2); have hf12_2 := hfr12 2; (try simp only [show (k90).sz = 4 from rfl, Nat.mul_one, Nat.add_zero] at hf12_2); have hx12_3 := hcc12 3 _ rfl; (try simp only [show (k90).sz = 4 from rfl, Nat.mul_one, Nat.add_zero] at hx12_3); have hf12_3 := hfr12 3; (try simp only [show (k90).sz = 4 from rfl, Nat.mul_one, Nat.add_zero] at hf12_3); clear hcl12 hcc12 hfr12 hM12) | ((with_reducible refine gate_store (t := 90) (p := 21) rfl ?_); refine store_event (t := 90) (p := 21) (v := ?vo_w13) (w1 := ((((w11.setCell ⟨go10, (x4_1 : Int).toNat * 4, none⟩ (.int .i64 t206)).setCell ⟨go10, (x4_1 : Int).toNat * 4 + 1, none⟩ (.int .i64 t207)).setCell ⟨go10, (x4_1 : Int).toNat * 4 + 2, none⟩ (.int .i64 t208)).setCell ⟨go10, (x4_1 : Int).toNat * 4 + 3, none⟩ (.int .i64 t209))) ?hg ?ho ?hn ?hr ?_; (case ho => rfl); (case hg => rfl); (case hn => rfl); (case hr => first | (go_simp; done) | (go_simp; rfl)); intro w13 hw; have hg : w11.grownBy w13 (some go10) := (by rw [hw]; exact HP12.2); have hp_ : Kd.R k90 90 w13 w.heap.size (fun _ => True) (.slice (some ⟨go10, 0, none⟩) x3_1.length co10) y210 := (by rw [hw, Ny210.out]; exact HP12.1); clear HP12; have n0_ := Aside0.mk (hp_); have n1_ := Aside0.mk ((by rw [hw]; exact below_set (below_set (below_set (below_set (HB.out) GB10.out) GB10.out) GB10.out) GB10.out : Below w.heap.size w w13)); clear HO_3; clear HB; have HO_3 := n0_; have HB := n1_; clear n0_ n1_; clear hg hw hp_))
    go_roundg k1
    case measure => have := HK1.out; omega
    case rel => exact ⟨(y210), (wrap64 (x4_1 + 1)), rS, H', ⟨by have := HK1.out; omega⟩, ⟨rK HO_3⟩, ⟨bA⟩⟩
   ·
    rw [if_neg c6] at H
    have c6b0 : decide (x4_1 < (l0.length : Int)) = false := decide_eq_false c6
    clear c6
    obtain rfl := Option.some.inj H
    go_wp2
    go_ret
    exact ⟨_, by first | rfl | (simp [errW_none, errW_some] <;> rfl) | (simp [*, errW_none, errW_some] <;> rfl), by (with_reducible repeat (first | apply Kd.R_alloc | apply Kd.R_drewN | apply Kd.R_drew)); exact HO_3.out, bA⟩

/-! ### laws_eqPath: function 85 -/
def laws_eqPath.f (a0_0 : Int) (a0_1 : Int) (a0_2 : Int) (a0_3 : Int) (a1_0 : Int) (a1_1 : Int) (a1_2 : Int) (a1_3 : Int) : Option (Bool) := if a0_0 = a1_0 then (if a0_1 = a1_1 then (if a0_2 = a1_2 then (if a0_3 = a1_3 then (some true) else (some false)) else (some false)) else (some false)) else (some false)
set_option maxHeartbeats 8000000 in
set_option maxRecDepth 100000 in
theorem laws_eqPath.calls (a0_0 : Int) (a0_1 : Int) (a0_2 : Int) (a0_3 : Int) (a1_0 : Int) (a1_1 : Int) (a1_2 : Int) (a1_3 : Int) (r : Bool) (w : World) (h : laws_eqPath.f a0_0 a0_1 a0_2 a0_3 a1_0 a1_1 a1_2 a1_3 = some r) :
  Calls Try.prog 85 #[.agg #[.int .i64 a0_0, .int .i64 a0_1, .int .i64 a0_2, .int .i64 a0_3], .agg #[.int .i64 a1_0, .int .i64 a1_1, .int .i64 a1_2, .int .i64 a1_3]] w fun e w' => e = .returned (.bool r) ∧ Below w.heap.size w w' := by
 have hu90 := Try.underlying90
 have HB := Aside0.mk (Below.refl w.heap.size w)
 have H : (if a0_0 = a1_0 then (if a0_1 = a1_1 then (if a0_2 = a1_2 then (if a0_3 = a1_3 then (some true) else (some false)) else (some false)) else (some false)) else (some false)) = some r := h
 clear h
 by_cases c3 : a0_0 = a1_0
 ·
  rw [if_pos c3] at H
  have c3b0 : (a0_0 == a1_0) = true := beq_iff_eq.mpr c3
  have c3b1 : (a0_0 != a1_0) = false := bne_eq_false_iff_eq.mpr c3
  clear c3
  by_cases c4 : a0_1 = a1_1
  ·
   rw [if_pos c4] at H
   have c4b0 : (a0_1 == a1_1) = true := beq_iff_eq.mpr c4
   have c4b1 : (a0_1 != a1_1) = false := bne_eq_false_iff_eq.mpr c4
   clear c4
   by_cases c5 : a0_2 = a1_2
   ·
    rw [if_pos c5] at H
    have c5b0 : (a0_2 == a1_2) = true := beq_iff_eq.mpr c5
    have c5b1 : (a0_2 != a1_2) = false := bne_eq_false_iff_eq.mpr c5
    clear c5
    by_cases c6 : a0_3 = a1_3
    ·
     rw [if_pos c6] at H
     have c6b0 : (a0_3 == a1_3) = true := beq_iff_eq.mpr c6
     have c6b1 : (a0_3 != a1_3) = false := bne_eq_false_iff_eq.mpr c6
     clear c6
     obtain rfl := Option.some.inj H
     go_enter Try.func85, Try.ntmps85
     go_wp2_with (first | ((with_reducible refine gate_dst (N := 2) rfl ?_); refine bE (N := 2) (cs := #[.int .i64 a0_0, .int .i64 a0_1, .int .i64 a0_2, .int .i64 a0_3]) (t := 90) ?_; intro gb221 hg w7 hbox hb; have n0_ := Aside0.mk (below_step bA hb); have n1_ := Aside0.mk (hbox); have n2_ := Aside0.mk ((by rw [hg]; exact (below_size bA) : w.heap.size ≤ gb221)); have n3_ := Aside0.mk ((by rw [hg]; exact (below_size bA) : w.heap.size ≤ gb221)); clear HB; have HB := n0_; have BK221 := n1_; have GW221 := n2_; have GE221 := n3_; clear n0_ n1_ n2_ n3_; clear hb hbox hg) | ((with_reducible refine gate_dst (N := 3) rfl ?_); refine bE (N := 3) (cs := #[.int .i64 a1_0, .int .i64 a1_1, .int .i64 a1_2, .int .i64 a1_3]) (t := 90) ?_; intro gb222 hg w8 hbox hb; have n0_ := Aside0.mk (blk_below (g := gb221) (bK BK221) hb); have n1_ := Aside0.mk (below_step bG hb); have n2_ := Aside0.mk (hbox); have n3_ := Aside0.mk ((by rw [hg]; exact (below_size bG) : w.heap.size ≤ gb222)); have n4_ := Aside0.mk ((by rw [hg]; exact (below_size bG) : w.heap.size ≤ gb222)); have n5_ := Aside0.mk ((by rw [hg]; exact Nat.ne_of_lt (blk_lt (g := gb221) (o := .cells #[.int .i64 a0_0, .int .i64 a0_1, .int .i64 a0_2, .int .i64 a0_3] 90 (0, 0)) (bK BK221)) : gb221 ≠ gb222)); have n6_ := Aside0.mk ((by rw [hg]; exact Nat.ne_of_gt (blk_lt (g := gb221) (o := .cells #[.int .i64 a0_0, .int .i64 a0_1, .int .i64 a0_2, .int .i64 a0_3] 90 (0, 0)) (bK BK221)) : gb222 ≠ gb221)); clear BK221; clear HB; have BK221 := n0_; have HB := n1_; have BK222 := n2_; have GW222 := n3_; have GE222 := n4_; have NB221_222 := n5_; have NB222_221 := n6_; clear n0_ n1_ n2_ n3_ n4_ n5_ n6_; clear hb hbox hg; have hnb9 := NB221_222.out; have hnc9 := NB222_221.out; obtain ⟨hcz10_0, hcz10_1, hcz10_2, hcz10_3, hfz10_0, hfz10_1, hfz10_2, hfz10_3⟩ := blkc4 BK221; obtain ⟨hcz11_0, hcz11_1, hcz11_2, hcz11_3, hfz11_0, hfz11_1, hfz11_2, hfz11_3⟩ := blkc4 BK222))
     go_ret
     exact ⟨rA, bG⟩
    ·
     rw [if_neg c6] at H
     have c6b0 : (a0_3 == a1_3) = false := beq_eq_false_iff_ne.mpr c6
     have c6b1 : (a0_3 != a1_3) = true := bne_iff_ne.mpr c6
     obtain rfl := Option.some.inj H
     go_enter Try.func85, Try.ntmps85
     go_wp2_with (first | ((with_reducible refine gate_dst (N := 2) rfl ?_); refine bE (N := 2) (cs := #[.int .i64 a0_0, .int .i64 a0_1, .int .i64 a0_2, .int .i64 a0_3]) (t := 90) ?_; intro gb221 hg w12 hbox hb; have n0_ := Aside0.mk (below_step bA hb); have n1_ := Aside0.mk (hbox); have n2_ := Aside0.mk ((by rw [hg]; exact (below_size bA) : w.heap.size ≤ gb221)); have n3_ := Aside0.mk ((by rw [hg]; exact (below_size bA) : w.heap.size ≤ gb221)); clear HB; have HB := n0_; have BK221 := n1_; have GW221 := n2_; have GE221 := n3_; clear n0_ n1_ n2_ n3_; clear hb hbox hg) | ((with_reducible refine gate_dst (N := 3) rfl ?_); refine bE (N := 3) (cs := #[.int .i64 a1_0, .int .i64 a1_1, .int .i64 a1_2, .int .i64 a1_3]) (t := 90) ?_; intro gb222 hg w13 hbox hb; have n0_ := Aside0.mk (blk_below (g := gb221) (bK BK221) hb); have n1_ := Aside0.mk (below_step bG hb); have n2_ := Aside0.mk (hbox); have n3_ := Aside0.mk ((by rw [hg]; exact (below_size bG) : w.heap.size ≤ gb222)); have n4_ := Aside0.mk ((by rw [hg]; exact (below_size bG) : w.heap.size ≤ gb222)); have n5_ := Aside0.mk ((by rw [hg]; exact Nat.ne_of_lt (blk_lt (g := gb221) (o := .cells #[.int .i64 a0_0, .int .i64 a0_1, .int .i64 a0_2, .int .i64 a0_3] 90 (0, 0)) (bK BK221)) : gb221 ≠ gb222)); have n6_ := Aside0.mk ((by rw [hg]; exact Nat.ne_of_gt (blk_lt (g := gb221) (o := .cells #[.int .i64 a0_0, .int .i64 a0_1, .int .i64 a0_2, .int .i64 a0_3] 90 (0, 0)) (bK BK221)) : gb222 ≠ gb221)); clear BK221; clear HB; have BK221 := n0_; have HB := n1_; have BK222 := n2_; have GW222 := n3_; have GE222 := n4_; have NB221_222 := n5_; have NB222_221 := n6_; clear n0_ n1_ n2_ n3_ n4_ n5_ n6_; clear hb hbox hg; have hnb14 := NB221_222.out; have hnc14 := NB222_221.out; obtain ⟨hcz15_0, hcz15_1, hcz15_2, hcz15_3, hfz15_0, hfz15_1, hfz15_2, hfz15_3⟩ := blkc4 BK221; obtain ⟨hcz16_0, hcz16_1, hcz16_2, hcz16_3, hfz16_0, hfz16_1, hfz16_2, hfz16_3⟩ := blkc4 BK222))
     go_ret
     exact ⟨rA, bG⟩
   ·
    rw [if_neg c5] at H
    have c5b0 : (a0_2 == a1_2) = false := beq_eq_false_iff_ne.mpr c5
    have c5b1 : (a0_2 != a1_2) = true := bne_iff_ne.mpr c5
    obtain rfl := Option.some.inj H
    go_enter Try.func85, Try.ntmps85
    go_wp2_with (first | ((with_reducible refine gate_dst (N := 2) rfl ?_); refine bE (N := 2) (cs := #[.int .i64 a0_0, .int .i64 a0_1, .int .i64 a0_2, .int .i64 a0_3]) (t := 90) ?_; intro gb221 hg w17 hbox hb; have n0_ := Aside0.mk (below_step bA hb); have n1_ := Aside0.mk (hbox); have n2_ := Aside0.mk ((by rw [hg]; exact (below_size bA) : w.heap.size ≤ gb221)); have n3_ := Aside0.mk ((by rw [hg]; exact (below_size bA) : w.heap.size ≤ gb221)); clear HB; have HB := n0_; have BK221 := n1_; have GW221 := n2_; have GE221 := n3_; clear n0_ n1_ n2_ n3_; clear hb hbox hg) | ((with_reducible refine gate_dst (N := 3) rfl ?_); refine bE (N := 3) (cs := #[.int .i64 a1_0, .int .i64 a1_1, .int .i64 a1_2, .int .i64 a1_3]) (t := 90) ?_; intro gb222 hg w18 hbox hb; have n0_ := Aside0.mk (blk_below (g := gb221) (bK BK221) hb); have n1_ := Aside0.mk (below_step bG hb); have n2_ := Aside0.mk (hbox); have n3_ := Aside0.mk ((by rw [hg]; exact (below_size bG) : w.heap.size ≤ gb222)); have n4_ := Aside0.mk ((by rw [hg]; exact (below_size bG) : w.heap.size ≤ gb222)); have n5_ := Aside0.mk ((by rw [hg]; exact Nat.ne_of_lt (blk_lt (g := gb221) (o := .cells #[.int .i64 a0_0, .int .i64 a0_1, .int .i64 a0_2, .int .i64 a0_3] 90 (0, 0)) (bK BK221)) : gb221 ≠ gb222)); have n6_ := Aside0.mk ((by rw [hg]; exact Nat.ne_of_gt (blk_lt (g := gb221) (o := .cells #[.int .i64 a0_0, .int .i64 a0_1, .int .i64 a0_2, .int .i64 a0_3] 90 (0, 0)) (bK BK221)) : gb222 ≠ gb221)); clear BK221; clear HB; have BK221 := n0_; have HB := n1_; have BK222 := n2_; have GW222 := n3_; have GE222 := n4_; have NB221_222 := n5_; have NB222_221 := n6_; clear n0_ n1_ n2_ n3_ n4_ n5_ n6_; clear hb hbox hg; have hnb19 := NB221_222.out; have hnc19 := NB222_221.out; obtain ⟨hcz20_0, hcz20_1, hcz20_2, hcz20_3, hfz20_0, hfz20_1, hfz20_2, hfz20_3⟩ := blkc4 BK221; obtain ⟨hcz21_0, hcz21_1, hcz21_2, hcz21_3, hfz21_0, hfz21_1, hfz21_2, hfz21_3⟩ := blkc4 BK222))
    go_ret
    exact ⟨rA, bG⟩
  ·
   rw [if_neg c4] at H
   have c4b0 : (a0_1 == a1_1) = false := beq_eq_false_iff_ne.mpr c4
   have c4b1 : (a0_1 != a1_1) = true := bne_iff_ne.mpr c4
   obtain rfl := Option.some.inj H
   go_enter Try.func85, Try.ntmps85
   go_wp2_with (first | ((with_reducible refine gate_dst (N := 2) rfl ?_); refine bE (N := 2) (cs := #[.int .i64 a0_0, .int .i64 a0_1, .int .i64 a0_2, .int .i64 a0_3]) (t := 90) ?_; intro gb221 hg w22 hbox hb; have n0_ := Aside0.mk (below_step bA hb); have n1_ := Aside0.mk (hbox); have n2_ := Aside0.mk ((by rw [hg]; exact (below_size bA) : w.heap.size ≤ gb221)); have n3_ := Aside0.mk ((by rw [hg]; exact (below_size bA) : w.heap.size ≤ gb221)); clear HB; have HB := n0_; have BK221 := n1_; have GW221 := n2_; have GE221 := n3_; clear n0_ n1_ n2_ n3_; clear hb hbox hg) | ((with_reducible refine gate_dst (N := 3) rfl ?_); refine bE (N := 3) (cs := #[.int .i64 a1_0, .int .i64 a1_1, .int .i64 a1_2, .int .i64 a1_3]) (t := 90) ?_; intro gb222 hg w23 hbox hb; have n0_ := Aside0.mk (blk_below (g := gb221) (bK BK221) hb); have n1_ := Aside0.mk (below_step bG hb); have n2_ := Aside0.mk (hbox); have n3_ := Aside0.mk ((by rw [hg]; exact (below_size bG) : w.heap.size ≤ gb222)); have n4_ := Aside0.mk ((by rw [hg]; exact (below_size bG) : w.heap.size ≤ gb222)); have n5_ := Aside0.mk ((by rw [hg]; exact Nat.ne_of_lt (blk_lt (g := gb221) (o := .cells #[.int .i64 a0_0, .int .i64 a0_1, .int .i64 a0_2, .int .i64 a0_3] 90 (0, 0)) (bK BK221)) : gb221 ≠ gb222)); have n6_ := Aside0.mk ((by rw [hg]; exact Nat.ne_of_gt (blk_lt (g := gb221) (o := .cells #[.int .i64 a0_0, .int .i64 a0_1, .int .i64 a0_2, .int .i64 a0_3] 90 (0, 0)) (bK BK221)) : gb222 ≠ gb221)); clear BK221; clear HB; have BK221 := n0_; have HB := n1_; have BK222 := n2_; have GW222 := n3_; have GE222 := n4_; have NB221_222 := n5_; have NB222_221 := n6_; clear n0_ n1_ n2_ n3_ n4_ n5_ n6_; clear hb hbox hg; have hnb24 := NB221_222.out; have hnc24 := NB222_221.out; obtain ⟨hcz25_0, hcz25_1, hcz25_2, hcz25_3, hfz25_0, hfz25_1, hfz25_2, hfz25_3⟩ := blkc4 BK221; obtain ⟨hcz26_0, hcz26_1, hcz26_2, hcz26_3, hfz26_0, hfz26_1, hfz26_2, hfz26_3⟩ := blkc4 BK222))
   go_ret
   exact ⟨rA, bG⟩
 ·
  rw [if_neg c3] at H
  have c3b0 : (a0_0 == a1_0) = false := beq_eq_false_iff_ne.mpr c3
  have c3b1 : (a0_0 != a1_0) = true := bne_iff_ne.mpr c3
  obtain rfl := Option.some.inj H
  go_enter Try.func85, Try.ntmps85
  go_wp2_with (first | ((with_reducible refine gate_dst (N := 2) rfl ?_); refine bE (N := 2) (cs := #[.int .i64 a0_0, .int .i64 a0_1, .int .i64 a0_2, .int .i64 a0_3]) (t := 90) ?_; intro gb221 hg w27 hbox hb; have n0_ := Aside0.mk (below_step bA hb); have n1_ := Aside0.mk (hbox); have n2_ := Aside0.mk ((by rw [hg]; exact (below_size bA) : w.heap.size ≤ gb221)); have n3_ := Aside0.mk ((by rw [hg]; exact (below_size bA) : w.heap.size ≤ gb221)); clear HB; have HB := n0_; have BK221 := n1_; have GW221 := n2_; have GE221 := n3_; clear n0_ n1_ n2_ n3_; clear hb hbox hg) | ((with_reducible refine gate_dst (N := 3) rfl ?_); refine bE (N := 3) (cs := #[.int .i64 a1_0, .int .i64 a1_1, .int .i64 a1_2, .int .i64 a1_3]) (t := 90) ?_; intro gb222 hg w28 hbox hb; have n0_ := Aside0.mk (blk_below (g := gb221) (bK BK221) hb); have n1_ := Aside0.mk (below_step bG hb); have n2_ := Aside0.mk (hbox); have n3_ := Aside0.mk ((by rw [hg]; exact (below_size bG) : w.heap.size ≤ gb222)); have n4_ := Aside0.mk ((by rw [hg]; exact (below_size bG) : w.heap.size ≤ gb222)); have n5_ := Aside0.mk ((by rw [hg]; exact Nat.ne_of_lt (blk_lt (g := gb221) (o := .cells #[.int .i64 a0_0, .int .i64 a0_1, .int .i64 a0_2, .int .i64 a0_3] 90 (0, 0)) (bK BK221)) : gb221 ≠ gb222)); have n6_ := Aside0.mk ((by rw [hg]; exact Nat.ne_of_gt (blk_lt (g := gb221) (o := .cells #[.int .i64 a0_0, .int .i64 a0_1, .int .i64 a0_2, .int .i64 a0_3] 90 (0, 0)) (bK BK221)) : gb222 ≠ gb221)); clear BK221; clear HB; have BK221 := n0_; have HB := n1_; have BK222 := n2_; have GW222 := n3_; have GE222 := n4_; have NB221_222 := n5_; have NB222_221 := n6_; clear n0_ n1_ n2_ n3_ n4_ n5_ n6_; clear hb hbox hg; have hnb29 := NB221_222.out; have hnc29 := NB222_221.out; obtain ⟨hcz30_0, hcz30_1, hcz30_2, hcz30_3, hfz30_0, hfz30_1, hfz30_2, hfz30_3⟩ := blkc4 BK221; obtain ⟨hcz31_0, hcz31_1, hcz31_2, hcz31_3, hfz31_0, hfz31_1, hfz31_2, hfz31_3⟩ := blkc4 BK222))
  go_ret
  exact ⟨rA, bG⟩

/-! ### laws_eqPathS: function 37 -/
def laws_eqPathS.l0 : Nat → List (S90) → List (S90) → Int → Option (Bool)
 | 0, _, _, _ => none
 | k + 1, x0, x1, x5 => if x5 < (x0.length : Int) then (if 0 ≤ x5 then (if x5 < (x1.length : Int) then ((laws_eqPath.f ((rd_T90 x0 x5).f0) ((rd_T90 x0 x5).f1) ((rd_T90 x0 x5).f2) ((rd_T90 x0 x5).f3) ((rd_T90 x1 x5).f0) ((rd_T90 x1 x5).f1) ((rd_T90 x1 x5).f2) ((rd_T90 x1 x5).f3)).bind fun t225 => (if t225 = true then (laws_eqPathS.l0 k x0 x1 (wrap64 (x5 + 1))) else (some false))) else (none)) else (none)) else (some true)
def laws_eqPathS.f (k : Nat) (l0 : List (S90)) (l1 : List (S90)) : Option (Bool) := if (l0.length : Int) = (l1.length : Int) then (laws_eqPathS.l0 k l0 l1 0) else (some false)
theorem laws_eqPathS.mono_l : ∀ k, (∀ y0 y1 y2, LeO (laws_eqPathS.l0 k y0 y1 y2) (laws_eqPathS.l0 (k + 1) y0 y1 y2))
 | 0 => fun _ _ _ r h => by simp [laws_eqPathS.l0] at h
 | k + 1 => by
  have ih0 := laws_eqPathS.mono_l k
  ·
   intro y0 y1 y2
   unfold laws_eqPathS.l0
   repeat' first | (with_reducible first | exact LeO.refl _ | exact LeO.none _ | refine LeO.ite ?_ ?_ | refine LeO.bind ?_ (fun _ => ?_) | exact ih0 _ _ _) | exact LeO.none _ | refine LeO.ite ?_ ?_ | refine LeO.bind ?_ (fun _ => ?_) | exact ih0 _ _ _
theorem laws_eqPathS.mono : ∀ a0 a1 k, LeO (laws_eqPathS.f k a0 a1) (laws_eqPathS.f (k + 1) a0 a1) := by
 intro a0 a1 k
 have ih0 := laws_eqPathS.mono_l k
 unfold laws_eqPathS.f
 repeat' first | (with_reducible first | exact LeO.refl _ | exact LeO.none _ | refine LeO.ite ?_ ?_ | refine LeO.bind ?_ (fun _ => ?_) | exact ih0 _ _ _) | exact LeO.none _ | refine LeO.ite ?_ ?_ | refine LeO.bind ?_ (fun _ => ?_) | exact ih0 _ _ _
def laws_eqPathS.T6 : Bool × List (List Nat × List Nat) := (true, [([], []), ([], []), ([0, 1], [0, 1]), ([2], [2]), ([], []), ([], []), ([4, 5], [4, 5]), ([6], [6]), ([3, 7], [3, 7]), ([8], [8])])
def laws_eqPathS.B6 : List Nat := [0, 0, 3, 7, 0, 0, 48, 112, 255, 511]
theorem laws_eqPathS.tab6 : rtab .any (opsOf Try.f37 6) = laws_eqPathS.T6 := by kernel_rfl
theorem laws_eqPathS.bits6 : waitsOk laws_eqPathS.T6.2 laws_eqPathS.B6 = true := by kernel_rfl
set_option maxHeartbeats 8000000 in
set_option maxRecDepth 100000 in
theorem laws_eqPathS.calls (k : Nat) (A0 : Option Addr) (c0 : Nat) (l0 : List (S90)) (A1 : Option Addr) (c1 : Nat) (l1 : List (S90)) (r : Bool) (w : World) (hr0 : Kd.C k90 w A0 l0.length l0) (hc0 : l0.length ≤ c0) (hr1 : Kd.C k90 w A1 l1.length l1) (hc1 : l1.length ≤ c1) (h : laws_eqPathS.f k l0 l1 = some r) :
  Calls Try.prog 37 #[.slice A0 l0.length c0, .slice A1 l1.length c1] w fun e w' => e = .returned (.bool r) ∧ Below w.heap.size w w' := by
 have hu90 := Try.underlying90
 have HR0 := Aside0.mk hr0
 have HC0 := Aside0.mk hc0
 clear hr0 hc0
 have HR1 := Aside0.mk hr1
 have HC1 := Aside0.mk hc1
 clear hr1 hc1
 have HB := Aside0.mk (Below.refl w.heap.size w)
 have H : (if (l0.length : Int) = (l1.length : Int) then (laws_eqPathS.l0 k l0 l1 0) else (some false)) = some r := h
 clear h
 by_cases c3 : (l0.length : Int) = (l1.length : Int)
 ·
  rw [if_pos c3] at H
  have c3b0 : ((l0.length : Int) == (l1.length : Int)) = true := beq_iff_eq.mpr c3
  have c3b1 : ((l0.length : Int) != (l1.length : Int)) = false := bne_eq_false_iff_eq.mpr c3
  have c3b2 : (l0.length == l1.length) = true := by first | simpa using c3 | (simp at c3 ⊢; omega)
  clear c3
  have H' := Aside0.mk H
  clear H
  go_enter Try.func37, Try.ntmps37
  go_wp2
  go_loopg [5] k (fun kq v5 w' => ∃ (x5_1 : Int), v5 = .int .i64 x5_1 ∧ Aside0 (laws_eqPathS.l0 kq l0 l1 x5_1 = some r) ∧ Aside0 (kq ≤ k) ∧ Aside0 (Below w.heap.size w w'))
  case atStart => exact ⟨(0), rS, H', ⟨Nat.le_refl _⟩, ⟨bA⟩⟩
  case round =>
   clear H'
   try clear c1
   try clear p2
   try clear c3
   try clear c3b0
   try clear c3b1
   try clear c3b2
   obtain ⟨x5_1, rfl, HA, HK1, HB⟩ := hrel
   cases gk with
   | zero => exact absurd HA.out (by simp [laws_eqPathS.l0])
   | succ k1 =>
    have H := HA.out
    clear HA
    simp only [laws_eqPathS.l0] at H
    by_cases c4 : x5_1 < (l0.length : Int)
    ·
     rw [if_pos c4] at H
     have c4b0 : decide (x5_1 < (l0.length : Int)) = true := decide_eq_true c4
     clear c4
     have c5 : 0 ≤ x5_1 := ifN H
     replace H := ifT H
     have c5b0 : decide (0 ≤ x5_1) = true := decide_eq_true c5
     clear c5
     have c6 : x5_1 < (l1.length : Int) := ifN H
     replace H := ifT H
     have c6b0 : decide (x5_1 < (l1.length : Int)) = true := decide_eq_true c6
     clear c6
     obtain ⟨t225, A7, H⟩ := bindE H
     try dsimp only at H
     by_cases c8 : t225 = true
     ·
      subst c8
      have H1 : (laws_eqPathS.l0 k1 l0 l1 (wrap64 (x5_1 + 1))) = some r := by rw [if_pos rfl] at H; exact H
      clear H
      have H := H1
      clear H1
      have H' := Aside0.mk H
      clear H
      try go_wp2
      have HBo := HB
      replace HB := Aside0.mk (below_drew1 HB.out)
      have p223 : 0 ≤ (x5_1 : Int) := dA
      have q223 : x5_1 < (l0.length : Int) := dA
      obtain ⟨ad223, e223, hx223_0, hx223_1, hx223_2, hx223_3⟩ := at_T90 HR0.out x5_1 p223 q223
      have hw223_3 := hx223_3
      have hw223_2 := hx223_2
      have hw223_1 := hx223_1
      have hw223_0 := hx223_0
      cases e223
      replace hx223_0 := hC HB hx223_0
      replace hx223_1 := hC HB hx223_1
      replace hx223_2 := hC HB hx223_2
      replace hx223_3 := hC HB hx223_3
      replace p223 := eq_true p223
      replace q223 := eq_true q223
      have p224 : 0 ≤ (x5_1 : Int) := dA
      have q224 : x5_1 < (l1.length : Int) := dA
      obtain ⟨ad224, e224, hx224_0, hx224_1, hx224_2, hx224_3⟩ := at_T90 HR1.out x5_1 p224 q224
      have hw224_3 := hx224_3
      have hw224_2 := hx224_2
      have hw224_1 := hx224_1
      have hw224_0 := hx224_0
      cases e224
      replace hx224_0 := hC HB hx224_0
      replace hx224_1 := hC HB hx224_1
      replace hx224_2 := hC HB hx224_2
      replace hx224_3 := hC HB hx224_3
      replace p224 := eq_true p224
      replace q224 := eq_true q224
      refine start_ (n := 10) (S := fun w' => w'.cell? (ad223.add ((x5_1).toNat * 4)) = some (.int .i64 ((rd_T90 l0 x5_1).f0)) ∧ w'.cell? ⟨(ad223.add ((x5_1).toNat * 4)).block, (ad223.add ((x5_1).toNat * 4)).off + 1, none⟩ = some (.int .i64 ((rd_T90 l0 x5_1).f1)) ∧ w'.cell? ⟨(ad223.add ((x5_1).toNat * 4)).block, (ad223.add ((x5_1).toNat * 4)).off + 2, none⟩ = some (.int .i64 ((rd_T90 l0 x5_1).f2)) ∧ w'.cell? ⟨(ad223.add ((x5_1).toNat * 4)).block, (ad223.add ((x5_1).toNat * 4)).off + 3, none⟩ = some (.int .i64 ((rd_T90 l0 x5_1).f3)) ∧ w'.cell? (ad224.add ((x5_1).toNat * 4)) = some (.int .i64 ((rd_T90 l1 x5_1).f0)) ∧ w'.cell? ⟨(ad224.add ((x5_1).toNat * 4)).block, (ad224.add ((x5_1).toNat * 4)).off + 1, none⟩ = some (.int .i64 ((rd_T90 l1 x5_1).f1)) ∧ w'.cell? ⟨(ad224.add ((x5_1).toNat * 4)).block, (ad224.add ((x5_1).toNat * 4)).off + 2, none⟩ = some (.int .i64 ((rd_T90 l1 x5_1).f2)) ∧ w'.cell? ⟨(ad224.add ((x5_1).toNat * 4)).block, (ad224.add ((x5_1).toNat * 4)).off + 3, none⟩ = some (.int .i64 ((rd_T90 l1 x5_1).f3))) (ds := []) (mb 10 0) (by kernel_rfl) rfl rfl ⟨(hC HB hw223_0), (hC HB hw223_1), (hC HB hw223_2), (hC HB hw223_3), (hC HB hw224_0), (hC HB hw224_1), (hC HB hw224_2), (hC HB hw224_3)⟩ (fun hHeld => ?_); refine with_tabW laws_eqPathS.tab6 laws_eqPathS.bits6 (fun HT_ HW_ => ?_)
      generalize wr.drew = w9 at HB hx223_0 hx223_1 hx223_2 hx223_3 hx224_0 hx224_1 hx224_2 hx224_3 hHeld ⊢
      refine pA (i := 0) (N := some 17) (mb 10 1) HT_ ?_
      refine pA (i := 1) (N := some 18) (mb 10 3) HT_ ?_
      refine pA (i := 2) (N := some 19) (mb 10 7) HT_ ?_
      refine pA (i := 4) (N := some 21) (mb 10 23) HT_ ?_
      refine pA (i := 5) (N := some 22) (mb 10 55) HT_ ?_
      refine pA (i := 6) (N := some 23) (mb 10 119) HT_ ?_
      refine tA8 (i := 3) (N := some 20) (mb 10 127) HT_ HW_ hHeld ?_
      refine tA8 (i := 7) (N := some 24) (mb 10 255) HT_ HW_ hHeld ?_
      refine oA (i := 8) (N := some 25) (mb 10 511) HT_ (fun K hK => ?_)
      refine gA Try.func85 #[.agg #[.int .i64 ((rd_T90 l0 x5_1).f0), .int .i64 ((rd_T90 l0 x5_1).f1), .int .i64 ((rd_T90 l0 x5_1).f2), .int .i64 ((rd_T90 l0 x5_1).f3)], .agg #[.int .i64 ((rd_T90 l1 x5_1).f0), .int .i64 ((rd_T90 l1 x5_1).f1), .int .i64 ((rd_T90 l1 x5_1).f2), .int .i64 ((rd_T90 l1 x5_1).f3)]] ?_
      with_reducible refine (laws_eqPath.calls ((rd_T90 l0 x5_1).f0) ((rd_T90 l0 x5_1).f1) ((rd_T90 l0 x5_1).f2) ((rd_T90 l0 x5_1).f3) ((rd_T90 l1 x5_1).f0) ((rd_T90 l1 x5_1).f1) ((rd_T90 l1 x5_1).f2) ((rd_T90 l1 x5_1).f3) true _ A7.out).mono ?_
      rintro e w10 ⟨rfl, hb⟩
      refine ⟨_, rfl, ?_⟩
      replace HB := Aside0.mk (below_step bA hb)
      (try clear hb)
      (try clear hb2)
      (try clear hk)
      (try clear hi)
      refine hK.out _ _ ⟨(hC HB hw223_0), (hC HB hw223_1), (hC HB hw223_2), (hC HB hw223_3), (hC HB hw224_0), (hC HB hw224_1), (hC HB hw224_2), (hC HB hw224_3)⟩ (fun hHeld => ?_)
      clear hK K
      refine nB ?_
      refine pA (i := 9) (N := some 26) (mb 10 1023) HT_ ?_
      refine eA HT_ ?_
      try go_wp2
      go_roundg k1
      case measure => have := HK1.out; omega
      case rel => exact ⟨(wrap64 (x5_1 + 1)), rS, H', ⟨by have := HK1.out; omega⟩, ⟨bA⟩⟩
     ·
      replace c8 := Bool.eq_false_iff.mpr c8
      subst c8
      have H1 : (some false) = some r := by rw [if_neg (show ¬ (false = true) by decide)] at H; exact H
      clear H
      have H := H1
      clear H1
      obtain rfl := Option.some.inj H
      try go_wp2
      have HBo := HB
      replace HB := Aside0.mk (below_drew1 HB.out)
      have p223 : 0 ≤ (x5_1 : Int) := dA
      have q223 : x5_1 < (l0.length : Int) := dA
      obtain ⟨ad223, e223, hx223_0, hx223_1, hx223_2, hx223_3⟩ := at_T90 HR0.out x5_1 p223 q223
      have hw223_3 := hx223_3
      have hw223_2 := hx223_2
      have hw223_1 := hx223_1
      have hw223_0 := hx223_0
      cases e223
      replace hx223_0 := hC HB hx223_0
      replace hx223_1 := hC HB hx223_1
      replace hx223_2 := hC HB hx223_2
      replace hx223_3 := hC HB hx223_3
      replace p223 := eq_true p223
      replace q223 := eq_true q223
      have p224 : 0 ≤ (x5_1 : Int) := dA
      have q224 : x5_1 < (l1.length : Int) := dA
      obtain ⟨ad224, e224, hx224_0, hx224_1, hx224_2, hx224_3⟩ := at_T90 HR1.out x5_1 p224 q224
      have hw224_3 := hx224_3
      have hw224_2 := hx224_2
      have hw224_1 := hx224_1
      have hw224_0 := hx224_0
      cases e224
      replace hx224_0 := hC HB hx224_0
      replace hx224_1 := hC HB hx224_1
      replace hx224_2 := hC HB hx224_2
      replace hx224_3 := hC HB hx224_3
      replace p224 := eq_true p224
      replace q224 := eq_true q224
      refine start_ (n := 10) (S := fun w' => w'.cell? (ad223.add ((x5_1).toNat * 4)) = some (.int .i64 ((rd_T90 l0 x5_1).f0)) ∧ w'.cell? ⟨(ad223.add ((x5_1).toNat * 4)).block, (ad223.add ((x5_1).toNat * 4)).off + 1, none⟩ = some (.int .i64 ((rd_T90 l0 x5_1).f1)) ∧ w'.cell? ⟨(ad223.add ((x5_1).toNat * 4)).block, (ad223.add ((x5_1).toNat * 4)).off + 2, none⟩ = some (.int .i64 ((rd_T90 l0 x5_1).f2)) ∧ w'.cell? ⟨(ad223.add ((x5_1).toNat * 4)).block, (ad223.add ((x5_1).toNat * 4)).off + 3, none⟩ = some (.int .i64 ((rd_T90 l0 x5_1).f3)) ∧ w'.cell? (ad224.add ((x5_1).toNat * 4)) = some (.int .i64 ((rd_T90 l1 x5_1).f0)) ∧ w'.cell? ⟨(ad224.add ((x5_1).toNat * 4)).block, (ad224.add ((x5_1).toNat * 4)).off + 1, none⟩ = some (.int .i64 ((rd_T90 l1 x5_1).f1)) ∧ w'.cell? ⟨(ad224.add ((x5_1).toNat * 4)).block, (ad224.add ((x5_1).toNat * 4)).off + 2, none⟩ = some (.int .i64 ((rd_T90 l1 x5_1).f2)) ∧ w'.cell? ⟨(ad224.add ((x5_1).toNat * 4)).block, (ad224.add ((x5_1).toNat * 4)).off + 3, none⟩ = some (.int .i64 ((rd_T90 l1 x5_1).f3))) (ds := []) (mb 10 0) (by kernel_rfl) rfl rfl ⟨(hC HB hw223_0), (hC HB hw223_1), (hC HB hw223_2), (hC HB hw223_3), (hC HB hw224_0), (hC HB hw224_1), (hC HB hw224_2), (hC HB hw224_3)⟩ (fun hHeld => ?_); refine with_tabW laws_eqPathS.tab6 laws_eqPathS.bits6 (fun HT_ HW_ => ?_)
      generalize wr.drew = w11 at HB hx223_0 hx223_1 hx223_2 hx223_3 hx224_0 hx224_1 hx224_2 hx224_3 hHeld ⊢
      refine pA (i := 0) (N := some 17) (mb 10 1) HT_ ?_
      refine pA (i := 1) (N := some 18) (mb 10 3) HT_ ?_
      refine pA (i := 2) (N := some 19) (mb 10 7) HT_ ?_
      refine pA (i := 4) (N := some 21) (mb 10 23) HT_ ?_
      refine pA (i := 5) (N := some 22) (mb 10 55) HT_ ?_
      refine pA (i := 6) (N := some 23) (mb 10 119) HT_ ?_
      refine tA8 (i := 3) (N := some 20) (mb 10 127) HT_ HW_ hHeld ?_
      refine tA8 (i := 7) (N := some 24) (mb 10 255) HT_ HW_ hHeld ?_
      refine oA (i := 8) (N := some 25) (mb 10 511) HT_ (fun K hK => ?_)
      refine gA Try.func85 #[.agg #[.int .i64 ((rd_T90 l0 x5_1).f0), .int .i64 ((rd_T90 l0 x5_1).f1), .int .i64 ((rd_T90 l0 x5_1).f2), .int .i64 ((rd_T90 l0 x5_1).f3)], .agg #[.int .i64 ((rd_T90 l1 x5_1).f0), .int .i64 ((rd_T90 l1 x5_1).f1), .int .i64 ((rd_T90 l1 x5_1).f2), .int .i64 ((rd_T90 l1 x5_1).f3)]] ?_
      with_reducible refine (laws_eqPath.calls ((rd_T90 l0 x5_1).f0) ((rd_T90 l0 x5_1).f1) ((rd_T90 l0 x5_1).f2) ((rd_T90 l0 x5_1).f3) ((rd_T90 l1 x5_1).f0) ((rd_T90 l1 x5_1).f1) ((rd_T90 l1 x5_1).f2) ((rd_T90 l1 x5_1).f3) false _ A7.out).mono ?_
      rintro e w12 ⟨rfl, hb⟩
      refine ⟨_, rfl, ?_⟩
      replace HB := Aside0.mk (below_step bA hb)
      (try clear hb)
      (try clear hb2)
      (try clear hk)
      (try clear hi)
      refine hK.out _ _ ⟨(hC HB hw223_0), (hC HB hw223_1), (hC HB hw223_2), (hC HB hw223_3), (hC HB hw224_0), (hC HB hw224_1), (hC HB hw224_2), (hC HB hw224_3)⟩ (fun hHeld => ?_)
      clear hK K
      refine nB ?_
      refine pA (i := 9) (N := some 26) (mb 10 1023) HT_ ?_
      refine eA HT_ ?_
      try go_wp2
      go_ret
      exact ⟨rA, bA⟩
    ·
     rw [if_neg c4] at H
     have c4b0 : decide (x5_1 < (l0.length : Int)) = false := decide_eq_false c4
     clear c4
     obtain rfl := Option.some.inj H
     go_wp2
     go_ret
     exact ⟨rA, bA⟩
 ·
  rw [if_neg c3] at H
  have c3b0 : ((l0.length : Int) == (l1.length : Int)) = false := beq_eq_false_iff_ne.mpr c3
  have c3b1 : ((l0.length : Int) != (l1.length : Int)) = true := bne_iff_ne.mpr c3
  have c3b2 : (l0.length == l1.length) = false := by first | simpa using c3 | (simp at c3 ⊢; omega)
  obtain rfl := Option.some.inj H
  go_enter Try.func37, Try.ntmps37
  go_wp2
  go_ret
  exact ⟨rA, bA⟩

/-! ### laws_markPathS: function 46 -/
def laws_markPathS.l0 : Nat → List (S90) → Int → Int → Option (Int × (List (S90)))
 | 0, _, _, _ => none
 | k + 1, x0, x1, x5 => if x5 < (x0.length : Int) then (if 0 ≤ x5 then ((some (x0.set (x5 : Int).toNat (⟨x1, (rd_T90 x0 x5).f1, (rd_T90 x0 x5).f2, (rd_T90 x0 x5).f3⟩ : S90) : List (S90))).bind fun y231 => ((some (y231.set (x5 : Int).toNat (⟨(rd_T90 y231 x5).f0, wrap64 (x1 + 1), (rd_T90 y231 x5).f2, (rd_T90 y231 x5).f3⟩ : S90) : List (S90))).bind fun y232 => ((some (y232.set (x5 : Int).toNat (⟨(rd_T90 y232 x5).f0, (rd_T90 y232 x5).f1, wrap64 ((wrap64 (x1 + 1)) + 1), (rd_T90 y232 x5).f3⟩ : S90) : List (S90))).bind fun y233 => (laws_markPathS.l0 k (y233.set (x5 : Int).toNat (⟨(rd_T90 y233 x5).f0, (rd_T90 y233 x5).f1, (rd_T90 y233 x5).f2, wrap64 ((wrap64 ((wrap64 (x1 + 1)) + 1)) + 1)⟩ : S90)) (wrap64 ((wrap64 ((wrap64 ((wrap64 (x1 + 1)) + 1)) + 1)) + 1)) (wrap64 (x5 + 1)))))) else (none)) else (some (x1, x0))
def laws_markPathS.f (k : Nat) (l0 : List (S90)) (a1 : Int) : Option (Int × (List (S90))) := laws_markPathS.l0 k l0 a1 0
theorem laws_markPathS.mono_l : ∀ k, (∀ y0 y1 y2, LeO (laws_markPathS.l0 k y0 y1 y2) (laws_markPathS.l0 (k + 1) y0 y1 y2))
 | 0 => fun _ _ _ r h => by simp [laws_markPathS.l0] at h
 | k + 1 => by
  have ih0 := laws_markPathS.mono_l k
  ·
   intro y0 y1 y2
   unfold laws_markPathS.l0
   repeat' first | (with_reducible first | exact LeO.refl _ | exact LeO.none _ | refine LeO.ite ?_ ?_ | refine LeO.bind ?_ (fun _ => ?_) | exact ih0 _ _ _) | exact LeO.none _ | refine LeO.ite ?_ ?_ | refine LeO.bind ?_ (fun _ => ?_) | exact ih0 _ _ _
theorem laws_markPathS.mono : ∀ a0 a1 k, LeO (laws_markPathS.f k a0 a1) (laws_markPathS.f (k + 1) a0 a1) := by
 intro a0 a1 k
 have ih0 := laws_markPathS.mono_l k
 unfold laws_markPathS.f
 repeat' first | (with_reducible first | exact LeO.refl _ | exact LeO.none _ | refine LeO.ite ?_ ?_ | refine LeO.bind ?_ (fun _ => ?_) | exact ih0 _ _ _) | exact LeO.none _ | refine LeO.ite ?_ ?_ | refine LeO.bind ?_ (fun _ => ?_) | exact ih0 _ _ _
set_option maxHeartbeats 8000000 in
set_option maxRecDepth 100000 in
theorem laws_markPathS.calls (k : Nat) (P0_ : Nat → Prop) (u9000_ : Value) (l0 : List (S90)) (a1 : Int) (r1 : Int) (r2 : List (S90)) (w0 w : World) (hB : Below w0.heap.size w0 w) (ho0 : Kd.R k90 90 w w0.heap.size P0_ u9000_ l0) (h : laws_markPathS.f k l0 a1 = some (r1, r2)) :
  Calls Try.prog 46 #[u9000_, .int .i64 a1] w fun e w' => e = .returned (.int .i64 r1) ∧ Kd.R k90 90 w' w0.heap.size (fun k_ => (P0_ k_ ∨ w.heap.size ≤ k_)) u9000_ r2 ∧ Below w0.heap.size w0 w' ∧ Kept w w' (fun k_ => P0_ k_) := by
 have HO0 := Aside0.mk (show Kd.R k90 90 w w0.heap.size (fun k_ => (P0_ k_ ∨ w.heap.size ≤ k_)) u9000_ l0 from Kd.R_mono ho0 (fun k_ hk => (.inl hk)))
 have HK := Aside0.mk (Kept.refl w (fun k_ => P0_ k_))
 have HW0 := Aside0.mk hB.size
 have HB := Aside0.mk hB
 clear hB
 have H : (laws_markPathS.l0 k l0 a1 0) = some (r1, r2) := h
 clear h
 have H' := Aside0.mk H
 clear H
 go_enter Try.func46, Try.ntmps46
 go_wp2
 go_loopg [1, 5] k (fun kq v1 v5 w' => ∃ (x0_1 : List (S90)) (x1_1 : Int) (x5_1 : Int), v1 = .int .i64 x1_1 ∧ v5 = .int .i64 x5_1 ∧ Aside0 (laws_markPathS.l0 kq x0_1 x1_1 x5_1 = some (r1, r2)) ∧ Aside0 (kq ≤ k) ∧ Aside0 (Kd.R k90 90 w' w0.heap.size (fun k_ => (P0_ k_ ∨ w.heap.size ≤ k_)) u9000_ x0_1) ∧ Aside0 (Kept w w' (fun k_ => P0_ k_)) ∧ Aside0 (Below w0.heap.size w0 w'))
 case atStart => exact ⟨(l0), (a1), (0), rS, rS, H', ⟨Nat.le_refl _⟩, ⟨rK HO0⟩, ⟨by repeat (first | (with_reducible first | exact HK.out | apply Kept.alloc | apply Kept.drewN | apply Kept.drew) | exact HK.out)⟩, ⟨bA⟩⟩
 case round =>
  clear H'
  try clear p2
  obtain ⟨x0_1, x1_1, x5_1, rfl, rfl, HA, HK1, HO_0, HK, HB⟩ := hrel
  cases gk with
  | zero => exact absurd HA.out (by simp [laws_markPathS.l0])
  | succ k1 =>
   have H := HA.out
   clear HA
   simp only [laws_markPathS.l0] at H
   by_cases c3 : x5_1 < (x0_1.length : Int)
   ·
    rw [if_pos c3] at H
    have c3b0 : decide (x5_1 < (x0_1.length : Int)) = true := decide_eq_true c3
    clear c3
    have c4 : 0 ≤ x5_1 := ifN H
    replace H := ifT H
    have c4b0 : decide (0 ≤ x5_1) = true := decide_eq_true c4
    clear c4
    obtain ⟨y231, hy231⟩ : ∃ y_ : List (S90), y_ = (x0_1.set (x5_1 : Int).toNat (⟨x1_1, (rd_T90 x0_1 x5_1).f1, (rd_T90 x0_1 x5_1).f2, (rd_T90 x0_1 x5_1).f3⟩ : S90)) := ⟨_, rfl⟩
    replace H : ((some (y231.set (x5_1 : Int).toNat (⟨(rd_T90 y231 x5_1).f0, wrap64 (x1_1 + 1), (rd_T90 y231 x5_1).f2, (rd_T90 y231 x5_1).f3⟩ : S90) : List (S90))).bind fun y232 => ((some (y232.set (x5_1 : Int).toNat (⟨(rd_T90 y232 x5_1).f0, (rd_T90 y232 x5_1).f1, wrap64 ((wrap64 (x1_1 + 1)) + 1), (rd_T90 y232 x5_1).f3⟩ : S90) : List (S90))).bind fun y233 => (laws_markPathS.l0 k1 (y233.set (x5_1 : Int).toNat (⟨(rd_T90 y233 x5_1).f0, (rd_T90 y233 x5_1).f1, (rd_T90 y233 x5_1).f2, wrap64 ((wrap64 ((wrap64 (x1_1 + 1)) + 1)) + 1)⟩ : S90)) (wrap64 ((wrap64 ((wrap64 ((wrap64 (x1_1 + 1)) + 1)) + 1)) + 1)) (wrap64 (x5_1 + 1))))) = some (r1, r2) := by first | (rw [hy231]; with_reducible exact H) | (have H2_ := (Option.bind_some _ _).symm.trans H; rw [hy231]; with_reducible exact H2_) | (have H2_ := (Option.bind_some _ _).symm.trans H; with_reducible exact H2_) | with_reducible exact H | (rw [hy231]; exact H) | exact H
    have Ny231 := Aside0.mk hy231
    clear hy231
    obtain ⟨y232, hy232⟩ : ∃ y_ : List (S90), y_ = (y231.set (x5_1 : Int).toNat (⟨(rd_T90 y231 x5_1).f0, wrap64 (x1_1 + 1), (rd_T90 y231 x5_1).f2, (rd_T90 y231 x5_1).f3⟩ : S90)) := ⟨_, rfl⟩
    replace H : ((some (y232.set (x5_1 : Int).toNat (⟨(rd_T90 y232 x5_1).f0, (rd_T90 y232 x5_1).f1, wrap64 ((wrap64 (x1_1 + 1)) + 1), (rd_T90 y232 x5_1).f3⟩ : S90) : List (S90))).bind fun y233 => (laws_markPathS.l0 k1 (y233.set (x5_1 : Int).toNat (⟨(rd_T90 y233 x5_1).f0, (rd_T90 y233 x5_1).f1, (rd_T90 y233 x5_1).f2, wrap64 ((wrap64 ((wrap64 (x1_1 + 1)) + 1)) + 1)⟩ : S90)) (wrap64 ((wrap64 ((wrap64 ((wrap64 (x1_1 + 1)) + 1)) + 1)) + 1)) (wrap64 (x5_1 + 1)))) = some (r1, r2) := by first | (rw [hy232]; with_reducible exact H) | (have H2_ := (Option.bind_some _ _).symm.trans H; rw [hy232]; with_reducible exact H2_) | (have H2_ := (Option.bind_some _ _).symm.trans H; with_reducible exact H2_) | with_reducible exact H | (rw [hy232]; exact H) | exact H
    have Ny232 := Aside0.mk hy232
    clear hy232
    obtain ⟨y233, hy233⟩ : ∃ y_ : List (S90), y_ = (y232.set (x5_1 : Int).toNat (⟨(rd_T90 y232 x5_1).f0, (rd_T90 y232 x5_1).f1, wrap64 ((wrap64 (x1_1 + 1)) + 1), (rd_T90 y232 x5_1).f3⟩ : S90)) := ⟨_, rfl⟩
    replace H : (laws_markPathS.l0 k1 (y233.set (x5_1 : Int).toNat (⟨(rd_T90 y233 x5_1).f0, (rd_T90 y233 x5_1).f1, (rd_T90 y233 x5_1).f2, wrap64 ((wrap64 ((wrap64 (x1_1 + 1)) + 1)) + 1)⟩ : S90)) (wrap64 ((wrap64 ((wrap64 ((wrap64 (x1_1 + 1)) + 1)) + 1)) + 1)) (wrap64 (x5_1 + 1))) = some (r1, r2) := by first | (rw [hy233]; with_reducible exact H) | (have H2_ := (Option.bind_some _ _).symm.trans H; rw [hy233]; with_reducible exact H2_) | (have H2_ := (Option.bind_some _ _).symm.trans H; with_reducible exact H2_) | with_reducible exact H | (rw [hy233]; exact H) | exact H
    have Ny233 := Aside0.mk hy233
    clear hy233
    obtain ⟨y234, hy234⟩ : ∃ y_ : List (S90), y_ = (y233.set (x5_1 : Int).toNat (⟨(rd_T90 y233 x5_1).f0, (rd_T90 y233 x5_1).f1, (rd_T90 y233 x5_1).f2, wrap64 ((wrap64 ((wrap64 (x1_1 + 1)) + 1)) + 1)⟩ : S90)) := ⟨_, rfl⟩
    replace H : (laws_markPathS.l0 k1 y234 (wrap64 ((wrap64 ((wrap64 ((wrap64 (x1_1 + 1)) + 1)) + 1)) + 1)) (wrap64 (x5_1 + 1))) = some (r1, r2) := by first | (rw [hy234]; with_reducible exact H) | (have H2_ := (Option.bind_some _ _).symm.trans H; rw [hy234]; with_reducible exact H2_) | (have H2_ := (Option.bind_some _ _).symm.trans H; with_reducible exact H2_) | with_reducible exact H | (rw [hy234]; exact H) | exact H
    have Ny234 := Aside0.mk hy234
    clear hy234
    have H' := Aside0.mk H
    clear H
    obtain ⟨Ao9, co9, eo9⟩ := Kd.R_slice HO_0.out
    subst eo9
    have p5 : 0 ≤ (x5_1 : Int) := dA
    have q5 : (x5_1 : Int) < ((x0_1.length : Int) : Int) := dA
    obtain ⟨go5, co5, eo5, gb5, gl5, cl5, HG5⟩ := Kd.R_form HO_0.out (by omega)
    (first | cases eo5 | (injection eo5 with ea_ en_ ec_; (first | subst ea_ | (injection ea_ with ea_; subst ea_)); subst ec_; clear en_))
    have GB5 := Aside0.mk gb5
    have GG5 := Aside0.mk HG5
    clear gb5 gl5 HG5
    have HMgo5 := Aside0.mk (show (P0_ go5 ∨ w.heap.size ≤ go5) from (HO_0.out.1 _ rfl))
    obtain ⟨ce5, hcl5, hM5, hcc5, hfr5⟩ := Kd.R_elem HO_0.out z90 (x5_1 : Int) p5 q5
    obtain rfl := k90_openM hM5
    have hx5_0 : wr.cell? ⟨go5, (x5_1 : Int).toNat * 4, none⟩ = some (.int .i64 ((rd_T90 x0_1 x5_1).f0)) := hcc5 0 _ rfl
    have hx5_1 : wr.cell? ⟨go5, (x5_1 : Int).toNat * 4 + 1, none⟩ = some (.int .i64 ((rd_T90 x0_1 x5_1).f1)) := hcc5 1 _ rfl
    have hx5_2 : wr.cell? ⟨go5, (x5_1 : Int).toNat * 4 + 2, none⟩ = some (.int .i64 ((rd_T90 x0_1 x5_1).f2)) := hcc5 2 _ rfl
    have hx5_3 : wr.cell? ⟨go5, (x5_1 : Int).toNat * 4 + 3, none⟩ = some (.int .i64 ((rd_T90 x0_1 x5_1).f3)) := hcc5 3 _ rfl
    have hf5_0 : wr.frozen? ⟨go5, (x5_1 : Int).toNat * 4, none⟩ = false := hfr5 0
    have hf5_1 : wr.frozen? ⟨go5, (x5_1 : Int).toNat * 4 + 1, none⟩ = false := hfr5 1
    have hf5_2 : wr.frozen? ⟨go5, (x5_1 : Int).toNat * 4 + 2, none⟩ = false := hfr5 2
    have hf5_3 : wr.frozen? ⟨go5, (x5_1 : Int).toNat * 4 + 3, none⟩ = false := hfr5 3
    clear hcl5 hcc5 hfr5 hM5
    replace p5 := eq_true p5
    replace q5 := eq_true q5
    have HX10 := Aside0.mk (show Kd.R k90 90 wr w0.heap.size (fun k_ => (P0_ k_ ∨ w.heap.size ≤ k_)) (.slice (some ⟨go5, 0, none⟩) x0_1.length co9) x0_1 from (rK HO_0))
    obtain ⟨ce10, hcl10, hM10, hcc10, hfr10⟩ := Kd.R_elem HX10.out z90 (x5_1 : Int) (dA) (by have h_ : (x5_1 : Int) < ((x0_1.length : Int) : Int) := dA; first | exact h_ | (have e_ := (Kd.R_reads' HO_0.out).1; omega) | simpa using h_)
    obtain rfl := k90_openM hM10
    have HP10 := Kd.R_seg HX10.out (x5_1 : Int) (dA) (by have h_ : (x5_1 : Int) < ((x0_1.length : Int) : Int) := dA; first | exact h_ | (have e_ := (Kd.R_reads' HO_0.out).1; omega) | simpa using h_) (seg := [.int .i64 x1_1]) (j := 0) hcl10 hcc10 (show 1 ≤ 4 from by decide) (x' := (⟨x1_1, (rd_T90 x0_1 x5_1).f1, (rd_T90 x0_1 x5_1).f2, (rd_T90 x0_1 x5_1).f3⟩ : S90)) (k90_mkM _ _ _ (⟨x1_1, (rd_T90 x0_1 x5_1).f1, (rd_T90 x0_1 x5_1).f2, (rd_T90 x0_1 x5_1).f3⟩ : S90) ) (fun _ hk => hk)
    have hx10_0 := hcc10 0 _ rfl
    (try simp only [show (k90).sz = 4 from rfl, Nat.mul_one, Nat.add_zero] at hx10_0)
    have hf10_0 := hfr10 0
    (try simp only [show (k90).sz = 4 from rfl, Nat.mul_one, Nat.add_zero] at hf10_0)
    clear hcl10 hcc10 hfr10 hM10
    go_wp2_with (first | ((with_reducible refine gate_store (t := 3) (p := 16) rfl ?_); refine store_event (t := 3) (p := 16) (v := ?vo_w11) (w1 := (wr.setCell ⟨go5, (x5_1 : Int).toNat * 4, none⟩ (.int .i64 x1_1))) ?hg ?ho ?hn ?hr ?_; (case ho => rfl); (case hg => rfl); (case hn => rfl); (case hr => first | (go_simp; done) | (go_simp; rfl)); intro w11 hw; have hg : wr.grownBy w11 (some go5) := (by rw [hw]; exact HP10.2); have hp_ : Kd.R k90 90 w11 w0.heap.size (fun k_ => (P0_ k_ ∨ w.heap.size ≤ k_)) (.slice (some ⟨go5, 0, none⟩) x0_1.length co9) y231 := (by rw [hw, Ny231.out]; exact HP10.1); clear HP10; have n0_ := Aside0.mk (hp_); have n1_ := Aside0.mk ((by rw [hw]; exact below_set (HB.out) GB5.out : Below w0.heap.size w0 w11)); have n2_ := Aside0.mk (Kept.of_grown (S := (fun k_ => P0_ k_)) hg (by repeat (first | (with_reducible first | exact HK.out | apply Kept.alloc | apply Kept.drewN | apply Kept.drew) | exact HK.out)) (fun k_ e_ => (HO_0.out.1 k_ e_))); clear HO_0; clear HB; clear HK; have HO_0 := n0_; have HB := n1_; have HK := n2_; clear n0_ n1_ n2_; clear hg hw hp_; have p6 : 0 ≤ (x5_1 : Int) := dA; have q6 : (x5_1 : Int) < ((x0_1.length : Int) : Int) := dA; obtain ⟨ce6, hcl6, hM6, hcc6, hfr6⟩ := Kd.R_elem HO_0.out z90 (x5_1 : Int) p6 q6; obtain rfl := k90_openM hM6; have hx6_0 : w11.cell? ⟨go5, (x5_1 : Int).toNat * 4, none⟩ = some (.int .i64 ((rd_T90 y231 x5_1).f0)) := hcc6 0 _ rfl; have hx6_1 : w11.cell? ⟨go5, (x5_1 : Int).toNat * 4 + 1, none⟩ = some (.int .i64 ((rd_T90 y231 x5_1).f1)) := hcc6 1 _ rfl; have hx6_2 : w11.cell? ⟨go5, (x5_1 : Int).toNat * 4 + 2, none⟩ = some (.int .i64 ((rd_T90 y231 x5_1).f2)) := hcc6 2 _ rfl; have hx6_3 : w11.cell? ⟨go5, (x5_1 : Int).toNat * 4 + 3, none⟩ = some (.int .i64 ((rd_T90 y231 x5_1).f3)) := hcc6 3 _ rfl; have hf6_0 : w11.frozen? ⟨go5, (x5_1 : Int).toNat * 4, none⟩ = false := hfr6 0; have hf6_1 : w11.frozen? ⟨go5, (x5_1 : Int).toNat * 4 + 1, none⟩ = false := hfr6 1; have hf6_2 : w11.frozen? ⟨go5, (x5_1 : Int).toNat * 4 + 2, none⟩ = false := hfr6 2; have hf6_3 : w11.frozen? ⟨go5, (x5_1 : Int).toNat * 4 + 3, none⟩ = false := hfr6 3; clear hcl6 hcc6 hfr6 hM6; replace p6 := eq_true p6; replace q6 := eq_true q6; have HX12 := Aside0.mk (show Kd.R k90 90 w11 w0.heap.size (fun k_ => (P0_ k_ ∨ w.heap.size ≤ k_)) (.slice (some ⟨go5, 0, none⟩) x0_1.length co9) y231 from (rK HO_0)); obtain ⟨ce12, hcl12, hM12, hcc12, hfr12⟩ := Kd.R_elem HX12.out z90 (x5_1 : Int) (dA) (by have h_ : (x5_1 : Int) < ((x0_1.length : Int) : Int) := dA; first | exact h_ | (have e_ := (Kd.R_reads' HO_0.out).1; omega) | simpa using h_); obtain rfl := k90_openM hM12; have HP12 := Kd.R_seg HX12.out (x5_1 : Int) (dA) (by have h_ : (x5_1 : Int) < ((x0_1.length : Int) : Int) := dA; first | exact h_ | (have e_ := (Kd.R_reads' HO_0.out).1; omega) | simpa using h_) (seg := [.int .i64 (wrap64 (x1_1 + 1))]) (j := 1) hcl12 hcc12 (show 2 ≤ 4 from by decide) (x' := (⟨(rd_T90 y231 x5_1).f0, wrap64 (x1_1 + 1), (rd_T90 y231 x5_1).f2, (rd_T90 y231 x5_1).f3⟩ : S90)) (k90_mkM _ _ _ (⟨(rd_T90 y231 x5_1).f0, wrap64 (x1_1 + 1), (rd_T90 y231 x5_1).f2, (rd_T90 y231 x5_1).f3⟩ : S90) ) (fun _ hk => hk); have hx12_1 := hcc12 1 _ rfl; (try simp only [show (k90).sz = 4 from rfl, Nat.mul_one, Nat.add_zero] at hx12_1); have hf12_1 := hfr12 1; (try simp only [show (k90).sz = 4 from rfl, Nat.mul_one, Nat.add_zero] at hf12_1); clear hcl12 hcc12 hfr12 hM12) | ((with_reducible refine gate_store (t := 3) (p := 23) rfl ?_); refine store_event (t := 3) (p := 23) (v := ?vo_w13) (w1 := (w11.setCell ⟨go5, (x5_1 : Int).toNat * 4 + 1, none⟩ (.int .i64 (wrap64 (x1_1 + 1))))) ?hg ?ho ?hn ?hr ?_; (case ho => rfl); (case hg => rfl); (case hn => rfl); (case hr => first | (go_simp; done) | (go_simp; rfl)); intro w13 hw; have hg : w11.grownBy w13 (some go5) := (by rw [hw]; exact HP12.2); have hp_ : Kd.R k90 90 w13 w0.heap.size (fun k_ => (P0_ k_ ∨ w.heap.size ≤ k_)) (.slice (some ⟨go5, 0, none⟩) x0_1.length co9) y232 := (by rw [hw, Ny232.out]; exact HP12.1); clear HP12; have n0_ := Aside0.mk (hp_); have n1_ := Aside0.mk ((by rw [hw]; exact below_set (HB.out) GB5.out : Below w0.heap.size w0 w13)); have n2_ := Aside0.mk (Kept.of_grown (S := (fun k_ => P0_ k_)) hg (by repeat (first | (with_reducible first | exact HK.out | apply Kept.alloc | apply Kept.drewN | apply Kept.drew) | exact HK.out)) (fun k_ e_ => (HO_0.out.1 k_ e_))); clear HO_0; clear HB; clear HK; have HO_0 := n0_; have HB := n1_; have HK := n2_; clear n0_ n1_ n2_; clear hg hw hp_; have p7 : 0 ≤ (x5_1 : Int) := dA; have q7 : (x5_1 : Int) < ((x0_1.length : Int) : Int) := dA; obtain ⟨ce7, hcl7, hM7, hcc7, hfr7⟩ := Kd.R_elem HO_0.out z90 (x5_1 : Int) p7 q7; obtain rfl := k90_openM hM7; have hx7_0 : w13.cell? ⟨go5, (x5_1 : Int).toNat * 4, none⟩ = some (.int .i64 ((rd_T90 y232 x5_1).f0)) := hcc7 0 _ rfl; have hx7_1 : w13.cell? ⟨go5, (x5_1 : Int).toNat * 4 + 1, none⟩ = some (.int .i64 ((rd_T90 y232 x5_1).f1)) := hcc7 1 _ rfl; have hx7_2 : w13.cell? ⟨go5, (x5_1 : Int).toNat * 4 + 2, none⟩ = some (.int .i64 ((rd_T90 y232 x5_1).f2)) := hcc7 2 _ rfl; have hx7_3 : w13.cell? ⟨go5, (x5_1 : Int).toNat * 4 + 3, none⟩ = some (.int .i64 ((rd_T90 y232 x5_1).f3)) := hcc7 3 _ rfl; have hf7_0 : w13.frozen? ⟨go5, (x5_1 : Int).toNat * 4, none⟩ = false := hfr7 0; have hf7_1 : w13.frozen? ⟨go5, (x5_1 : Int).toNat * 4 + 1, none⟩ = false := hfr7 1; have hf7_2 : w13.frozen? ⟨go5, (x5_1 : Int).toNat * 4 + 2, none⟩ = false := hfr7 2; have hf7_3 : w13.frozen? ⟨go5, (x5_1 : Int).toNat * 4 + 3, none⟩ = false := hfr7 3; clear hcl7 hcc7 hfr7 hM7; replace p7 := eq_true p7; replace q7 := eq_true q7; have HX14 := Aside0.mk (show Kd.R k90 90 w13 w0.heap.size (fun k_ => (P0_ k_ ∨ w.heap.size ≤ k_)) (.slice (some ⟨go5, 0, none⟩) x0_1.length co9) y232 from (rK HO_0)); obtain ⟨ce14, hcl14, hM14, hcc14, hfr14⟩ := Kd.R_elem HX14.out z90 (x5_1 : Int) (dA) (by have h_ : (x5_1 : Int) < ((x0_1.length : Int) : Int) := dA; first | exact h_ | (have e_ := (Kd.R_reads' HO_0.out).1; omega) | simpa using h_); obtain rfl := k90_openM hM14; have HP14 := Kd.R_seg HX14.out (x5_1 : Int) (dA) (by have h_ : (x5_1 : Int) < ((x0_1.length : Int) : Int) := dA; first | exact h_ | (have e_ := (Kd.R_reads' HO_0.out).1; omega) | simpa using h_) (seg := [.int .i64 (wrap64 ((wrap64 (x1_1 + 1)) + 1))]) (j := 2) hcl14 hcc14 (show 3 ≤ 4 from by decide) (x' := (⟨(rd_T90 y232 x5_1).f0, (rd_T90 y232 x5_1).f1, wrap64 ((wrap64 (x1_1 + 1)) + 1), (rd_T90 y232 x5_1).f3⟩ : S90)) (k90_mkM _ _ _ (⟨(rd_T90 y232 x5_1).f0, (rd_T90 y232 x5_1).f1, wrap64 ((wrap64 (x1_1 + 1)) + 1), (rd_T90 y232 x5_1).f3⟩ : S90) ) (fun _ hk => hk); have hx14_2 := hcc14 2 _ rfl; (try simp only [show (k90).sz = 4 from rfl, Nat.mul_one, Nat.add_zero] at hx14_2); have hf14_2 := hfr14 2; (try simp only [show (k90).sz = 4 from rfl, Nat.mul_one, Nat.add_zero] at hf14_2); clear hcl14 hcc14 hfr14 hM14) | ((with_reducible refine gate_store (t := 3) (p := 30) rfl ?_); refine store_event (t := 3) (p := 30) (v := ?vo_w15) (w1 := (w13.setCell ⟨go5, (x5_1 : Int).toNat * 4 + 2, none⟩ (.int .i64 (wrap64 ((wrap64 (x1_1 + 1)) + 1))))) ?hg ?ho ?hn ?hr ?_; (case ho => rfl); (case hg => rfl); (case hn => rfl); (case hr => first | (go_simp; done) | (go_simp; rfl)); intro w15 hw; have hg : w13.grownBy w15 (some go5) := (by rw [hw]; exact HP14.2); have hp_ : Kd.R k90 90 w15 w0.heap.size (fun k_ => (P0_ k_ ∨ w.heap.size ≤ k_)) (.slice (some ⟨go5, 0, none⟩) x0_1.length co9) y233 := (by rw [hw, Ny233.out]; exact HP14.1); clear HP14; have n0_ := Aside0.mk (hp_); have n1_ := Aside0.mk ((by rw [hw]; exact below_set (HB.out) GB5.out : Below w0.heap.size w0 w15)); have n2_ := Aside0.mk (Kept.of_grown (S := (fun k_ => P0_ k_)) hg (by repeat (first | (with_reducible first | exact HK.out | apply Kept.alloc | apply Kept.drewN | apply Kept.drew) | exact HK.out)) (fun k_ e_ => (HO_0.out.1 k_ e_))); clear HO_0; clear HB; clear HK; have HO_0 := n0_; have HB := n1_; have HK := n2_; clear n0_ n1_ n2_; clear hg hw hp_; have p8 : 0 ≤ (x5_1 : Int) := dA; have q8 : (x5_1 : Int) < ((x0_1.length : Int) : Int) := dA; obtain ⟨ce8, hcl8, hM8, hcc8, hfr8⟩ := Kd.R_elem HO_0.out z90 (x5_1 : Int) p8 q8; obtain rfl := k90_openM hM8; have hx8_0 : w15.cell? ⟨go5, (x5_1 : Int).toNat * 4, none⟩ = some (.int .i64 ((rd_T90 y233 x5_1).f0)) := hcc8 0 _ rfl; have hx8_1 : w15.cell? ⟨go5, (x5_1 : Int).toNat * 4 + 1, none⟩ = some (.int .i64 ((rd_T90 y233 x5_1).f1)) := hcc8 1 _ rfl; have hx8_2 : w15.cell? ⟨go5, (x5_1 : Int).toNat * 4 + 2, none⟩ = some (.int .i64 ((rd_T90 y233 x5_1).f2)) := hcc8 2 _ rfl; have hx8_3 : w15.cell? ⟨go5, (x5_1 : Int).toNat * 4 + 3, none⟩ = some (.int .i64 ((rd_T90 y233 x5_1).f3)) := hcc8 3 _ rfl; have hf8_0 : w15.frozen? ⟨go5, (x5_1 : Int).toNat * 4, none⟩ = false := hfr8 0; have hf8_1 : w15.frozen? ⟨go5, (x5_1 : Int).toNat * 4 + 1, none⟩ = false := hfr8 1; have hf8_2 : w15.frozen? ⟨go5, (x5_1 : Int).toNat * 4 + 2, none⟩ = false := hfr8 2; have hf8_3 : w15.frozen? ⟨go5, (x5_1 : Int).toNat * 4 + 3, none⟩ = false := hfr8 3; clear hcl8 hcc8 hfr8 hM8; replace p8 := eq_true p8; replace q8 := eq_true q8; have HX16 := Aside0.mk (show Kd.R k90 90 w15 w0.heap.size (fun k_ => (P0_ k_ ∨ w.heap.size ≤ k_)) (.slice (some ⟨go5, 0, none⟩) x0_1.length co9) y233 from (rK HO_0)); obtain ⟨ce16, hcl16, hM16, hcc16, hfr16⟩ := Kd.R_elem HX16.out z90 (x5_1 : Int) (dA) (by have h_ : (x5_1 : Int) < ((x0_1.length : Int) : Int) := dA; first | exact h_ | (have e_ := (Kd.R_reads' HO_0.out).1; omega) | simpa using h_); obtain rfl := k90_openM hM16; have HP16 := Kd.R_seg HX16.out (x5_1 : Int) (dA) (by have h_ : (x5_1 : Int) < ((x0_1.length : Int) : Int) := dA; first | exact h_ | (have e_ := (Kd.R_reads' HO_0.out).1; omega) | simpa using h_) (seg := [.int .i64 (wrap64 ((wrap64 ((wrap64 (x1_1 + 1)) + 1)) + 1))]) (j := 3) hcl16 hcc16 (show 4 ≤ 4 from by decide) (x' := (⟨(rd_T90 y233 x5_1).f0, (rd_T90 y233 x5_1).f1, (rd_T90 y233 x5_1).f2, wrap64 ((wrap64 ((wrap64 (x1_1 + 1)) + 1)) + 1)⟩ : S90)) (k90_mkM _ _ _ (⟨(rd_T90 y233 x5_1).f0, (rd_T90 y233 x5_1).f1, (rd_T90 y233 x5_1).f2, wrap64 ((wrap64 ((wrap64 (x1_1 + 1)) + 1)) + 1)⟩ : S90) ) (fun _ hk => hk); have hx16_3 := hcc16 3 _ rfl; (try simp only [show (k90).sz = 4 from rfl, Nat.mul_one, Nat.add_zero] at hx16_3); have hf16_3 := hfr16 3; (try simp only [show (k90).sz = 4 from rfl, Nat.mul_one, Nat.add_zero] at hf16_3); clear hcl16 hcc16 hfr16 hM16) | ((with_reducible refine gate_store (t := 3) (p := 37) rfl ?_); refine store_event (t := 3) (p := 37) (v := ?vo_w17) (w1 := (w15.setCell ⟨go5, (x5_1 : Int).toNat * 4 + 3, none⟩ (.int .i64 (wrap64 ((wrap64 ((wrap64 (x1_1 + 1)) + 1)) + 1))))) ?hg ?ho ?hn ?hr ?_; (case ho => rfl); (case hg => rfl); (case hn => rfl); (case hr => first | (go_simp; done) | (go_simp; rfl)); intro w17 hw; have hg : w15.grownBy w17 (some go5) := (by rw [hw]; exact HP16.2); have hp_ : Kd.R k90 90 w17 w0.heap.size (fun k_ => (P0_ k_ ∨ w.heap.size ≤ k_)) (.slice (some ⟨go5, 0, none⟩) x0_1.length co9) y234 := (by rw [hw, Ny234.out]; exact HP16.1); clear HP16; have n0_ := Aside0.mk (hp_); have n1_ := Aside0.mk ((by rw [hw]; exact below_set (HB.out) GB5.out : Below w0.heap.size w0 w17)); have n2_ := Aside0.mk (Kept.of_grown (S := (fun k_ => P0_ k_)) hg (by repeat (first | (with_reducible first | exact HK.out | apply Kept.alloc | apply Kept.drewN | apply Kept.drew) | exact HK.out)) (fun k_ e_ => (HO_0.out.1 k_ e_))); clear HO_0; clear HB; clear HK; have HO_0 := n0_; have HB := n1_; have HK := n2_; clear n0_ n1_ n2_; clear hg hw hp_))
    go_roundg k1
    case measure => have := HK1.out; omega
    case rel => exact ⟨(y234), (wrap64 ((wrap64 ((wrap64 ((wrap64 (x1_1 + 1)) + 1)) + 1)) + 1)), (wrap64 (x5_1 + 1)), rS, rS, H', ⟨by have := HK1.out; omega⟩, ⟨rK HO_0⟩, ⟨by repeat (first | (with_reducible first | exact HK.out | apply Kept.alloc | apply Kept.drewN | apply Kept.drew) | exact HK.out)⟩, ⟨bA⟩⟩
   ·
    rw [if_neg c3] at H
    have c3b0 : decide (x5_1 < (x0_1.length : Int)) = false := decide_eq_false c3
    clear c3
    simp only [Option.some.injEq, Prod.mk.injEq] at H
    obtain ⟨rfl, rfl⟩ := H
    obtain ⟨Ao18, co18, eo18⟩ := Kd.R_slice HO_0.out
    subst eo18
    go_wp2
    go_ret
    exact ⟨rA, by (with_reducible repeat (first | apply Kd.R_alloc | apply Kd.R_drewN | apply Kd.R_drew)); exact HO_0.out, bA, by repeat (first | (with_reducible first | exact HK.out | apply Kept.alloc | apply Kept.drewN | apply Kept.drew) | exact HK.out)⟩

/-! ### spec_l1In: function 67 -/
def spec_l1In.f (a0 : Int) (a1 : Int) (a2 : Int) : Option (Bool) := if a0 ≥ a1 then (some (decide (a0 ≤ a2))) else (some false)
set_option maxHeartbeats 8000000 in
set_option maxRecDepth 100000 in
theorem spec_l1In.calls (a0 : Int) (a1 : Int) (a2 : Int) (r : Bool) (w : World) (h : spec_l1In.f a0 a1 a2 = some r) :
  Calls Try.prog 67 #[.int .i64 a0, .int .i64 a1, .int .i64 a2] w fun e w' => e = .returned (.bool r) ∧ Drawn0 w w' := by
 have H : (if a0 ≥ a1 then (some (decide (a0 ≤ a2))) else (some false)) = some r := h
 clear h
 by_cases c4 : a0 ≥ a1
 ·
  rw [if_pos c4] at H
  have c4b0 : decide (a1 ≤ a0) = true := decide_eq_true c4
  clear c4
  obtain rfl := Option.some.inj H
  go_enter Try.func67, Try.ntmps67
  go_wp2
  go_ret
  exact ⟨by first | rfl | (simp; done) | (simp [*]; done), by repeat (first | exact Drawn0.refl _ | apply Drawn0.step)⟩
 ·
  rw [if_neg c4] at H
  have c4b0 : decide (a1 ≤ a0) = false := decide_eq_false c4
  clear c4
  obtain rfl := Option.some.inj H
  go_enter Try.func67, Try.ntmps67
  go_wp2
  go_ret
  exact ⟨by first | rfl | (simp; done) | (simp [*]; done), by repeat (first | exact Drawn0.refl _ | apply Drawn0.step)⟩

/-! ### spec_FindPath: function 79 -/
def spec_FindPath.l0 : Nat → List (S90) → Int → Int → Option (Int)
 | 0, _, _, _ => none
 | k + 1, x0, x1, x5 => if x5 < (x0.length : Int) then (if 0 ≤ x5 then (if ((rd_T90 x0 x5).f0) = x1 then (some x5) else (spec_FindPath.l0 k x0 x1 (wrap64 (x5 + 1)))) else (none)) else (some (-1))
def spec_FindPath.f (k : Nat) (l0 : List (S90)) (a1 : Int) : Option (Int) := spec_FindPath.l0 k l0 a1 0
theorem spec_FindPath.mono_l : ∀ k, (∀ y0 y1 y2, LeO (spec_FindPath.l0 k y0 y1 y2) (spec_FindPath.l0 (k + 1) y0 y1 y2))
 | 0 => fun _ _ _ r h => by simp [spec_FindPath.l0] at h
 | k + 1 => by
  have ih0 := spec_FindPath.mono_l k
  ·
   intro y0 y1 y2
   unfold spec_FindPath.l0
   repeat' first | (with_reducible first | exact LeO.refl _ | exact LeO.none _ | refine LeO.ite ?_ ?_ | refine LeO.bind ?_ (fun _ => ?_) | exact ih0 _ _ _) | exact LeO.none _ | refine LeO.ite ?_ ?_ | refine LeO.bind ?_ (fun _ => ?_) | exact ih0 _ _ _
theorem spec_FindPath.mono : ∀ a0 a1 k, LeO (spec_FindPath.f k a0 a1) (spec_FindPath.f (k + 1) a0 a1) := by
 intro a0 a1 k
 have ih0 := spec_FindPath.mono_l k
 unfold spec_FindPath.f
 repeat' first | (with_reducible first | exact LeO.refl _ | exact LeO.none _ | refine LeO.ite ?_ ?_ | refine LeO.bind ?_ (fun _ => ?_) | exact ih0 _ _ _) | exact LeO.none _ | refine LeO.ite ?_ ?_ | refine LeO.bind ?_ (fun _ => ?_) | exact ih0 _ _ _
set_option maxHeartbeats 8000000 in
set_option maxRecDepth 100000 in
theorem spec_FindPath.calls (k : Nat) (A0 : Option Addr) (c0 : Nat) (l0 : List (S90)) (a1 : Int) (r : Int) (w : World) (hr0 : Kd.C k90 w A0 l0.length l0) (hc0 : l0.length ≤ c0) (h : spec_FindPath.f k l0 a1 = some r) :
  Calls Try.prog 79 #[.slice A0 l0.length c0, .int .i64 a1] w fun e w' => e = .returned (.int .i64 r) ∧ Drawn0 w w' := by
 have HR0 := Aside0.mk hr0
 have HC0 := Aside0.mk hc0
 clear hr0 hc0
 have H : (spec_FindPath.l0 k l0 a1 0) = some r := h
 clear h
 have H' := Aside0.mk H
 clear H
 go_enter Try.func79, Try.ntmps79
 go_wp2
 go_loopg [5] k (fun kq v5 w' => ∃ (x5_1 : Int), v5 = .int .i64 x5_1 ∧ Aside0 (spec_FindPath.l0 kq l0 a1 x5_1 = some r) ∧ Aside0 (kq ≤ k) ∧ Drawn0 w w')
 case atStart => exact ⟨(0), rS, H', ⟨Nat.le_refl _⟩, by repeat (first | exact Drawn0.refl _ | apply Drawn0.step)⟩
 case round =>
  clear H'
  try clear p2
  obtain ⟨x5_1, rfl, HA, HK1, ⟨m1, rfl⟩⟩ := hrel
  cases gk with
  | zero => exact absurd HA.out (by simp [spec_FindPath.l0])
  | succ k1 =>
   have H := HA.out
   clear HA
   simp only [spec_FindPath.l0] at H
   by_cases c3 : x5_1 < (l0.length : Int)
   ·
    rw [if_pos c3] at H
    have c3b0 : decide (x5_1 < (l0.length : Int)) = true := decide_eq_true c3
    clear c3
    have c4 : 0 ≤ x5_1 := ifN H
    replace H := ifT H
    have c4b0 : decide (0 ≤ x5_1) = true := decide_eq_true c4
    clear c4
    by_cases c5 : ((rd_T90 l0 x5_1).f0) = a1
    ·
     rw [if_pos c5] at H
     have c5b0 : (((rd_T90 l0 x5_1).f0) == a1) = true := beq_iff_eq.mpr c5
     have c5b1 : (((rd_T90 l0 x5_1).f0) != a1) = false := bne_eq_false_iff_eq.mpr c5
     clear c5
     obtain rfl := Option.some.inj H
     have p235 : 0 ≤ (x5_1 : Int) := dA
     have q235 : x5_1 < (l0.length : Int) := dA
     obtain ⟨ad235, e235, hx235_0, hx235_1, hx235_2, hx235_3⟩ := at_T90 HR0.out x5_1 p235 q235
     cases e235
     replace p235 := eq_true p235
     replace q235 := eq_true q235
     go_wp2
     go_ret
     exact ⟨by first | rfl | (simp; done) | (simp [*]; done), by repeat (first | exact Drawn0.refl _ | apply Drawn0.step)⟩
    ·
     rw [if_neg c5] at H
     have c5b0 : (((rd_T90 l0 x5_1).f0) == a1) = false := beq_eq_false_iff_ne.mpr c5
     have c5b1 : (((rd_T90 l0 x5_1).f0) != a1) = true := bne_iff_ne.mpr c5
     have H' := Aside0.mk H
     clear H
     have p235 : 0 ≤ (x5_1 : Int) := dA
     have q235 : x5_1 < (l0.length : Int) := dA
     obtain ⟨ad235, e235, hx235_0, hx235_1, hx235_2, hx235_3⟩ := at_T90 HR0.out x5_1 p235 q235
     cases e235
     replace p235 := eq_true p235
     replace q235 := eq_true q235
     go_wp2
     go_roundg k1
     case measure => have := HK1.out; omega
     case rel => exact ⟨(wrap64 (x5_1 + 1)), rS, H', ⟨by have := HK1.out; omega⟩, by repeat (first | exact Drawn0.refl _ | apply Drawn0.step)⟩
   ·
    rw [if_neg c3] at H
    have c3b0 : decide (x5_1 < (l0.length : Int)) = false := decide_eq_false c3
    clear c3
    obtain rfl := Option.some.inj H
    go_wp2
    go_ret
    exact ⟨by first | rfl | (simp; done) | (simp [*]; done), by repeat (first | exact Drawn0.refl _ | apply Drawn0.step)⟩

/-! ### spec_IsPath: function 111 -/
def spec_IsPath.f (a0_0 : Int) (a0_1 : Int) (a0_2 : Int) (a0_3 : Int) : Option (Bool) := (spec_l1In.f a0_0 1 20).bind fun t237 => (if t237 = true then ((spec_l1In.f a0_1 1 3).bind fun t238 => (if t238 = true then ((spec_l1In.f a0_2 0 3).bind fun t239 => (if t239 = true then ((spec_l1In.f a0_3 0 3).bind fun t240 => (if t240 = true then (some ((a0_2 == a0_3) == (a0_1 == 2))) else (some false))) else (some false))) else (some false))) else (some false))
set_option maxHeartbeats 8000000 in
set_option maxRecDepth 100000 in
theorem spec_IsPath.calls (a0_0 : Int) (a0_1 : Int) (a0_2 : Int) (a0_3 : Int) (r : Bool) (w : World) (h : spec_IsPath.f a0_0 a0_1 a0_2 a0_3 = some r) :
  Calls Try.prog 111 #[.agg #[.int .i64 a0_0, .int .i64 a0_1, .int .i64 a0_2, .int .i64 a0_3]] w fun e w' => e = .returned (.bool r) ∧ Below w.heap.size w w' := by
 have hu90 := Try.underlying90
 have HB := Aside0.mk (Below.refl w.heap.size w)
 have H : ((spec_l1In.f a0_0 1 20).bind fun t237 => (if t237 = true then ((spec_l1In.f a0_1 1 3).bind fun t238 => (if t238 = true then ((spec_l1In.f a0_2 0 3).bind fun t239 => (if t239 = true then ((spec_l1In.f a0_3 0 3).bind fun t240 => (if t240 = true then (some ((a0_2 == a0_3) == (a0_1 == 2))) else (some false))) else (some false))) else (some false))) else (some false))) = some r := h
 clear h
 obtain ⟨t237, A2, H⟩ := bindE H
 try dsimp only at H
 by_cases c3 : t237 = true
 ·
  subst c3
  have H1 : ((spec_l1In.f a0_1 1 3).bind fun t238 => (if t238 = true then ((spec_l1In.f a0_2 0 3).bind fun t239 => (if t239 = true then ((spec_l1In.f a0_3 0 3).bind fun t240 => (if t240 = true then (some ((a0_2 == a0_3) == (a0_1 == 2))) else (some false))) else (some false))) else (some false))) = some r := by rw [if_pos rfl] at H; exact H
  clear H
  have H := H1
  clear H1
  obtain ⟨t238, A4, H⟩ := bindE H
  try dsimp only at H
  by_cases c5 : t238 = true
  ·
   subst c5
   have H1 : ((spec_l1In.f a0_2 0 3).bind fun t239 => (if t239 = true then ((spec_l1In.f a0_3 0 3).bind fun t240 => (if t240 = true then (some ((a0_2 == a0_3) == (a0_1 == 2))) else (some false))) else (some false))) = some r := by rw [if_pos rfl] at H; exact H
   clear H
   have H := H1
   clear H1
   obtain ⟨t239, A6, H⟩ := bindE H
   try dsimp only at H
   by_cases c7 : t239 = true
   ·
    subst c7
    have H1 : ((spec_l1In.f a0_3 0 3).bind fun t240 => (if t240 = true then (some ((a0_2 == a0_3) == (a0_1 == 2))) else (some false))) = some r := by rw [if_pos rfl] at H; exact H
    clear H
    have H := H1
    clear H1
    obtain ⟨t240, A8, H⟩ := bindE H
    try dsimp only at H
    by_cases c9 : t240 = true
    ·
     subst c9
     have H1 : (some ((a0_2 == a0_3) == (a0_1 == 2))) = some r := by rw [if_pos rfl] at H; exact H
     clear H
     have H := H1
     clear H1
     obtain rfl := Option.some.inj H
     go_enter Try.func111, Try.ntmps111
     go_wp2_with (first | ((with_reducible refine gate_dst (N := 1) rfl ?_); refine bE (N := 1) (cs := #[.int .i64 a0_0, .int .i64 a0_1, .int .i64 a0_2, .int .i64 a0_3]) (t := 90) ?_; intro gb236 hg w10 hbox hb; have n0_ := Aside0.mk (below_step bA hb); have n1_ := Aside0.mk (hbox); have n2_ := Aside0.mk ((by rw [hg]; exact (below_size bA) : w.heap.size ≤ gb236)); have n3_ := Aside0.mk ((by rw [hg]; exact (below_size bA) : w.heap.size ≤ gb236)); clear HB; have HB := n0_; have BK236 := n1_; have GW236 := n2_; have GE236 := n3_; clear n0_ n1_ n2_ n3_; clear hb hbox hg; have hcz11_0 : w10.cell? ⟨gb236, 0, none⟩ = some (.int .i64 a0_0) := bC BK236 0; have hcz11_1 : w10.cell? ⟨gb236, 1, none⟩ = some (.int .i64 a0_1) := bC BK236 1; have hcz11_2 : w10.cell? ⟨gb236, 2, none⟩ = some (.int .i64 a0_2) := bC BK236 2; have hcz11_3 : w10.cell? ⟨gb236, 3, none⟩ = some (.int .i64 a0_3) := bC BK236 3; have hfz11_0 := blk_frozen BK236.out 0; have hfz11_1 := blk_frozen BK236.out 1; have hfz11_2 := blk_frozen BK236.out 2; have hfz11_3 := blk_frozen BK236.out 3) | ((with_reducible refine gate_callee (f := 67) rfl ?_); refine gL (some 5) Try.func67 #[.int .i64 a0_0, .int .i64 1, .int .i64 20] ?_; (with_reducible refine (spec_l1In.calls a0_0 1 20 true _ A2.out).mono ?_); rintro e w' ⟨rfl, ⟨nd, rfl⟩⟩; refine ⟨_, rfl, ?_⟩) | (go_at_call 67; (with_reducible refine (spec_l1In.calls a0_1 1 3 true _ A4.out).mono ?_); rintro e w' ⟨rfl, ⟨nd, rfl⟩⟩) | (go_at_call 67; (with_reducible refine (spec_l1In.calls a0_2 0 3 true _ A6.out).mono ?_); rintro e w' ⟨rfl, ⟨nd, rfl⟩⟩) | (go_at_call 67; (with_reducible refine (spec_l1In.calls a0_3 0 3 true _ A8.out).mono ?_); rintro e w' ⟨rfl, ⟨nd, rfl⟩⟩))
     go_ret
     exact ⟨rA, bG⟩
    ·
     replace c9 := Bool.eq_false_iff.mpr c9
     subst c9
     have H1 : (some false) = some r := by rw [if_neg (show ¬ (false = true) by decide)] at H; exact H
     clear H
     have H := H1
     clear H1
     obtain rfl := Option.some.inj H
     go_enter Try.func111, Try.ntmps111
     go_wp2_with (first | ((with_reducible refine gate_dst (N := 1) rfl ?_); refine bE (N := 1) (cs := #[.int .i64 a0_0, .int .i64 a0_1, .int .i64 a0_2, .int .i64 a0_3]) (t := 90) ?_; intro gb236 hg w12 hbox hb; have n0_ := Aside0.mk (below_step bA hb); have n1_ := Aside0.mk (hbox); have n2_ := Aside0.mk ((by rw [hg]; exact (below_size bA) : w.heap.size ≤ gb236)); have n3_ := Aside0.mk ((by rw [hg]; exact (below_size bA) : w.heap.size ≤ gb236)); clear HB; have HB := n0_; have BK236 := n1_; have GW236 := n2_; have GE236 := n3_; clear n0_ n1_ n2_ n3_; clear hb hbox hg; have hcz13_0 : w12.cell? ⟨gb236, 0, none⟩ = some (.int .i64 a0_0) := bC BK236 0; have hcz13_1 : w12.cell? ⟨gb236, 1, none⟩ = some (.int .i64 a0_1) := bC BK236 1; have hcz13_2 : w12.cell? ⟨gb236, 2, none⟩ = some (.int .i64 a0_2) := bC BK236 2; have hcz13_3 : w12.cell? ⟨gb236, 3, none⟩ = some (.int .i64 a0_3) := bC BK236 3; have hfz13_0 := blk_frozen BK236.out 0; have hfz13_1 := blk_frozen BK236.out 1; have hfz13_2 := blk_frozen BK236.out 2; have hfz13_3 := blk_frozen BK236.out 3) | ((with_reducible refine gate_callee (f := 67) rfl ?_); refine gL (some 5) Try.func67 #[.int .i64 a0_0, .int .i64 1, .int .i64 20] ?_; (with_reducible refine (spec_l1In.calls a0_0 1 20 true _ A2.out).mono ?_); rintro e w' ⟨rfl, ⟨nd, rfl⟩⟩; refine ⟨_, rfl, ?_⟩) | (go_at_call 67; (with_reducible refine (spec_l1In.calls a0_1 1 3 true _ A4.out).mono ?_); rintro e w' ⟨rfl, ⟨nd, rfl⟩⟩) | (go_at_call 67; (with_reducible refine (spec_l1In.calls a0_2 0 3 true _ A6.out).mono ?_); rintro e w' ⟨rfl, ⟨nd, rfl⟩⟩) | (go_at_call 67; (with_reducible refine (spec_l1In.calls a0_3 0 3 false _ A8.out).mono ?_); rintro e w' ⟨rfl, ⟨nd, rfl⟩⟩))
     go_ret
     exact ⟨rA, bG⟩
   ·
    replace c7 := Bool.eq_false_iff.mpr c7
    subst c7
    have H1 : (some false) = some r := by rw [if_neg (show ¬ (false = true) by decide)] at H; exact H
    clear H
    have H := H1
    clear H1
    obtain rfl := Option.some.inj H
    go_enter Try.func111, Try.ntmps111
    go_wp2_with (first | ((with_reducible refine gate_dst (N := 1) rfl ?_); refine bE (N := 1) (cs := #[.int .i64 a0_0, .int .i64 a0_1, .int .i64 a0_2, .int .i64 a0_3]) (t := 90) ?_; intro gb236 hg w14 hbox hb; have n0_ := Aside0.mk (below_step bA hb); have n1_ := Aside0.mk (hbox); have n2_ := Aside0.mk ((by rw [hg]; exact (below_size bA) : w.heap.size ≤ gb236)); have n3_ := Aside0.mk ((by rw [hg]; exact (below_size bA) : w.heap.size ≤ gb236)); clear HB; have HB := n0_; have BK236 := n1_; have GW236 := n2_; have GE236 := n3_; clear n0_ n1_ n2_ n3_; clear hb hbox hg; have hcz15_0 : w14.cell? ⟨gb236, 0, none⟩ = some (.int .i64 a0_0) := bC BK236 0; have hcz15_1 : w14.cell? ⟨gb236, 1, none⟩ = some (.int .i64 a0_1) := bC BK236 1; have hcz15_2 : w14.cell? ⟨gb236, 2, none⟩ = some (.int .i64 a0_2) := bC BK236 2; have hcz15_3 : w14.cell? ⟨gb236, 3, none⟩ = some (.int .i64 a0_3) := bC BK236 3; have hfz15_0 := blk_frozen BK236.out 0; have hfz15_1 := blk_frozen BK236.out 1; have hfz15_2 := blk_frozen BK236.out 2; have hfz15_3 := blk_frozen BK236.out 3) | ((with_reducible refine gate_callee (f := 67) rfl ?_); refine gL (some 5) Try.func67 #[.int .i64 a0_0, .int .i64 1, .int .i64 20] ?_; (with_reducible refine (spec_l1In.calls a0_0 1 20 true _ A2.out).mono ?_); rintro e w' ⟨rfl, ⟨nd, rfl⟩⟩; refine ⟨_, rfl, ?_⟩) | (go_at_call 67; (with_reducible refine (spec_l1In.calls a0_1 1 3 true _ A4.out).mono ?_); rintro e w' ⟨rfl, ⟨nd, rfl⟩⟩) | (go_at_call 67; (with_reducible refine (spec_l1In.calls a0_2 0 3 false _ A6.out).mono ?_); rintro e w' ⟨rfl, ⟨nd, rfl⟩⟩))
    go_ret
    exact ⟨rA, bG⟩
  ·
   replace c5 := Bool.eq_false_iff.mpr c5
   subst c5
   have H1 : (some false) = some r := by rw [if_neg (show ¬ (false = true) by decide)] at H; exact H
   clear H
   have H := H1
   clear H1
   obtain rfl := Option.some.inj H
   go_enter Try.func111, Try.ntmps111
   go_wp2_with (first | ((with_reducible refine gate_dst (N := 1) rfl ?_); refine bE (N := 1) (cs := #[.int .i64 a0_0, .int .i64 a0_1, .int .i64 a0_2, .int .i64 a0_3]) (t := 90) ?_; intro gb236 hg w16 hbox hb; have n0_ := Aside0.mk (below_step bA hb); have n1_ := Aside0.mk (hbox); have n2_ := Aside0.mk ((by rw [hg]; exact (below_size bA) : w.heap.size ≤ gb236)); have n3_ := Aside0.mk ((by rw [hg]; exact (below_size bA) : w.heap.size ≤ gb236)); clear HB; have HB := n0_; have BK236 := n1_; have GW236 := n2_; have GE236 := n3_; clear n0_ n1_ n2_ n3_; clear hb hbox hg; have hcz17_0 : w16.cell? ⟨gb236, 0, none⟩ = some (.int .i64 a0_0) := bC BK236 0; have hcz17_1 : w16.cell? ⟨gb236, 1, none⟩ = some (.int .i64 a0_1) := bC BK236 1; have hcz17_2 : w16.cell? ⟨gb236, 2, none⟩ = some (.int .i64 a0_2) := bC BK236 2; have hcz17_3 : w16.cell? ⟨gb236, 3, none⟩ = some (.int .i64 a0_3) := bC BK236 3; have hfz17_0 := blk_frozen BK236.out 0; have hfz17_1 := blk_frozen BK236.out 1; have hfz17_2 := blk_frozen BK236.out 2; have hfz17_3 := blk_frozen BK236.out 3) | ((with_reducible refine gate_callee (f := 67) rfl ?_); refine gL (some 5) Try.func67 #[.int .i64 a0_0, .int .i64 1, .int .i64 20] ?_; (with_reducible refine (spec_l1In.calls a0_0 1 20 true _ A2.out).mono ?_); rintro e w' ⟨rfl, ⟨nd, rfl⟩⟩; refine ⟨_, rfl, ?_⟩) | (go_at_call 67; (with_reducible refine (spec_l1In.calls a0_1 1 3 false _ A4.out).mono ?_); rintro e w' ⟨rfl, ⟨nd, rfl⟩⟩))
   go_ret
   exact ⟨rA, bG⟩
 ·
  replace c3 := Bool.eq_false_iff.mpr c3
  subst c3
  have H1 : (some false) = some r := by rw [if_neg (show ¬ (false = true) by decide)] at H; exact H
  clear H
  have H := H1
  clear H1
  obtain rfl := Option.some.inj H
  go_enter Try.func111, Try.ntmps111
  go_wp2_with (first | ((with_reducible refine gate_dst (N := 1) rfl ?_); refine bE (N := 1) (cs := #[.int .i64 a0_0, .int .i64 a0_1, .int .i64 a0_2, .int .i64 a0_3]) (t := 90) ?_; intro gb236 hg w18 hbox hb; have n0_ := Aside0.mk (below_step bA hb); have n1_ := Aside0.mk (hbox); have n2_ := Aside0.mk ((by rw [hg]; exact (below_size bA) : w.heap.size ≤ gb236)); have n3_ := Aside0.mk ((by rw [hg]; exact (below_size bA) : w.heap.size ≤ gb236)); clear HB; have HB := n0_; have BK236 := n1_; have GW236 := n2_; have GE236 := n3_; clear n0_ n1_ n2_ n3_; clear hb hbox hg; have hcz19_0 : w18.cell? ⟨gb236, 0, none⟩ = some (.int .i64 a0_0) := bC BK236 0; have hcz19_1 : w18.cell? ⟨gb236, 1, none⟩ = some (.int .i64 a0_1) := bC BK236 1; have hcz19_2 : w18.cell? ⟨gb236, 2, none⟩ = some (.int .i64 a0_2) := bC BK236 2; have hcz19_3 : w18.cell? ⟨gb236, 3, none⟩ = some (.int .i64 a0_3) := bC BK236 3; have hfz19_0 := blk_frozen BK236.out 0; have hfz19_1 := blk_frozen BK236.out 1; have hfz19_2 := blk_frozen BK236.out 2; have hfz19_3 := blk_frozen BK236.out 3) | ((with_reducible refine gate_callee (f := 67) rfl ?_); refine gL (some 5) Try.func67 #[.int .i64 a0_0, .int .i64 1, .int .i64 20] ?_; (with_reducible refine (spec_l1In.calls a0_0 1 20 false _ A2.out).mono ?_); rintro e w' ⟨rfl, ⟨nd, rfl⟩⟩; refine ⟨_, rfl, ?_⟩))
  go_ret
  exact ⟨rA, bG⟩

/-! ### spec_ArePaths: function 80 -/
def spec_ArePaths.l0 : Nat → List (S90) → Int → Option (Bool)
 | 0, _, _ => none
 | k + 1, x0, x3 => if x3 < (x0.length : Int) then (if 0 ≤ x3 then ((spec_IsPath.f ((rd_T90 x0 x3).f0) ((rd_T90 x0 x3).f1) ((rd_T90 x0 x3).f2) ((rd_T90 x0 x3).f3)).bind fun t242 => (if t242 = true then (if x3 > 0 then (if 0 ≤ (wrap64 (x3 - 1)) then (if (wrap64 (x3 - 1)) < (x0.length : Int) then (if ((rd_T90 x0 (wrap64 (x3 - 1))).f0) ≥ ((rd_T90 x0 x3).f0) then (some false) else (spec_ArePaths.l0 k x0 (wrap64 (x3 + 1)))) else (none)) else (none)) else (spec_ArePaths.l0 k x0 (wrap64 (x3 + 1)))) else (some false))) else (none)) else (some (decide ((x0.length : Int) ≤ 12)))
def spec_ArePaths.f (k : Nat) (l0 : List (S90)) : Option (Bool) := spec_ArePaths.l0 k l0 0
theorem spec_ArePaths.mono_l : ∀ k, (∀ y0 y1, LeO (spec_ArePaths.l0 k y0 y1) (spec_ArePaths.l0 (k + 1) y0 y1))
 | 0 => fun _ _ r h => by simp [spec_ArePaths.l0] at h
 | k + 1 => by
  have ih0 := spec_ArePaths.mono_l k
  ·
   intro y0 y1
   unfold spec_ArePaths.l0
   repeat' first | (with_reducible first | exact LeO.refl _ | exact LeO.none _ | refine LeO.ite ?_ ?_ | refine LeO.bind ?_ (fun _ => ?_) | exact ih0 _ _) | exact LeO.none _ | refine LeO.ite ?_ ?_ | refine LeO.bind ?_ (fun _ => ?_) | exact ih0 _ _
theorem spec_ArePaths.mono : ∀ a0 k, LeO (spec_ArePaths.f k a0) (spec_ArePaths.f (k + 1) a0) := by
 intro a0 k
 have ih0 := spec_ArePaths.mono_l k
 unfold spec_ArePaths.f
 repeat' first | (with_reducible first | exact LeO.refl _ | exact LeO.none _ | refine LeO.ite ?_ ?_ | refine LeO.bind ?_ (fun _ => ?_) | exact ih0 _ _) | exact LeO.none _ | refine LeO.ite ?_ ?_ | refine LeO.bind ?_ (fun _ => ?_) | exact ih0 _ _
def spec_ArePaths.T4 : Bool × List (List Nat × List Nat) := (true, [([], []), ([], []), ([0, 1], [0, 1]), ([2], [2]), ([3], [3]), ([4], [4]), ([5, 4], [5]), ([6], [6]), ([7, 6], [6, 7]), ([8, 6, 6], [6, 8]), ([9], [9]), ([9], [9]), ([11, 9], [9, 11]), ([10, 12, 9], [9, 10, 12]), ([13, 9], [9, 13]), ([14, 9], [9, 14]), ([9], [9]), ([9], [9]), ([16, 17, 9], [9, 16, 17]), ([18, 9], [9, 18]), ([19, 9], [9, 19]), ([15, 20, 9], [9, 15, 20]), ([9, 21, 6], [6, 9, 21]), ([6, 22], [6, 22])])
def spec_ArePaths.B4 : List Nat := [0, 0, 3, 7, 15, 31, 63, 127, 255, 511, 1023, 1023, 3071, 8191, 16383, 32767, 1023, 1023, 197631, 459775, 984063, 2097151, 4194303, 8388607]
theorem spec_ArePaths.tab4 : rtab .any (opsOf Try.f80 4) = spec_ArePaths.T4 := by kernel_rfl
theorem spec_ArePaths.bits4 : waitsOk spec_ArePaths.T4.2 spec_ArePaths.B4 = true := by kernel_rfl
set_option maxHeartbeats 8000000 in
set_option maxRecDepth 100000 in
theorem spec_ArePaths.calls (k : Nat) (A0 : Option Addr) (c0 : Nat) (l0 : List (S90)) (r : Bool) (w : World) (hr0 : Kd.C k90 w A0 l0.length l0) (hc0 : l0.length ≤ c0) (h : spec_ArePaths.f k l0 = some r) :
  Calls Try.prog 80 #[.slice A0 l0.length c0] w fun e w' => e = .returned (.bool r) ∧ Below w.heap.size w w' := by
 have hu90 := Try.underlying90
 have HR0 := Aside0.mk hr0
 have HC0 := Aside0.mk hc0
 clear hr0 hc0
 have HB := Aside0.mk (Below.refl w.heap.size w)
 have H : (spec_ArePaths.l0 k l0 0) = some r := h
 clear h
 have H' := Aside0.mk H
 clear H
 go_enter Try.func80, Try.ntmps80
 go_wp2
 go_loopg [3] k (fun kq v3 w' => ∃ (x3_1 : Int), v3 = .int .i64 x3_1 ∧ Aside0 (spec_ArePaths.l0 kq l0 x3_1 = some r) ∧ Aside0 (kq ≤ k) ∧ Aside0 (Below w.heap.size w w'))
 case atStart => exact ⟨(0), rS, H', ⟨Nat.le_refl _⟩, ⟨bA⟩⟩
 case round =>
  clear H'
  obtain ⟨x3_1, rfl, HA, HK1, HB⟩ := hrel
  cases gk with
  | zero => exact absurd HA.out (by simp [spec_ArePaths.l0])
  | succ k1 =>
   have H := HA.out
   clear HA
   simp only [spec_ArePaths.l0] at H
   by_cases c2 : x3_1 < (l0.length : Int)
   ·
    rw [if_pos c2] at H
    have c2b0 : decide (x3_1 < (l0.length : Int)) = true := decide_eq_true c2
    clear c2
    have c3 : 0 ≤ x3_1 := ifN H
    replace H := ifT H
    have c3b0 : decide (0 ≤ x3_1) = true := decide_eq_true c3
    clear c3
    obtain ⟨t242, A4, H⟩ := bindE H
    try dsimp only at H
    by_cases c5 : t242 = true
    ·
     subst c5
     have H1 : (if x3_1 > 0 then (if 0 ≤ (wrap64 (x3_1 - 1)) then (if (wrap64 (x3_1 - 1)) < (l0.length : Int) then (if ((rd_T90 l0 (wrap64 (x3_1 - 1))).f0) ≥ ((rd_T90 l0 x3_1).f0) then (some false) else (spec_ArePaths.l0 k1 l0 (wrap64 (x3_1 + 1)))) else (none)) else (none)) else (spec_ArePaths.l0 k1 l0 (wrap64 (x3_1 + 1)))) = some r := by rw [if_pos rfl] at H; exact H
     clear H
     have H := H1
     clear H1
     by_cases c6 : x3_1 > 0
     ·
      rw [if_pos c6] at H
      have c6b0 : decide (0 < x3_1) = true := decide_eq_true c6
      clear c6
      obtain ⟨ji7, hji7⟩ : ∃ j_ : Int, (wrap64 (x3_1 - 1)) = j_ := ⟨_, rfl⟩
      replace H : (if 0 ≤ (ji7) then (if (ji7) < (l0.length : Int) then (if ((rd_T90 l0 (ji7)).f0) ≥ ((rd_T90 l0 x3_1).f0) then (some false) else (spec_ArePaths.l0 k1 l0 (wrap64 (x3_1 + 1)))) else (none)) else (none)) = some r := by first | (rw [hji7] at H; exact H) | (simp only [hji7] at H ⊢; exact H)
      (try rw [hji7] at A4)
      have hji7w : (IntKind.i64.wrap (x3_1 - 1)) = ji7 := (i64_w _).trans hji7
      have c8 : 0 ≤ (ji7) := ifN H
      replace H := ifT H
      have c8b0 : decide (0 ≤ (ji7)) = true := decide_eq_true c8
      clear c8
      have c9 : (ji7) < (l0.length : Int) := ifN H
      replace H := ifT H
      have c9b0 : decide ((ji7) < (l0.length : Int)) = true := decide_eq_true c9
      clear c9
      by_cases c10 : ((rd_T90 l0 (ji7)).f0) ≥ ((rd_T90 l0 x3_1).f0)
      ·
       rw [if_pos c10] at H
       have c10b0 : decide (((rd_T90 l0 x3_1).f0) ≤ ((rd_T90 l0 (ji7)).f0)) = true := decide_eq_true c10
       clear c10
       obtain rfl := Option.some.inj H
       try go_wp2
       have HBo := HB
       replace HB := Aside0.mk (below_drew1 HB.out)
       have p241 : 0 ≤ (x3_1 : Int) := dA
       have q241 : x3_1 < (l0.length : Int) := dA
       obtain ⟨ad241, e241, hx241_0, hx241_1, hx241_2, hx241_3⟩ := at_T90 HR0.out x3_1 p241 q241
       have hw241_3 := hx241_3
       have hw241_2 := hx241_2
       have hw241_1 := hx241_1
       have hw241_0 := hx241_0
       cases e241
       replace hx241_0 := hC HB hx241_0
       replace hx241_1 := hC HB hx241_1
       replace hx241_2 := hC HB hx241_2
       replace hx241_3 := hC HB hx241_3
       replace p241 := eq_true p241
       replace q241 := eq_true q241
       have p243 : 0 ≤ ((ji7) : Int) := dA
       have q243 : (ji7) < (l0.length : Int) := dA
       obtain ⟨ad243, e243, hx243_0, hx243_1, hx243_2, hx243_3⟩ := at_T90 HR0.out (ji7) p243 q243
       have hw243_3 := hx243_3
       have hw243_2 := hx243_2
       have hw243_1 := hx243_1
       have hw243_0 := hx243_0
       obtain rfl : ad241 = ad243 := (by injection e243)
       replace hx243_0 := hC HB hx243_0
       replace hx243_1 := hC HB hx243_1
       replace hx243_2 := hC HB hx243_2
       replace hx243_3 := hC HB hx243_3
       replace p243 := eq_true p243
       replace q243 := eq_true q243
       have p244 : 0 ≤ (x3_1 : Int) := dA
       have q244 : x3_1 < (l0.length : Int) := dA
       obtain ⟨ad244, e244, hx244_0, hx244_1, hx244_2, hx244_3⟩ := at_T90 HR0.out x3_1 p244 q244
       have hw244_3 := hx244_3
       have hw244_2 := hx244_2
       have hw244_1 := hx244_1
       have hw244_0 := hx244_0
       obtain rfl : ad241 = ad244 := (by injection e244)
       replace hx244_0 := hC HB hx244_0
       replace hx244_1 := hC HB hx244_1
       replace hx244_2 := hC HB hx244_2
       replace hx244_3 := hC HB hx244_3
       replace p244 := eq_true p244
       replace q244 := eq_true q244
       refine start_ (n := 24) (S := fun w' => w'.cell? (ad241.add ((x3_1).toNat * 4)) = some (.int .i64 ((rd_T90 l0 x3_1).f0)) ∧ w'.cell? ⟨(ad241.add ((x3_1).toNat * 4)).block, (ad241.add ((x3_1).toNat * 4)).off + 1, none⟩ = some (.int .i64 ((rd_T90 l0 x3_1).f1)) ∧ w'.cell? ⟨(ad241.add ((x3_1).toNat * 4)).block, (ad241.add ((x3_1).toNat * 4)).off + 2, none⟩ = some (.int .i64 ((rd_T90 l0 x3_1).f2)) ∧ w'.cell? ⟨(ad241.add ((x3_1).toNat * 4)).block, (ad241.add ((x3_1).toNat * 4)).off + 3, none⟩ = some (.int .i64 ((rd_T90 l0 x3_1).f3)) ∧ w'.cell? (ad241.add (((ji7)).toNat * 4)) = some (.int .i64 ((rd_T90 l0 (ji7)).f0)) ∧ w'.cell? ⟨(ad241.add (((ji7)).toNat * 4)).block, (ad241.add (((ji7)).toNat * 4)).off + 1, none⟩ = some (.int .i64 ((rd_T90 l0 (ji7)).f1)) ∧ w'.cell? ⟨(ad241.add (((ji7)).toNat * 4)).block, (ad241.add (((ji7)).toNat * 4)).off + 2, none⟩ = some (.int .i64 ((rd_T90 l0 (ji7)).f2)) ∧ w'.cell? ⟨(ad241.add (((ji7)).toNat * 4)).block, (ad241.add (((ji7)).toNat * 4)).off + 3, none⟩ = some (.int .i64 ((rd_T90 l0 (ji7)).f3)) ∧ w'.cell? (ad241.add ((x3_1).toNat * 4)) = some (.int .i64 ((rd_T90 l0 x3_1).f0)) ∧ w'.cell? ⟨(ad241.add ((x3_1).toNat * 4)).block, (ad241.add ((x3_1).toNat * 4)).off + 1, none⟩ = some (.int .i64 ((rd_T90 l0 x3_1).f1)) ∧ w'.cell? ⟨(ad241.add ((x3_1).toNat * 4)).block, (ad241.add ((x3_1).toNat * 4)).off + 2, none⟩ = some (.int .i64 ((rd_T90 l0 x3_1).f2)) ∧ w'.cell? ⟨(ad241.add ((x3_1).toNat * 4)).block, (ad241.add ((x3_1).toNat * 4)).off + 3, none⟩ = some (.int .i64 ((rd_T90 l0 x3_1).f3))) (ds := []) (mb 24 0) (by kernel_rfl) rfl rfl ⟨(hC HB hw241_0), (hC HB hw241_1), (hC HB hw241_2), (hC HB hw241_3), (hC HB hw243_0), (hC HB hw243_1), (hC HB hw243_2), (hC HB hw243_3), (hC HB hw244_0), (hC HB hw244_1), (hC HB hw244_2), (hC HB hw244_3)⟩ (fun hHeld => ?_); refine with_tabW spec_ArePaths.tab4 spec_ArePaths.bits4 (fun HT_ HW_ => ?_)
       generalize wr.drew = w11 at HB hx241_0 hx241_1 hx241_2 hx241_3 hx243_0 hx243_1 hx243_2 hx243_3 hx244_0 hx244_1 hx244_2 hx244_3 hHeld ⊢
       refine pA (i := 0) (N := some 10) (mb 24 1) HT_ ?_
       refine pA (i := 1) (N := some 11) (mb 24 3) HT_ ?_
       refine pA (i := 2) (N := some 12) (mb 24 7) HT_ ?_
       refine tA12 (i := 3) (N := some 13) (mb 24 15) HT_ HW_ hHeld ?_
       refine oA (i := 4) (N := some 14) (mb 24 31) HT_ (fun K hK => ?_)
       refine gA Try.func111 #[.agg #[.int .i64 ((rd_T90 l0 x3_1).f0), .int .i64 ((rd_T90 l0 x3_1).f1), .int .i64 ((rd_T90 l0 x3_1).f2), .int .i64 ((rd_T90 l0 x3_1).f3)]] ?_
       with_reducible refine (spec_IsPath.calls ((rd_T90 l0 x3_1).f0) ((rd_T90 l0 x3_1).f1) ((rd_T90 l0 x3_1).f2) ((rd_T90 l0 x3_1).f3) true _ A4.out).mono ?_
       rintro e w12 ⟨rfl, hb⟩
       refine ⟨_, rfl, ?_⟩
       replace HB := Aside0.mk (below_step bA hb)
       (try clear hb)
       (try clear hb2)
       (try clear hk)
       (try clear hi)
       refine hK.out _ _ ⟨(hC HB hw241_0), (hC HB hw241_1), (hC HB hw241_2), (hC HB hw241_3), (hC HB hw243_0), (hC HB hw243_1), (hC HB hw243_2), (hC HB hw243_3), (hC HB hw244_0), (hC HB hw244_1), (hC HB hw244_2), (hC HB hw244_3)⟩ (fun hHeld => ?_)
       clear hK K
       refine nB ?_
       refine pA (i := 5) (N := some 15) (mb 24 63) HT_ ?_
       refine pA (i := 6) (N := some 16) (mb 24 127) HT_ ?_
       refine pA (i := 7) (N := some 17) (mb 24 255) HT_ ?_
       refine pA (i := 8) (N := some 18) (mb 24 511) HT_ ?_
       refine pA (i := 9) (N := some 19) (mb 24 1023) HT_ ?_
       refine pA (i := 10) (N := some 20) (mb 24 2047) HT_ ?_
       refine pA (i := 11) (N := some 21) (mb 24 4095) HT_ ?_
       refine pA (i := 12) (N := some 22) (mb 24 8191) HT_ ?_
       refine pA (i := 13) (N := some 23) (mb 24 16383) HT_ ?_
       refine pA (i := 14) (N := some 24) (mb 24 32767) HT_ ?_
       refine pA (i := 16) (N := some 26) (mb 24 98303) HT_ ?_
       refine pA (i := 17) (N := some 27) (mb 24 229375) HT_ ?_
       refine pA (i := 18) (N := some 28) (mb 24 491519) HT_ ?_
       refine pA (i := 19) (N := some 29) (mb 24 1015807) HT_ ?_
       refine tA12 (i := 15) (N := some 25) (mb 24 1048575) HT_ HW_ hHeld ?_
       refine tA12 (i := 20) (N := some 30) (mb 24 2097151) HT_ HW_ hHeld ?_
       refine pA (i := 21) (N := some 31) (mb 24 4194303) HT_ ?_
       refine pA (i := 22) (N := some 32) (mb 24 8388607) HT_ ?_
       refine pA (i := 23) (N := some 33) (mb 24 16777215) HT_ ?_
       refine eA HT_ ?_
       try go_wp2
       go_ret
       exact ⟨by first | rfl | (simp [errW_none, errW_some] <;> rfl) | (simp only [← hji7]; first | rfl | (simp [errW_none, errW_some] <;> rfl)) | (simp [*, errW_none, errW_some] <;> rfl), bA⟩
      ·
       rw [if_neg c10] at H
       have c10b0 : decide (((rd_T90 l0 x3_1).f0) ≤ ((rd_T90 l0 (ji7)).f0)) = false := decide_eq_false c10
       clear c10
       have H' := Aside0.mk H
       clear H
       try go_wp2
       have HBo := HB
       replace HB := Aside0.mk (below_drew1 HB.out)
       have p241 : 0 ≤ (x3_1 : Int) := dA
       have q241 : x3_1 < (l0.length : Int) := dA
       obtain ⟨ad241, e241, hx241_0, hx241_1, hx241_2, hx241_3⟩ := at_T90 HR0.out x3_1 p241 q241
       have hw241_3 := hx241_3
       have hw241_2 := hx241_2
       have hw241_1 := hx241_1
       have hw241_0 := hx241_0
       cases e241
       replace hx241_0 := hC HB hx241_0
       replace hx241_1 := hC HB hx241_1
       replace hx241_2 := hC HB hx241_2
       replace hx241_3 := hC HB hx241_3
       replace p241 := eq_true p241
       replace q241 := eq_true q241
       have p243 : 0 ≤ ((ji7) : Int) := dA
       have q243 : (ji7) < (l0.length : Int) := dA
       obtain ⟨ad243, e243, hx243_0, hx243_1, hx243_2, hx243_3⟩ := at_T90 HR0.out (ji7) p243 q243
       have hw243_3 := hx243_3
       have hw243_2 := hx243_2
       have hw243_1 := hx243_1
       have hw243_0 := hx243_0
       obtain rfl : ad241 = ad243 := (by injection e243)
       replace hx243_0 := hC HB hx243_0
       replace hx243_1 := hC HB hx243_1
       replace hx243_2 := hC HB hx243_2
       replace hx243_3 := hC HB hx243_3
       replace p243 := eq_true p243
       replace q243 := eq_true q243
       have p244 : 0 ≤ (x3_1 : Int) := dA
       have q244 : x3_1 < (l0.length : Int) := dA
       obtain ⟨ad244, e244, hx244_0, hx244_1, hx244_2, hx244_3⟩ := at_T90 HR0.out x3_1 p244 q244
       have hw244_3 := hx244_3
       have hw244_2 := hx244_2
       have hw244_1 := hx244_1
       have hw244_0 := hx244_0
       obtain rfl : ad241 = ad244 := (by injection e244)
       replace hx244_0 := hC HB hx244_0
       replace hx244_1 := hC HB hx244_1
       replace hx244_2 := hC HB hx244_2
       replace hx244_3 := hC HB hx244_3
       replace p244 := eq_true p244
       replace q244 := eq_true q244
       refine start_ (n := 24) (S := fun w' => w'.cell? (ad241.add ((x3_1).toNat * 4)) = some (.int .i64 ((rd_T90 l0 x3_1).f0)) ∧ w'.cell? ⟨(ad241.add ((x3_1).toNat * 4)).block, (ad241.add ((x3_1).toNat * 4)).off + 1, none⟩ = some (.int .i64 ((rd_T90 l0 x3_1).f1)) ∧ w'.cell? ⟨(ad241.add ((x3_1).toNat * 4)).block, (ad241.add ((x3_1).toNat * 4)).off + 2, none⟩ = some (.int .i64 ((rd_T90 l0 x3_1).f2)) ∧ w'.cell? ⟨(ad241.add ((x3_1).toNat * 4)).block, (ad241.add ((x3_1).toNat * 4)).off + 3, none⟩ = some (.int .i64 ((rd_T90 l0 x3_1).f3)) ∧ w'.cell? (ad241.add (((ji7)).toNat * 4)) = some (.int .i64 ((rd_T90 l0 (ji7)).f0)) ∧ w'.cell? ⟨(ad241.add (((ji7)).toNat * 4)).block, (ad241.add (((ji7)).toNat * 4)).off + 1, none⟩ = some (.int .i64 ((rd_T90 l0 (ji7)).f1)) ∧ w'.cell? ⟨(ad241.add (((ji7)).toNat * 4)).block, (ad241.add (((ji7)).toNat * 4)).off + 2, none⟩ = some (.int .i64 ((rd_T90 l0 (ji7)).f2)) ∧ w'.cell? ⟨(ad241.add (((ji7)).toNat * 4)).block, (ad241.add (((ji7)).toNat * 4)).off + 3, none⟩ = some (.int .i64 ((rd_T90 l0 (ji7)).f3)) ∧ w'.cell? (ad241.add ((x3_1).toNat * 4)) = some (.int .i64 ((rd_T90 l0 x3_1).f0)) ∧ w'.cell? ⟨(ad241.add ((x3_1).toNat * 4)).block, (ad241.add ((x3_1).toNat * 4)).off + 1, none⟩ = some (.int .i64 ((rd_T90 l0 x3_1).f1)) ∧ w'.cell? ⟨(ad241.add ((x3_1).toNat * 4)).block, (ad241.add ((x3_1).toNat * 4)).off + 2, none⟩ = some (.int .i64 ((rd_T90 l0 x3_1).f2)) ∧ w'.cell? ⟨(ad241.add ((x3_1).toNat * 4)).block, (ad241.add ((x3_1).toNat * 4)).off + 3, none⟩ = some (.int .i64 ((rd_T90 l0 x3_1).f3))) (ds := []) (mb 24 0) (by kernel_rfl) rfl rfl ⟨(hC HB hw241_0), (hC HB hw241_1), (hC HB hw241_2), (hC HB hw241_3), (hC HB hw243_0), (hC HB hw243_1), (hC HB hw243_2), (hC HB hw243_3), (hC HB hw244_0), (hC HB hw244_1), (hC HB hw244_2), (hC HB hw244_3)⟩ (fun hHeld => ?_); refine with_tabW spec_ArePaths.tab4 spec_ArePaths.bits4 (fun HT_ HW_ => ?_)
       generalize wr.drew = w13 at HB hx241_0 hx241_1 hx241_2 hx241_3 hx243_0 hx243_1 hx243_2 hx243_3 hx244_0 hx244_1 hx244_2 hx244_3 hHeld ⊢
       refine pA (i := 0) (N := some 10) (mb 24 1) HT_ ?_
       refine pA (i := 1) (N := some 11) (mb 24 3) HT_ ?_
       refine pA (i := 2) (N := some 12) (mb 24 7) HT_ ?_
       refine tA12 (i := 3) (N := some 13) (mb 24 15) HT_ HW_ hHeld ?_
       refine oA (i := 4) (N := some 14) (mb 24 31) HT_ (fun K hK => ?_)
       refine gA Try.func111 #[.agg #[.int .i64 ((rd_T90 l0 x3_1).f0), .int .i64 ((rd_T90 l0 x3_1).f1), .int .i64 ((rd_T90 l0 x3_1).f2), .int .i64 ((rd_T90 l0 x3_1).f3)]] ?_
       with_reducible refine (spec_IsPath.calls ((rd_T90 l0 x3_1).f0) ((rd_T90 l0 x3_1).f1) ((rd_T90 l0 x3_1).f2) ((rd_T90 l0 x3_1).f3) true _ A4.out).mono ?_
       rintro e w14 ⟨rfl, hb⟩
       refine ⟨_, rfl, ?_⟩
       replace HB := Aside0.mk (below_step bA hb)
       (try clear hb)
       (try clear hb2)
       (try clear hk)
       (try clear hi)
       refine hK.out _ _ ⟨(hC HB hw241_0), (hC HB hw241_1), (hC HB hw241_2), (hC HB hw241_3), (hC HB hw243_0), (hC HB hw243_1), (hC HB hw243_2), (hC HB hw243_3), (hC HB hw244_0), (hC HB hw244_1), (hC HB hw244_2), (hC HB hw244_3)⟩ (fun hHeld => ?_)
       clear hK K
       refine nB ?_
       refine pA (i := 5) (N := some 15) (mb 24 63) HT_ ?_
       refine pA (i := 6) (N := some 16) (mb 24 127) HT_ ?_
       refine pA (i := 7) (N := some 17) (mb 24 255) HT_ ?_
       refine pA (i := 8) (N := some 18) (mb 24 511) HT_ ?_
       refine pA (i := 9) (N := some 19) (mb 24 1023) HT_ ?_
       refine pA (i := 10) (N := some 20) (mb 24 2047) HT_ ?_
       refine pA (i := 11) (N := some 21) (mb 24 4095) HT_ ?_
       refine pA (i := 12) (N := some 22) (mb 24 8191) HT_ ?_
       refine pA (i := 13) (N := some 23) (mb 24 16383) HT_ ?_
       refine pA (i := 14) (N := some 24) (mb 24 32767) HT_ ?_
       refine pA (i := 16) (N := some 26) (mb 24 98303) HT_ ?_
       refine pA (i := 17) (N := some 27) (mb 24 229375) HT_ ?_
       refine pA (i := 18) (N := some 28) (mb 24 491519) HT_ ?_
       refine pA (i := 19) (N := some 29) (mb 24 1015807) HT_ ?_
       refine tA12 (i := 15) (N := some 25) (mb 24 1048575) HT_ HW_ hHeld ?_
       refine tA12 (i := 20) (N := some 30) (mb 24 2097151) HT_ HW_ hHeld ?_
       refine pA (i := 21) (N := some 31) (mb 24 4194303) HT_ ?_
       refine pA (i := 22) (N := some 32) (mb 24 8388607) HT_ ?_
       refine pA (i := 23) (N := some 33) (mb 24 16777215) HT_ ?_
       refine eA HT_ ?_
       try go_wp2
       go_roundg k1
       case measure => have := HK1.out; omega
       case rel => exact ⟨(wrap64 (x3_1 + 1)), rS, H', ⟨by have := HK1.out; omega⟩, ⟨bA⟩⟩
     ·
      rw [if_neg c6] at H
      have c6b0 : decide (0 < x3_1) = false := decide_eq_false c6
      clear c6
      have H' := Aside0.mk H
      clear H
      try go_wp2
      have HBo := HB
      replace HB := Aside0.mk (below_drew1 HB.out)
      have p241 : 0 ≤ (x3_1 : Int) := dA
      have q241 : x3_1 < (l0.length : Int) := dA
      obtain ⟨ad241, e241, hx241_0, hx241_1, hx241_2, hx241_3⟩ := at_T90 HR0.out x3_1 p241 q241
      have hw241_3 := hx241_3
      have hw241_2 := hx241_2
      have hw241_1 := hx241_1
      have hw241_0 := hx241_0
      cases e241
      replace hx241_0 := hC HB hx241_0
      replace hx241_1 := hC HB hx241_1
      replace hx241_2 := hC HB hx241_2
      replace hx241_3 := hC HB hx241_3
      replace p241 := eq_true p241
      replace q241 := eq_true q241
      refine start_ (n := 24) (S := fun w' => w'.cell? (ad241.add ((x3_1).toNat * 4)) = some (.int .i64 ((rd_T90 l0 x3_1).f0)) ∧ w'.cell? ⟨(ad241.add ((x3_1).toNat * 4)).block, (ad241.add ((x3_1).toNat * 4)).off + 1, none⟩ = some (.int .i64 ((rd_T90 l0 x3_1).f1)) ∧ w'.cell? ⟨(ad241.add ((x3_1).toNat * 4)).block, (ad241.add ((x3_1).toNat * 4)).off + 2, none⟩ = some (.int .i64 ((rd_T90 l0 x3_1).f2)) ∧ w'.cell? ⟨(ad241.add ((x3_1).toNat * 4)).block, (ad241.add ((x3_1).toNat * 4)).off + 3, none⟩ = some (.int .i64 ((rd_T90 l0 x3_1).f3))) (ds := []) (mb 24 0) (by kernel_rfl) rfl rfl ⟨(hC HB hw241_0), (hC HB hw241_1), (hC HB hw241_2), (hC HB hw241_3)⟩ (fun hHeld => ?_); refine with_tabW spec_ArePaths.tab4 spec_ArePaths.bits4 (fun HT_ HW_ => ?_)
      generalize wr.drew = w15 at HB hx241_0 hx241_1 hx241_2 hx241_3 hHeld ⊢
      refine pA (i := 0) (N := some 10) (mb 24 1) HT_ ?_
      refine pA (i := 1) (N := some 11) (mb 24 3) HT_ ?_
      refine pA (i := 2) (N := some 12) (mb 24 7) HT_ ?_
      refine tA4 (i := 3) (N := some 13) (mb 24 15) HT_ HW_ hHeld ?_
      refine oA (i := 4) (N := some 14) (mb 24 31) HT_ (fun K hK => ?_)
      refine gA Try.func111 #[.agg #[.int .i64 ((rd_T90 l0 x3_1).f0), .int .i64 ((rd_T90 l0 x3_1).f1), .int .i64 ((rd_T90 l0 x3_1).f2), .int .i64 ((rd_T90 l0 x3_1).f3)]] ?_
      with_reducible refine (spec_IsPath.calls ((rd_T90 l0 x3_1).f0) ((rd_T90 l0 x3_1).f1) ((rd_T90 l0 x3_1).f2) ((rd_T90 l0 x3_1).f3) true _ A4.out).mono ?_
      rintro e w16 ⟨rfl, hb⟩
      refine ⟨_, rfl, ?_⟩
      replace HB := Aside0.mk (below_step bA hb)
      (try clear hb)
      (try clear hb2)
      (try clear hk)
      (try clear hi)
      refine hK.out _ _ ⟨(hC HB hw241_0), (hC HB hw241_1), (hC HB hw241_2), (hC HB hw241_3)⟩ (fun hHeld => ?_)
      clear hK K
      refine nB ?_
      refine pA (i := 5) (N := some 15) (mb 24 63) HT_ ?_
      refine pA (i := 6) (N := some 16) (mb 24 127) HT_ ?_
      refine pA (i := 7) (N := some 17) (mb 24 255) HT_ ?_
      refine pA (i := 8) (N := some 18) (mb 24 511) HT_ ?_
      refine pA (i := 9) (N := some 19) (mb 24 1023) HT_ ?_
      refine pU (i := 10) (N := some 20) (mb 24 2047) HT_ ?_
      refine pU (i := 11) (N := some 21) (mb 24 4095) HT_ ?_
      refine pU (i := 12) (N := some 22) (mb 24 8191) HT_ ?_
      refine pU (i := 13) (N := some 23) (mb 24 16383) HT_ ?_
      refine pU (i := 14) (N := some 24) (mb 24 32767) HT_ ?_
      refine pU (i := 15) (N := some 25) (mb 24 65535) HT_ ?_
      refine pU (i := 16) (N := some 26) (mb 24 131071) HT_ ?_
      refine pU (i := 17) (N := some 27) (mb 24 262143) HT_ ?_
      refine pU (i := 18) (N := some 28) (mb 24 524287) HT_ ?_
      refine pU (i := 19) (N := some 29) (mb 24 1048575) HT_ ?_
      refine pU (i := 20) (N := some 30) (mb 24 2097151) HT_ ?_
      refine pU (i := 21) (N := some 31) (mb 24 4194303) HT_ ?_
      refine pA (i := 22) (N := some 32) (mb 24 8388607) HT_ ?_
      refine pA (i := 23) (N := some 33) (mb 24 16777215) HT_ ?_
      refine eA HT_ ?_
      try go_wp2
      go_roundg k1
      case measure => have := HK1.out; omega
      case rel => exact ⟨(wrap64 (x3_1 + 1)), rS, H', ⟨by have := HK1.out; omega⟩, ⟨bA⟩⟩
    ·
     replace c5 := Bool.eq_false_iff.mpr c5
     subst c5
     have H1 : (some false) = some r := by rw [if_neg (show ¬ (false = true) by decide)] at H; exact H
     clear H
     have H := H1
     clear H1
     obtain rfl := Option.some.inj H
     try go_wp2
     have HBo := HB
     replace HB := Aside0.mk (below_drew1 HB.out)
     have p241 : 0 ≤ (x3_1 : Int) := dA
     have q241 : x3_1 < (l0.length : Int) := dA
     obtain ⟨ad241, e241, hx241_0, hx241_1, hx241_2, hx241_3⟩ := at_T90 HR0.out x3_1 p241 q241
     have hw241_3 := hx241_3
     have hw241_2 := hx241_2
     have hw241_1 := hx241_1
     have hw241_0 := hx241_0
     cases e241
     replace hx241_0 := hC HB hx241_0
     replace hx241_1 := hC HB hx241_1
     replace hx241_2 := hC HB hx241_2
     replace hx241_3 := hC HB hx241_3
     replace p241 := eq_true p241
     replace q241 := eq_true q241
     refine start_ (n := 24) (S := fun w' => w'.cell? (ad241.add ((x3_1).toNat * 4)) = some (.int .i64 ((rd_T90 l0 x3_1).f0)) ∧ w'.cell? ⟨(ad241.add ((x3_1).toNat * 4)).block, (ad241.add ((x3_1).toNat * 4)).off + 1, none⟩ = some (.int .i64 ((rd_T90 l0 x3_1).f1)) ∧ w'.cell? ⟨(ad241.add ((x3_1).toNat * 4)).block, (ad241.add ((x3_1).toNat * 4)).off + 2, none⟩ = some (.int .i64 ((rd_T90 l0 x3_1).f2)) ∧ w'.cell? ⟨(ad241.add ((x3_1).toNat * 4)).block, (ad241.add ((x3_1).toNat * 4)).off + 3, none⟩ = some (.int .i64 ((rd_T90 l0 x3_1).f3))) (ds := []) (mb 24 0) (by kernel_rfl) rfl rfl ⟨(hC HB hw241_0), (hC HB hw241_1), (hC HB hw241_2), (hC HB hw241_3)⟩ (fun hHeld => ?_); refine with_tabW spec_ArePaths.tab4 spec_ArePaths.bits4 (fun HT_ HW_ => ?_)
     generalize wr.drew = w17 at HB hx241_0 hx241_1 hx241_2 hx241_3 hHeld ⊢
     refine pA (i := 0) (N := some 10) (mb 24 1) HT_ ?_
     refine pA (i := 1) (N := some 11) (mb 24 3) HT_ ?_
     refine pA (i := 2) (N := some 12) (mb 24 7) HT_ ?_
     refine tA4 (i := 3) (N := some 13) (mb 24 15) HT_ HW_ hHeld ?_
     refine oA (i := 4) (N := some 14) (mb 24 31) HT_ (fun K hK => ?_)
     refine gA Try.func111 #[.agg #[.int .i64 ((rd_T90 l0 x3_1).f0), .int .i64 ((rd_T90 l0 x3_1).f1), .int .i64 ((rd_T90 l0 x3_1).f2), .int .i64 ((rd_T90 l0 x3_1).f3)]] ?_
     with_reducible refine (spec_IsPath.calls ((rd_T90 l0 x3_1).f0) ((rd_T90 l0 x3_1).f1) ((rd_T90 l0 x3_1).f2) ((rd_T90 l0 x3_1).f3) false _ A4.out).mono ?_
     rintro e w18 ⟨rfl, hb⟩
     refine ⟨_, rfl, ?_⟩
     replace HB := Aside0.mk (below_step bA hb)
     (try clear hb)
     (try clear hb2)
     (try clear hk)
     (try clear hi)
     refine hK.out _ _ ⟨(hC HB hw241_0), (hC HB hw241_1), (hC HB hw241_2), (hC HB hw241_3)⟩ (fun hHeld => ?_)
     clear hK K
     refine nB ?_
     refine pA (i := 5) (N := some 15) (mb 24 63) HT_ ?_
     refine pA (i := 6) (N := some 16) (mb 24 127) HT_ ?_
     refine pU (i := 7) (N := some 17) (mb 24 255) HT_ ?_
     refine pU (i := 8) (N := some 18) (mb 24 511) HT_ ?_
     refine pU (i := 9) (N := some 19) (mb 24 1023) HT_ ?_
     refine pU (i := 10) (N := some 20) (mb 24 2047) HT_ ?_
     refine pU (i := 11) (N := some 21) (mb 24 4095) HT_ ?_
     refine pU (i := 12) (N := some 22) (mb 24 8191) HT_ ?_
     refine pU (i := 13) (N := some 23) (mb 24 16383) HT_ ?_
     refine pU (i := 14) (N := some 24) (mb 24 32767) HT_ ?_
     refine pU (i := 15) (N := some 25) (mb 24 65535) HT_ ?_
     refine pU (i := 16) (N := some 26) (mb 24 131071) HT_ ?_
     refine pU (i := 17) (N := some 27) (mb 24 262143) HT_ ?_
     refine pU (i := 18) (N := some 28) (mb 24 524287) HT_ ?_
     refine pU (i := 19) (N := some 29) (mb 24 1048575) HT_ ?_
     refine pU (i := 20) (N := some 30) (mb 24 2097151) HT_ ?_
     refine pU (i := 21) (N := some 31) (mb 24 4194303) HT_ ?_
     refine pU (i := 22) (N := some 32) (mb 24 8388607) HT_ ?_
     refine pA (i := 23) (N := some 33) (mb 24 16777215) HT_ ?_
     refine eA HT_ ?_
     try go_wp2
     go_ret
     exact ⟨rA, bA⟩
   ·
    rw [if_neg c2] at H
    have c2b0 : decide (x3_1 < (l0.length : Int)) = false := decide_eq_false c2
    clear c2
    obtain rfl := Option.some.inj H
    go_wp2
    go_ret
    exact ⟨rA, bA⟩

/-! ### impl_InRange: function 69 -/
def impl_InRange.f (a0 : Int) (a1 : Int) (a2 : Int) : Option (Bool) := if a1 ≤ a0 then (some (decide (a0 ≤ a2))) else (some false)
set_option maxHeartbeats 8000000 in
set_option maxRecDepth 100000 in
theorem impl_InRange.calls (a0 : Int) (a1 : Int) (a2 : Int) (r : Bool) (w : World) (h : impl_InRange.f a0 a1 a2 = some r) :
  Calls Try.prog 69 #[.int .i64 a0, .int .i64 a1, .int .i64 a2] w fun e w' => e = .returned (.bool r) ∧ Drawn0 w w' := by
 have H : (if a1 ≤ a0 then (some (decide (a0 ≤ a2))) else (some false)) = some r := h
 clear h
 by_cases c4 : a1 ≤ a0
 ·
  rw [if_pos c4] at H
  have c4b0 : decide (a1 ≤ a0) = true := decide_eq_true c4
  clear c4
  obtain rfl := Option.some.inj H
  go_enter Try.func69, Try.ntmps69
  go_wp2
  go_ret
  exact ⟨by first | rfl | (simp; done) | (simp [*]; done), by repeat (first | exact Drawn0.refl _ | apply Drawn0.step)⟩
 ·
  rw [if_neg c4] at H
  have c4b0 : decide (a1 ≤ a0) = false := decide_eq_false c4
  clear c4
  obtain rfl := Option.some.inj H
  go_enter Try.func69, Try.ntmps69
  go_wp2
  go_ret
  exact ⟨by first | rfl | (simp; done) | (simp [*]; done), by repeat (first | exact Drawn0.refl _ | apply Drawn0.step)⟩

/-! ### impl_IsPath: function 112 -/
def impl_IsPath.f (a0_0 : Int) (a0_1 : Int) (a0_2 : Int) (a0_3 : Int) : Option (Bool) := (impl_InRange.f a0_0 1 20).bind fun t314 => (if t314 = true then ((impl_InRange.f a0_1 1 3).bind fun t315 => (if t315 = true then ((impl_InRange.f a0_2 0 3).bind fun t316 => (if t316 = true then ((impl_InRange.f a0_3 0 3).bind fun t317 => (if t317 = true then (some ((a0_2 == a0_3) == (a0_1 == 2))) else (some false))) else (some false))) else (some false))) else (some false))
set_option maxHeartbeats 8000000 in
set_option maxRecDepth 100000 in
theorem impl_IsPath.calls (a0_0 : Int) (a0_1 : Int) (a0_2 : Int) (a0_3 : Int) (r : Bool) (w : World) (h : impl_IsPath.f a0_0 a0_1 a0_2 a0_3 = some r) :
  Calls Try.prog 112 #[.agg #[.int .i64 a0_0, .int .i64 a0_1, .int .i64 a0_2, .int .i64 a0_3]] w fun e w' => e = .returned (.bool r) ∧ Below w.heap.size w w' := by
 have hu90 := Try.underlying90
 have HB := Aside0.mk (Below.refl w.heap.size w)
 have H : ((impl_InRange.f a0_0 1 20).bind fun t314 => (if t314 = true then ((impl_InRange.f a0_1 1 3).bind fun t315 => (if t315 = true then ((impl_InRange.f a0_2 0 3).bind fun t316 => (if t316 = true then ((impl_InRange.f a0_3 0 3).bind fun t317 => (if t317 = true then (some ((a0_2 == a0_3) == (a0_1 == 2))) else (some false))) else (some false))) else (some false))) else (some false))) = some r := h
 clear h
 obtain ⟨t314, A2, H⟩ := bindE H
 try dsimp only at H
 by_cases c3 : t314 = true
 ·
  subst c3
  have H1 : ((impl_InRange.f a0_1 1 3).bind fun t315 => (if t315 = true then ((impl_InRange.f a0_2 0 3).bind fun t316 => (if t316 = true then ((impl_InRange.f a0_3 0 3).bind fun t317 => (if t317 = true then (some ((a0_2 == a0_3) == (a0_1 == 2))) else (some false))) else (some false))) else (some false))) = some r := by rw [if_pos rfl] at H; exact H
  clear H
  have H := H1
  clear H1
  obtain ⟨t315, A4, H⟩ := bindE H
  try dsimp only at H
  by_cases c5 : t315 = true
  ·
   subst c5
   have H1 : ((impl_InRange.f a0_2 0 3).bind fun t316 => (if t316 = true then ((impl_InRange.f a0_3 0 3).bind fun t317 => (if t317 = true then (some ((a0_2 == a0_3) == (a0_1 == 2))) else (some false))) else (some false))) = some r := by rw [if_pos rfl] at H; exact H
   clear H
   have H := H1
   clear H1
   obtain ⟨t316, A6, H⟩ := bindE H
   try dsimp only at H
   by_cases c7 : t316 = true
   ·
    subst c7
    have H1 : ((impl_InRange.f a0_3 0 3).bind fun t317 => (if t317 = true then (some ((a0_2 == a0_3) == (a0_1 == 2))) else (some false))) = some r := by rw [if_pos rfl] at H; exact H
    clear H
    have H := H1
    clear H1
    obtain ⟨t317, A8, H⟩ := bindE H
    try dsimp only at H
    by_cases c9 : t317 = true
    ·
     subst c9
     have H1 : (some ((a0_2 == a0_3) == (a0_1 == 2))) = some r := by rw [if_pos rfl] at H; exact H
     clear H
     have H := H1
     clear H1
     obtain rfl := Option.some.inj H
     go_enter Try.func112, Try.ntmps112
     go_wp2_with (first | ((with_reducible refine gate_dst (N := 1) rfl ?_); refine bE (N := 1) (cs := #[.int .i64 a0_0, .int .i64 a0_1, .int .i64 a0_2, .int .i64 a0_3]) (t := 90) ?_; intro gb313 hg w10 hbox hb; have n0_ := Aside0.mk (below_step bA hb); have n1_ := Aside0.mk (hbox); have n2_ := Aside0.mk ((by rw [hg]; exact (below_size bA) : w.heap.size ≤ gb313)); have n3_ := Aside0.mk ((by rw [hg]; exact (below_size bA) : w.heap.size ≤ gb313)); clear HB; have HB := n0_; have BK313 := n1_; have GW313 := n2_; have GE313 := n3_; clear n0_ n1_ n2_ n3_; clear hb hbox hg; have hcz11_0 : w10.cell? ⟨gb313, 0, none⟩ = some (.int .i64 a0_0) := bC BK313 0; have hcz11_1 : w10.cell? ⟨gb313, 1, none⟩ = some (.int .i64 a0_1) := bC BK313 1; have hcz11_2 : w10.cell? ⟨gb313, 2, none⟩ = some (.int .i64 a0_2) := bC BK313 2; have hcz11_3 : w10.cell? ⟨gb313, 3, none⟩ = some (.int .i64 a0_3) := bC BK313 3; have hfz11_0 := blk_frozen BK313.out 0; have hfz11_1 := blk_frozen BK313.out 1; have hfz11_2 := blk_frozen BK313.out 2; have hfz11_3 := blk_frozen BK313.out 3) | ((with_reducible refine gate_callee (f := 69) rfl ?_); refine gL (some 5) Try.func69 #[.int .i64 a0_0, .int .i64 1, .int .i64 20] ?_; (with_reducible refine (impl_InRange.calls a0_0 1 20 true _ A2.out).mono ?_); rintro e w' ⟨rfl, ⟨nd, rfl⟩⟩; refine ⟨_, rfl, ?_⟩) | (go_at_call 69; (with_reducible refine (impl_InRange.calls a0_1 1 3 true _ A4.out).mono ?_); rintro e w' ⟨rfl, ⟨nd, rfl⟩⟩) | (go_at_call 69; (with_reducible refine (impl_InRange.calls a0_2 0 3 true _ A6.out).mono ?_); rintro e w' ⟨rfl, ⟨nd, rfl⟩⟩) | (go_at_call 69; (with_reducible refine (impl_InRange.calls a0_3 0 3 true _ A8.out).mono ?_); rintro e w' ⟨rfl, ⟨nd, rfl⟩⟩))
     go_ret
     exact ⟨rA, bG⟩
    ·
     replace c9 := Bool.eq_false_iff.mpr c9
     subst c9
     have H1 : (some false) = some r := by rw [if_neg (show ¬ (false = true) by decide)] at H; exact H
     clear H
     have H := H1
     clear H1
     obtain rfl := Option.some.inj H
     go_enter Try.func112, Try.ntmps112
     go_wp2_with (first | ((with_reducible refine gate_dst (N := 1) rfl ?_); refine bE (N := 1) (cs := #[.int .i64 a0_0, .int .i64 a0_1, .int .i64 a0_2, .int .i64 a0_3]) (t := 90) ?_; intro gb313 hg w12 hbox hb; have n0_ := Aside0.mk (below_step bA hb); have n1_ := Aside0.mk (hbox); have n2_ := Aside0.mk ((by rw [hg]; exact (below_size bA) : w.heap.size ≤ gb313)); have n3_ := Aside0.mk ((by rw [hg]; exact (below_size bA) : w.heap.size ≤ gb313)); clear HB; have HB := n0_; have BK313 := n1_; have GW313 := n2_; have GE313 := n3_; clear n0_ n1_ n2_ n3_; clear hb hbox hg; have hcz13_0 : w12.cell? ⟨gb313, 0, none⟩ = some (.int .i64 a0_0) := bC BK313 0; have hcz13_1 : w12.cell? ⟨gb313, 1, none⟩ = some (.int .i64 a0_1) := bC BK313 1; have hcz13_2 : w12.cell? ⟨gb313, 2, none⟩ = some (.int .i64 a0_2) := bC BK313 2; have hcz13_3 : w12.cell? ⟨gb313, 3, none⟩ = some (.int .i64 a0_3) := bC BK313 3; have hfz13_0 := blk_frozen BK313.out 0; have hfz13_1 := blk_frozen BK313.out 1; have hfz13_2 := blk_frozen BK313.out 2; have hfz13_3 := blk_frozen BK313.out 3) | ((with_reducible refine gate_callee (f := 69) rfl ?_); refine gL (some 5) Try.func69 #[.int .i64 a0_0, .int .i64 1, .int .i64 20] ?_; (with_reducible refine (impl_InRange.calls a0_0 1 20 true _ A2.out).mono ?_); rintro e w' ⟨rfl, ⟨nd, rfl⟩⟩; refine ⟨_, rfl, ?_⟩) | (go_at_call 69; (with_reducible refine (impl_InRange.calls a0_1 1 3 true _ A4.out).mono ?_); rintro e w' ⟨rfl, ⟨nd, rfl⟩⟩) | (go_at_call 69; (with_reducible refine (impl_InRange.calls a0_2 0 3 true _ A6.out).mono ?_); rintro e w' ⟨rfl, ⟨nd, rfl⟩⟩) | (go_at_call 69; (with_reducible refine (impl_InRange.calls a0_3 0 3 false _ A8.out).mono ?_); rintro e w' ⟨rfl, ⟨nd, rfl⟩⟩))
     go_ret
     exact ⟨rA, bG⟩
   ·
    replace c7 := Bool.eq_false_iff.mpr c7
    subst c7
    have H1 : (some false) = some r := by rw [if_neg (show ¬ (false = true) by decide)] at H; exact H
    clear H
    have H := H1
    clear H1
    obtain rfl := Option.some.inj H
    go_enter Try.func112, Try.ntmps112
    go_wp2_with (first | ((with_reducible refine gate_dst (N := 1) rfl ?_); refine bE (N := 1) (cs := #[.int .i64 a0_0, .int .i64 a0_1, .int .i64 a0_2, .int .i64 a0_3]) (t := 90) ?_; intro gb313 hg w14 hbox hb; have n0_ := Aside0.mk (below_step bA hb); have n1_ := Aside0.mk (hbox); have n2_ := Aside0.mk ((by rw [hg]; exact (below_size bA) : w.heap.size ≤ gb313)); have n3_ := Aside0.mk ((by rw [hg]; exact (below_size bA) : w.heap.size ≤ gb313)); clear HB; have HB := n0_; have BK313 := n1_; have GW313 := n2_; have GE313 := n3_; clear n0_ n1_ n2_ n3_; clear hb hbox hg; have hcz15_0 : w14.cell? ⟨gb313, 0, none⟩ = some (.int .i64 a0_0) := bC BK313 0; have hcz15_1 : w14.cell? ⟨gb313, 1, none⟩ = some (.int .i64 a0_1) := bC BK313 1; have hcz15_2 : w14.cell? ⟨gb313, 2, none⟩ = some (.int .i64 a0_2) := bC BK313 2; have hcz15_3 : w14.cell? ⟨gb313, 3, none⟩ = some (.int .i64 a0_3) := bC BK313 3; have hfz15_0 := blk_frozen BK313.out 0; have hfz15_1 := blk_frozen BK313.out 1; have hfz15_2 := blk_frozen BK313.out 2; have hfz15_3 := blk_frozen BK313.out 3) | ((with_reducible refine gate_callee (f := 69) rfl ?_); refine gL (some 5) Try.func69 #[.int .i64 a0_0, .int .i64 1, .int .i64 20] ?_; (with_reducible refine (impl_InRange.calls a0_0 1 20 true _ A2.out).mono ?_); rintro e w' ⟨rfl, ⟨nd, rfl⟩⟩; refine ⟨_, rfl, ?_⟩) | (go_at_call 69; (with_reducible refine (impl_InRange.calls a0_1 1 3 true _ A4.out).mono ?_); rintro e w' ⟨rfl, ⟨nd, rfl⟩⟩) | (go_at_call 69; (with_reducible refine (impl_InRange.calls a0_2 0 3 false _ A6.out).mono ?_); rintro e w' ⟨rfl, ⟨nd, rfl⟩⟩))
    go_ret
    exact ⟨rA, bG⟩
  ·
   replace c5 := Bool.eq_false_iff.mpr c5
   subst c5
   have H1 : (some false) = some r := by rw [if_neg (show ¬ (false = true) by decide)] at H; exact H
   clear H
   have H := H1
   clear H1
   obtain rfl := Option.some.inj H
   go_enter Try.func112, Try.ntmps112
   go_wp2_with (first | ((with_reducible refine gate_dst (N := 1) rfl ?_); refine bE (N := 1) (cs := #[.int .i64 a0_0, .int .i64 a0_1, .int .i64 a0_2, .int .i64 a0_3]) (t := 90) ?_; intro gb313 hg w16 hbox hb; have n0_ := Aside0.mk (below_step bA hb); have n1_ := Aside0.mk (hbox); have n2_ := Aside0.mk ((by rw [hg]; exact (below_size bA) : w.heap.size ≤ gb313)); have n3_ := Aside0.mk ((by rw [hg]; exact (below_size bA) : w.heap.size ≤ gb313)); clear HB; have HB := n0_; have BK313 := n1_; have GW313 := n2_; have GE313 := n3_; clear n0_ n1_ n2_ n3_; clear hb hbox hg; have hcz17_0 : w16.cell? ⟨gb313, 0, none⟩ = some (.int .i64 a0_0) := bC BK313 0; have hcz17_1 : w16.cell? ⟨gb313, 1, none⟩ = some (.int .i64 a0_1) := bC BK313 1; have hcz17_2 : w16.cell? ⟨gb313, 2, none⟩ = some (.int .i64 a0_2) := bC BK313 2; have hcz17_3 : w16.cell? ⟨gb313, 3, none⟩ = some (.int .i64 a0_3) := bC BK313 3; have hfz17_0 := blk_frozen BK313.out 0; have hfz17_1 := blk_frozen BK313.out 1; have hfz17_2 := blk_frozen BK313.out 2; have hfz17_3 := blk_frozen BK313.out 3) | ((with_reducible refine gate_callee (f := 69) rfl ?_); refine gL (some 5) Try.func69 #[.int .i64 a0_0, .int .i64 1, .int .i64 20] ?_; (with_reducible refine (impl_InRange.calls a0_0 1 20 true _ A2.out).mono ?_); rintro e w' ⟨rfl, ⟨nd, rfl⟩⟩; refine ⟨_, rfl, ?_⟩) | (go_at_call 69; (with_reducible refine (impl_InRange.calls a0_1 1 3 false _ A4.out).mono ?_); rintro e w' ⟨rfl, ⟨nd, rfl⟩⟩))
   go_ret
   exact ⟨rA, bG⟩
 ·
  replace c3 := Bool.eq_false_iff.mpr c3
  subst c3
  have H1 : (some false) = some r := by rw [if_neg (show ¬ (false = true) by decide)] at H; exact H
  clear H
  have H := H1
  clear H1
  obtain rfl := Option.some.inj H
  go_enter Try.func112, Try.ntmps112
  go_wp2_with (first | ((with_reducible refine gate_dst (N := 1) rfl ?_); refine bE (N := 1) (cs := #[.int .i64 a0_0, .int .i64 a0_1, .int .i64 a0_2, .int .i64 a0_3]) (t := 90) ?_; intro gb313 hg w18 hbox hb; have n0_ := Aside0.mk (below_step bA hb); have n1_ := Aside0.mk (hbox); have n2_ := Aside0.mk ((by rw [hg]; exact (below_size bA) : w.heap.size ≤ gb313)); have n3_ := Aside0.mk ((by rw [hg]; exact (below_size bA) : w.heap.size ≤ gb313)); clear HB; have HB := n0_; have BK313 := n1_; have GW313 := n2_; have GE313 := n3_; clear n0_ n1_ n2_ n3_; clear hb hbox hg; have hcz19_0 : w18.cell? ⟨gb313, 0, none⟩ = some (.int .i64 a0_0) := bC BK313 0; have hcz19_1 : w18.cell? ⟨gb313, 1, none⟩ = some (.int .i64 a0_1) := bC BK313 1; have hcz19_2 : w18.cell? ⟨gb313, 2, none⟩ = some (.int .i64 a0_2) := bC BK313 2; have hcz19_3 : w18.cell? ⟨gb313, 3, none⟩ = some (.int .i64 a0_3) := bC BK313 3; have hfz19_0 := blk_frozen BK313.out 0; have hfz19_1 := blk_frozen BK313.out 1; have hfz19_2 := blk_frozen BK313.out 2; have hfz19_3 := blk_frozen BK313.out 3) | ((with_reducible refine gate_callee (f := 69) rfl ?_); refine gL (some 5) Try.func69 #[.int .i64 a0_0, .int .i64 1, .int .i64 20] ?_; (with_reducible refine (impl_InRange.calls a0_0 1 20 false _ A2.out).mono ?_); rintro e w' ⟨rfl, ⟨nd, rfl⟩⟩; refine ⟨_, rfl, ?_⟩))
  go_ret
  exact ⟨rA, bG⟩

/-! ### impl_ArePaths: function 83 -/
def impl_ArePaths.l0 : Nat → List (S90) → List (S90) → Int → Int → Option (Bool)
 | 0, _, _, _, _ => none
 | k + 1, x0, x8, x9, x10 => if x10 < x9 then (if 0 ≤ x10 then (if x10 < (x8.length : Int) then ((impl_IsPath.f ((rd_T90 x8 x10).f0) ((rd_T90 x8 x10).f1) ((rd_T90 x8 x10).f2) ((rd_T90 x8 x10).f3)).bind fun t320 => (if t320 = true then (if x10 > 0 then (if 0 ≤ (wrap64 (x10 - 1)) then (if (wrap64 (x10 - 1)) < (x0.length : Int) then (if ((rd_T90 x8 x10).f0) ≤ ((rd_T90 x0 (wrap64 (x10 - 1))).f0) then (some false) else (impl_ArePaths.l0 k x0 x8 x9 (wrap64 (x10 + 1)))) else (none)) else (none)) else (impl_ArePaths.l0 k x0 x8 x9 (wrap64 (x10 + 1)))) else (some false))) else (none)) else (none)) else (some true)
def impl_ArePaths.f (k : Nat) (l0 : List (S90)) : Option (Bool) := if (l0.length : Int) > 12 then (some false) else (impl_ArePaths.l0 k l0 l0 (l0.length : Int) 0)
theorem impl_ArePaths.mono_l : ∀ k, (∀ y0 y1 y2 y3, LeO (impl_ArePaths.l0 k y0 y1 y2 y3) (impl_ArePaths.l0 (k + 1) y0 y1 y2 y3))
 | 0 => fun _ _ _ _ r h => by simp [impl_ArePaths.l0] at h
 | k + 1 => by
  have ih0 := impl_ArePaths.mono_l k
  ·
   intro y0 y1 y2 y3
   unfold impl_ArePaths.l0
   repeat' first | (with_reducible first | exact LeO.refl _ | exact LeO.none _ | refine LeO.ite ?_ ?_ | refine LeO.bind ?_ (fun _ => ?_) | exact ih0 _ _ _ _) | exact LeO.none _ | refine LeO.ite ?_ ?_ | refine LeO.bind ?_ (fun _ => ?_) | exact ih0 _ _ _ _
theorem impl_ArePaths.mono : ∀ a0 k, LeO (impl_ArePaths.f k a0) (impl_ArePaths.f (k + 1) a0) := by
 intro a0 k
 have ih0 := impl_ArePaths.mono_l k
 unfold impl_ArePaths.f
 repeat' first | (with_reducible first | exact LeO.refl _ | exact LeO.none _ | refine LeO.ite ?_ ?_ | refine LeO.bind ?_ (fun _ => ?_) | exact ih0 _ _ _ _) | exact LeO.none _ | refine LeO.ite ?_ ?_ | refine LeO.bind ?_ (fun _ => ?_) | exact ih0 _ _ _ _
def impl_ArePaths.T6 : Bool × List (List Nat × List Nat) := (true, [([], []), ([0], [0]), ([1], [1]), ([2, 1], [2]), ([3], [3]), ([4, 3], [3, 4]), ([5, 3, 3], [3, 5]), ([6], [6]), ([7, 6], [6, 7]), ([6], [6]), ([6], [6]), ([10, 6], [6, 10]), ([9, 11, 6], [6, 9, 11]), ([12, 6], [6, 12]), ([13, 6], [6, 13]), ([8, 14, 6], [6, 8, 14]), ([6, 15, 3], [3, 6, 15]), ([3, 16], [3, 16])])
def impl_ArePaths.B6 : List Nat := [0, 1, 3, 7, 15, 31, 63, 127, 255, 127, 127, 1151, 3711, 7807, 15999, 32767, 65535, 131071]
theorem impl_ArePaths.tab6 : rtab .any (opsOf Try.f83 6) = impl_ArePaths.T6 := by kernel_rfl
theorem impl_ArePaths.bits6 : waitsOk impl_ArePaths.T6.2 impl_ArePaths.B6 = true := by kernel_rfl
set_option maxHeartbeats 8000000 in
set_option maxRecDepth 100000 in
theorem impl_ArePaths.calls (k : Nat) (A0 : Option Addr) (c0 : Nat) (l0 : List (S90)) (r : Bool) (w : World) (hr0 : Kd.C k90 w A0 l0.length l0) (hc0 : l0.length ≤ c0) (h : impl_ArePaths.f k l0 = some r) :
  Calls Try.prog 83 #[.slice A0 l0.length c0] w fun e w' => e = .returned (.bool r) ∧ Below w.heap.size w w' := by
 have hu90 := Try.underlying90
 have HR0 := Aside0.mk hr0
 have HC0 := Aside0.mk hc0
 clear hr0 hc0
 have HB := Aside0.mk (Below.refl w.heap.size w)
 have H : (if (l0.length : Int) > 12 then (some false) else (impl_ArePaths.l0 k l0 l0 (l0.length : Int) 0)) = some r := h
 clear h
 by_cases c2 : (l0.length : Int) > 12
 ·
  rw [if_pos c2] at H
  have c2b0 : decide (12 < (l0.length : Int)) = true := decide_eq_true c2
  have c2b1 : decide (12 < l0.length) = true := decide_eq_true (by omega)
  clear c2
  obtain rfl := Option.some.inj H
  go_enter Try.func83, Try.ntmps83
  go_wp2
  go_ret
  exact ⟨rA, bA⟩
 ·
  rw [if_neg c2] at H
  have c2b0 : decide (12 < (l0.length : Int)) = false := decide_eq_false c2
  have c2b1 : decide (12 < l0.length) = false := decide_eq_false (by omega)
  clear c2
  have H' := Aside0.mk H
  clear H
  go_enter Try.func83, Try.ntmps83
  go_wp2
  go_loopg [10] k (fun kq v10 w' => ∃ (x10_1 : Int), v10 = .int .i64 x10_1 ∧ Aside0 (impl_ArePaths.l0 kq l0 l0 (l0.length : Int) x10_1 = some r) ∧ Aside0 (kq ≤ k) ∧ Aside0 (Below w.heap.size w w'))
  case atStart => exact ⟨(0), rS, H', ⟨Nat.le_refl _⟩, ⟨bA⟩⟩
  case round =>
   clear H'
   try clear c2
   try clear c2b0
   try clear c2b1
   try clear p2
   obtain ⟨x10_1, rfl, HA, HK1, HB⟩ := hrel
   cases gk with
   | zero => exact absurd HA.out (by simp [impl_ArePaths.l0])
   | succ k1 =>
    have H := HA.out
    clear HA
    simp only [impl_ArePaths.l0] at H
    by_cases c3 : x10_1 < (l0.length : Int)
    ·
     rw [if_pos c3] at H
     have c3b0 : decide (x10_1 < (l0.length : Int)) = true := decide_eq_true c3
     clear c3
     have c4 : 0 ≤ x10_1 := ifN H
     replace H := ifT H
     have c4b0 : decide (0 ≤ x10_1) = true := decide_eq_true c4
     clear c4
     have c5 : x10_1 < (l0.length : Int) := ifN H
     replace H := ifT H
     have c5b0 : decide (x10_1 < (l0.length : Int)) = true := decide_eq_true c5
     clear c5
     obtain ⟨t320, A6, H⟩ := bindE H
     try dsimp only at H
     by_cases c7 : t320 = true
     ·
      subst c7
      have H1 : (if x10_1 > 0 then (if 0 ≤ (wrap64 (x10_1 - 1)) then (if (wrap64 (x10_1 - 1)) < (l0.length : Int) then (if ((rd_T90 l0 x10_1).f0) ≤ ((rd_T90 l0 (wrap64 (x10_1 - 1))).f0) then (some false) else (impl_ArePaths.l0 k1 l0 l0 (l0.length : Int) (wrap64 (x10_1 + 1)))) else (none)) else (none)) else (impl_ArePaths.l0 k1 l0 l0 (l0.length : Int) (wrap64 (x10_1 + 1)))) = some r := by rw [if_pos rfl] at H; exact H
      clear H
      have H := H1
      clear H1
      by_cases c8 : x10_1 > 0
      ·
       rw [if_pos c8] at H
       have c8b0 : decide (0 < x10_1) = true := decide_eq_true c8
       clear c8
       obtain ⟨ji9, hji9⟩ : ∃ j_ : Int, (wrap64 (x10_1 - 1)) = j_ := ⟨_, rfl⟩
       replace H : (if 0 ≤ (ji9) then (if (ji9) < (l0.length : Int) then (if ((rd_T90 l0 x10_1).f0) ≤ ((rd_T90 l0 (ji9)).f0) then (some false) else (impl_ArePaths.l0 k1 l0 l0 (l0.length : Int) (wrap64 (x10_1 + 1)))) else (none)) else (none)) = some r := by first | (rw [hji9] at H; exact H) | (simp only [hji9] at H ⊢; exact H)
       (try rw [hji9] at A6)
       have hji9w : (IntKind.i64.wrap (x10_1 - 1)) = ji9 := (i64_w _).trans hji9
       have c10 : 0 ≤ (ji9) := ifN H
       replace H := ifT H
       have c10b0 : decide (0 ≤ (ji9)) = true := decide_eq_true c10
       clear c10
       have c11 : (ji9) < (l0.length : Int) := ifN H
       replace H := ifT H
       have c11b0 : decide ((ji9) < (l0.length : Int)) = true := decide_eq_true c11
       clear c11
       by_cases c12 : ((rd_T90 l0 x10_1).f0) ≤ ((rd_T90 l0 (ji9)).f0)
       ·
        rw [if_pos c12] at H
        have c12b0 : decide (((rd_T90 l0 x10_1).f0) ≤ ((rd_T90 l0 (ji9)).f0)) = true := decide_eq_true c12
        clear c12
        obtain rfl := Option.some.inj H
        have p318 : 0 ≤ (x10_1 : Int) := dA
        have q318 : x10_1 < (l0.length : Int) := dA
        obtain ⟨ad318, e318, hx318_0, hx318_1, hx318_2, hx318_3⟩ := at_T90 HR0.out x10_1 p318 q318
        cases e318
        replace hx318_0 := hC HB hx318_0
        replace hx318_1 := hC HB hx318_1
        replace hx318_2 := hC HB hx318_2
        replace hx318_3 := hC HB hx318_3
        replace p318 := eq_true p318
        replace q318 := eq_true q318
        try go_wp2_with (first | ((with_reducible refine gate_dst (N := 4) rfl ?_); refine bE (N := 4) (cs := #[.int .i64 0, .int .i64 0, .int .i64 0, .int .i64 0]) (t := 90) ?_; intro gb319 hg w13 hbox hb; have n0_ := Aside0.mk (below_step bA hb); have n1_ := Aside0.mk (hbox); have n2_ := Aside0.mk ((by rw [hg]; exact (below_size bA) : w.heap.size ≤ gb319)); have n3_ := Aside0.mk ((by rw [hg]; exact (below_size bA) : w.heap.size ≤ gb319)); clear HB; have HB := n0_; have BK319 := n1_; have GW319 := n2_; have GE319 := n3_; clear n0_ n1_ n2_ n3_; clear hb hbox hg; obtain ⟨hcz14_0, hcz14_1, hcz14_2, hcz14_3, hfz14_0, hfz14_1, hfz14_2, hfz14_3⟩ := blkc4 BK319))
        have n0_ : Aside0 (((((w13.setCell ⟨gb319, 0, none⟩ (.int .i64 ((rd_T90 l0 x10_1).f0))).setCell ⟨gb319, 1, none⟩ (.int .i64 ((rd_T90 l0 x10_1).f1))).setCell ⟨gb319, 2, none⟩ (.int .i64 ((rd_T90 l0 x10_1).f2))).setCell ⟨gb319, 3, none⟩ (.int .i64 ((rd_T90 l0 x10_1).f3))).heap[gb319]? = some (.cells #[.int .i64 ((rd_T90 l0 x10_1).f0), .int .i64 ((rd_T90 l0 x10_1).f1), .int .i64 ((rd_T90 l0 x10_1).f2), .int .i64 ((rd_T90 l0 x10_1).f3)] 90 (0, 0))) := ⟨by (with_reducible repeat (first | refine blk_drewN ?_ _ | refine blk_drew ?_ | refine blk_alloc ?_ _)); refine blk_put (cs := #[.int .i64 ((rd_T90 l0 x10_1).f0), .int .i64 ((rd_T90 l0 x10_1).f1), .int .i64 ((rd_T90 l0 x10_1).f2), .int .i64 0]) ?_ 3 _ rfl; (with_reducible repeat (first | refine blk_drewN ?_ _ | refine blk_drew ?_ | refine blk_alloc ?_ _)); refine blk_put (cs := #[.int .i64 ((rd_T90 l0 x10_1).f0), .int .i64 ((rd_T90 l0 x10_1).f1), .int .i64 0, .int .i64 0]) ?_ 2 _ rfl; (with_reducible repeat (first | refine blk_drewN ?_ _ | refine blk_drew ?_ | refine blk_alloc ?_ _)); refine blk_put (cs := #[.int .i64 ((rd_T90 l0 x10_1).f0), .int .i64 0, .int .i64 0, .int .i64 0]) ?_ 1 _ rfl; (with_reducible repeat (first | refine blk_drewN ?_ _ | refine blk_drew ?_ | refine blk_alloc ?_ _)); refine blk_put (cs := #[.int .i64 0, .int .i64 0, .int .i64 0, .int .i64 0]) ?_ 0 _ rfl; (with_reducible repeat (first | refine blk_drewN ?_ _ | refine blk_drew ?_ | refine blk_alloc ?_ _)); exact BK319.out⟩
        have n1_ : Aside0 (Below w.heap.size w ((((w13.setCell ⟨gb319, 0, none⟩ (.int .i64 ((rd_T90 l0 x10_1).f0))).setCell ⟨gb319, 1, none⟩ (.int .i64 ((rd_T90 l0 x10_1).f1))).setCell ⟨gb319, 2, none⟩ (.int .i64 ((rd_T90 l0 x10_1).f2))).setCell ⟨gb319, 3, none⟩ (.int .i64 ((rd_T90 l0 x10_1).f3)))) := ⟨bG⟩
        (try clear BK319)
        (try clear HB)
        generalize ((((w13.setCell ⟨gb319, 0, none⟩ (.int .i64 ((rd_T90 l0 x10_1).f0))).setCell ⟨gb319, 1, none⟩ (.int .i64 ((rd_T90 l0 x10_1).f1))).setCell ⟨gb319, 2, none⟩ (.int .i64 ((rd_T90 l0 x10_1).f2))).setCell ⟨gb319, 3, none⟩ (.int .i64 ((rd_T90 l0 x10_1).f3))) = w15 at n0_ n1_ ⊢
        have BK319 := n0_
        have HB := n1_
        clear n0_ n1_
        replace BK319 := Aside0.mk (blk_drew BK319.out)
        have HBo := HB
        replace HB := Aside0.mk (below_drew1 HB.out)
        have p321 : 0 ≤ ((ji9) : Int) := dA
        have q321 : (ji9) < (l0.length : Int) := dA
        obtain ⟨ad321, e321, hx321_0, hx321_1, hx321_2, hx321_3⟩ := at_T90 HR0.out (ji9) p321 q321
        have hw321_3 := hx321_3
        have hw321_2 := hx321_2
        have hw321_1 := hx321_1
        have hw321_0 := hx321_0
        obtain rfl : ad318 = ad321 := (by injection e321)
        replace hx321_0 := hC HB hx321_0
        replace hx321_1 := hC HB hx321_1
        replace hx321_2 := hC HB hx321_2
        replace hx321_3 := hC HB hx321_3
        replace p321 := eq_true p321
        replace q321 := eq_true q321
        refine start_ (n := 18) (S := fun w' => w'.cell? ⟨gb319, 0, none⟩ = some (.int .i64 ((rd_T90 l0 x10_1).f0)) ∧ w'.cell? ⟨gb319, 1, none⟩ = some (.int .i64 ((rd_T90 l0 x10_1).f1)) ∧ w'.cell? ⟨gb319, 2, none⟩ = some (.int .i64 ((rd_T90 l0 x10_1).f2)) ∧ w'.cell? ⟨gb319, 3, none⟩ = some (.int .i64 ((rd_T90 l0 x10_1).f3)) ∧ w'.cell? (ad318.add (((ji9)).toNat * 4)) = some (.int .i64 ((rd_T90 l0 (ji9)).f0)) ∧ w'.cell? ⟨(ad318.add (((ji9)).toNat * 4)).block, (ad318.add (((ji9)).toNat * 4)).off + 1, none⟩ = some (.int .i64 ((rd_T90 l0 (ji9)).f1)) ∧ w'.cell? ⟨(ad318.add (((ji9)).toNat * 4)).block, (ad318.add (((ji9)).toNat * 4)).off + 2, none⟩ = some (.int .i64 ((rd_T90 l0 (ji9)).f2)) ∧ w'.cell? ⟨(ad318.add (((ji9)).toNat * 4)).block, (ad318.add (((ji9)).toNat * 4)).off + 3, none⟩ = some (.int .i64 ((rd_T90 l0 (ji9)).f3))) (ds := []) (mb 18 0) (by kernel_rfl) rfl rfl ⟨bC BK319 0, bC BK319 1, bC BK319 2, bC BK319 3, (hC HB hw321_0), (hC HB hw321_1), (hC HB hw321_2), (hC HB hw321_3)⟩ (fun hHeld => ?_); refine with_tabW impl_ArePaths.tab6 impl_ArePaths.bits6 (fun HT_ HW_ => ?_)
        generalize w15.drew = w16 at BK319 HB hx321_0 hx321_1 hx321_2 hx321_3 hHeld ⊢
        refine tA8 (i := 0) (N := some 15) (mb 18 1) HT_ HW_ hHeld ?_
        refine oA (i := 1) (N := some 16) (mb 18 3) HT_ (fun K hK => ?_)
        refine gA Try.func112 #[.agg #[.int .i64 ((rd_T90 l0 x10_1).f0), .int .i64 ((rd_T90 l0 x10_1).f1), .int .i64 ((rd_T90 l0 x10_1).f2), .int .i64 ((rd_T90 l0 x10_1).f3)]] ?_
        with_reducible refine (impl_IsPath.calls ((rd_T90 l0 x10_1).f0) ((rd_T90 l0 x10_1).f1) ((rd_T90 l0 x10_1).f2) ((rd_T90 l0 x10_1).f3) true _ A6.out).mono ?_
        rintro e w17 ⟨rfl, hb⟩
        refine ⟨_, rfl, ?_⟩
        replace BK319 := Aside0.mk (blk_below (g := gb319) (bK BK319) hb)
        replace HB := Aside0.mk (below_step bG hb)
        (try clear hb)
        (try clear hb2)
        (try clear hk)
        (try clear hi)
        refine hK.out _ _ ⟨bC BK319 0, bC BK319 1, bC BK319 2, bC BK319 3, (hC HB hw321_0), (hC HB hw321_1), (hC HB hw321_2), (hC HB hw321_3)⟩ (fun hHeld => ?_)
        clear hK K
        refine nB ?_
        refine pA (i := 2) (N := some 17) (mb 18 7) HT_ ?_
        refine pA (i := 3) (N := some 18) (mb 18 15) HT_ ?_
        refine pA (i := 4) (N := some 19) (mb 18 31) HT_ ?_
        refine pA (i := 5) (N := some 20) (mb 18 63) HT_ ?_
        refine pA (i := 6) (N := some 21) (mb 18 127) HT_ ?_
        refine pA (i := 7) (N := some 22) (mb 18 255) HT_ ?_
        refine pA (i := 9) (N := some 24) (mb 18 767) HT_ ?_
        refine pA (i := 10) (N := some 25) (mb 18 1791) HT_ ?_
        refine pA (i := 11) (N := some 26) (mb 18 3839) HT_ ?_
        refine pA (i := 12) (N := some 27) (mb 18 7935) HT_ ?_
        refine pA (i := 13) (N := some 28) (mb 18 16127) HT_ ?_
        refine tA8 (i := 8) (N := some 23) (mb 18 16383) HT_ HW_ hHeld ?_
        refine tA8 (i := 14) (N := some 29) (mb 18 32767) HT_ HW_ hHeld ?_
        refine pA (i := 15) (N := some 30) (mb 18 65535) HT_ ?_
        refine pA (i := 16) (N := some 31) (mb 18 131071) HT_ ?_
        refine pA (i := 17) (N := some 32) (mb 18 262143) HT_ ?_
        refine eA HT_ ?_
        try go_wp2
        go_ret
        exact ⟨by first | rfl | (simp [errW_none, errW_some] <;> rfl) | (simp only [← hji9]; first | rfl | (simp [errW_none, errW_some] <;> rfl)) | (simp [*, errW_none, errW_some] <;> rfl), bG⟩
       ·
        rw [if_neg c12] at H
        have c12b0 : decide (((rd_T90 l0 x10_1).f0) ≤ ((rd_T90 l0 (ji9)).f0)) = false := decide_eq_false c12
        clear c12
        have H' := Aside0.mk H
        clear H
        have p318 : 0 ≤ (x10_1 : Int) := dA
        have q318 : x10_1 < (l0.length : Int) := dA
        obtain ⟨ad318, e318, hx318_0, hx318_1, hx318_2, hx318_3⟩ := at_T90 HR0.out x10_1 p318 q318
        cases e318
        replace hx318_0 := hC HB hx318_0
        replace hx318_1 := hC HB hx318_1
        replace hx318_2 := hC HB hx318_2
        replace hx318_3 := hC HB hx318_3
        replace p318 := eq_true p318
        replace q318 := eq_true q318
        try go_wp2_with (first | ((with_reducible refine gate_dst (N := 4) rfl ?_); refine bE (N := 4) (cs := #[.int .i64 0, .int .i64 0, .int .i64 0, .int .i64 0]) (t := 90) ?_; intro gb319 hg w18 hbox hb; have n0_ := Aside0.mk (below_step bA hb); have n1_ := Aside0.mk (hbox); have n2_ := Aside0.mk ((by rw [hg]; exact (below_size bA) : w.heap.size ≤ gb319)); have n3_ := Aside0.mk ((by rw [hg]; exact (below_size bA) : w.heap.size ≤ gb319)); clear HB; have HB := n0_; have BK319 := n1_; have GW319 := n2_; have GE319 := n3_; clear n0_ n1_ n2_ n3_; clear hb hbox hg; obtain ⟨hcz19_0, hcz19_1, hcz19_2, hcz19_3, hfz19_0, hfz19_1, hfz19_2, hfz19_3⟩ := blkc4 BK319))
        have n0_ : Aside0 (((((w18.setCell ⟨gb319, 0, none⟩ (.int .i64 ((rd_T90 l0 x10_1).f0))).setCell ⟨gb319, 1, none⟩ (.int .i64 ((rd_T90 l0 x10_1).f1))).setCell ⟨gb319, 2, none⟩ (.int .i64 ((rd_T90 l0 x10_1).f2))).setCell ⟨gb319, 3, none⟩ (.int .i64 ((rd_T90 l0 x10_1).f3))).heap[gb319]? = some (.cells #[.int .i64 ((rd_T90 l0 x10_1).f0), .int .i64 ((rd_T90 l0 x10_1).f1), .int .i64 ((rd_T90 l0 x10_1).f2), .int .i64 ((rd_T90 l0 x10_1).f3)] 90 (0, 0))) := ⟨by (with_reducible repeat (first | refine blk_drewN ?_ _ | refine blk_drew ?_ | refine blk_alloc ?_ _)); refine blk_put (cs := #[.int .i64 ((rd_T90 l0 x10_1).f0), .int .i64 ((rd_T90 l0 x10_1).f1), .int .i64 ((rd_T90 l0 x10_1).f2), .int .i64 0]) ?_ 3 _ rfl; (with_reducible repeat (first | refine blk_drewN ?_ _ | refine blk_drew ?_ | refine blk_alloc ?_ _)); refine blk_put (cs := #[.int .i64 ((rd_T90 l0 x10_1).f0), .int .i64 ((rd_T90 l0 x10_1).f1), .int .i64 0, .int .i64 0]) ?_ 2 _ rfl; (with_reducible repeat (first | refine blk_drewN ?_ _ | refine blk_drew ?_ | refine blk_alloc ?_ _)); refine blk_put (cs := #[.int .i64 ((rd_T90 l0 x10_1).f0), .int .i64 0, .int .i64 0, .int .i64 0]) ?_ 1 _ rfl; (with_reducible repeat (first | refine blk_drewN ?_ _ | refine blk_drew ?_ | refine blk_alloc ?_ _)); refine blk_put (cs := #[.int .i64 0, .int .i64 0, .int .i64 0, .int .i64 0]) ?_ 0 _ rfl; (with_reducible repeat (first | refine blk_drewN ?_ _ | refine blk_drew ?_ | refine blk_alloc ?_ _)); exact BK319.out⟩
        have n1_ : Aside0 (Below w.heap.size w ((((w18.setCell ⟨gb319, 0, none⟩ (.int .i64 ((rd_T90 l0 x10_1).f0))).setCell ⟨gb319, 1, none⟩ (.int .i64 ((rd_T90 l0 x10_1).f1))).setCell ⟨gb319, 2, none⟩ (.int .i64 ((rd_T90 l0 x10_1).f2))).setCell ⟨gb319, 3, none⟩ (.int .i64 ((rd_T90 l0 x10_1).f3)))) := ⟨bG⟩
        (try clear BK319)
        (try clear HB)
        generalize ((((w18.setCell ⟨gb319, 0, none⟩ (.int .i64 ((rd_T90 l0 x10_1).f0))).setCell ⟨gb319, 1, none⟩ (.int .i64 ((rd_T90 l0 x10_1).f1))).setCell ⟨gb319, 2, none⟩ (.int .i64 ((rd_T90 l0 x10_1).f2))).setCell ⟨gb319, 3, none⟩ (.int .i64 ((rd_T90 l0 x10_1).f3))) = w20 at n0_ n1_ ⊢
        have BK319 := n0_
        have HB := n1_
        clear n0_ n1_
        replace BK319 := Aside0.mk (blk_drew BK319.out)
        have HBo := HB
        replace HB := Aside0.mk (below_drew1 HB.out)
        have p321 : 0 ≤ ((ji9) : Int) := dA
        have q321 : (ji9) < (l0.length : Int) := dA
        obtain ⟨ad321, e321, hx321_0, hx321_1, hx321_2, hx321_3⟩ := at_T90 HR0.out (ji9) p321 q321
        have hw321_3 := hx321_3
        have hw321_2 := hx321_2
        have hw321_1 := hx321_1
        have hw321_0 := hx321_0
        obtain rfl : ad318 = ad321 := (by injection e321)
        replace hx321_0 := hC HB hx321_0
        replace hx321_1 := hC HB hx321_1
        replace hx321_2 := hC HB hx321_2
        replace hx321_3 := hC HB hx321_3
        replace p321 := eq_true p321
        replace q321 := eq_true q321
        refine start_ (n := 18) (S := fun w' => w'.cell? ⟨gb319, 0, none⟩ = some (.int .i64 ((rd_T90 l0 x10_1).f0)) ∧ w'.cell? ⟨gb319, 1, none⟩ = some (.int .i64 ((rd_T90 l0 x10_1).f1)) ∧ w'.cell? ⟨gb319, 2, none⟩ = some (.int .i64 ((rd_T90 l0 x10_1).f2)) ∧ w'.cell? ⟨gb319, 3, none⟩ = some (.int .i64 ((rd_T90 l0 x10_1).f3)) ∧ w'.cell? (ad318.add (((ji9)).toNat * 4)) = some (.int .i64 ((rd_T90 l0 (ji9)).f0)) ∧ w'.cell? ⟨(ad318.add (((ji9)).toNat * 4)).block, (ad318.add (((ji9)).toNat * 4)).off + 1, none⟩ = some (.int .i64 ((rd_T90 l0 (ji9)).f1)) ∧ w'.cell? ⟨(ad318.add (((ji9)).toNat * 4)).block, (ad318.add (((ji9)).toNat * 4)).off + 2, none⟩ = some (.int .i64 ((rd_T90 l0 (ji9)).f2)) ∧ w'.cell? ⟨(ad318.add (((ji9)).toNat * 4)).block, (ad318.add (((ji9)).toNat * 4)).off + 3, none⟩ = some (.int .i64 ((rd_T90 l0 (ji9)).f3))) (ds := []) (mb 18 0) (by kernel_rfl) rfl rfl ⟨bC BK319 0, bC BK319 1, bC BK319 2, bC BK319 3, (hC HB hw321_0), (hC HB hw321_1), (hC HB hw321_2), (hC HB hw321_3)⟩ (fun hHeld => ?_); refine with_tabW impl_ArePaths.tab6 impl_ArePaths.bits6 (fun HT_ HW_ => ?_)
        generalize w20.drew = w21 at BK319 HB hx321_0 hx321_1 hx321_2 hx321_3 hHeld ⊢
        refine tA8 (i := 0) (N := some 15) (mb 18 1) HT_ HW_ hHeld ?_
        refine oA (i := 1) (N := some 16) (mb 18 3) HT_ (fun K hK => ?_)
        refine gA Try.func112 #[.agg #[.int .i64 ((rd_T90 l0 x10_1).f0), .int .i64 ((rd_T90 l0 x10_1).f1), .int .i64 ((rd_T90 l0 x10_1).f2), .int .i64 ((rd_T90 l0 x10_1).f3)]] ?_
        with_reducible refine (impl_IsPath.calls ((rd_T90 l0 x10_1).f0) ((rd_T90 l0 x10_1).f1) ((rd_T90 l0 x10_1).f2) ((rd_T90 l0 x10_1).f3) true _ A6.out).mono ?_
        rintro e w22 ⟨rfl, hb⟩
        refine ⟨_, rfl, ?_⟩
        replace BK319 := Aside0.mk (blk_below (g := gb319) (bK BK319) hb)
        replace HB := Aside0.mk (below_step bG hb)
        (try clear hb)
        (try clear hb2)
        (try clear hk)
        (try clear hi)
        refine hK.out _ _ ⟨bC BK319 0, bC BK319 1, bC BK319 2, bC BK319 3, (hC HB hw321_0), (hC HB hw321_1), (hC HB hw321_2), (hC HB hw321_3)⟩ (fun hHeld => ?_)
        clear hK K
        refine nB ?_
        refine pA (i := 2) (N := some 17) (mb 18 7) HT_ ?_
        refine pA (i := 3) (N := some 18) (mb 18 15) HT_ ?_
        refine pA (i := 4) (N := some 19) (mb 18 31) HT_ ?_
        refine pA (i := 5) (N := some 20) (mb 18 63) HT_ ?_
        refine pA (i := 6) (N := some 21) (mb 18 127) HT_ ?_
        refine pA (i := 7) (N := some 22) (mb 18 255) HT_ ?_
        refine pA (i := 9) (N := some 24) (mb 18 767) HT_ ?_
        refine pA (i := 10) (N := some 25) (mb 18 1791) HT_ ?_
        refine pA (i := 11) (N := some 26) (mb 18 3839) HT_ ?_
        refine pA (i := 12) (N := some 27) (mb 18 7935) HT_ ?_
        refine pA (i := 13) (N := some 28) (mb 18 16127) HT_ ?_
        refine tA8 (i := 8) (N := some 23) (mb 18 16383) HT_ HW_ hHeld ?_
        refine tA8 (i := 14) (N := some 29) (mb 18 32767) HT_ HW_ hHeld ?_
        refine pA (i := 15) (N := some 30) (mb 18 65535) HT_ ?_
        refine pA (i := 16) (N := some 31) (mb 18 131071) HT_ ?_
        refine pA (i := 17) (N := some 32) (mb 18 262143) HT_ ?_
        refine eA HT_ ?_
        try go_wp2
        go_roundg k1
        case measure => have := HK1.out; omega
        case rel => exact ⟨(wrap64 (x10_1 + 1)), rS, H', ⟨by have := HK1.out; omega⟩, ⟨bG⟩⟩
      ·
       rw [if_neg c8] at H
       have c8b0 : decide (0 < x10_1) = false := decide_eq_false c8
       clear c8
       have H' := Aside0.mk H
       clear H
       have p318 : 0 ≤ (x10_1 : Int) := dA
       have q318 : x10_1 < (l0.length : Int) := dA
       obtain ⟨ad318, e318, hx318_0, hx318_1, hx318_2, hx318_3⟩ := at_T90 HR0.out x10_1 p318 q318
       cases e318
       replace hx318_0 := hC HB hx318_0
       replace hx318_1 := hC HB hx318_1
       replace hx318_2 := hC HB hx318_2
       replace hx318_3 := hC HB hx318_3
       replace p318 := eq_true p318
       replace q318 := eq_true q318
       try go_wp2_with (first | ((with_reducible refine gate_dst (N := 4) rfl ?_); refine bE (N := 4) (cs := #[.int .i64 0, .int .i64 0, .int .i64 0, .int .i64 0]) (t := 90) ?_; intro gb319 hg w23 hbox hb; have n0_ := Aside0.mk (below_step bA hb); have n1_ := Aside0.mk (hbox); have n2_ := Aside0.mk ((by rw [hg]; exact (below_size bA) : w.heap.size ≤ gb319)); have n3_ := Aside0.mk ((by rw [hg]; exact (below_size bA) : w.heap.size ≤ gb319)); clear HB; have HB := n0_; have BK319 := n1_; have GW319 := n2_; have GE319 := n3_; clear n0_ n1_ n2_ n3_; clear hb hbox hg; obtain ⟨hcz24_0, hcz24_1, hcz24_2, hcz24_3, hfz24_0, hfz24_1, hfz24_2, hfz24_3⟩ := blkc4 BK319))
       have n0_ : Aside0 (((((w23.setCell ⟨gb319, 0, none⟩ (.int .i64 ((rd_T90 l0 x10_1).f0))).setCell ⟨gb319, 1, none⟩ (.int .i64 ((rd_T90 l0 x10_1).f1))).setCell ⟨gb319, 2, none⟩ (.int .i64 ((rd_T90 l0 x10_1).f2))).setCell ⟨gb319, 3, none⟩ (.int .i64 ((rd_T90 l0 x10_1).f3))).heap[gb319]? = some (.cells #[.int .i64 ((rd_T90 l0 x10_1).f0), .int .i64 ((rd_T90 l0 x10_1).f1), .int .i64 ((rd_T90 l0 x10_1).f2), .int .i64 ((rd_T90 l0 x10_1).f3)] 90 (0, 0))) := ⟨by (with_reducible repeat (first | refine blk_drewN ?_ _ | refine blk_drew ?_ | refine blk_alloc ?_ _)); refine blk_put (cs := #[.int .i64 ((rd_T90 l0 x10_1).f0), .int .i64 ((rd_T90 l0 x10_1).f1), .int .i64 ((rd_T90 l0 x10_1).f2), .int .i64 0]) ?_ 3 _ rfl; (with_reducible repeat (first | refine blk_drewN ?_ _ | refine blk_drew ?_ | refine blk_alloc ?_ _)); refine blk_put (cs := #[.int .i64 ((rd_T90 l0 x10_1).f0), .int .i64 ((rd_T90 l0 x10_1).f1), .int .i64 0, .int .i64 0]) ?_ 2 _ rfl; (with_reducible repeat (first | refine blk_drewN ?_ _ | refine blk_drew ?_ | refine blk_alloc ?_ _)); refine blk_put (cs := #[.int .i64 ((rd_T90 l0 x10_1).f0), .int .i64 0, .int .i64 0, .int .i64 0]) ?_ 1 _ rfl; (with_reducible repeat (first | refine blk_drewN ?_ _ | refine blk_drew ?_ | refine blk_alloc ?_ _)); refine blk_put (cs := #[.int .i64 0, .int .i64 0, .int .i64 0, .int .i64 0]) ?_ 0 _ rfl; (with_reducible repeat (first | refine blk_drewN ?_ _ | refine blk_drew ?_ | refine blk_alloc ?_ _)); exact BK319.out⟩
       have n1_ : Aside0 (Below w.heap.size w ((((w23.setCell ⟨gb319, 0, none⟩ (.int .i64 ((rd_T90 l0 x10_1).f0))).setCell ⟨gb319, 1, none⟩ (.int .i64 ((rd_T90 l0 x10_1).f1))).setCell ⟨gb319, 2, none⟩ (.int .i64 ((rd_T90 l0 x10_1).f2))).setCell ⟨gb319, 3, none⟩ (.int .i64 ((rd_T90 l0 x10_1).f3)))) := ⟨bG⟩
       (try clear BK319)
       (try clear HB)
       generalize ((((w23.setCell ⟨gb319, 0, none⟩ (.int .i64 ((rd_T90 l0 x10_1).f0))).setCell ⟨gb319, 1, none⟩ (.int .i64 ((rd_T90 l0 x10_1).f1))).setCell ⟨gb319, 2, none⟩ (.int .i64 ((rd_T90 l0 x10_1).f2))).setCell ⟨gb319, 3, none⟩ (.int .i64 ((rd_T90 l0 x10_1).f3))) = w25 at n0_ n1_ ⊢
       have BK319 := n0_
       have HB := n1_
       clear n0_ n1_
       replace BK319 := Aside0.mk (blk_drew BK319.out)
       have HBo := HB
       replace HB := Aside0.mk (below_drew1 HB.out)
       refine start_ (n := 18) (S := fun w' => w'.cell? ⟨gb319, 0, none⟩ = some (.int .i64 ((rd_T90 l0 x10_1).f0)) ∧ w'.cell? ⟨gb319, 1, none⟩ = some (.int .i64 ((rd_T90 l0 x10_1).f1)) ∧ w'.cell? ⟨gb319, 2, none⟩ = some (.int .i64 ((rd_T90 l0 x10_1).f2)) ∧ w'.cell? ⟨gb319, 3, none⟩ = some (.int .i64 ((rd_T90 l0 x10_1).f3))) (ds := []) (mb 18 0) (by kernel_rfl) rfl rfl ⟨bC BK319 0, bC BK319 1, bC BK319 2, bC BK319 3⟩ (fun hHeld => ?_); refine with_tabW impl_ArePaths.tab6 impl_ArePaths.bits6 (fun HT_ HW_ => ?_)
       generalize w25.drew = w26 at BK319 HB hHeld ⊢
       refine tA4 (i := 0) (N := some 15) (mb 18 1) HT_ HW_ hHeld ?_
       refine oA (i := 1) (N := some 16) (mb 18 3) HT_ (fun K hK => ?_)
       refine gA Try.func112 #[.agg #[.int .i64 ((rd_T90 l0 x10_1).f0), .int .i64 ((rd_T90 l0 x10_1).f1), .int .i64 ((rd_T90 l0 x10_1).f2), .int .i64 ((rd_T90 l0 x10_1).f3)]] ?_
       with_reducible refine (impl_IsPath.calls ((rd_T90 l0 x10_1).f0) ((rd_T90 l0 x10_1).f1) ((rd_T90 l0 x10_1).f2) ((rd_T90 l0 x10_1).f3) true _ A6.out).mono ?_
       rintro e w27 ⟨rfl, hb⟩
       refine ⟨_, rfl, ?_⟩
       replace BK319 := Aside0.mk (blk_below (g := gb319) (bK BK319) hb)
       replace HB := Aside0.mk (below_step bG hb)
       (try clear hb)
       (try clear hb2)
       (try clear hk)
       (try clear hi)
       refine hK.out _ _ ⟨bC BK319 0, bC BK319 1, bC BK319 2, bC BK319 3⟩ (fun hHeld => ?_)
       clear hK K
       refine nB ?_
       refine pA (i := 2) (N := some 17) (mb 18 7) HT_ ?_
       refine pA (i := 3) (N := some 18) (mb 18 15) HT_ ?_
       refine pA (i := 4) (N := some 19) (mb 18 31) HT_ ?_
       refine pA (i := 5) (N := some 20) (mb 18 63) HT_ ?_
       refine pA (i := 6) (N := some 21) (mb 18 127) HT_ ?_
       refine pU (i := 7) (N := some 22) (mb 18 255) HT_ ?_
       refine pU (i := 8) (N := some 23) (mb 18 511) HT_ ?_
       refine pU (i := 9) (N := some 24) (mb 18 1023) HT_ ?_
       refine pU (i := 10) (N := some 25) (mb 18 2047) HT_ ?_
       refine pU (i := 11) (N := some 26) (mb 18 4095) HT_ ?_
       refine pU (i := 12) (N := some 27) (mb 18 8191) HT_ ?_
       refine pU (i := 13) (N := some 28) (mb 18 16383) HT_ ?_
       refine pU (i := 14) (N := some 29) (mb 18 32767) HT_ ?_
       refine pU (i := 15) (N := some 30) (mb 18 65535) HT_ ?_
       refine pA (i := 16) (N := some 31) (mb 18 131071) HT_ ?_
       refine pA (i := 17) (N := some 32) (mb 18 262143) HT_ ?_
       refine eA HT_ ?_
       try go_wp2
       go_roundg k1
       case measure => have := HK1.out; omega
       case rel => exact ⟨(wrap64 (x10_1 + 1)), rS, H', ⟨by have := HK1.out; omega⟩, ⟨bG⟩⟩
     ·
      replace c7 := Bool.eq_false_iff.mpr c7
      subst c7
      have H1 : (some false) = some r := by rw [if_neg (show ¬ (false = true) by decide)] at H; exact H
      clear H
      have H := H1
      clear H1
      obtain rfl := Option.some.inj H
      have p318 : 0 ≤ (x10_1 : Int) := dA
      have q318 : x10_1 < (l0.length : Int) := dA
      obtain ⟨ad318, e318, hx318_0, hx318_1, hx318_2, hx318_3⟩ := at_T90 HR0.out x10_1 p318 q318
      cases e318
      replace hx318_0 := hC HB hx318_0
      replace hx318_1 := hC HB hx318_1
      replace hx318_2 := hC HB hx318_2
      replace hx318_3 := hC HB hx318_3
      replace p318 := eq_true p318
      replace q318 := eq_true q318
      try go_wp2_with (first | ((with_reducible refine gate_dst (N := 4) rfl ?_); refine bE (N := 4) (cs := #[.int .i64 0, .int .i64 0, .int .i64 0, .int .i64 0]) (t := 90) ?_; intro gb319 hg w28 hbox hb; have n0_ := Aside0.mk (below_step bA hb); have n1_ := Aside0.mk (hbox); have n2_ := Aside0.mk ((by rw [hg]; exact (below_size bA) : w.heap.size ≤ gb319)); have n3_ := Aside0.mk ((by rw [hg]; exact (below_size bA) : w.heap.size ≤ gb319)); clear HB; have HB := n0_; have BK319 := n1_; have GW319 := n2_; have GE319 := n3_; clear n0_ n1_ n2_ n3_; clear hb hbox hg; obtain ⟨hcz29_0, hcz29_1, hcz29_2, hcz29_3, hfz29_0, hfz29_1, hfz29_2, hfz29_3⟩ := blkc4 BK319))
      have n0_ : Aside0 (((((w28.setCell ⟨gb319, 0, none⟩ (.int .i64 ((rd_T90 l0 x10_1).f0))).setCell ⟨gb319, 1, none⟩ (.int .i64 ((rd_T90 l0 x10_1).f1))).setCell ⟨gb319, 2, none⟩ (.int .i64 ((rd_T90 l0 x10_1).f2))).setCell ⟨gb319, 3, none⟩ (.int .i64 ((rd_T90 l0 x10_1).f3))).heap[gb319]? = some (.cells #[.int .i64 ((rd_T90 l0 x10_1).f0), .int .i64 ((rd_T90 l0 x10_1).f1), .int .i64 ((rd_T90 l0 x10_1).f2), .int .i64 ((rd_T90 l0 x10_1).f3)] 90 (0, 0))) := ⟨by (with_reducible repeat (first | refine blk_drewN ?_ _ | refine blk_drew ?_ | refine blk_alloc ?_ _)); refine blk_put (cs := #[.int .i64 ((rd_T90 l0 x10_1).f0), .int .i64 ((rd_T90 l0 x10_1).f1), .int .i64 ((rd_T90 l0 x10_1).f2), .int .i64 0]) ?_ 3 _ rfl; (with_reducible repeat (first | refine blk_drewN ?_ _ | refine blk_drew ?_ | refine blk_alloc ?_ _)); refine blk_put (cs := #[.int .i64 ((rd_T90 l0 x10_1).f0), .int .i64 ((rd_T90 l0 x10_1).f1), .int .i64 0, .int .i64 0]) ?_ 2 _ rfl; (with_reducible repeat (first | refine blk_drewN ?_ _ | refine blk_drew ?_ | refine blk_alloc ?_ _)); refine blk_put (cs := #[.int .i64 ((rd_T90 l0 x10_1).f0), .int .i64 0, .int .i64 0, .int .i64 0]) ?_ 1 _ rfl; (with_reducible repeat (first | refine blk_drewN ?_ _ | refine blk_drew ?_ | refine blk_alloc ?_ _)); refine blk_put (cs := #[.int .i64 0, .int .i64 0, .int .i64 0, .int .i64 0]) ?_ 0 _ rfl; (with_reducible repeat (first | refine blk_drewN ?_ _ | refine blk_drew ?_ | refine blk_alloc ?_ _)); exact BK319.out⟩
      have n1_ : Aside0 (Below w.heap.size w ((((w28.setCell ⟨gb319, 0, none⟩ (.int .i64 ((rd_T90 l0 x10_1).f0))).setCell ⟨gb319, 1, none⟩ (.int .i64 ((rd_T90 l0 x10_1).f1))).setCell ⟨gb319, 2, none⟩ (.int .i64 ((rd_T90 l0 x10_1).f2))).setCell ⟨gb319, 3, none⟩ (.int .i64 ((rd_T90 l0 x10_1).f3)))) := ⟨bG⟩
      (try clear BK319)
      (try clear HB)
      generalize ((((w28.setCell ⟨gb319, 0, none⟩ (.int .i64 ((rd_T90 l0 x10_1).f0))).setCell ⟨gb319, 1, none⟩ (.int .i64 ((rd_T90 l0 x10_1).f1))).setCell ⟨gb319, 2, none⟩ (.int .i64 ((rd_T90 l0 x10_1).f2))).setCell ⟨gb319, 3, none⟩ (.int .i64 ((rd_T90 l0 x10_1).f3))) = w30 at n0_ n1_ ⊢
      have BK319 := n0_
      have HB := n1_
      clear n0_ n1_
      replace BK319 := Aside0.mk (blk_drew BK319.out)
      have HBo := HB
      replace HB := Aside0.mk (below_drew1 HB.out)
      refine start_ (n := 18) (S := fun w' => w'.cell? ⟨gb319, 0, none⟩ = some (.int .i64 ((rd_T90 l0 x10_1).f0)) ∧ w'.cell? ⟨gb319, 1, none⟩ = some (.int .i64 ((rd_T90 l0 x10_1).f1)) ∧ w'.cell? ⟨gb319, 2, none⟩ = some (.int .i64 ((rd_T90 l0 x10_1).f2)) ∧ w'.cell? ⟨gb319, 3, none⟩ = some (.int .i64 ((rd_T90 l0 x10_1).f3))) (ds := []) (mb 18 0) (by kernel_rfl) rfl rfl ⟨bC BK319 0, bC BK319 1, bC BK319 2, bC BK319 3⟩ (fun hHeld => ?_); refine with_tabW impl_ArePaths.tab6 impl_ArePaths.bits6 (fun HT_ HW_ => ?_)
      generalize w30.drew = w31 at BK319 HB hHeld ⊢
      refine tA4 (i := 0) (N := some 15) (mb 18 1) HT_ HW_ hHeld ?_
      refine oA (i := 1) (N := some 16) (mb 18 3) HT_ (fun K hK => ?_)
      refine gA Try.func112 #[.agg #[.int .i64 ((rd_T90 l0 x10_1).f0), .int .i64 ((rd_T90 l0 x10_1).f1), .int .i64 ((rd_T90 l0 x10_1).f2), .int .i64 ((rd_T90 l0 x10_1).f3)]] ?_
      with_reducible refine (impl_IsPath.calls ((rd_T90 l0 x10_1).f0) ((rd_T90 l0 x10_1).f1) ((rd_T90 l0 x10_1).f2) ((rd_T90 l0 x10_1).f3) false _ A6.out).mono ?_
      rintro e w32 ⟨rfl, hb⟩
      refine ⟨_, rfl, ?_⟩
      replace BK319 := Aside0.mk (blk_below (g := gb319) (bK BK319) hb)
      replace HB := Aside0.mk (below_step bG hb)
      (try clear hb)
      (try clear hb2)
      (try clear hk)
      (try clear hi)
      refine hK.out _ _ ⟨bC BK319 0, bC BK319 1, bC BK319 2, bC BK319 3⟩ (fun hHeld => ?_)
      clear hK K
      refine nB ?_
      refine pA (i := 2) (N := some 17) (mb 18 7) HT_ ?_
      refine pA (i := 3) (N := some 18) (mb 18 15) HT_ ?_
      refine pU (i := 4) (N := some 19) (mb 18 31) HT_ ?_
      refine pU (i := 5) (N := some 20) (mb 18 63) HT_ ?_
      refine pU (i := 6) (N := some 21) (mb 18 127) HT_ ?_
      refine pU (i := 7) (N := some 22) (mb 18 255) HT_ ?_
      refine pU (i := 8) (N := some 23) (mb 18 511) HT_ ?_
      refine pU (i := 9) (N := some 24) (mb 18 1023) HT_ ?_
      refine pU (i := 10) (N := some 25) (mb 18 2047) HT_ ?_
      refine pU (i := 11) (N := some 26) (mb 18 4095) HT_ ?_
      refine pU (i := 12) (N := some 27) (mb 18 8191) HT_ ?_
      refine pU (i := 13) (N := some 28) (mb 18 16383) HT_ ?_
      refine pU (i := 14) (N := some 29) (mb 18 32767) HT_ ?_
      refine pU (i := 15) (N := some 30) (mb 18 65535) HT_ ?_
      refine pU (i := 16) (N := some 31) (mb 18 131071) HT_ ?_
      refine pA (i := 17) (N := some 32) (mb 18 262143) HT_ ?_
      refine eA HT_ ?_
      try go_wp2
      go_ret
      exact ⟨rA, bG⟩
    ·
     rw [if_neg c3] at H
     have c3b0 : decide (x10_1 < (l0.length : Int)) = false := decide_eq_false c3
     clear c3
     obtain rfl := Option.some.inj H
     go_wp2
     go_ret
     exact ⟨rA, bA⟩

/-! ### impl_FindPath: function 84 -/
def impl_FindPath.q (id : Int) (x : S90) : Bool := decide (x.f0 = id)
set_option maxHeartbeats 400000 in
set_option maxRecDepth 100000 in
theorem impl_FindPath.clo (id : Int) (g : Nat) (x : S90) (w : World) (hc : w.cell? ⟨g, 0, none⟩ = some (.int .i64 id)) :
  Calls Try.prog 114 #[.agg #[.int .i64 x.f0, .int .i64 x.f1, .int .i64 x.f2, .int .i64 x.f3], .pointer (some ⟨g, 0, none⟩)] w fun e w' => e = .returned (.bool (impl_FindPath.q id x)) ∧ Below w.heap.size w w' := by
 have hu := Try.underlying90
 have hg : g < w.heap.size := World.block_lt_of_cell? w _ hc
 go_enter Try.func114, Try.ntmps114
 go_wp2
 go_ret
 exact ⟨by unfold impl_FindPath.q; first | rfl | simp, (Below.refl _ _).alloc (Nat.le_refl _) _⟩
def impl_FindPath.ix (id : Int) : List S90 → Int → Int
 | [], _ => -1
 | x :: l, i => if impl_FindPath.q id x = true then i else impl_FindPath.ix id l (i + 1)
theorem impl_FindPath.ix_hit (id : Int) : ∀ (l : List S90) (i : Int) (m : Nat) (hm : m < l.length), (∀ j (hj : j < m), impl_FindPath.q id (l[j]'(by omega)) = false) → impl_FindPath.q id l[m] = true → impl_FindPath.ix id l i = i + m
 | [], i, m, hm, _, _ => absurd hm (by simp)
 | p :: l, i, 0, hm, _, h => by
  unfold impl_FindPath.ix
  rw [if_pos (show impl_FindPath.q id p = true from h)]
  simp
 | p :: l, i, m + 1, hm, hne, h => by
  unfold impl_FindPath.ix
  have h2 : impl_FindPath.q id p = false := hne 0 (by omega)
  rw [if_neg (by rw [h2]; decide), impl_FindPath.ix_hit id l (i + 1) m (by simpa using hm) (fun j hj => hne (j + 1) (by omega)) h]
  omega
theorem impl_FindPath.ix_miss (id : Int) : ∀ (l : List S90) (i : Int), (∀ j (hj : j < l.length), impl_FindPath.q id l[j] = false) → impl_FindPath.ix id l i = -1
 | [], i, _ => rfl
 | p :: l, i, h => by
  unfold impl_FindPath.ix
  have h2 : impl_FindPath.q id p = false := h 0 (by simp)
  rw [if_neg (by rw [h2]; decide), impl_FindPath.ix_miss id l (i + 1) (fun j hj => h (j + 1) (by simpa using hj))]
theorem impl_FindPath.rd_ (l : List S90) (j : Nat) (hj : j < l.length) : rd_T90 l (j : Int) = l[j] := by
 unfold rd_T90; simp [List.getD_eq_getElem?_getD, List.getElem?_eq_getElem hj]
set_option maxHeartbeats 4000000 in
set_option maxRecDepth 100000 in
theorem impl_FindPath.idx (id : Int) (g : Nat) (A0 : Option Addr) (c0 : Nat) (l0 : List S90) (w : World) (hr0 : Kd.C k90 w A0 l0.length l0) (hc0 : l0.length ≤ c0) (hc : w.cell? ⟨g, 0, none⟩ = some (.int .i64 id)) :
  Calls Try.prog 113 #[.slice A0 l0.length c0, .func (.func 114) #[] #[.pointer (some ⟨g, 0, none⟩)]] w fun e w' => e = .returned (.int .i64 (impl_FindPath.ix id l0 0)) ∧ Below w.heap.size w w' := by
 have hu := Try.underlying90
 have HC := Aside0.mk hc
 clear hc
 have HR0 := Aside0.mk hr0
 have HC0 := Aside0.mk hc0
 have hlen : l0.length ≤ 9223372036854775807 := hr0.2.1
 clear hr0 hc0
 have HB := Aside0.mk (Below.refl w.heap.size w)
 go_enter Try.func113, Try.ntmps113
 go_wp2
 go_loopg [5, 8] l0.length (fun gg v5 v8 w' => ∃ kk : Nat, v8 = .int .i64 kk ∧ Aside0 (kk ≤ l0.length) ∧ Aside0 (l0.length - kk ≤ gg) ∧ Aside0 (Below w.heap.size w w') ∧ Aside0 (∀ j (hj : j < kk) (hl : j < l0.length), impl_FindPath.q id l0[j] = false))
 case atStart => exact ⟨0, rfl, ⟨Nat.zero_le _⟩, ⟨by omega⟩, HB, ⟨fun j hj => absurd hj (Nat.not_lt_zero _)⟩⟩
 case round =>
  clear HB
  obtain ⟨kk, rfl, hk, hg, HB, HA⟩ := hrel
  by_cases hlt : kk < l0.length
  ·
   have hltz : decide ((kk : Int) < (l0.length : Int)) = true := decide_eq_true (by omega)
   have hltn : decide (kk < l0.length) = true := decide_eq_true hlt
   have p0 : (0 : Int) ≤ (kk : Int) := by omega
   have q0 : (kk : Int) < (l0.length : Int) := by omega
   have HE := Aside0.mk (impl_FindPath.rd_ l0 kk hlt)
   obtain ⟨ad, e1, hx0, hx1, hx2, hx3⟩ := at_T90 HR0.out (kk : Int) p0 q0
   cases e1
   rw [Int.toNat_natCast] at hx0 hx1 hx2 hx3
   replace hx0 := hC HB hx0
   replace hx1 := hC HB hx1
   replace hx2 := hC HB hx2
   replace hx3 := hC HB hx3
   replace p0 := eq_true p0
   replace q0 := eq_true q0
   have hcl := fun (w' : World) (hb : Below w.heap.size w w') => impl_FindPath.clo id g (rd_T90 l0 (kk : Int)) w' ((hb.cell (World.block_lt_of_cell? w _ HC.out)).trans HC.out)
   cases hq : impl_FindPath.q id (rd_T90 l0 (kk : Int)) with
   | true =>
    rw [hq] at hcl
    have HCL := Aside0.mk hcl
    have HQ := Aside0.mk hq
    clear hcl hq
    go_wp2_with (go_at_call 114; refine (HCL.out _ HB.out).mono ?_; rintro e w1 ⟨rfl, hb1⟩)
    go_ret
    refine ⟨?_, below_step HB.out hb1⟩
    have hq := HQ.out
    rw [HE.out] at hq
    rw [impl_FindPath.ix_hit id l0 0 kk hlt (fun j hj => HA.out j hj (by omega)) hq, Int.zero_add]
    rfl
   | false =>
    rw [hq] at hcl
    have HCL := Aside0.mk hcl
    have HQ := Aside0.mk hq
    clear hcl hq
    go_wp2_with (go_at_call 114; refine (HCL.out _ HB.out).mono ?_; rintro e w1 ⟨rfl, hb1⟩)
    go_roundg (l0.length - (kk + 1))
    case measure => have := hg.out; omega
    case rel =>
     refine ⟨kk + 1, by go_num, ⟨by omega⟩, ⟨by omega⟩, ⟨below_step HB.out hb1⟩, ⟨fun j hj hl => ?_⟩⟩
     rcases Nat.lt_or_ge j kk with h3 | h3
     ·
      exact HA.out j h3 hl
     ·
      have h4 : j = kk := by omega
      subst h4
      rw [← HE.out]
      exact HQ.out
  ·
   have hge : decide ((kk : Int) < (l0.length : Int)) = false := decide_eq_false (by omega)
   have hgen : decide (kk < l0.length) = false := decide_eq_false hlt
   go_wp2
   go_ret
   refine ⟨?_, HB.out⟩
   rw [impl_FindPath.ix_miss id l0 0 (fun j hj => HA.out j (by omega) hj)]
   rfl

def impl_FindPath.f (l0 : List S90) (a1 : Int) : Option Int := some (impl_FindPath.ix a1 l0 0)
set_option maxHeartbeats 400000 in
set_option maxRecDepth 100000 in
theorem impl_FindPath.calls (A0 : Option Addr) (c0 : Nat) (l0 : List S90) (a1 : Int) (r : Int) (w : World) (hr0 : Kd.C k90 w A0 l0.length l0) (hc0 : l0.length ≤ c0) (h : impl_FindPath.f l0 a1 = some r) :
  Calls Try.prog 84 #[.slice A0 l0.length c0, .int .i64 a1] w fun e w' => e = .returned (.int .i64 r) ∧ Below w.heap.size w w' := by
 obtain rfl := Option.some.inj h
 have HR0 := Aside0.mk hr0
 have HC0 := Aside0.mk hc0
 clear hr0 hc0 h
 go_enter Try.func84, Try.ntmps84
 go_wp2_with (go_at_call 113; refine (impl_FindPath.idx a1 w.heap.size A0 c0 l0 _ ?s1 HC0.out ?s2).mono ?_; (case s1 => exact Kd.C_alloc HR0.out _); (case s2 => simp); rintro e w1 ⟨rfl, hb1⟩)
 go_ret
 exact ⟨rfl, below_step (below_alloc (Below.refl _ _) _) hb1⟩

/-! ### laws_szControl: function 54 -/
def laws_szControl.f (l0_0 : List Int) (a0_1 : Int) (l0_2 : List Int) (a0_3 : Int) (a1 : Int) : Option (Int) := (laws_szIntS.f l0_0 a1).bind fun t366 => (if t366 < 0 then (some (-1)) else ((laws_szIntS.f l0_2 t366).bind fun t367 => (if t367 < 0 then (some (-1)) else (some t367))))
set_option maxHeartbeats 8000000 in
set_option maxRecDepth 100000 in
theorem laws_szControl.calls (A0_0 : Option Addr) (c0_0 : Nat) (l0_0 : List Int) (a0_1 : Int) (A0_2 : Option Addr) (c0_2 : Nat) (l0_2 : List Int) (a0_3 : Int) (a1 : Int) (r : Int) (w : World) (hr0_0 : Kd.C (Kd.int .i64) w A0_0 l0_0.length l0_0) (hc0_0 : l0_0.length ≤ c0_0) (hr0_2 : Kd.C (Kd.int .i64) w A0_2 l0_2.length l0_2) (hc0_2 : l0_2.length ≤ c0_2) (h : laws_szControl.f l0_0 a0_1 l0_2 a0_3 a1 = some r) :
  Calls Try.prog 54 #[.agg #[.slice A0_0 l0_0.length c0_0, .int .i64 a0_1, .slice A0_2 l0_2.length c0_2, .int .i64 a0_3], .int .i64 a1] w fun e w' => e = .returned (.int .i64 r) ∧ Below w.heap.size w w' := by
 have hu67 := Try.underlying67
 have HR0_0 := Aside0.mk hr0_0
 have HC0_0 := Aside0.mk hc0_0
 clear hr0_0 hc0_0
 have HR0_2 := Aside0.mk hr0_2
 have HC0_2 := Aside0.mk hc0_2
 clear hr0_2 hc0_2
 have HB := Aside0.mk (Below.refl w.heap.size w)
 have H : ((laws_szIntS.f l0_0 a1).bind fun t366 => (if t366 < 0 then (some (-1)) else ((laws_szIntS.f l0_2 t366).bind fun t367 => (if t367 < 0 then (some (-1)) else (some t367))))) = some r := h
 clear h
 obtain ⟨t366, A3, H⟩ := bindE H
 try dsimp only at H
 by_cases c4 : t366 < 0
 ·
  rw [if_pos c4] at H
  have c4b0 : decide (t366 < 0) = true := decide_eq_true c4
  clear c4
  obtain rfl := Option.some.inj H
  go_enter Try.func54, Try.ntmps54
  go_wp2_with (first | ((with_reducible refine gate_dst (N := 2) rfl ?_); refine bE (N := 2) (cs := #[.slice A0_0 l0_0.length c0_0, .int .i64 a0_1, .slice A0_2 l0_2.length c0_2, .int .i64 a0_3]) (t := 67) ?_; intro gb365 hg w5 hbox hb; have n0_ := Aside0.mk (below_step bA hb); have n1_ := Aside0.mk (hbox); have n2_ := Aside0.mk ((by rw [hg]; exact (below_size bA) : w.heap.size ≤ gb365)); have n3_ := Aside0.mk ((by rw [hg]; exact (below_size bA) : w.heap.size ≤ gb365)); clear HB; have HB := n0_; have BK365 := n1_; have GW365 := n2_; have GE365 := n3_; clear n0_ n1_ n2_ n3_; clear hb hbox hg; have hcz6_0 : w5.cell? ⟨gb365, 0, none⟩ = some (.slice A0_0 l0_0.length c0_0) := bC BK365 0; have hcz6_1 : w5.cell? ⟨gb365, 1, none⟩ = some (.int .i64 a0_1) := bC BK365 1; have hcz6_2 : w5.cell? ⟨gb365, 2, none⟩ = some (.slice A0_2 l0_2.length c0_2) := bC BK365 2; have hcz6_3 : w5.cell? ⟨gb365, 3, none⟩ = some (.int .i64 a0_3) := bC BK365 3; have hfz6_0 := blk_frozen BK365.out 0; have hfz6_1 := blk_frozen BK365.out 1; have hfz6_2 := blk_frozen BK365.out 2; have hfz6_3 := blk_frozen BK365.out 3) | ((with_reducible refine gate_callee (f := 97) rfl ?_); refine gL (some 8) Try.func97 #[.slice A0_0 l0_0.length c0_0, .int .i64 a1] ?_; (with_reducible refine (laws_szIntS.calls _ _ l0_0 a1 t366 _ ?side1 ?side2 A3.out).mono ?_); (case side1 => exact cB HR0_0); (case side2 => exact HC0_0.out); rintro e w' ⟨rfl, ⟨nd, rfl⟩⟩; refine ⟨_, rfl, ?_⟩))
  go_ret
  exact ⟨rA, bG⟩
 ·
  rw [if_neg c4] at H
  have c4b0 : decide (t366 < 0) = false := decide_eq_false c4
  clear c4
  obtain ⟨t367, A7, H⟩ := bindE H
  try dsimp only at H
  by_cases c8 : t367 < 0
  ·
   rw [if_pos c8] at H
   have c8b0 : decide (t367 < 0) = true := decide_eq_true c8
   clear c8
   obtain rfl := Option.some.inj H
   go_enter Try.func54, Try.ntmps54
   go_wp2_with (first | ((with_reducible refine gate_dst (N := 2) rfl ?_); refine bE (N := 2) (cs := #[.slice A0_0 l0_0.length c0_0, .int .i64 a0_1, .slice A0_2 l0_2.length c0_2, .int .i64 a0_3]) (t := 67) ?_; intro gb365 hg w9 hbox hb; have n0_ := Aside0.mk (below_step bA hb); have n1_ := Aside0.mk (hbox); have n2_ := Aside0.mk ((by rw [hg]; exact (below_size bA) : w.heap.size ≤ gb365)); have n3_ := Aside0.mk ((by rw [hg]; exact (below_size bA) : w.heap.size ≤ gb365)); clear HB; have HB := n0_; have BK365 := n1_; have GW365 := n2_; have GE365 := n3_; clear n0_ n1_ n2_ n3_; clear hb hbox hg; have hcz10_0 : w9.cell? ⟨gb365, 0, none⟩ = some (.slice A0_0 l0_0.length c0_0) := bC BK365 0; have hcz10_1 : w9.cell? ⟨gb365, 1, none⟩ = some (.int .i64 a0_1) := bC BK365 1; have hcz10_2 : w9.cell? ⟨gb365, 2, none⟩ = some (.slice A0_2 l0_2.length c0_2) := bC BK365 2; have hcz10_3 : w9.cell? ⟨gb365, 3, none⟩ = some (.int .i64 a0_3) := bC BK365 3; have hfz10_0 := blk_frozen BK365.out 0; have hfz10_1 := blk_frozen BK365.out 1; have hfz10_2 := blk_frozen BK365.out 2; have hfz10_3 := blk_frozen BK365.out 3) | ((with_reducible refine gate_callee (f := 97) rfl ?_); refine gL (some 8) Try.func97 #[.slice A0_0 l0_0.length c0_0, .int .i64 a1] ?_; (with_reducible refine (laws_szIntS.calls _ _ l0_0 a1 t366 _ ?side1 ?side2 A3.out).mono ?_); (case side1 => exact cB HR0_0); (case side2 => exact HC0_0.out); rintro e w' ⟨rfl, ⟨nd, rfl⟩⟩; refine ⟨_, rfl, ?_⟩) | ((with_reducible refine gate_callee (f := 97) rfl ?_); refine gL (some 14) Try.func97 #[.slice A0_2 l0_2.length c0_2, .int .i64 t366] ?_; (with_reducible refine (laws_szIntS.calls _ _ l0_2 t366 t367 _ ?side1 ?side2 A7.out).mono ?_); (case side1 => exact cG HR0_2); (case side2 => exact HC0_2.out); rintro e w' ⟨rfl, ⟨nd, rfl⟩⟩; refine ⟨_, rfl, ?_⟩))
   go_ret
   exact ⟨rA, bG⟩
  ·
   rw [if_neg c8] at H
   have c8b0 : decide (t367 < 0) = false := decide_eq_false c8
   clear c8
   obtain rfl := Option.some.inj H
   go_enter Try.func54, Try.ntmps54
   go_wp2_with (first | ((with_reducible refine gate_dst (N := 2) rfl ?_); refine bE (N := 2) (cs := #[.slice A0_0 l0_0.length c0_0, .int .i64 a0_1, .slice A0_2 l0_2.length c0_2, .int .i64 a0_3]) (t := 67) ?_; intro gb365 hg w11 hbox hb; have n0_ := Aside0.mk (below_step bA hb); have n1_ := Aside0.mk (hbox); have n2_ := Aside0.mk ((by rw [hg]; exact (below_size bA) : w.heap.size ≤ gb365)); have n3_ := Aside0.mk ((by rw [hg]; exact (below_size bA) : w.heap.size ≤ gb365)); clear HB; have HB := n0_; have BK365 := n1_; have GW365 := n2_; have GE365 := n3_; clear n0_ n1_ n2_ n3_; clear hb hbox hg; have hcz12_0 : w11.cell? ⟨gb365, 0, none⟩ = some (.slice A0_0 l0_0.length c0_0) := bC BK365 0; have hcz12_1 : w11.cell? ⟨gb365, 1, none⟩ = some (.int .i64 a0_1) := bC BK365 1; have hcz12_2 : w11.cell? ⟨gb365, 2, none⟩ = some (.slice A0_2 l0_2.length c0_2) := bC BK365 2; have hcz12_3 : w11.cell? ⟨gb365, 3, none⟩ = some (.int .i64 a0_3) := bC BK365 3; have hfz12_0 := blk_frozen BK365.out 0; have hfz12_1 := blk_frozen BK365.out 1; have hfz12_2 := blk_frozen BK365.out 2; have hfz12_3 := blk_frozen BK365.out 3) | ((with_reducible refine gate_callee (f := 97) rfl ?_); refine gL (some 8) Try.func97 #[.slice A0_0 l0_0.length c0_0, .int .i64 a1] ?_; (with_reducible refine (laws_szIntS.calls _ _ l0_0 a1 t366 _ ?side1 ?side2 A3.out).mono ?_); (case side1 => exact cB HR0_0); (case side2 => exact HC0_0.out); rintro e w' ⟨rfl, ⟨nd, rfl⟩⟩; refine ⟨_, rfl, ?_⟩) | ((with_reducible refine gate_callee (f := 97) rfl ?_); refine gL (some 14) Try.func97 #[.slice A0_2 l0_2.length c0_2, .int .i64 t366] ?_; (with_reducible refine (laws_szIntS.calls _ _ l0_2 t366 t367 _ ?side1 ?side2 A7.out).mono ?_); (case side1 => exact cG HR0_2); (case side2 => exact HC0_2.out); rintro e w' ⟨rfl, ⟨nd, rfl⟩⟩; refine ⟨_, rfl, ?_⟩))
   go_ret
   exact ⟨rA, bG⟩

/-! ### laws_toControl: function 56 -/
def laws_toControl.f (k : Nat) (l0_0 : List Int) (a0_1 : Int) (l0_2 : List Int) (a0_3 : Int) : Option (List Int × Int × List Int × Int) := (laws_toIntS.f k l0_0).bind fun t371 => ((laws_toIntS.f k l0_2).bind fun t374 => (some (t371, a0_1, t374, a0_3)))
theorem laws_toControl.mono : ∀ a0 a1 a2 a3 k, LeO (laws_toControl.f k a0 a1 a2 a3) (laws_toControl.f (k + 1) a0 a1 a2 a3) := by
 intro a0 a1 a2 a3 k
 unfold laws_toControl.f
 repeat' first | (with_reducible first | exact LeO.refl _ | exact LeO.none _ | refine LeO.ite ?_ ?_ | refine LeO.bind ?_ (fun _ => ?_) | exact laws_toIntS.mono _ _) | exact LeO.none _ | refine LeO.ite ?_ ?_ | refine LeO.bind ?_ (fun _ => ?_) | exact laws_toIntS.mono _ _
set_option maxHeartbeats 8000000 in
set_option maxRecDepth 100000 in
theorem laws_toControl.calls (k : Nat) (A0_0 : Option Addr) (c0_0 : Nat) (l0_0 : List Int) (a0_1 : Int) (A0_2 : Option Addr) (c0_2 : Nat) (l0_2 : List Int) (a0_3 : Int) (r1 : List Int) (r2 : Int) (r3 : List Int) (r4 : Int) (w : World) (hr0_0 : Kd.C (Kd.int .i64) w A0_0 l0_0.length l0_0) (hc0_0 : l0_0.length ≤ c0_0) (hr0_2 : Kd.C (Kd.int .i64) w A0_2 l0_2.length l0_2) (hc0_2 : l0_2.length ≤ c0_2) (h : laws_toControl.f k l0_0 a0_1 l0_2 a0_3 = some (r1, r2, r3, r4)) :
  Calls Try.prog 56 #[.agg #[.slice A0_0 l0_0.length c0_0, .int .i64 a0_1, .slice A0_2 l0_2.length c0_2, .int .i64 a0_3]] w fun e w' => ∃ v0_ v2_ : Value, e = .returned (.agg #[v0_, .int .i64 r2, v2_, .int .i64 r4]) ∧ Kd.R (Kd.int .i64) 3 w' w.heap.size (fun k_ => some k_ ≠ (v2_ : Value).ownBlock) v0_ r1 ∧ Kd.R (Kd.int .i64) 3 w' w.heap.size (fun k_ => some k_ ≠ (v0_ : Value).ownBlock) v2_ r3 ∧ Below w.heap.size w w' := by
 have hu67 := Try.underlying67
 have hu70 := Try.underlying70
 have HR0_0 := Aside0.mk hr0_0
 have HC0_0 := Aside0.mk hc0_0
 clear hr0_0 hc0_0
 have HR0_2 := Aside0.mk hr0_2
 have HC0_2 := Aside0.mk hc0_2
 clear hr0_2 hc0_2
 have HB := Aside0.mk (Below.refl w.heap.size w)
 have H : ((laws_toIntS.f k l0_0).bind fun t371 => ((laws_toIntS.f k l0_2).bind fun t374 => (some (t371, a0_1, t374, a0_3)))) = some (r1, r2, r3, r4) := h
 clear h
 obtain ⟨t371, A2, H⟩ := bindE H
 try dsimp only at H
 obtain ⟨t374, A3, H⟩ := bindE H
 try dsimp only at H
 simp only [Option.some.injEq, Prod.mk.injEq] at H
 obtain ⟨rfl, rfl, rfl, rfl⟩ := H
 go_enter Try.func56, Try.ntmps56
 go_wp2_with (first | ((with_reducible refine gate_dst (N := 1) rfl ?_); refine bE (N := 1) (cs := #[.slice A0_0 l0_0.length c0_0, .int .i64 a0_1, .slice A0_2 l0_2.length c0_2, .int .i64 a0_3]) (t := 67) ?_; intro gb368 hg w4 hbox hb; have n0_ := Aside0.mk (below_step bA hb); have n1_ := Aside0.mk (hbox); have n2_ := Aside0.mk ((by rw [hg]; exact (below_size bA) : w.heap.size ≤ gb368)); have n3_ := Aside0.mk ((by rw [hg]; exact (below_size bA) : w.heap.size ≤ gb368)); clear HB; have HB := n0_; have BK368 := n1_; have GW368 := n2_; have GE368 := n3_; clear n0_ n1_ n2_ n3_; clear hb hbox hg) | ((with_reducible refine gate_dst (N := 2) rfl ?_); refine bE (N := 2) (cs := #[.slice none 0 0, .int .i64 0, .slice none 0 0, .int .i64 0]) (t := 70) ?_; intro gb369 hg w5 hbox hb; have n0_ := Aside0.mk (blk_below (g := gb368) (bK BK368) hb); have n1_ := Aside0.mk (below_step bG hb); have n2_ := Aside0.mk (hbox); have n3_ := Aside0.mk ((by rw [hg]; exact (below_size bG) : w.heap.size ≤ gb369)); have n4_ := Aside0.mk ((by rw [hg]; exact (below_size bG) : w.heap.size ≤ gb369)); have n5_ := Aside0.mk ((by rw [hg]; exact Nat.ne_of_lt (blk_lt (g := gb368) (o := .cells #[.slice A0_0 l0_0.length c0_0, .int .i64 a0_1, .slice A0_2 l0_2.length c0_2, .int .i64 a0_3] 67 (0, 0)) (bK BK368)) : gb368 ≠ gb369)); have n6_ := Aside0.mk ((by rw [hg]; exact Nat.ne_of_gt (blk_lt (g := gb368) (o := .cells #[.slice A0_0 l0_0.length c0_0, .int .i64 a0_1, .slice A0_2 l0_2.length c0_2, .int .i64 a0_3] 67 (0, 0)) (bK BK368)) : gb369 ≠ gb368)); clear BK368; clear HB; have BK368 := n0_; have HB := n1_; have BK369 := n2_; have GW369 := n3_; have GE369 := n4_; have NB368_369 := n5_; have NB369_368 := n6_; clear n0_ n1_ n2_ n3_ n4_ n5_ n6_; clear hb hbox hg) | ((with_reducible refine gate_dst (N := 3) rfl ?_); refine bE (N := 3) (cs := #[.slice none 0 0, .int .i64 0, .slice none 0 0, .int .i64 0]) (t := 70) ?_; intro gb370 hg w6 hbox hb; have n0_ := Aside0.mk (blk_below (g := gb368) (bK BK368) hb); have n1_ := Aside0.mk (blk_below (g := gb369) (bK BK369) hb); have n2_ := Aside0.mk (below_step bG hb); have n3_ := Aside0.mk (hbox); have n4_ := Aside0.mk ((by rw [hg]; exact (below_size bG) : w.heap.size ≤ gb370)); have n5_ := Aside0.mk ((by rw [hg]; exact (below_size bG) : w.heap.size ≤ gb370)); have n6_ := Aside0.mk ((by rw [hg]; exact Nat.ne_of_lt (blk_lt (g := gb368) (o := .cells #[.slice A0_0 l0_0.length c0_0, .int .i64 a0_1, .slice A0_2 l0_2.length c0_2, .int .i64 a0_3] 67 (0, 0)) (bK BK368)) : gb368 ≠ gb370)); have n7_ := Aside0.mk ((by rw [hg]; exact Nat.ne_of_gt (blk_lt (g := gb368) (o := .cells #[.slice A0_0 l0_0.length c0_0, .int .i64 a0_1, .slice A0_2 l0_2.length c0_2, .int .i64 a0_3] 67 (0, 0)) (bK BK368)) : gb370 ≠ gb368)); have n8_ := Aside0.mk ((by rw [hg]; exact Nat.ne_of_lt (blk_lt (g := gb369) (o := .cells #[.slice none 0 0, .int .i64 0, .slice none 0 0, .int .i64 0] 70 (0, 0)) (bK BK369)) : gb369 ≠ gb370)); have n9_ := Aside0.mk ((by rw [hg]; exact Nat.ne_of_gt (blk_lt (g := gb369) (o := .cells #[.slice none 0 0, .int .i64 0, .slice none 0 0, .int .i64 0] 70 (0, 0)) (bK BK369)) : gb370 ≠ gb369)); clear BK368; clear BK369; clear HB; have BK368 := n0_; have BK369 := n1_; have HB := n2_; have BK370 := n3_; have GW370 := n4_; have GE370 := n5_; have NB368_370 := n6_; have NB370_368 := n7_; have NB369_370 := n8_; have NB370_369 := n9_; clear n0_ n1_ n2_ n3_ n4_ n5_ n6_ n7_ n8_ n9_; clear hb hbox hg; have hnb7 := NB368_369.out; have hnc7 := NB369_368.out; have hnb8 := NB368_370.out; have hnc8 := NB370_368.out; have hcz9_0 : w6.cell? ⟨gb368, 0, none⟩ = some (.slice A0_0 l0_0.length c0_0) := bC BK368 0; have hcz9_1 : w6.cell? ⟨gb368, 1, none⟩ = some (.int .i64 a0_1) := bC BK368 1; have hcz9_2 : w6.cell? ⟨gb368, 2, none⟩ = some (.slice A0_2 l0_2.length c0_2) := bC BK368 2; have hcz9_3 : w6.cell? ⟨gb368, 3, none⟩ = some (.int .i64 a0_3) := bC BK368 3; have hfz9_0 := blk_frozen BK368.out 0; have hfz9_1 := blk_frozen BK368.out 1; have hfz9_2 := blk_frozen BK368.out 2; have hfz9_3 := blk_frozen BK368.out 3) | ((with_reducible refine gate_callee (f := 16) rfl ?_); refine gL (some 6) Try.func16 #[.slice A0_0 l0_0.length c0_0] ?_; (with_reducible refine (laws_toIntS.calls k _ _ l0_0 t371 _ ?side1 ?side2 A2.out).mono ?_); (case side1 => exact cB HR0_0); (case side2 => exact HC0_0.out); rintro e w10 ⟨v372, rfl, ho0, hb⟩; refine ⟨_, rfl, ?_⟩; have HO373 := Aside0.mk (Kd.R_lower ho0 (below_size bG)); replace BK368 := Aside0.mk (blk_below (g := gb368) (bK BK368) hb); replace BK369 := Aside0.mk (blk_below (g := gb369) (bK BK369) hb); replace BK370 := Aside0.mk (blk_below (g := gb370) (bK BK370) hb); replace HB := Aside0.mk (below_step bG hb); (try clear hb); (try clear hb2); (try clear hk); (try clear hi); (try clear ho0); obtain ⟨Ao11, co11, eo11⟩ := Kd.R_slice HO373.out; subst eo11; have hnb12 := NB370_369.out; have hnc12 := NB369_370.out; obtain ⟨hcz13_0, hcz13_1, hcz13_2, hcz13_3, hfz13_0, hfz13_1, hfz13_2, hfz13_3⟩ := blkc4 BK370; have hcz14_0 : w10.cell? ⟨gb368, 0, none⟩ = some (.slice A0_0 l0_0.length c0_0) := bC BK368 0; have hcz14_1 : w10.cell? ⟨gb368, 1, none⟩ = some (.int .i64 a0_1) := bC BK368 1; have hcz14_2 : w10.cell? ⟨gb368, 2, none⟩ = some (.slice A0_2 l0_2.length c0_2) := bC BK368 2; have hcz14_3 : w10.cell? ⟨gb368, 3, none⟩ = some (.int .i64 a0_3) := bC BK368 3; have hfz14_0 := blk_frozen BK368.out 0; have hfz14_1 := blk_frozen BK368.out 1; have hfz14_2 := blk_frozen BK368.out 2; have hfz14_3 := blk_frozen BK368.out 3) | ((with_reducible refine gate_callee (f := 16) rfl ?_); refine gL (some 13) Try.func16 #[.slice A0_2 l0_2.length c0_2] ?_; (with_reducible refine (laws_toIntS.calls k _ _ l0_2 t374 _ ?side1 ?side2 A3.out).mono ?_); (case side1 => exact Kd.C_below HR0_2.out bG); (case side2 => exact HC0_2.out); rintro e w15 ⟨v375, rfl, ho0, hb⟩; refine ⟨_, rfl, ?_⟩; have n0_ := Aside0.mk (Kd.R_elder' (by (with_reducible repeat (first | apply Kd.R_alloc | apply Kd.R_drewN | apply Kd.R_drew)); exact (Kd.R_mono (Kd.R_far (p := ⟨gb370, 1, none⟩) (Kd.R_far (p := ⟨gb370, 0, none⟩) (Kd.R_types HO373.out BK370.out (by decide)) (fun _ hk => hk.2) (.slice Ao11 t371.length co11)) (fun _ hk => hk.2) (.int .i64 a0_1)) (fun _ h_ => h_.1))) (Kd.R_base ho0) hb); have n1_ := Aside0.mk (Kd.R_lower (Kd.R_new' ho0 (Kd.R_lt (by (with_reducible repeat (first | apply Kd.R_alloc | apply Kd.R_drewN | apply Kd.R_drew)); exact (Kd.R_mono (Kd.R_far (p := ⟨gb370, 1, none⟩) (Kd.R_far (p := ⟨gb370, 0, none⟩) (Kd.R_types HO373.out BK370.out (by decide)) (fun _ hk => hk.2) (.slice Ao11 t371.length co11)) (fun _ hk => hk.2) (.int .i64 a0_1)) (fun _ h_ => h_.1))))) (below_size bG)); have n2_ := Aside0.mk (blk_below (g := gb368) (o := .cells #[.slice A0_0 l0_0.length c0_0, .int .i64 a0_1, .slice A0_2 l0_2.length c0_2, .int .i64 a0_3] 67 (0, 0)) (by (with_reducible repeat (first | refine blk_drewN ?_ _ | refine blk_drew ?_ | refine blk_alloc ?_ _)); refine blk_far ?_ NB368_370.out _; (with_reducible repeat (first | refine blk_drewN ?_ _ | refine blk_drew ?_ | refine blk_alloc ?_ _)); refine blk_far ?_ NB368_370.out _; (with_reducible repeat (first | refine blk_drewN ?_ _ | refine blk_drew ?_ | refine blk_alloc ?_ _)); exact BK368.out) hb); have n3_ := Aside0.mk (blk_below (g := gb369) (o := .cells #[.slice none 0 0, .int .i64 0, .slice none 0 0, .int .i64 0] 70 (0, 0)) (by (with_reducible repeat (first | refine blk_drewN ?_ _ | refine blk_drew ?_ | refine blk_alloc ?_ _)); refine blk_far ?_ NB369_370.out _; (with_reducible repeat (first | refine blk_drewN ?_ _ | refine blk_drew ?_ | refine blk_alloc ?_ _)); refine blk_far ?_ NB369_370.out _; (with_reducible repeat (first | refine blk_drewN ?_ _ | refine blk_drew ?_ | refine blk_alloc ?_ _)); exact BK369.out) hb); have n4_ := Aside0.mk (blk_below (g := gb370) (o := .cells #[.slice Ao11 t371.length co11, .int .i64 a0_1, .slice none 0 0, .int .i64 0] 70 (0, 0)) (by (with_reducible repeat (first | refine blk_drewN ?_ _ | refine blk_drew ?_ | refine blk_alloc ?_ _)); refine blk_put (cs := #[.slice Ao11 t371.length co11, .int .i64 0, .slice none 0 0, .int .i64 0]) ?_ 1 _ rfl; (with_reducible repeat (first | refine blk_drewN ?_ _ | refine blk_drew ?_ | refine blk_alloc ?_ _)); refine blk_put (cs := #[.slice none 0 0, .int .i64 0, .slice none 0 0, .int .i64 0]) ?_ 0 _ rfl; (with_reducible repeat (first | refine blk_drewN ?_ _ | refine blk_drew ?_ | refine blk_alloc ?_ _)); exact BK370.out) hb); have n5_ := Aside0.mk (below_step bG hb); clear HO373; clear BK368; clear BK369; clear BK370; clear HB; have HO373 := n0_; have HO376 := n1_; have BK368 := n2_; have BK369 := n3_; have BK370 := n4_; have HB := n5_; clear n0_ n1_ n2_ n3_ n4_ n5_; (try clear hb); (try clear hb2); (try clear hk); (try clear hi); (try clear ho0); obtain ⟨Ao16, co16, eo16⟩ := Kd.R_slice HO376.out; subst eo16; obtain ⟨hcz17_0, hcz17_1, hcz17_2, hcz17_3, hfz17_0, hfz17_1, hfz17_2, hfz17_3⟩ := blkc4 BK370; obtain ⟨hcz18_0, hcz18_1, hcz18_2, hcz18_3, hfz18_0, hfz18_1, hfz18_2, hfz18_3⟩ := blkc4 BK368; obtain ⟨hcz19_0, hcz19_1, hcz19_2, hcz19_3, hfz19_0, hfz19_1, hfz19_2, hfz19_3⟩ := blkc4 BK369))
 refine bodyPost_ret (results_cell_row rfl _ _ gb369 70 #[.slice Ao11 t371.length co11, .int .i64 a0_1, .slice Ao16 t374.length co16, .int .i64 a0_3] (0, 0) _ rfl (by (with_reducible repeat (first | refine blk_drewN ?_ _ | refine blk_drew ?_ | refine blk_alloc ?_ _)); refine blk_put (cs := #[.slice Ao11 t371.length co11, .int .i64 a0_1, .slice Ao16 t374.length co16, .int .i64 0]) ?_ 3 _ rfl; (with_reducible repeat (first | refine blk_drewN ?_ _ | refine blk_drew ?_ | refine blk_alloc ?_ _)); refine blk_put (cs := #[.slice Ao11 t371.length co11, .int .i64 a0_1, .slice none 0 0, .int .i64 0]) ?_ 2 _ rfl; (with_reducible repeat (first | refine blk_drewN ?_ _ | refine blk_drew ?_ | refine blk_alloc ?_ _)); refine blk_put (cs := #[.slice Ao11 t371.length co11, .int .i64 0, .slice none 0 0, .int .i64 0]) ?_ 1 _ rfl; (with_reducible repeat (first | refine blk_drewN ?_ _ | refine blk_drew ?_ | refine blk_alloc ?_ _)); refine blk_put (cs := #[.slice none 0 0, .int .i64 0, .slice none 0 0, .int .i64 0]) ?_ 0 _ rfl; (with_reducible repeat (first | refine blk_drewN ?_ _ | refine blk_drew ?_ | refine blk_alloc ?_ _)); refine blk_far ?_ NB369_370.out _; (with_reducible repeat (first | refine blk_drewN ?_ _ | refine blk_drew ?_ | refine blk_alloc ?_ _)); refine blk_far ?_ NB369_370.out _; (with_reducible repeat (first | refine blk_drewN ?_ _ | refine blk_drew ?_ | refine blk_alloc ?_ _)); exact BK369.out) Try.underlying70 rfl (by kernel_rfl)) rfl ?_
 exact ⟨_, _, by first | rfl | (simp [errW_none, errW_some] <;> rfl) | (simp [*, errW_none, errW_some] <;> rfl), by (with_reducible repeat (first | apply Kd.R_alloc | apply Kd.R_drewN | apply Kd.R_drew)); exact Kd.R_mono (Kd.R_far (p := ⟨gb369, 3, none⟩) (Kd.R_far (p := ⟨gb369, 2, none⟩) (Kd.R_far (p := ⟨gb369, 1, none⟩) (Kd.R_far (p := ⟨gb369, 0, none⟩) (Kd.R_far (p := ⟨gb370, 3, none⟩) (Kd.R_far (p := ⟨gb370, 2, none⟩) (Kd.R_types (Kd.R_types HO373.out BK370.out (by decide)) BK369.out (by decide)) (fun _ hk => hk.1.2) (.slice Ao16 t374.length co16)) (fun _ hk => hk.1.2) (.int .i64 a0_3)) (fun _ hk => hk.2) (.slice Ao11 t371.length co11)) (fun _ hk => hk.2) (.int .i64 a0_1)) (fun _ hk => hk.2) (.slice Ao16 t374.length co16)) (fun _ hk => hk.2) (.int .i64 a0_3)) (fun _ hk => hk.1.1.2), by (with_reducible repeat (first | apply Kd.R_alloc | apply Kd.R_drewN | apply Kd.R_drew)); exact Kd.R_mono (Kd.R_far (p := ⟨gb369, 3, none⟩) (Kd.R_far (p := ⟨gb369, 2, none⟩) (Kd.R_far (p := ⟨gb369, 1, none⟩) (Kd.R_far (p := ⟨gb369, 0, none⟩) (Kd.R_far (p := ⟨gb370, 3, none⟩) (Kd.R_far (p := ⟨gb370, 2, none⟩) (Kd.R_types (Kd.R_types HO376.out BK370.out (by decide)) BK369.out (by decide)) (fun _ hk => hk.1.2) (.slice Ao16 t374.length co16)) (fun _ hk => hk.1.2) (.int .i64 a0_3)) (fun _ hk => hk.2) (.slice Ao11 t371.length co11)) (fun _ hk => hk.2) (.int .i64 a0_1)) (fun _ hk => hk.2) (.slice Ao16 t374.length co16)) (fun _ hk => hk.2) (.int .i64 a0_3)) (fun _ hk => hk.1.1.2), bG⟩

/-! ### laws_eqControl: function 58 -/
def laws_eqControl.f (k : Nat) (l0_0 : List Int) (a0_1 : Int) (l0_2 : List Int) (a0_3 : Int) (l1_0 : List Int) (a1_1 : Int) (l1_2 : List Int) (a1_3 : Int) : Option (Bool) := (laws_eqIntS.f k l0_0 l1_0).bind fun t379 => (if t379 = true then (if a0_1 = a1_1 then ((laws_eqIntS.f k l0_2 l1_2).bind fun t380 => (if t380 = true then (if a0_3 = a1_3 then (some true) else (some false)) else (some false))) else (some false)) else (some false))
theorem laws_eqControl.mono : ∀ a0 a1 a2 a3 a4 a5 a6 a7 k, LeO (laws_eqControl.f k a0 a1 a2 a3 a4 a5 a6 a7) (laws_eqControl.f (k + 1) a0 a1 a2 a3 a4 a5 a6 a7) := by
 intro a0 a1 a2 a3 a4 a5 a6 a7 k
 unfold laws_eqControl.f
 repeat' first | (with_reducible first | exact LeO.refl _ | exact LeO.none _ | refine LeO.ite ?_ ?_ | refine LeO.bind ?_ (fun _ => ?_) | exact laws_eqIntS.mono _ _ _) | exact LeO.none _ | refine LeO.ite ?_ ?_ | refine LeO.bind ?_ (fun _ => ?_) | exact laws_eqIntS.mono _ _ _
set_option maxHeartbeats 8000000 in
set_option maxRecDepth 100000 in
theorem laws_eqControl.calls (k : Nat) (A0_0 : Option Addr) (c0_0 : Nat) (l0_0 : List Int) (a0_1 : Int) (A0_2 : Option Addr) (c0_2 : Nat) (l0_2 : List Int) (a0_3 : Int) (A1_0 : Option Addr) (c1_0 : Nat) (l1_0 : List Int) (a1_1 : Int) (A1_2 : Option Addr) (c1_2 : Nat) (l1_2 : List Int) (a1_3 : Int) (r : Bool) (w : World) (hr0_0 : Kd.C (Kd.int .i64) w A0_0 l0_0.length l0_0) (hc0_0 : l0_0.length ≤ c0_0) (hr0_2 : Kd.C (Kd.int .i64) w A0_2 l0_2.length l0_2) (hc0_2 : l0_2.length ≤ c0_2) (hr1_0 : Kd.C (Kd.int .i64) w A1_0 l1_0.length l1_0) (hc1_0 : l1_0.length ≤ c1_0) (hr1_2 : Kd.C (Kd.int .i64) w A1_2 l1_2.length l1_2) (hc1_2 : l1_2.length ≤ c1_2) (h : laws_eqControl.f k l0_0 a0_1 l0_2 a0_3 l1_0 a1_1 l1_2 a1_3 = some r) :
  Calls Try.prog 58 #[.agg #[.slice A0_0 l0_0.length c0_0, .int .i64 a0_1, .slice A0_2 l0_2.length c0_2, .int .i64 a0_3], .agg #[.slice A1_0 l1_0.length c1_0, .int .i64 a1_1, .slice A1_2 l1_2.length c1_2, .int .i64 a1_3]] w fun e w' => e = .returned (.bool r) ∧ Below w.heap.size w w' := by
 have hu70 := Try.underlying70
 have HR0_0 := Aside0.mk hr0_0
 have HC0_0 := Aside0.mk hc0_0
 clear hr0_0 hc0_0
 have HR0_2 := Aside0.mk hr0_2
 have HC0_2 := Aside0.mk hc0_2
 clear hr0_2 hc0_2
 have HR1_0 := Aside0.mk hr1_0
 have HC1_0 := Aside0.mk hc1_0
 clear hr1_0 hc1_0
 have HR1_2 := Aside0.mk hr1_2
 have HC1_2 := Aside0.mk hc1_2
 clear hr1_2 hc1_2
 have HB := Aside0.mk (Below.refl w.heap.size w)
 have H : ((laws_eqIntS.f k l0_0 l1_0).bind fun t379 => (if t379 = true then (if a0_1 = a1_1 then ((laws_eqIntS.f k l0_2 l1_2).bind fun t380 => (if t380 = true then (if a0_3 = a1_3 then (some true) else (some false)) else (some false))) else (some false)) else (some false))) = some r := h
 clear h
 obtain ⟨t379, A3, H⟩ := bindE H
 try dsimp only at H
 by_cases c4 : t379 = true
 ·
  subst c4
  have H1 : (if a0_1 = a1_1 then ((laws_eqIntS.f k l0_2 l1_2).bind fun t380 => (if t380 = true then (if a0_3 = a1_3 then (some true) else (some false)) else (some false))) else (some false)) = some r := by rw [if_pos rfl] at H; exact H
  clear H
  have H := H1
  clear H1
  by_cases c5 : a0_1 = a1_1
  ·
   rw [if_pos c5] at H
   have c5b0 : (a0_1 == a1_1) = true := beq_iff_eq.mpr c5
   have c5b1 : (a0_1 != a1_1) = false := bne_eq_false_iff_eq.mpr c5
   clear c5
   obtain ⟨t380, A6, H⟩ := bindE H
   try dsimp only at H
   by_cases c7 : t380 = true
   ·
    subst c7
    have H1 : (if a0_3 = a1_3 then (some true) else (some false)) = some r := by rw [if_pos rfl] at H; exact H
    clear H
    have H := H1
    clear H1
    by_cases c8 : a0_3 = a1_3
    ·
     rw [if_pos c8] at H
     have c8b0 : (a0_3 == a1_3) = true := beq_iff_eq.mpr c8
     have c8b1 : (a0_3 != a1_3) = false := bne_eq_false_iff_eq.mpr c8
     clear c8
     obtain rfl := Option.some.inj H
     go_enter Try.func58, Try.ntmps58
     go_wp2_with (first | ((with_reducible refine gate_dst (N := 2) rfl ?_); refine bE (N := 2) (cs := #[.slice A0_0 l0_0.length c0_0, .int .i64 a0_1, .slice A0_2 l0_2.length c0_2, .int .i64 a0_3]) (t := 70) ?_; intro gb377 hg w9 hbox hb; have n0_ := Aside0.mk (below_step bA hb); have n1_ := Aside0.mk (hbox); have n2_ := Aside0.mk ((by rw [hg]; exact (below_size bA) : w.heap.size ≤ gb377)); have n3_ := Aside0.mk ((by rw [hg]; exact (below_size bA) : w.heap.size ≤ gb377)); clear HB; have HB := n0_; have BK377 := n1_; have GW377 := n2_; have GE377 := n3_; clear n0_ n1_ n2_ n3_; clear hb hbox hg) | ((with_reducible refine gate_dst (N := 3) rfl ?_); refine bE (N := 3) (cs := #[.slice A1_0 l1_0.length c1_0, .int .i64 a1_1, .slice A1_2 l1_2.length c1_2, .int .i64 a1_3]) (t := 70) ?_; intro gb378 hg w10 hbox hb; have n0_ := Aside0.mk (blk_below (g := gb377) (bK BK377) hb); have n1_ := Aside0.mk (below_step bG hb); have n2_ := Aside0.mk (hbox); have n3_ := Aside0.mk ((by rw [hg]; exact (below_size bG) : w.heap.size ≤ gb378)); have n4_ := Aside0.mk ((by rw [hg]; exact (below_size bG) : w.heap.size ≤ gb378)); have n5_ := Aside0.mk ((by rw [hg]; exact Nat.ne_of_lt (blk_lt (g := gb377) (o := .cells #[.slice A0_0 l0_0.length c0_0, .int .i64 a0_1, .slice A0_2 l0_2.length c0_2, .int .i64 a0_3] 70 (0, 0)) (bK BK377)) : gb377 ≠ gb378)); have n6_ := Aside0.mk ((by rw [hg]; exact Nat.ne_of_gt (blk_lt (g := gb377) (o := .cells #[.slice A0_0 l0_0.length c0_0, .int .i64 a0_1, .slice A0_2 l0_2.length c0_2, .int .i64 a0_3] 70 (0, 0)) (bK BK377)) : gb378 ≠ gb377)); clear BK377; clear HB; have BK377 := n0_; have HB := n1_; have BK378 := n2_; have GW378 := n3_; have GE378 := n4_; have NB377_378 := n5_; have NB378_377 := n6_; clear n0_ n1_ n2_ n3_ n4_ n5_ n6_; clear hb hbox hg; have hnb11 := NB377_378.out; have hnc11 := NB378_377.out; obtain ⟨hcz12_0, hcz12_1, hcz12_2, hcz12_3, hfz12_0, hfz12_1, hfz12_2, hfz12_3⟩ := blkc4 BK377; have hcz13_0 : w10.cell? ⟨gb378, 0, none⟩ = some (.slice A1_0 l1_0.length c1_0) := bC BK378 0; have hcz13_1 : w10.cell? ⟨gb378, 1, none⟩ = some (.int .i64 a1_1) := bC BK378 1; have hcz13_2 : w10.cell? ⟨gb378, 2, none⟩ = some (.slice A1_2 l1_2.length c1_2) := bC BK378 2; have hcz13_3 : w10.cell? ⟨gb378, 3, none⟩ = some (.int .i64 a1_3) := bC BK378 3; have hfz13_0 := blk_frozen BK378.out 0; have hfz13_1 := blk_frozen BK378.out 1; have hfz13_2 := blk_frozen BK378.out 2; have hfz13_3 := blk_frozen BK378.out 3) | ((with_reducible refine gate_callee (f := 19) rfl ?_); refine gL (some 9) Try.func19 #[.slice A0_0 l0_0.length c0_0, .slice A1_0 l1_0.length c1_0] ?_; (with_reducible refine (laws_eqIntS.calls k _ _ l0_0 _ _ l1_0 true _ ?side1 ?side2 ?side3 ?side4 A3.out).mono ?_); (case side1 => exact cB HR0_0); (case side2 => exact HC0_0.out); (case side3 => exact cB HR1_0); (case side4 => exact HC1_0.out); rintro e w' ⟨rfl, ⟨nd, rfl⟩⟩; refine ⟨_, rfl, ?_⟩) | ((with_reducible refine gate_callee (f := 19) rfl ?_); refine gL (some 20) Try.func19 #[.slice A0_2 l0_2.length c0_2, .slice A1_2 l1_2.length c1_2] ?_; (with_reducible refine (laws_eqIntS.calls k _ _ l0_2 _ _ l1_2 true _ ?side1 ?side2 ?side3 ?side4 A6.out).mono ?_); (case side1 => exact cG HR0_2); (case side2 => exact HC0_2.out); (case side3 => exact cG HR1_2); (case side4 => exact HC1_2.out); rintro e w' ⟨rfl, ⟨nd, rfl⟩⟩; refine ⟨_, rfl, ?_⟩))
     go_ret
     exact ⟨rA, bG⟩
    ·
     rw [if_neg c8] at H
     have c8b0 : (a0_3 == a1_3) = false := beq_eq_false_iff_ne.mpr c8
     have c8b1 : (a0_3 != a1_3) = true := bne_iff_ne.mpr c8
     obtain rfl := Option.some.inj H
     go_enter Try.func58, Try.ntmps58
     go_wp2_with (first | ((with_reducible refine gate_dst (N := 2) rfl ?_); refine bE (N := 2) (cs := #[.slice A0_0 l0_0.length c0_0, .int .i64 a0_1, .slice A0_2 l0_2.length c0_2, .int .i64 a0_3]) (t := 70) ?_; intro gb377 hg w14 hbox hb; have n0_ := Aside0.mk (below_step bA hb); have n1_ := Aside0.mk (hbox); have n2_ := Aside0.mk ((by rw [hg]; exact (below_size bA) : w.heap.size ≤ gb377)); have n3_ := Aside0.mk ((by rw [hg]; exact (below_size bA) : w.heap.size ≤ gb377)); clear HB; have HB := n0_; have BK377 := n1_; have GW377 := n2_; have GE377 := n3_; clear n0_ n1_ n2_ n3_; clear hb hbox hg) | ((with_reducible refine gate_dst (N := 3) rfl ?_); refine bE (N := 3) (cs := #[.slice A1_0 l1_0.length c1_0, .int .i64 a1_1, .slice A1_2 l1_2.length c1_2, .int .i64 a1_3]) (t := 70) ?_; intro gb378 hg w15 hbox hb; have n0_ := Aside0.mk (blk_below (g := gb377) (bK BK377) hb); have n1_ := Aside0.mk (below_step bG hb); have n2_ := Aside0.mk (hbox); have n3_ := Aside0.mk ((by rw [hg]; exact (below_size bG) : w.heap.size ≤ gb378)); have n4_ := Aside0.mk ((by rw [hg]; exact (below_size bG) : w.heap.size ≤ gb378)); have n5_ := Aside0.mk ((by rw [hg]; exact Nat.ne_of_lt (blk_lt (g := gb377) (o := .cells #[.slice A0_0 l0_0.length c0_0, .int .i64 a0_1, .slice A0_2 l0_2.length c0_2, .int .i64 a0_3] 70 (0, 0)) (bK BK377)) : gb377 ≠ gb378)); have n6_ := Aside0.mk ((by rw [hg]; exact Nat.ne_of_gt (blk_lt (g := gb377) (o := .cells #[.slice A0_0 l0_0.length c0_0, .int .i64 a0_1, .slice A0_2 l0_2.length c0_2, .int .i64 a0_3] 70 (0, 0)) (bK BK377)) : gb378 ≠ gb377)); clear BK377; clear HB; have BK377 := n0_; have HB := n1_; have BK378 := n2_; have GW378 := n3_; have GE378 := n4_; have NB377_378 := n5_; have NB378_377 := n6_; clear n0_ n1_ n2_ n3_ n4_ n5_ n6_; clear hb hbox hg; have hnb16 := NB377_378.out; have hnc16 := NB378_377.out; obtain ⟨hcz17_0, hcz17_1, hcz17_2, hcz17_3, hfz17_0, hfz17_1, hfz17_2, hfz17_3⟩ := blkc4 BK377; have hcz18_0 : w15.cell? ⟨gb378, 0, none⟩ = some (.slice A1_0 l1_0.length c1_0) := bC BK378 0; have hcz18_1 : w15.cell? ⟨gb378, 1, none⟩ = some (.int .i64 a1_1) := bC BK378 1; have hcz18_2 : w15.cell? ⟨gb378, 2, none⟩ = some (.slice A1_2 l1_2.length c1_2) := bC BK378 2; have hcz18_3 : w15.cell? ⟨gb378, 3, none⟩ = some (.int .i64 a1_3) := bC BK378 3; have hfz18_0 := blk_frozen BK378.out 0; have hfz18_1 := blk_frozen BK378.out 1; have hfz18_2 := blk_frozen BK378.out 2; have hfz18_3 := blk_frozen BK378.out 3) | ((with_reducible refine gate_callee (f := 19) rfl ?_); refine gL (some 9) Try.func19 #[.slice A0_0 l0_0.length c0_0, .slice A1_0 l1_0.length c1_0] ?_; (with_reducible refine (laws_eqIntS.calls k _ _ l0_0 _ _ l1_0 true _ ?side1 ?side2 ?side3 ?side4 A3.out).mono ?_); (case side1 => exact cB HR0_0); (case side2 => exact HC0_0.out); (case side3 => exact cB HR1_0); (case side4 => exact HC1_0.out); rintro e w' ⟨rfl, ⟨nd, rfl⟩⟩; refine ⟨_, rfl, ?_⟩) | ((with_reducible refine gate_callee (f := 19) rfl ?_); refine gL (some 20) Try.func19 #[.slice A0_2 l0_2.length c0_2, .slice A1_2 l1_2.length c1_2] ?_; (with_reducible refine (laws_eqIntS.calls k _ _ l0_2 _ _ l1_2 true _ ?side1 ?side2 ?side3 ?side4 A6.out).mono ?_); (case side1 => exact cG HR0_2); (case side2 => exact HC0_2.out); (case side3 => exact cG HR1_2); (case side4 => exact HC1_2.out); rintro e w' ⟨rfl, ⟨nd, rfl⟩⟩; refine ⟨_, rfl, ?_⟩))
     go_ret
     exact ⟨rA, bG⟩
   ·
    replace c7 := Bool.eq_false_iff.mpr c7
    subst c7
    have H1 : (some false) = some r := by rw [if_neg (show ¬ (false = true) by decide)] at H; exact H
    clear H
    have H := H1
    clear H1
    obtain rfl := Option.some.inj H
    go_enter Try.func58, Try.ntmps58
    go_wp2_with (first | ((with_reducible refine gate_dst (N := 2) rfl ?_); refine bE (N := 2) (cs := #[.slice A0_0 l0_0.length c0_0, .int .i64 a0_1, .slice A0_2 l0_2.length c0_2, .int .i64 a0_3]) (t := 70) ?_; intro gb377 hg w19 hbox hb; have n0_ := Aside0.mk (below_step bA hb); have n1_ := Aside0.mk (hbox); have n2_ := Aside0.mk ((by rw [hg]; exact (below_size bA) : w.heap.size ≤ gb377)); have n3_ := Aside0.mk ((by rw [hg]; exact (below_size bA) : w.heap.size ≤ gb377)); clear HB; have HB := n0_; have BK377 := n1_; have GW377 := n2_; have GE377 := n3_; clear n0_ n1_ n2_ n3_; clear hb hbox hg) | ((with_reducible refine gate_dst (N := 3) rfl ?_); refine bE (N := 3) (cs := #[.slice A1_0 l1_0.length c1_0, .int .i64 a1_1, .slice A1_2 l1_2.length c1_2, .int .i64 a1_3]) (t := 70) ?_; intro gb378 hg w20 hbox hb; have n0_ := Aside0.mk (blk_below (g := gb377) (bK BK377) hb); have n1_ := Aside0.mk (below_step bG hb); have n2_ := Aside0.mk (hbox); have n3_ := Aside0.mk ((by rw [hg]; exact (below_size bG) : w.heap.size ≤ gb378)); have n4_ := Aside0.mk ((by rw [hg]; exact (below_size bG) : w.heap.size ≤ gb378)); have n5_ := Aside0.mk ((by rw [hg]; exact Nat.ne_of_lt (blk_lt (g := gb377) (o := .cells #[.slice A0_0 l0_0.length c0_0, .int .i64 a0_1, .slice A0_2 l0_2.length c0_2, .int .i64 a0_3] 70 (0, 0)) (bK BK377)) : gb377 ≠ gb378)); have n6_ := Aside0.mk ((by rw [hg]; exact Nat.ne_of_gt (blk_lt (g := gb377) (o := .cells #[.slice A0_0 l0_0.length c0_0, .int .i64 a0_1, .slice A0_2 l0_2.length c0_2, .int .i64 a0_3] 70 (0, 0)) (bK BK377)) : gb378 ≠ gb377)); clear BK377; clear HB; have BK377 := n0_; have HB := n1_; have BK378 := n2_; have GW378 := n3_; have GE378 := n4_; have NB377_378 := n5_; have NB378_377 := n6_; clear n0_ n1_ n2_ n3_ n4_ n5_ n6_; clear hb hbox hg; have hnb21 := NB377_378.out; have hnc21 := NB378_377.out; obtain ⟨hcz22_0, hcz22_1, hcz22_2, hcz22_3, hfz22_0, hfz22_1, hfz22_2, hfz22_3⟩ := blkc4 BK377; have hcz23_0 : w20.cell? ⟨gb378, 0, none⟩ = some (.slice A1_0 l1_0.length c1_0) := bC BK378 0; have hcz23_1 : w20.cell? ⟨gb378, 1, none⟩ = some (.int .i64 a1_1) := bC BK378 1; have hcz23_2 : w20.cell? ⟨gb378, 2, none⟩ = some (.slice A1_2 l1_2.length c1_2) := bC BK378 2; have hcz23_3 : w20.cell? ⟨gb378, 3, none⟩ = some (.int .i64 a1_3) := bC BK378 3; have hfz23_0 := blk_frozen BK378.out 0; have hfz23_1 := blk_frozen BK378.out 1; have hfz23_2 := blk_frozen BK378.out 2; have hfz23_3 := blk_frozen BK378.out 3) | ((with_reducible refine gate_callee (f := 19) rfl ?_); refine gL (some 9) Try.func19 #[.slice A0_0 l0_0.length c0_0, .slice A1_0 l1_0.length c1_0] ?_; (with_reducible refine (laws_eqIntS.calls k _ _ l0_0 _ _ l1_0 true _ ?side1 ?side2 ?side3 ?side4 A3.out).mono ?_); (case side1 => exact cB HR0_0); (case side2 => exact HC0_0.out); (case side3 => exact cB HR1_0); (case side4 => exact HC1_0.out); rintro e w' ⟨rfl, ⟨nd, rfl⟩⟩; refine ⟨_, rfl, ?_⟩) | ((with_reducible refine gate_callee (f := 19) rfl ?_); refine gL (some 20) Try.func19 #[.slice A0_2 l0_2.length c0_2, .slice A1_2 l1_2.length c1_2] ?_; (with_reducible refine (laws_eqIntS.calls k _ _ l0_2 _ _ l1_2 false _ ?side1 ?side2 ?side3 ?side4 A6.out).mono ?_); (case side1 => exact cG HR0_2); (case side2 => exact HC0_2.out); (case side3 => exact cG HR1_2); (case side4 => exact HC1_2.out); rintro e w' ⟨rfl, ⟨nd, rfl⟩⟩; refine ⟨_, rfl, ?_⟩))
    go_ret
    exact ⟨rA, bG⟩
  ·
   rw [if_neg c5] at H
   have c5b0 : (a0_1 == a1_1) = false := beq_eq_false_iff_ne.mpr c5
   have c5b1 : (a0_1 != a1_1) = true := bne_iff_ne.mpr c5
   obtain rfl := Option.some.inj H
   go_enter Try.func58, Try.ntmps58
   go_wp2_with (first | ((with_reducible refine gate_dst (N := 2) rfl ?_); refine bE (N := 2) (cs := #[.slice A0_0 l0_0.length c0_0, .int .i64 a0_1, .slice A0_2 l0_2.length c0_2, .int .i64 a0_3]) (t := 70) ?_; intro gb377 hg w24 hbox hb; have n0_ := Aside0.mk (below_step bA hb); have n1_ := Aside0.mk (hbox); have n2_ := Aside0.mk ((by rw [hg]; exact (below_size bA) : w.heap.size ≤ gb377)); have n3_ := Aside0.mk ((by rw [hg]; exact (below_size bA) : w.heap.size ≤ gb377)); clear HB; have HB := n0_; have BK377 := n1_; have GW377 := n2_; have GE377 := n3_; clear n0_ n1_ n2_ n3_; clear hb hbox hg) | ((with_reducible refine gate_dst (N := 3) rfl ?_); refine bE (N := 3) (cs := #[.slice A1_0 l1_0.length c1_0, .int .i64 a1_1, .slice A1_2 l1_2.length c1_2, .int .i64 a1_3]) (t := 70) ?_; intro gb378 hg w25 hbox hb; have n0_ := Aside0.mk (blk_below (g := gb377) (bK BK377) hb); have n1_ := Aside0.mk (below_step bG hb); have n2_ := Aside0.mk (hbox); have n3_ := Aside0.mk ((by rw [hg]; exact (below_size bG) : w.heap.size ≤ gb378)); have n4_ := Aside0.mk ((by rw [hg]; exact (below_size bG) : w.heap.size ≤ gb378)); have n5_ := Aside0.mk ((by rw [hg]; exact Nat.ne_of_lt (blk_lt (g := gb377) (o := .cells #[.slice A0_0 l0_0.length c0_0, .int .i64 a0_1, .slice A0_2 l0_2.length c0_2, .int .i64 a0_3] 70 (0, 0)) (bK BK377)) : gb377 ≠ gb378)); have n6_ := Aside0.mk ((by rw [hg]; exact Nat.ne_of_gt (blk_lt (g := gb377) (o := .cells #[.slice A0_0 l0_0.length c0_0, .int .i64 a0_1, .slice A0_2 l0_2.length c0_2, .int .i64 a0_3] 70 (0, 0)) (bK BK377)) : gb378 ≠ gb377)); clear BK377; clear HB; have BK377 := n0_; have HB := n1_; have BK378 := n2_; have GW378 := n3_; have GE378 := n4_; have NB377_378 := n5_; have NB378_377 := n6_; clear n0_ n1_ n2_ n3_ n4_ n5_ n6_; clear hb hbox hg; have hnb26 := NB377_378.out; have hnc26 := NB378_377.out; obtain ⟨hcz27_0, hcz27_1, hcz27_2, hcz27_3, hfz27_0, hfz27_1, hfz27_2, hfz27_3⟩ := blkc4 BK377; have hcz28_0 : w25.cell? ⟨gb378, 0, none⟩ = some (.slice A1_0 l1_0.length c1_0) := bC BK378 0; have hcz28_1 : w25.cell? ⟨gb378, 1, none⟩ = some (.int .i64 a1_1) := bC BK378 1; have hcz28_2 : w25.cell? ⟨gb378, 2, none⟩ = some (.slice A1_2 l1_2.length c1_2) := bC BK378 2; have hcz28_3 : w25.cell? ⟨gb378, 3, none⟩ = some (.int .i64 a1_3) := bC BK378 3; have hfz28_0 := blk_frozen BK378.out 0; have hfz28_1 := blk_frozen BK378.out 1; have hfz28_2 := blk_frozen BK378.out 2; have hfz28_3 := blk_frozen BK378.out 3) | ((with_reducible refine gate_callee (f := 19) rfl ?_); refine gL (some 9) Try.func19 #[.slice A0_0 l0_0.length c0_0, .slice A1_0 l1_0.length c1_0] ?_; (with_reducible refine (laws_eqIntS.calls k _ _ l0_0 _ _ l1_0 true _ ?side1 ?side2 ?side3 ?side4 A3.out).mono ?_); (case side1 => exact cB HR0_0); (case side2 => exact HC0_0.out); (case side3 => exact cB HR1_0); (case side4 => exact HC1_0.out); rintro e w' ⟨rfl, ⟨nd, rfl⟩⟩; refine ⟨_, rfl, ?_⟩))
   go_ret
   exact ⟨rA, bG⟩
 ·
  replace c4 := Bool.eq_false_iff.mpr c4
  subst c4
  have H1 : (some false) = some r := by rw [if_neg (show ¬ (false = true) by decide)] at H; exact H
  clear H
  have H := H1
  clear H1
  obtain rfl := Option.some.inj H
  go_enter Try.func58, Try.ntmps58
  go_wp2_with (first | ((with_reducible refine gate_dst (N := 2) rfl ?_); refine bE (N := 2) (cs := #[.slice A0_0 l0_0.length c0_0, .int .i64 a0_1, .slice A0_2 l0_2.length c0_2, .int .i64 a0_3]) (t := 70) ?_; intro gb377 hg w29 hbox hb; have n0_ := Aside0.mk (below_step bA hb); have n1_ := Aside0.mk (hbox); have n2_ := Aside0.mk ((by rw [hg]; exact (below_size bA) : w.heap.size ≤ gb377)); have n3_ := Aside0.mk ((by rw [hg]; exact (below_size bA) : w.heap.size ≤ gb377)); clear HB; have HB := n0_; have BK377 := n1_; have GW377 := n2_; have GE377 := n3_; clear n0_ n1_ n2_ n3_; clear hb hbox hg) | ((with_reducible refine gate_dst (N := 3) rfl ?_); refine bE (N := 3) (cs := #[.slice A1_0 l1_0.length c1_0, .int .i64 a1_1, .slice A1_2 l1_2.length c1_2, .int .i64 a1_3]) (t := 70) ?_; intro gb378 hg w30 hbox hb; have n0_ := Aside0.mk (blk_below (g := gb377) (bK BK377) hb); have n1_ := Aside0.mk (below_step bG hb); have n2_ := Aside0.mk (hbox); have n3_ := Aside0.mk ((by rw [hg]; exact (below_size bG) : w.heap.size ≤ gb378)); have n4_ := Aside0.mk ((by rw [hg]; exact (below_size bG) : w.heap.size ≤ gb378)); have n5_ := Aside0.mk ((by rw [hg]; exact Nat.ne_of_lt (blk_lt (g := gb377) (o := .cells #[.slice A0_0 l0_0.length c0_0, .int .i64 a0_1, .slice A0_2 l0_2.length c0_2, .int .i64 a0_3] 70 (0, 0)) (bK BK377)) : gb377 ≠ gb378)); have n6_ := Aside0.mk ((by rw [hg]; exact Nat.ne_of_gt (blk_lt (g := gb377) (o := .cells #[.slice A0_0 l0_0.length c0_0, .int .i64 a0_1, .slice A0_2 l0_2.length c0_2, .int .i64 a0_3] 70 (0, 0)) (bK BK377)) : gb378 ≠ gb377)); clear BK377; clear HB; have BK377 := n0_; have HB := n1_; have BK378 := n2_; have GW378 := n3_; have GE378 := n4_; have NB377_378 := n5_; have NB378_377 := n6_; clear n0_ n1_ n2_ n3_ n4_ n5_ n6_; clear hb hbox hg; have hnb31 := NB377_378.out; have hnc31 := NB378_377.out; obtain ⟨hcz32_0, hcz32_1, hcz32_2, hcz32_3, hfz32_0, hfz32_1, hfz32_2, hfz32_3⟩ := blkc4 BK377; have hcz33_0 : w30.cell? ⟨gb378, 0, none⟩ = some (.slice A1_0 l1_0.length c1_0) := bC BK378 0; have hcz33_1 : w30.cell? ⟨gb378, 1, none⟩ = some (.int .i64 a1_1) := bC BK378 1; have hcz33_2 : w30.cell? ⟨gb378, 2, none⟩ = some (.slice A1_2 l1_2.length c1_2) := bC BK378 2; have hcz33_3 : w30.cell? ⟨gb378, 3, none⟩ = some (.int .i64 a1_3) := bC BK378 3; have hfz33_0 := blk_frozen BK378.out 0; have hfz33_1 := blk_frozen BK378.out 1; have hfz33_2 := blk_frozen BK378.out 2; have hfz33_3 := blk_frozen BK378.out 3) | ((with_reducible refine gate_callee (f := 19) rfl ?_); refine gL (some 9) Try.func19 #[.slice A0_0 l0_0.length c0_0, .slice A1_0 l1_0.length c1_0] ?_; (with_reducible refine (laws_eqIntS.calls k _ _ l0_0 _ _ l1_0 false _ ?side1 ?side2 ?side3 ?side4 A3.out).mono ?_); (case side1 => exact cB HR0_0); (case side2 => exact HC0_0.out); (case side3 => exact cB HR1_0); (case side4 => exact HC1_0.out); rintro e w' ⟨rfl, ⟨nd, rfl⟩⟩; refine ⟨_, rfl, ?_⟩))
  go_ret
  exact ⟨rA, bG⟩

/-! ### laws_markIntS: function 21 -/
def laws_markIntS.l0 : Nat → List Int → Int → Int → Option (Int × List Int)
 | 0, _, _, _ => none
 | k + 1, x0, x1, x5 => if x5 < (x0.length : Int) then (if 0 ≤ x5 then (laws_markIntS.l0 k (x0.set (x5 : Int).toNat x1) (wrap64 (x1 + 1)) (wrap64 (x5 + 1))) else (none)) else (some (x1, x0))
def laws_markIntS.f (k : Nat) (l0 : List Int) (a1 : Int) : Option (Int × List Int) := laws_markIntS.l0 k l0 a1 0
theorem laws_markIntS.mono_l : ∀ k, (∀ y0 y1 y2, LeO (laws_markIntS.l0 k y0 y1 y2) (laws_markIntS.l0 (k + 1) y0 y1 y2))
 | 0 => fun _ _ _ r h => by simp [laws_markIntS.l0] at h
 | k + 1 => by
  have ih0 := laws_markIntS.mono_l k
  ·
   intro y0 y1 y2
   unfold laws_markIntS.l0
   repeat' first | (with_reducible first | exact LeO.refl _ | exact LeO.none _ | refine LeO.ite ?_ ?_ | refine LeO.bind ?_ (fun _ => ?_) | exact ih0 _ _ _) | exact LeO.none _ | refine LeO.ite ?_ ?_ | refine LeO.bind ?_ (fun _ => ?_) | exact ih0 _ _ _
theorem laws_markIntS.mono : ∀ a0 a1 k, LeO (laws_markIntS.f k a0 a1) (laws_markIntS.f (k + 1) a0 a1) := by
 intro a0 a1 k
 have ih0 := laws_markIntS.mono_l k
 unfold laws_markIntS.f
 repeat' first | (with_reducible first | exact LeO.refl _ | exact LeO.none _ | refine LeO.ite ?_ ?_ | refine LeO.bind ?_ (fun _ => ?_) | exact ih0 _ _ _) | exact LeO.none _ | refine LeO.ite ?_ ?_ | refine LeO.bind ?_ (fun _ => ?_) | exact ih0 _ _ _
set_option maxHeartbeats 8000000 in
set_option maxRecDepth 100000 in
theorem laws_markIntS.calls (k : Nat) (P0_ : Nat → Prop) (u9000_ : Value) (l0 : List Int) (a1 : Int) (r1 : Int) (r2 : List Int) (w0 w : World) (hB : Below w0.heap.size w0 w) (ho0 : Kd.R (Kd.int .i64) 3 w w0.heap.size P0_ u9000_ l0) (h : laws_markIntS.f k l0 a1 = some (r1, r2)) :
  Calls Try.prog 21 #[u9000_, .int .i64 a1] w fun e w' => e = .returned (.int .i64 r1) ∧ Kd.R (Kd.int .i64) 3 w' w0.heap.size (fun k_ => (P0_ k_ ∨ w.heap.size ≤ k_)) u9000_ r2 ∧ Below w0.heap.size w0 w' ∧ Kept w w' (fun k_ => P0_ k_) := by
 have HO0 := Aside0.mk (show Kd.R (Kd.int .i64) 3 w w0.heap.size (fun k_ => (P0_ k_ ∨ w.heap.size ≤ k_)) u9000_ l0 from Kd.R_mono ho0 (fun k_ hk => (.inl hk)))
 have HK := Aside0.mk (Kept.refl w (fun k_ => P0_ k_))
 have HW0 := Aside0.mk hB.size
 have HB := Aside0.mk hB
 clear hB
 have H : (laws_markIntS.l0 k l0 a1 0) = some (r1, r2) := h
 clear h
 have H' := Aside0.mk H
 clear H
 go_enter Try.func21, Try.ntmps21
 go_wp2
 go_loopg [1, 5] k (fun kq v1 v5 w' => ∃ (x0_1 : List Int) (x1_1 : Int) (x5_1 : Int), v1 = .int .i64 x1_1 ∧ v5 = .int .i64 x5_1 ∧ Aside0 (laws_markIntS.l0 kq x0_1 x1_1 x5_1 = some (r1, r2)) ∧ Aside0 (kq ≤ k) ∧ Aside0 (Kd.R (Kd.int .i64) 3 w' w0.heap.size (fun k_ => (P0_ k_ ∨ w.heap.size ≤ k_)) u9000_ x0_1) ∧ Aside0 (Kept w w' (fun k_ => P0_ k_)) ∧ Aside0 (Below w0.heap.size w0 w'))
 case atStart => exact ⟨(l0), (a1), (0), rS, rS, H', ⟨Nat.le_refl _⟩, ⟨rK HO0⟩, ⟨by repeat (first | (with_reducible first | exact HK.out | apply Kept.alloc | apply Kept.drewN | apply Kept.drew) | exact HK.out)⟩, ⟨bA⟩⟩
 case round =>
  clear H'
  try clear c2
  try clear p2
  obtain ⟨x0_1, x1_1, x5_1, rfl, rfl, HA, HK1, HO_0, HK, HB⟩ := hrel
  cases gk with
  | zero => exact absurd HA.out (by simp [laws_markIntS.l0])
  | succ k1 =>
   have H := HA.out
   clear HA
   simp only [laws_markIntS.l0] at H
   by_cases c3 : x5_1 < (x0_1.length : Int)
   ·
    rw [if_pos c3] at H
    have c3b0 : decide (x5_1 < (x0_1.length : Int)) = true := decide_eq_true c3
    clear c3
    have c4 : 0 ≤ x5_1 := ifN H
    replace H := ifT H
    have c4b0 : decide (0 ≤ x5_1) = true := decide_eq_true c4
    clear c4
    obtain ⟨y381, hy381⟩ : ∃ y_ : List Int, y_ = (x0_1.set (x5_1 : Int).toNat x1_1) := ⟨_, rfl⟩
    replace H : (laws_markIntS.l0 k1 y381 (wrap64 (x1_1 + 1)) (wrap64 (x5_1 + 1))) = some (r1, r2) := by first | (rw [hy381]; with_reducible exact H) | (have H2_ := (Option.bind_some _ _).symm.trans H; rw [hy381]; with_reducible exact H2_) | (have H2_ := (Option.bind_some _ _).symm.trans H; with_reducible exact H2_) | with_reducible exact H | (rw [hy381]; exact H) | exact H
    have Ny381 := Aside0.mk hy381
    clear hy381
    have H' := Aside0.mk H
    clear H
    obtain ⟨Ao6, co6, eo6⟩ := Kd.R_slice HO_0.out
    subst eo6
    have p5 : 0 ≤ (x5_1 : Int) := dA
    have q5 : (x5_1 : Int) < ((x0_1.length : Int) : Int) := dA
    obtain ⟨go5, co5, eo5, gb5, gl5, cl5, HG5⟩ := Kd.R_form HO_0.out (by omega)
    (first | cases eo5 | (injection eo5 with ea_ en_ ec_; (first | subst ea_ | (injection ea_ with ea_; subst ea_)); subst ec_; clear en_))
    have GB5 := Aside0.mk gb5
    have GG5 := Aside0.mk HG5
    clear gb5 gl5 HG5
    have HMgo5 := Aside0.mk (show (P0_ go5 ∨ w.heap.size ≤ go5) from (HO_0.out.1 _ rfl))
    obtain ⟨hx5_0, hf5_0⟩ := Kd.R_celln 0 HO_0.out (x5_1 : Int) p5 q5
    replace p5 := eq_true p5
    replace q5 := eq_true q5
    have HP7 := Kd.R_putg HO_0.out (x5_1 : Int) x1_1
    go_wp2_with (first | ((with_reducible refine gate_store (t := 3) (p := 15) rfl ?_); refine store_event (t := 3) (p := 15) (v := ?vo_w8) (w1 := (wr.setCell ⟨go5, (x5_1 : Int).toNat, none⟩ (.int .i64 x1_1))) ?hg ?ho ?hn ?hr ?_; (case ho => rfl); (case hg => rfl); (case hn => rfl); (case hr => first | (go_simp; done) | (go_simp; rfl)); intro w8 hw; have hg : wr.grownBy w8 (some go5) := (by rw [hw]; exact HP7.2); have hp_ : Kd.R (Kd.int .i64) 3 w8 w0.heap.size (fun k_ => (P0_ k_ ∨ w.heap.size ≤ k_)) (.slice (some ⟨go5, 0, none⟩) x0_1.length co6) y381 := (by rw [hw, Ny381.out]; exact HP7.1); clear HP7; have n0_ := Aside0.mk (hp_); have n1_ := Aside0.mk ((by rw [hw]; exact below_set (HB.out) GB5.out : Below w0.heap.size w0 w8)); have n2_ := Aside0.mk (Kept.of_grown (S := (fun k_ => P0_ k_)) hg (by repeat (first | (with_reducible first | exact HK.out | apply Kept.alloc | apply Kept.drewN | apply Kept.drew) | exact HK.out)) (fun k_ e_ => (HO_0.out.1 k_ e_))); clear HO_0; clear HB; clear HK; have HO_0 := n0_; have HB := n1_; have HK := n2_; clear n0_ n1_ n2_; clear hg hw hp_))
    go_roundg k1
    case measure => have := HK1.out; omega
    case rel => exact ⟨(y381), (wrap64 (x1_1 + 1)), (wrap64 (x5_1 + 1)), rS, rS, H', ⟨by have := HK1.out; omega⟩, ⟨rK HO_0⟩, ⟨by repeat (first | (with_reducible first | exact HK.out | apply Kept.alloc | apply Kept.drewN | apply Kept.drew) | exact HK.out)⟩, ⟨bA⟩⟩
   ·
    rw [if_neg c3] at H
    have c3b0 : decide (x5_1 < (x0_1.length : Int)) = false := decide_eq_false c3
    clear c3
    simp only [Option.some.injEq, Prod.mk.injEq] at H
    obtain ⟨rfl, rfl⟩ := H
    obtain ⟨Ao9, co9, eo9⟩ := Kd.R_slice HO_0.out
    subst eo9
    go_wp2
    go_ret
    exact ⟨rA, by (with_reducible repeat (first | apply Kd.R_alloc | apply Kd.R_drewN | apply Kd.R_drew)); exact HO_0.out, bA, by repeat (first | (with_reducible first | exact HK.out | apply Kept.alloc | apply Kept.drewN | apply Kept.drew) | exact HK.out)⟩

/-! ### laws_markControl: function 63 -/
def laws_markControl.f (k : Nat) (l0_0 : List Int) (a0_1 : Int) (l0_2 : List Int) (a0_3 : Int) (a1 : Int) : Option (Int × List Int × List Int) := (laws_markIntS.f k l0_0 a1).bind fun bt383 => ((laws_markIntS.f k l0_2 bt383.1).bind fun bt385 => (some (bt385.1, bt383.2, bt385.2)))
theorem laws_markControl.mono : ∀ a0 a1 a2 a3 a4 k, LeO (laws_markControl.f k a0 a1 a2 a3 a4) (laws_markControl.f (k + 1) a0 a1 a2 a3 a4) := by
 intro a0 a1 a2 a3 a4 k
 unfold laws_markControl.f
 repeat' first | (with_reducible first | exact LeO.refl _ | exact LeO.none _ | refine LeO.ite ?_ ?_ | refine LeO.bind ?_ (fun _ => ?_) | exact laws_markIntS.mono _ _ _) | exact LeO.none _ | refine LeO.ite ?_ ?_ | refine LeO.bind ?_ (fun _ => ?_) | exact laws_markIntS.mono _ _ _
set_option maxHeartbeats 8000000 in
set_option maxRecDepth 100000 in
theorem laws_markControl.calls (k : Nat) (P0_0_ : Nat → Prop) (u9000_ : Value) (l0_0 : List Int) (a0_1 : Int) (P0_2_ : Nat → Prop) (u9001_ : Value) (l0_2 : List Int) (a0_3 : Int) (a1 : Int) (r1 : Int) (r2 : List Int) (r3 : List Int) (w0 w : World) (hB : Below w0.heap.size w0 w) (ho0_0 : Kd.R (Kd.int .i64) 3 w w0.heap.size P0_0_ u9000_ l0_0) (hp0_0_0_2 : ∀ k_, P0_0_ k_ → ¬ P0_2_ k_) (ho0_2 : Kd.R (Kd.int .i64) 3 w w0.heap.size P0_2_ u9001_ l0_2) (hp0_2_0_0 : ∀ k_, P0_2_ k_ → ¬ P0_0_ k_) (h : laws_markControl.f k l0_0 a0_1 l0_2 a0_3 a1 = some (r1, r2, r3)) :
  Calls Try.prog 63 #[.agg #[u9000_, .int .i64 a0_1, u9001_, .int .i64 a0_3], .int .i64 a1] w fun e w' => e = .returned (.int .i64 r1) ∧ Kd.R (Kd.int .i64) 3 w' w0.heap.size (fun k_ => ((P0_0_ k_ ∨ P0_2_ k_) ∨ w.heap.size ≤ k_)) u9000_ r2 ∧ Kd.R (Kd.int .i64) 3 w' w0.heap.size (fun k_ => ((P0_0_ k_ ∨ P0_2_ k_) ∨ w.heap.size ≤ k_)) u9001_ r3 ∧ Below w0.heap.size w0 w' ∧ Kept w w' (fun k_ => P0_0_ k_ ∨ P0_2_ k_) := by
 have hu70 := Try.underlying70
 have HO0_0 := Aside0.mk (show Kd.R (Kd.int .i64) 3 w w0.heap.size (fun k_ => ((P0_0_ k_ ∨ P0_2_ k_) ∨ w.heap.size ≤ k_) ∧ some k_ ≠ (u9001_ : Value).ownBlock) u9000_ l0_0 from Kd.R_mono ho0_0 (fun k_ hk => ⟨(.inl (.inl hk)), fun e_ => hp0_0_0_2 k_ hk (ho0_2.1 k_ e_.symm)⟩))
 have HO0_2 := Aside0.mk (show Kd.R (Kd.int .i64) 3 w w0.heap.size (fun k_ => ((P0_0_ k_ ∨ P0_2_ k_) ∨ w.heap.size ≤ k_) ∧ some k_ ≠ (u9000_ : Value).ownBlock) u9001_ l0_2 from Kd.R_mono ho0_2 (fun k_ hk => ⟨(.inl (.inr hk)), fun e_ => hp0_2_0_0 k_ hk (ho0_0.1 k_ e_.symm)⟩))
 have HK := Aside0.mk (Kept.refl w (fun k_ => P0_0_ k_ ∨ P0_2_ k_))
 have HW0 := Aside0.mk hB.size
 have HB := Aside0.mk hB
 clear hB
 have H : ((laws_markIntS.f k l0_0 a1).bind fun bt383 => ((laws_markIntS.f k l0_2 bt383.1).bind fun bt385 => (some (bt385.1, bt383.2, bt385.2)))) = some (r1, r2, r3) := h
 clear h
 obtain ⟨⟨t383, t384⟩, A3, H⟩ := bindE H
 try dsimp only at H
 obtain ⟨⟨t385, t386⟩, A4, H⟩ := bindE H
 try dsimp only at H
 simp only [Option.some.injEq, Prod.mk.injEq] at H
 obtain ⟨rfl, rfl, rfl⟩ := H
 obtain ⟨Ao5, co5, eo5⟩ := Kd.R_slice HO0_0.out
 subst eo5
 obtain ⟨Ao6, co6, eo6⟩ := Kd.R_slice HO0_2.out
 subst eo6
 go_enter Try.func63, Try.ntmps63
 go_wp2_with (first | ((with_reducible refine gate_dst (N := 2) rfl ?_); refine bE (N := 2) (cs := #[.slice Ao5 l0_0.length co5, .int .i64 a0_1, .slice Ao6 l0_2.length co6, .int .i64 a0_3]) (t := 70) ?_; intro gb382 hg w7 hbox hb; have n0_ := Aside0.mk (Kd.R_below (by (with_reducible repeat (first | apply Kd.R_alloc | apply Kd.R_drewN | apply Kd.R_drew)); exact HO0_0.out) hb); have n1_ := Aside0.mk (Kd.R_below (by (with_reducible repeat (first | apply Kd.R_alloc | apply Kd.R_drewN | apply Kd.R_drew)); exact HO0_2.out) hb); have n2_ := Aside0.mk (Kept.below (S := (fun k_ => P0_0_ k_ ∨ P0_2_ k_)) (by repeat (first | (with_reducible first | exact HK.out | apply Kept.alloc | apply Kept.drewN | apply Kept.drew) | exact HK.out)) hb); have n3_ := Aside0.mk (below_step bA hb); have n4_ := Aside0.mk (hbox); have n5_ := Aside0.mk ((by rw [hg]; exact (by first | exact HK.out.1 | exact (show Kept w _ (fun k_ => P0_0_ k_ ∨ P0_2_ k_) from by repeat (first | (with_reducible first | exact HK.out | apply Kept.alloc | apply Kept.drewN | apply Kept.drew) | exact HK.out)).1) : w.heap.size ≤ gb382)); have n6_ := Aside0.mk ((by rw [hg]; exact (below_size bA) : w0.heap.size ≤ gb382)); clear HO0_0; clear HO0_2; clear HK; clear HB; have HO0_0 := n0_; have HO0_2 := n1_; have HK := n2_; have HB := n3_; have BK382 := n4_; have GW382 := n5_; have GE382 := n6_; clear n0_ n1_ n2_ n3_ n4_ n5_ n6_; clear hb hbox hg; have hcz8_0 : w7.cell? ⟨gb382, 0, none⟩ = some (.slice Ao5 l0_0.length co5) := bC BK382 0; have hcz8_1 : w7.cell? ⟨gb382, 1, none⟩ = some (.int .i64 a0_1) := bC BK382 1; have hcz8_2 : w7.cell? ⟨gb382, 2, none⟩ = some (.slice Ao6 l0_2.length co6) := bC BK382 2; have hcz8_3 : w7.cell? ⟨gb382, 3, none⟩ = some (.int .i64 a0_3) := bC BK382 3; have hfz8_0 := blk_frozen BK382.out 0; have hfz8_1 := blk_frozen BK382.out 1; have hfz8_2 := blk_frozen BK382.out 2; have hfz8_3 := blk_frozen BK382.out 3) | ((with_reducible refine gate_callee (f := 21) rfl ?_); refine gL (some 8) Try.func21 #[.slice Ao5 l0_0.length co5, .int .i64 a1] ?_; (with_reducible refine (laws_markIntS.calls k (fun k_ => some k_ = (.slice Ao5 l0_0.length co5 : Value).ownBlock) (.slice Ao5 l0_0.length co5) l0_0 a1 t383 t384 w0 _ ?side1 ?side2 A3.out).mono ?_); (case side1 => repeat (first | (with_reducible first | exact HB.out | apply below_alloc | apply pw_below_drewN | apply below_drew1 | refine below_set ?_ GE382.out) | exact HB.out)); (case side2 => exact Kd.R_tight rfl HO0_0.out); rintro e w9 ⟨rfl, hy0, hb, hkp⟩; refine ⟨_, rfl, ?_⟩; replace HO0_2 := Aside0.mk (Kd.R_mono (ok' := fun k_ => ((P0_0_ k_ ∨ P0_2_ k_) ∨ w.heap.size ≤ k_) ∧ some k_ ≠ (.slice Ao5 l0_0.length co5 : Value).ownBlock) (Kd.R_keptB (HO0_2.out) hkp (fun k_ hk_ hs_ => (hk_.2) hs_)) (fun k_ hk_ => ⟨hk_.1.1, hk_.1.2⟩)); replace BK382 := Aside0.mk (blk_kept (bK BK382) hkp (fun hs_ => (fun e_ => (Kd.R_ne HO0_0.out BK382.out (by decide)) e_) hs_)); replace HK := Aside0.mk (Kept.then_ (S := (fun k_ => P0_0_ k_ ∨ P0_2_ k_)) (by repeat (first | (with_reducible first | exact HK.out | apply Kept.alloc | apply Kept.drewN | apply Kept.drew | refine Kept.setCell ?_ (.inr GW382.out) _) | exact HK.out)) hkp (fun k_ hs_ => (fun e_ => (HO0_0.out.1 k_ e_.symm).1) hs_)); replace HO0_0 := Aside0.mk (Kd.R_reok rfl hy0 (fun k_ e_ => HO0_0.out.1 k_ e_)); replace HB := Aside0.mk (hb); (try clear hb); (try clear hkp); (try clear hy0); have hcz10_0 : w9.cell? ⟨gb382, 0, none⟩ = some (.slice Ao5 l0_0.length co5) := bC BK382 0; have hcz10_1 : w9.cell? ⟨gb382, 1, none⟩ = some (.int .i64 a0_1) := bC BK382 1; have hcz10_2 : w9.cell? ⟨gb382, 2, none⟩ = some (.slice Ao6 l0_2.length co6) := bC BK382 2; have hcz10_3 : w9.cell? ⟨gb382, 3, none⟩ = some (.int .i64 a0_3) := bC BK382 3; have hfz10_0 := blk_frozen BK382.out 0; have hfz10_1 := blk_frozen BK382.out 1; have hfz10_2 := blk_frozen BK382.out 2; have hfz10_3 := blk_frozen BK382.out 3) | ((with_reducible refine gate_callee (f := 21) rfl ?_); refine gL (some 12) Try.func21 #[.slice Ao6 l0_2.length co6, .int .i64 t383] ?_; (with_reducible refine (laws_markIntS.calls k (fun k_ => some k_ = (.slice Ao6 l0_2.length co6 : Value).ownBlock) (.slice Ao6 l0_2.length co6) l0_2 t383 t385 t386 w0 _ ?side1 ?side2 A4.out).mono ?_); (case side1 => repeat (first | (with_reducible first | exact HB.out | apply below_alloc | apply pw_below_drewN | apply below_drew1 | refine below_set ?_ GE382.out) | exact HB.out)); (case side2 => exact Kd.R_tight rfl HO0_2.out); rintro e w11 ⟨rfl, hy0, hb, hkp⟩; refine ⟨_, rfl, ?_⟩; replace HO0_0 := Aside0.mk (Kd.R_mono (ok' := fun k_ => ((P0_0_ k_ ∨ P0_2_ k_) ∨ w.heap.size ≤ k_) ∧ some k_ ≠ (.slice Ao6 l0_2.length co6 : Value).ownBlock) (Kd.R_keptB (HO0_0.out) hkp (fun k_ hk_ hs_ => (hk_.2) hs_)) (fun k_ hk_ => ⟨hk_.1.1, hk_.1.2⟩)); replace BK382 := Aside0.mk (blk_kept (bK BK382) hkp (fun hs_ => (fun e_ => (Kd.R_ne HO0_2.out BK382.out (by decide)) e_) hs_)); replace HK := Aside0.mk (Kept.then_ (S := (fun k_ => P0_0_ k_ ∨ P0_2_ k_)) (by repeat (first | (with_reducible first | exact HK.out | apply Kept.alloc | apply Kept.drewN | apply Kept.drew | refine Kept.setCell ?_ (.inr GW382.out) _) | exact HK.out)) hkp (fun k_ hs_ => (fun e_ => (HO0_2.out.1 k_ e_.symm).1) hs_)); replace HO0_2 := Aside0.mk (Kd.R_reok rfl hy0 (fun k_ e_ => HO0_2.out.1 k_ e_)); replace HB := Aside0.mk (hb); (try clear hb); (try clear hkp); (try clear hy0)))
 go_ret
 exact ⟨rA, by (with_reducible repeat (first | apply Kd.R_alloc | apply Kd.R_drewN | apply Kd.R_drew)); exact Kd.R_mono HO0_0.out (fun _ hk => hk.1), by (with_reducible repeat (first | apply Kd.R_alloc | apply Kd.R_drewN | apply Kd.R_drew)); exact Kd.R_mono HO0_2.out (fun _ hk => hk.1), bG, by repeat (first | (with_reducible first | exact HK.out | apply Kept.alloc | apply Kept.drewN | apply Kept.drew | refine Kept.setCell ?_ (.inr GW382.out) _) | exact HK.out)⟩

end Go.Proofs.Ytimmadeghcghoaa.P
