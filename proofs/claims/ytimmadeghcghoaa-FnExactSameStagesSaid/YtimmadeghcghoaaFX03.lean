/- Printed by myprint.py (wip/tools) over the kit's print: what Go's functions compute, and that they do. Lean checks it. -/
import Derived.Test.YtimmadeghcghoaaF0
import Derived.Test.YtimmadeghcghoaaFX01
namespace Go.Proofs.Ytimmadeghcghoaa.P
open Go.RowKit Go.Proofs.YtimmadeghcghoaaW.PrintWords Go.Proofs.YtimmadeghcghoaaW.PrintLast Go.Proofs.YtimmadeghcghoaaW.PrintMore Go.Proofs.Ytimmadeghcghoaa.Sq
attribute [local go_sem] max2_int min2_int max_two min_two max_three min_three max_four min_four
set_option linter.unusedVariables false
set_option linter.unusedSimpArgs false

/-! ### spec_SameStages: function 29 -/
def spec_SameStages.l0 : Nat → List (S82) → List (S82) → Int → Option (Bool)
 | 0, _, _, _ => none
 | k + 1, x0, x1, x5 => if x5 < (x0.length : Int) then (if 0 ≤ x5 then (if x5 < (x1.length : Int) then ((spec_EqualInts.f k ((rd_T82 x0 x5).f0) ((rd_T82 x1 x5).f0)).bind fun t171 => (if t171 = true then (spec_SameStages.l0 k x0 x1 (wrap64 (x5 + 1))) else (some false))) else (none)) else (none)) else (some true)
def spec_SameStages.f (k : Nat) (l0 : List (S82)) (l1 : List (S82)) : Option (Bool) := if (l0.length : Int) = (l1.length : Int) then (spec_SameStages.l0 k l0 l1 0) else (some false)
theorem spec_SameStages.mono_l : ∀ k, (∀ y0 y1 y2, LeO (spec_SameStages.l0 k y0 y1 y2) (spec_SameStages.l0 (k + 1) y0 y1 y2))
 | 0 => fun _ _ _ r h => by simp [spec_SameStages.l0] at h
 | k + 1 => by
  have ih0 := spec_SameStages.mono_l k
  ·
   intro y0 y1 y2
   unfold spec_SameStages.l0
   repeat' first | (with_reducible first | exact LeO.refl _ | exact LeO.none _ | refine LeO.ite ?_ ?_ | refine LeO.bind ?_ (fun _ => ?_) | exact ih0 _ _ _ | exact spec_EqualInts.mono _ _ _) | exact LeO.none _ | refine LeO.ite ?_ ?_ | refine LeO.bind ?_ (fun _ => ?_) | exact ih0 _ _ _ | exact spec_EqualInts.mono _ _ _
theorem spec_SameStages.mono : ∀ a0 a1 k, LeO (spec_SameStages.f k a0 a1) (spec_SameStages.f (k + 1) a0 a1) := by
 intro a0 a1 k
 have ih0 := spec_SameStages.mono_l k
 unfold spec_SameStages.f
 repeat' first | (with_reducible first | exact LeO.refl _ | exact LeO.none _ | refine LeO.ite ?_ ?_ | refine LeO.bind ?_ (fun _ => ?_) | exact ih0 _ _ _ | exact spec_EqualInts.mono _ _ _) | exact LeO.none _ | refine LeO.ite ?_ ?_ | refine LeO.bind ?_ (fun _ => ?_) | exact ih0 _ _ _ | exact spec_EqualInts.mono _ _ _
set_option maxHeartbeats 8000000 in
set_option maxRecDepth 100000 in
theorem spec_SameStages.calls (k : Nat) (A0 : Option Addr) (c0 : Nat) (l0 : List (S82)) (A1 : Option Addr) (c1 : Nat) (l1 : List (S82)) (r : Bool) (w : World) (hr0 : Kd.C k82 w A0 l0.length l0) (hc0 : l0.length ≤ c0) (hr1 : Kd.C k82 w A1 l1.length l1) (hc1 : l1.length ≤ c1) (h : spec_SameStages.f k l0 l1 = some r) :
  Calls Try.prog 29 #[.slice A0 l0.length c0, .slice A1 l1.length c1] w fun e w' => e = .returned (.bool r) ∧ Drawn0 w w' := by
 have HR0 := Aside0.mk hr0
 have HC0 := Aside0.mk hc0
 clear hr0 hc0
 have HR1 := Aside0.mk hr1
 have HC1 := Aside0.mk hc1
 clear hr1 hc1
 have H : (if (l0.length : Int) = (l1.length : Int) then (spec_SameStages.l0 k l0 l1 0) else (some false)) = some r := h
 clear h
 by_cases c3 : (l0.length : Int) = (l1.length : Int)
 ·
  rw [if_pos c3] at H
  have c3b0 : ((l0.length : Int) == (l1.length : Int)) = true := beq_iff_eq.mpr c3
  have c3b1 : ((l0.length : Int) != (l1.length : Int)) = false := bne_eq_false_iff_eq.mpr c3
  have c3b2 : (l0.length == l1.length) = true := by first | simpa using c3 | (simp at c3 ⊢; omega)
  clear c3
  have H' := Aside0.mk H
  clear H
  go_enter Try.func29, Try.ntmps29
  go_wp2
  repeat (go_quiet (fail); try go_wp2)
  go_loopg [5] k (fun kq v5 w' => ∃ (x5_1 : Int), v5 = .int .i64 x5_1 ∧ Aside0 (spec_SameStages.l0 kq l0 l1 x5_1 = some r) ∧ Aside0 (kq ≤ k) ∧ Drawn0 w w')
  case atStart => exact ⟨(0), rS, H', ⟨Nat.le_refl _⟩, by repeat (first | exact Drawn0.refl _ | apply Drawn0.step)⟩
  case round =>
   clear H'
   try clear c1
   try clear c2
   try clear p2
   try clear c3
   try clear c3b0
   try clear c3b1
   try clear c3b2
   obtain ⟨x5_1, rfl, HA, HK1, ⟨m1, rfl⟩⟩ := hrel
   cases gk with
   | zero => exact absurd HA.out (by simp [spec_SameStages.l0])
   | succ k1 =>
    have H := HA.out
    clear HA
    simp only [spec_SameStages.l0] at H
    by_cases c4 : x5_1 < (l0.length : Int)
    ·
     rw [if_pos c4] at H
     have c4b0 : decide (x5_1 < (l0.length : Int)) = true := decide_eq_true c4
     clear c4
     have c5 : 0 ≤ x5_1 := ifN H
     replace H := ifT H
     have c5b0 : decide (0 ≤ x5_1) = true := decide_eq_true c5
     clear c5
     have c6 : x5_1 < (l1.length : Int) := ifN H
     replace H := ifT H
     have c6b0 : decide (x5_1 < (l1.length : Int)) = true := decide_eq_true c6
     clear c6
     obtain ⟨t171, A7, H⟩ := bindE H
     try dsimp only at H
     by_cases c8 : t171 = true
     ·
      subst c8
      have H1 : (spec_SameStages.l0 k1 l0 l1 (wrap64 (x5_1 + 1))) = some r := by rw [if_pos rfl] at H; exact H
      clear H
      have H := H1
      clear H1
      have H' := Aside0.mk H
      clear H
      have p169 : 0 ≤ (x5_1 : Int) := dA
      have q169 : x5_1 < (l0.length : Int) := dA
      obtain ⟨ad169, A169_0, c169_0, e169, hx169_0, hx169_1, hl169_0, hi169_0⟩ := at_T82 HR0.out x5_1 p169 q169
      cases e169
      have HR169_0 := Aside0.mk hi169_0
      have HC169_0 := Aside0.mk hl169_0
      clear hi169_0 hl169_0
      replace p169 := eq_true p169
      replace q169 := eq_true q169
      have p170 : 0 ≤ (x5_1 : Int) := dA
      have q170 : x5_1 < (l1.length : Int) := dA
      obtain ⟨ad170, A170_0, c170_0, e170, hx170_0, hx170_1, hl170_0, hi170_0⟩ := at_T82 HR1.out x5_1 p170 q170
      cases e170
      have HR170_0 := Aside0.mk hi170_0
      have HC170_0 := Aside0.mk hl170_0
      clear hi170_0 hl170_0
      replace p170 := eq_true p170
      replace q170 := eq_true q170
      go_wp2_with (first | (go_at_call 72; (with_reducible refine (spec_EqualInts.calls k1 _ _ ((rd_T82 l0 x5_1).f0) _ _ ((rd_T82 l1 x5_1).f0) true _ ?side1 ?side2 ?side3 ?side4 A7.out).mono ?_); (case side1 => exact cO HR169_0); (case side2 => exact HC169_0.out); (case side3 => exact cO HR170_0); (case side4 => exact HC170_0.out); rintro e w' ⟨rfl, ⟨nd, rfl⟩⟩; (try first | exact ⟨rfl, _, World.drewN_drewN _ _ _⟩ | exact ⟨rfl, _, Eq.trans (World.drewN_drewN _ _ _) (congrArg (World.drewN _) (Nat.add_assoc _ _ _))⟩)))
      repeat (go_quiet (first | (go_at_call 72; (with_reducible refine (spec_EqualInts.calls k1 _ _ ((rd_T82 l0 x5_1).f0) _ _ ((rd_T82 l1 x5_1).f0) true _ ?side1 ?side2 ?side3 ?side4 A7.out).mono ?_); (case side1 => exact cO HR169_0); (case side2 => exact HC169_0.out); (case side3 => exact cO HR170_0); (case side4 => exact HC170_0.out); rintro e w' ⟨rfl, ⟨nd, rfl⟩⟩; (try first | exact ⟨rfl, _, World.drewN_drewN _ _ _⟩ | exact ⟨rfl, _, Eq.trans (World.drewN_drewN _ _ _) (congrArg (World.drewN _) (Nat.add_assoc _ _ _))⟩))); try go_wp2_with (first | (go_at_call 72; (with_reducible refine (spec_EqualInts.calls k1 _ _ ((rd_T82 l0 x5_1).f0) _ _ ((rd_T82 l1 x5_1).f0) true _ ?side1 ?side2 ?side3 ?side4 A7.out).mono ?_); (case side1 => exact cO HR169_0); (case side2 => exact HC169_0.out); (case side3 => exact cO HR170_0); (case side4 => exact HC170_0.out); rintro e w' ⟨rfl, ⟨nd, rfl⟩⟩; (try first | exact ⟨rfl, _, World.drewN_drewN _ _ _⟩ | exact ⟨rfl, _, Eq.trans (World.drewN_drewN _ _ _) (congrArg (World.drewN _) (Nat.add_assoc _ _ _))⟩))))
      go_roundg k1
      case measure => have := HK1.out; omega
      case rel => exact ⟨(wrap64 (x5_1 + 1)), rS, H', ⟨by have := HK1.out; omega⟩, by repeat (first | exact Drawn0.refl _ | apply Drawn0.step)⟩
     ·
      replace c8 := Bool.eq_false_iff.mpr c8
      subst c8
      have H1 : (some false) = some r := by rw [if_neg (show ¬ (false = true) by decide)] at H; exact H
      clear H
      have H := H1
      clear H1
      obtain rfl := Option.some.inj H
      have p169 : 0 ≤ (x5_1 : Int) := dA
      have q169 : x5_1 < (l0.length : Int) := dA
      obtain ⟨ad169, A169_0, c169_0, e169, hx169_0, hx169_1, hl169_0, hi169_0⟩ := at_T82 HR0.out x5_1 p169 q169
      cases e169
      have HR169_0 := Aside0.mk hi169_0
      have HC169_0 := Aside0.mk hl169_0
      clear hi169_0 hl169_0
      replace p169 := eq_true p169
      replace q169 := eq_true q169
      have p170 : 0 ≤ (x5_1 : Int) := dA
      have q170 : x5_1 < (l1.length : Int) := dA
      obtain ⟨ad170, A170_0, c170_0, e170, hx170_0, hx170_1, hl170_0, hi170_0⟩ := at_T82 HR1.out x5_1 p170 q170
      cases e170
      have HR170_0 := Aside0.mk hi170_0
      have HC170_0 := Aside0.mk hl170_0
      clear hi170_0 hl170_0
      replace p170 := eq_true p170
      replace q170 := eq_true q170
      go_wp2_with (first | (go_at_call 72; (with_reducible refine (spec_EqualInts.calls k1 _ _ ((rd_T82 l0 x5_1).f0) _ _ ((rd_T82 l1 x5_1).f0) false _ ?side1 ?side2 ?side3 ?side4 A7.out).mono ?_); (case side1 => exact cO HR169_0); (case side2 => exact HC169_0.out); (case side3 => exact cO HR170_0); (case side4 => exact HC170_0.out); rintro e w' ⟨rfl, ⟨nd, rfl⟩⟩; (try first | exact ⟨rfl, _, World.drewN_drewN _ _ _⟩ | exact ⟨rfl, _, Eq.trans (World.drewN_drewN _ _ _) (congrArg (World.drewN _) (Nat.add_assoc _ _ _))⟩)))
      repeat (go_quiet (first | (go_at_call 72; (with_reducible refine (spec_EqualInts.calls k1 _ _ ((rd_T82 l0 x5_1).f0) _ _ ((rd_T82 l1 x5_1).f0) false _ ?side1 ?side2 ?side3 ?side4 A7.out).mono ?_); (case side1 => exact cO HR169_0); (case side2 => exact HC169_0.out); (case side3 => exact cO HR170_0); (case side4 => exact HC170_0.out); rintro e w' ⟨rfl, ⟨nd, rfl⟩⟩; (try first | exact ⟨rfl, _, World.drewN_drewN _ _ _⟩ | exact ⟨rfl, _, Eq.trans (World.drewN_drewN _ _ _) (congrArg (World.drewN _) (Nat.add_assoc _ _ _))⟩))); try go_wp2_with (first | (go_at_call 72; (with_reducible refine (spec_EqualInts.calls k1 _ _ ((rd_T82 l0 x5_1).f0) _ _ ((rd_T82 l1 x5_1).f0) false _ ?side1 ?side2 ?side3 ?side4 A7.out).mono ?_); (case side1 => exact cO HR169_0); (case side2 => exact HC169_0.out); (case side3 => exact cO HR170_0); (case side4 => exact HC170_0.out); rintro e w' ⟨rfl, ⟨nd, rfl⟩⟩; (try first | exact ⟨rfl, _, World.drewN_drewN _ _ _⟩ | exact ⟨rfl, _, Eq.trans (World.drewN_drewN _ _ _) (congrArg (World.drewN _) (Nat.add_assoc _ _ _))⟩))))
      go_ret
      exact ⟨by first | rfl | (simp; done) | (simp [*]; done), by repeat (first | exact Drawn0.refl _ | apply Drawn0.step)⟩
    ·
     rw [if_neg c4] at H
     have c4b0 : decide (x5_1 < (l0.length : Int)) = false := decide_eq_false c4
     clear c4
     obtain rfl := Option.some.inj H
     go_wp2
     repeat (go_quiet (fail); try go_wp2)
     go_ret
     exact ⟨by first | rfl | (simp; done) | (simp [*]; done), by repeat (first | exact Drawn0.refl _ | apply Drawn0.step)⟩
 ·
  rw [if_neg c3] at H
  have c3b0 : ((l0.length : Int) == (l1.length : Int)) = false := beq_eq_false_iff_ne.mpr c3
  have c3b1 : ((l0.length : Int) != (l1.length : Int)) = true := bne_iff_ne.mpr c3
  have c3b2 : (l0.length == l1.length) = false := by first | simpa using c3 | (simp at c3 ⊢; omega)
  obtain rfl := Option.some.inj H
  go_enter Try.func29, Try.ntmps29
  go_wp2
  repeat (go_quiet (fail); try go_wp2)
  go_ret
  exact ⟨by first | rfl | (simp; done) | (simp [*]; done), by repeat (first | exact Drawn0.refl _ | apply Drawn0.step)⟩

/-! ### impl_SameStages_1: function 78 -/
def impl_SameStages_1.f (k : Nat) (l0_0 : List Int) (a0_1 : Int) (l1_0 : List Int) (a1_1 : Int) : Option (Bool) := (slices_Equal_int_int.f k l0_0 l1_0).bind fun t174 => (some t174)
theorem impl_SameStages_1.mono : ∀ a0 a1 a2 a3 k, LeO (impl_SameStages_1.f k a0 a1 a2 a3) (impl_SameStages_1.f (k + 1) a0 a1 a2 a3) := by
 intro a0 a1 a2 a3 k
 unfold impl_SameStages_1.f
 repeat' first | (with_reducible first | exact LeO.refl _ | exact LeO.none _ | refine LeO.ite ?_ ?_ | refine LeO.bind ?_ (fun _ => ?_) | exact slices_Equal_int_int.mono _ _ _) | exact LeO.none _ | refine LeO.ite ?_ ?_ | refine LeO.bind ?_ (fun _ => ?_) | exact slices_Equal_int_int.mono _ _ _
set_option maxHeartbeats 8000000 in
set_option maxRecDepth 100000 in
theorem impl_SameStages_1.calls (k : Nat) (A0_0 : Option Addr) (c0_0 : Nat) (l0_0 : List Int) (a0_1 : Int) (A1_0 : Option Addr) (c1_0 : Nat) (l1_0 : List Int) (a1_1 : Int) (r : Bool) (w : World) (hr0_0 : Kd.C (Kd.int .i64) w A0_0 l0_0.length l0_0) (hc0_0 : l0_0.length ≤ c0_0) (hr1_0 : Kd.C (Kd.int .i64) w A1_0 l1_0.length l1_0) (hc1_0 : l1_0.length ≤ c1_0) (h : impl_SameStages_1.f k l0_0 a0_1 l1_0 a1_1 = some r) :
  Calls Try.prog 78 #[.agg #[.slice A0_0 l0_0.length c0_0, .int .i64 a0_1], .agg #[.slice A1_0 l1_0.length c1_0, .int .i64 a1_1]] w fun e w' => e = .returned (.bool r) ∧ Below w.heap.size w w' := by
 have hu82 := Try.underlying82
 have HR0_0 := Aside0.mk hr0_0
 have HC0_0 := Aside0.mk hc0_0
 clear hr0_0 hc0_0
 have HR1_0 := Aside0.mk hr1_0
 have HC1_0 := Aside0.mk hc1_0
 clear hr1_0 hc1_0
 have HB := Aside0.mk (Below.refl w.heap.size w)
 have H : ((slices_Equal_int_int.f k l0_0 l1_0).bind fun t174 => (some t174)) = some r := h
 clear h
 obtain ⟨t174, A3, H⟩ := bindE H
 try dsimp only at H
 obtain rfl := Option.some.inj H
 go_enter Try.func78, Try.ntmps78
 go_wp2_with (first | ((with_reducible refine gate_dst (N := 2) rfl ?_); refine bE (N := 2) (cs := #[.slice A0_0 l0_0.length c0_0, .int .i64 a0_1]) (t := 82) ?_; intro gb172 hg w4 hbox hb; have n0_ := Aside0.mk (below_step bA hb); have n1_ := Aside0.mk (hbox); have n2_ := Aside0.mk ((by rw [hg]; exact (below_size bA) : w.heap.size ≤ gb172)); have n3_ := Aside0.mk ((by rw [hg]; exact (below_size bA) : w.heap.size ≤ gb172)); clear HB; have HB := n0_; have BK172 := n1_; have GW172 := n2_; have GE172 := n3_; clear n0_ n1_ n2_ n3_; clear hb hbox hg) | ((with_reducible refine gate_dst (N := 3) rfl ?_); refine bE (N := 3) (cs := #[.slice A1_0 l1_0.length c1_0, .int .i64 a1_1]) (t := 82) ?_; intro gb173 hg w5 hbox hb; have n0_ := Aside0.mk (blk_below (g := gb172) (bK BK172) hb); have n1_ := Aside0.mk (below_step bG hb); have n2_ := Aside0.mk (hbox); have n3_ := Aside0.mk ((by rw [hg]; exact (below_size bG) : w.heap.size ≤ gb173)); have n4_ := Aside0.mk ((by rw [hg]; exact (below_size bG) : w.heap.size ≤ gb173)); have n5_ := Aside0.mk ((by rw [hg]; exact Nat.ne_of_lt (blk_lt (g := gb172) (o := .cells #[.slice A0_0 l0_0.length c0_0, .int .i64 a0_1] 82 (0, 0)) (bK BK172)) : gb172 ≠ gb173)); have n6_ := Aside0.mk ((by rw [hg]; exact Nat.ne_of_gt (blk_lt (g := gb172) (o := .cells #[.slice A0_0 l0_0.length c0_0, .int .i64 a0_1] 82 (0, 0)) (bK BK172)) : gb173 ≠ gb172)); clear BK172; clear HB; have BK172 := n0_; have HB := n1_; have BK173 := n2_; have GW173 := n3_; have GE173 := n4_; have NB172_173 := n5_; have NB173_172 := n6_; clear n0_ n1_ n2_ n3_ n4_ n5_ n6_; clear hb hbox hg; have hnb6 := NB172_173.out; have hnc6 := NB173_172.out; obtain ⟨hcz7_0, hcz7_1, hfz7_0, hfz7_1⟩ := blkc2 BK172; have hcz8_0 : w5.cell? ⟨gb173, 0, none⟩ = some (.slice A1_0 l1_0.length c1_0) := bC BK173 0; have hcz8_1 : w5.cell? ⟨gb173, 1, none⟩ = some (.int .i64 a1_1) := bC BK173 1; have hfz8_0 := blk_frozen BK173.out 0; have hfz8_1 := blk_frozen BK173.out 1) | ((with_reducible refine gate_callee (f := 76) rfl ?_); refine gL (some 9) Try.func76 #[.slice A0_0 l0_0.length c0_0, .slice A1_0 l1_0.length c1_0] ?_; (with_reducible refine (slices_Equal_int_int.calls k _ _ l0_0 _ _ l1_0 t174 _ ?side1 ?side2 ?side3 ?side4 A3.out).mono ?_); (case side1 => exact cB HR0_0); (case side2 => exact HC0_0.out); (case side3 => exact cB HR1_0); (case side4 => exact HC1_0.out); rintro e w' ⟨rfl, ⟨nd, rfl⟩⟩; refine ⟨_, rfl, ?_⟩))
 go_ret
 exact ⟨rA, bG⟩

/-! ### impl_SameStages: function 30 -/
def impl_SameStages.l0 : Nat → List S82 → List S82 → Int → Option Bool
 | 0, _, _, _ => none
 | k + 1, x, y, i => if i < (x.length : Int) then (if 0 ≤ i then ((impl_SameStages_1.f k (rd_T82 x i).f0 (rd_T82 x i).f1 (rd_T82 y i).f0 (rd_T82 y i).f1).bind fun t => (if t = true then (impl_SameStages.l0 k x y (wrap64 (i + 1))) else (some false))) else (none)) else (some true)
def impl_SameStages.f (k : Nat) (l0 : List S82) (l1 : List S82) : Option Bool := if (l0.length : Int) = (l1.length : Int) then (impl_SameStages.l0 k l0 l1 0) else (some false)
theorem impl_SameStages.mono_l : ∀ k, (∀ y0 y1 y2, LeO (impl_SameStages.l0 k y0 y1 y2) (impl_SameStages.l0 (k + 1) y0 y1 y2))
 | 0 => fun _ _ _ r h => by simp [impl_SameStages.l0] at h
 | k + 1 => by
  have ih0 := impl_SameStages.mono_l k
  ·
   intro y0 y1 y2
   unfold impl_SameStages.l0
   repeat' first | (with_reducible first | exact LeO.refl _ | exact LeO.none _ | refine LeO.ite ?_ ?_ | refine LeO.bind ?_ (fun _ => ?_) | exact ih0 _ _ _ | exact impl_SameStages_1.mono _ _ _ _ _) | exact LeO.none _ | refine LeO.ite ?_ ?_ | refine LeO.bind ?_ (fun _ => ?_) | exact ih0 _ _ _ | exact impl_SameStages_1.mono _ _ _ _ _
theorem impl_SameStages.mono : ∀ a0 a1 k, LeO (impl_SameStages.f k a0 a1) (impl_SameStages.f (k + 1) a0 a1) := by
 intro a0 a1 k
 have ih0 := impl_SameStages.mono_l k
 unfold impl_SameStages.f
 repeat' first | (with_reducible first | exact LeO.refl _ | exact LeO.none _ | refine LeO.ite ?_ ?_ | refine LeO.bind ?_ (fun _ => ?_) | exact ih0 _ _ _) | exact LeO.none _ | refine LeO.ite ?_ ?_ | refine LeO.bind ?_ (fun _ => ?_) | exact ih0 _ _ _
set_option maxHeartbeats 8000000 in
set_option maxRecDepth 100000 in
theorem impl_SameStages.eqf (k : Nat) (A0 : Option Addr) (c0 : Nat) (l0 : List S82) (A1 : Option Addr) (c1 : Nat) (l1 : List S82) (r : Bool) (w : World) (hr0 : Kd.C k82 w A0 l0.length l0) (hc0 : l0.length ≤ c0) (hr1 : Kd.C k82 w A1 l1.length l1) (hc1 : l1.length ≤ c1) (h : impl_SameStages.f k l0 l1 = some r) :
  Calls Try.prog 74 #[.slice A0 l0.length c0, .slice A1 l1.length c1, .func (.func 78) #[] #[]] w fun e w' => e = .returned (.bool r) ∧ Below w.heap.size w w' := by
 have hu := Try.underlying82
 have HR0 := Aside0.mk hr0
 have HC0 := Aside0.mk hc0
 have HR1 := Aside0.mk hr1
 have HC1 := Aside0.mk hc1
 have hlen : l0.length ≤ 9223372036854775807 := hr0.2.1
 clear hr0 hc0 hr1 hc1
 have HB := Aside0.mk (Below.refl w.heap.size w)
 by_cases hn : (l0.length : Int) = (l1.length : Int)
 ·
  have H : impl_SameStages.l0 k l0 l1 0 = some r := by unfold impl_SameStages.f at h; rw [if_pos hn] at h; exact h
  clear h
  have hnb : ((l0.length : Int) != (l1.length : Int)) = false := bne_eq_false_iff_eq.mpr hn
  have hnn : l0.length = l1.length := by omega
  have HN := Aside0.mk hnn
  have H' := Aside0.mk H
  clear H hn hnn
  go_enter Try.func74, Try.ntmps74
  go_wp2
  go_loopg [17] k (fun kq v17 w' => ∃ (x17 : Int), v17 = .int .i64 x17 ∧ Aside0 (impl_SameStages.l0 kq l0 l1 x17 = some r) ∧ Aside0 (kq ≤ k) ∧ Aside0 (Below w.heap.size w w'))
  case atStart => exact ⟨0, rfl, H', ⟨Nat.le_refl _⟩, HB⟩
  case round =>
   clear H' HB
   obtain ⟨x17, rfl, HA, HK1, HB⟩ := hrel
   cases gk with
   | zero => exact absurd HA.out (by simp [impl_SameStages.l0])
   | succ k1 =>
    have H := HA.out
    clear HA
    simp only [impl_SameStages.l0] at H
    by_cases c3 : x17 < (l0.length : Int)
    ·
     rw [if_pos c3] at H
     have c3b0 : decide (x17 < (l0.length : Int)) = true := decide_eq_true c3
     have c4 : 0 ≤ x17 := ifN H
     replace H := ifT H
     obtain ⟨t, A5, H⟩ := bindE H
     try dsimp only at H
     have p5 : 0 ≤ (x17 : Int) := c4
     have q5 : (x17 : Int) < (l0.length : Int) := c3
     have q6 : (x17 : Int) < (l1.length : Int) := by have := HN.out; omega
     obtain ⟨ad0, Ai0, ci0, e0, hx0, hy0, hl0, hi0⟩ := at_T82 HR0.out x17 p5 q5
     cases e0
     obtain ⟨ad1, Ai1, ci1, e1, hx1, hy1, hl1, hi1⟩ := at_T82 HR1.out x17 p5 q6
     cases e1
     replace hx0 := hC HB hx0
     replace hy0 := hC HB hy0
     replace hx1 := hC HB hx1
     replace hy1 := hC HB hy1
     have HI0 := Aside0.mk hi0
     have HI1 := Aside0.mk hi1
     have HL0 := Aside0.mk hl0
     have HL1 := Aside0.mk hl1
     have H' := Aside0.mk H
     clear hi0 hi1 hl0 hl1 H c3 c4
     replace p5 := eq_true p5
     replace q5 := eq_true q5
     replace q6 := eq_true q6
     have hx1a : ∀ o, (wr.alloc o).cell? (ad1.add ((x17 : Int).toNat * 2)) = some (.slice Ai1 (rd_T82 l1 x17).f0.length ci1) := fun o => (((Below.refl wr.heap.size wr).alloc (Nat.le_refl _) o).cell (World.block_lt_of_cell? wr _ hx1)).trans hx1
     have hy1a : ∀ o, (wr.alloc o).cell? ⟨(ad1.add ((x17 : Int).toNat * 2)).block, (ad1.add ((x17 : Int).toNat * 2)).off + 1, none⟩ = some (.int .i64 (rd_T82 l1 x17).f1) := fun o => (((Below.refl wr.heap.size wr).alloc (Nat.le_refl _) o).cell (World.block_lt_of_cell? wr _ hy1)).trans hy1
     cases t with
     | true =>
      go_wp2_with ((go_at_call 78; refine (impl_SameStages_1.calls k1 Ai0 ci0 _ _ Ai1 ci1 _ _ true _ ?s1 HL0.out ?s2 HL1.out A5.out).mono ?_; (case s1 => exact Kd.C_below HI0.out (below_alloc (below_alloc HB.out _) _)); (case s2 => exact Kd.C_below HI1.out (below_alloc (below_alloc HB.out _) _)); rintro e w1 ⟨rfl, hb1⟩))
      go_roundg k1
      case measure => have := HK1.out; omega
      case rel => exact ⟨wrap64 (x17 + 1), rfl, ⟨by have := H'.out; first | (rw [if_pos trivial] at this; exact this) | (rw [if_pos rfl] at this; exact this)⟩, ⟨by have := HK1.out; omega⟩, ⟨below_step (below_alloc (below_alloc HB.out _) _) hb1⟩⟩
     | false =>
      have hr : r = false := by
       have := H'.out
       rw [if_neg (by decide)] at this
       exact (Option.some.inj this).symm
      subst hr
      go_wp2_with ((go_at_call 78; refine (impl_SameStages_1.calls k1 Ai0 ci0 _ _ Ai1 ci1 _ _ false _ ?s1 HL0.out ?s2 HL1.out A5.out).mono ?_; (case s1 => exact Kd.C_below HI0.out (below_alloc (below_alloc HB.out _) _)); (case s2 => exact Kd.C_below HI1.out (below_alloc (below_alloc HB.out _) _)); rintro e w1 ⟨rfl, hb1⟩))
      go_ret
      exact ⟨rfl, below_step (below_alloc (below_alloc HB.out _) _) hb1⟩
    ·
     rw [if_neg c3] at H
     have c3b0 : decide (x17 < (l0.length : Int)) = false := decide_eq_false c3
     obtain rfl := Option.some.inj H
     go_wp2
     go_ret
     exact ⟨rfl, HB.out⟩
 ·
  have hr : r = false := by unfold impl_SameStages.f at h; rw [if_neg hn] at h; exact (Option.some.inj h).symm
  subst hr
  have hnb : ((l0.length : Int) != (l1.length : Int)) = true := bne_iff_ne.mpr hn
  go_enter Try.func74, Try.ntmps74
  go_wp2
  go_ret
  exact ⟨rfl, HB.out⟩
set_option maxHeartbeats 400000 in
set_option maxRecDepth 100000 in
theorem impl_SameStages.calls (k : Nat) (A0 : Option Addr) (c0 : Nat) (l0 : List S82) (A1 : Option Addr) (c1 : Nat) (l1 : List S82) (r : Bool) (w : World) (hr0 : Kd.C k82 w A0 l0.length l0) (hc0 : l0.length ≤ c0) (hr1 : Kd.C k82 w A1 l1.length l1) (hc1 : l1.length ≤ c1) (h : impl_SameStages.f k l0 l1 = some r) :
  Calls Try.prog 30 #[.slice A0 l0.length c0, .slice A1 l1.length c1] w fun e w' => e = .returned (.bool r) ∧ Below w.heap.size w w' := by
 have HR0 := Aside0.mk hr0
 have HC0 := Aside0.mk hc0
 have HR1 := Aside0.mk hr1
 have HC1 := Aside0.mk hc1
 have HH := Aside0.mk h
 clear hr0 hc0 hr1 hc1 h
 go_enter Try.func30, Try.ntmps30
 go_wp2_with (go_at_call 74; refine (impl_SameStages.eqf k A0 c0 l0 A1 c1 l1 r _ HR0.out HC0.out HR1.out HC1.out HH.out).mono ?_; rintro e w1 ⟨rfl, hb1⟩)
 go_ret
 exact ⟨rfl, hb1⟩

/-! ### laws_FnExactSameStages: function 5 -/
def laws_FnExactSameStages.f (k : Nat) (l0 : List (S81)) (l1 : List (S81)) : Option (Bool) := (laws_szPartS.f k l0 1048576).bind fun t175 => (if t175 < 0 then (some true) else ((laws_szPartS.f k l1 t175).bind fun t176 => (if t176 < 0 then (some true) else ((laws_toPartS.f k l0).bind fun t177 => ((laws_toPartS.f k l1).bind fun t180 => ((spec_SameStages.f k t177 t180).bind fun t183 => ((laws_toPartS.f k l0).bind fun t184 => ((laws_toPartS.f k l1).bind fun t187 => ((impl_SameStages.f k t184 t187).bind fun t190 => (if (t190 != t183) = true then (none) else ((laws_toPartS.f k l0).bind fun t191 => ((laws_eqPartS.f k t184 t191).bind fun t194 => (if t194 = true then ((laws_toPartS.f k l1).bind fun t195 => ((laws_eqPartS.f k t187 t195).bind fun t198 => (if t198 = true then (some true) else (none)))) else (none))))))))))))))
theorem laws_FnExactSameStages.mono : ∀ a0 a1 k, LeO (laws_FnExactSameStages.f k a0 a1) (laws_FnExactSameStages.f (k + 1) a0 a1) := by
 intro a0 a1 k
 unfold laws_FnExactSameStages.f
 repeat' first | (with_reducible first | exact LeO.refl _ | exact LeO.none _ | refine LeO.ite ?_ ?_ | refine LeO.bind ?_ (fun _ => ?_) | exact impl_SameStages.mono _ _ _ | exact laws_eqPartS.mono _ _ _ | exact laws_szPartS.mono _ _ _ | exact laws_toPartS.mono _ _ | exact spec_SameStages.mono _ _ _) | exact LeO.none _ | refine LeO.ite ?_ ?_ | refine LeO.bind ?_ (fun _ => ?_) | exact impl_SameStages.mono _ _ _ | exact laws_eqPartS.mono _ _ _ | exact laws_szPartS.mono _ _ _ | exact laws_toPartS.mono _ _ | exact spec_SameStages.mono _ _ _
set_option maxHeartbeats 8000000 in
set_option maxRecDepth 100000 in
theorem laws_FnExactSameStages.calls (k : Nat) (A0 : Option Addr) (c0 : Nat) (l0 : List (S81)) (A1 : Option Addr) (c1 : Nat) (l1 : List (S81)) (r : Bool) (w : World) (hr0 : Kd.C k81 w A0 l0.length l0) (hc0 : l0.length ≤ c0) (hr1 : Kd.C k81 w A1 l1.length l1) (hc1 : l1.length ≤ c1) (h : laws_FnExactSameStages.f k l0 l1 = some r) :
  Calls Try.prog 5 #[.slice A0 l0.length c0, .slice A1 l1.length c1] w fun e w' => e = .returned (.bool r) ∧ Below w.heap.size w w' := by
 have HR0 := Aside0.mk hr0
 have HC0 := Aside0.mk hc0
 clear hr0 hc0
 have HR1 := Aside0.mk hr1
 have HC1 := Aside0.mk hc1
 clear hr1 hc1
 have HB := Aside0.mk (Below.refl w.heap.size w)
 have H : ((laws_szPartS.f k l0 1048576).bind fun t175 => (if t175 < 0 then (some true) else ((laws_szPartS.f k l1 t175).bind fun t176 => (if t176 < 0 then (some true) else ((laws_toPartS.f k l0).bind fun t177 => ((laws_toPartS.f k l1).bind fun t180 => ((spec_SameStages.f k t177 t180).bind fun t183 => ((laws_toPartS.f k l0).bind fun t184 => ((laws_toPartS.f k l1).bind fun t187 => ((impl_SameStages.f k t184 t187).bind fun t190 => (if (t190 != t183) = true then (none) else ((laws_toPartS.f k l0).bind fun t191 => ((laws_eqPartS.f k t184 t191).bind fun t194 => (if t194 = true then ((laws_toPartS.f k l1).bind fun t195 => ((laws_eqPartS.f k t187 t195).bind fun t198 => (if t198 = true then (some true) else (none)))) else (none))))))))))))))) = some r := h
 clear h
 obtain ⟨t175, A3, H⟩ := bindE H
 try dsimp only at H
 by_cases c4 : t175 < 0
 ·
  rw [if_pos c4] at H
  have c4b0 : decide (t175 < 0) = true := decide_eq_true c4
  clear c4
  obtain rfl := Option.some.inj H
  go_enter Try.func5, Try.ntmps5
  go_wp2_with (first | ((with_reducible refine gate_callee (f := 24) rfl ?_); refine gL (some 12) Try.func24 #[.slice A0 l0.length c0, .int .i64 1048576] ?_; (with_reducible refine (laws_szPartS.calls k _ _ l0 1048576 t175 _ ?side1 ?side2 A3.out).mono ?_); (case side1 => exact cO HR0); (case side2 => exact HC0.out); rintro e w5 ⟨rfl, hb⟩; refine ⟨_, rfl, ?_⟩; replace HB := Aside0.mk (below_step bA hb); (try clear hb); (try clear hb2); (try clear hk); (try clear hi)))
  go_ret
  exact ⟨rA, bA⟩
 ·
  rw [if_neg c4] at H
  have c4b0 : decide (t175 < 0) = false := decide_eq_false c4
  clear c4
  obtain ⟨t176, A6, H⟩ := bindE H
  try dsimp only at H
  by_cases c7 : t176 < 0
  ·
   rw [if_pos c7] at H
   have c7b0 : decide (t176 < 0) = true := decide_eq_true c7
   clear c7
   obtain rfl := Option.some.inj H
   go_enter Try.func5, Try.ntmps5
   go_wp2_with (first | ((with_reducible refine gate_callee (f := 24) rfl ?_); refine gL (some 12) Try.func24 #[.slice A0 l0.length c0, .int .i64 1048576] ?_; (with_reducible refine (laws_szPartS.calls k _ _ l0 1048576 t175 _ ?side1 ?side2 A3.out).mono ?_); (case side1 => exact cO HR0); (case side2 => exact HC0.out); rintro e w8 ⟨rfl, hb⟩; refine ⟨_, rfl, ?_⟩; replace HB := Aside0.mk (below_step bA hb); (try clear hb); (try clear hb2); (try clear hk); (try clear hi)) | ((with_reducible refine gate_callee (f := 24) rfl ?_); refine gL (some 17) Try.func24 #[.slice A1 l1.length c1, .int .i64 t175] ?_; (with_reducible refine (laws_szPartS.calls k _ _ l1 t175 t176 _ ?side1 ?side2 A6.out).mono ?_); (case side1 => exact cB HR1); (case side2 => exact HC1.out); rintro e w9 ⟨rfl, hb⟩; refine ⟨_, rfl, ?_⟩; replace HB := Aside0.mk (below_step bA hb); (try clear hb); (try clear hb2); (try clear hk); (try clear hi)))
   go_ret
   exact ⟨rA, bA⟩
  ·
   rw [if_neg c7] at H
   have c7b0 : decide (t176 < 0) = false := decide_eq_false c7
   clear c7
   obtain ⟨t177, A10, H⟩ := bindE H
   try dsimp only at H
   obtain ⟨t180, A11, H⟩ := bindE H
   try dsimp only at H
   obtain ⟨t183, A12, H⟩ := bindE H
   try dsimp only at H
   obtain ⟨t184, A13, H⟩ := bindE H
   try dsimp only at H
   obtain ⟨t187, A14, H⟩ := bindE H
   try dsimp only at H
   obtain ⟨t190, A15, H⟩ := bindE H
   try dsimp only at H
   have c16 : ¬ ((t190 != t183) = true) := ifN' H
   replace H := ifT' H
   have c16b0 : (t190 != t183) = false := by simpa using c16
   (try (have c16b1 : decide (t190 = t183) = true := by simpa using c16))
   (try (have c16b2 : (t190 == t183) = true := by simpa using c16))
   clear c16
   obtain ⟨t191, A17, H⟩ := bindE H
   try dsimp only at H
   obtain ⟨t194, A18, H⟩ := bindE H
   try dsimp only at H
   have c19 := ifN H
   replace H := ifT H
   subst c19
   obtain ⟨t195, A20, H⟩ := bindE H
   try dsimp only at H
   obtain ⟨t198, A21, H⟩ := bindE H
   try dsimp only at H
   have c22 := ifN H
   replace H := ifT H
   subst c22
   obtain rfl := Option.some.inj H
   go_enter Try.func5, Try.ntmps5
   go_wp2_with (first | ((with_reducible refine gate_callee (f := 24) rfl ?_); refine gL (some 12) Try.func24 #[.slice A0 l0.length c0, .int .i64 1048576] ?_; (with_reducible refine (laws_szPartS.calls k _ _ l0 1048576 t175 _ ?side1 ?side2 A3.out).mono ?_); (case side1 => exact cO HR0); (case side2 => exact HC0.out); rintro e w23 ⟨rfl, hb⟩; refine ⟨_, rfl, ?_⟩; replace HB := Aside0.mk (below_step bA hb); (try clear hb); (try clear hb2); (try clear hk); (try clear hi)) | ((with_reducible refine gate_callee (f := 24) rfl ?_); refine gL (some 17) Try.func24 #[.slice A1 l1.length c1, .int .i64 t175] ?_; (with_reducible refine (laws_szPartS.calls k _ _ l1 t175 t176 _ ?side1 ?side2 A6.out).mono ?_); (case side1 => exact cB HR1); (case side2 => exact HC1.out); rintro e w24 ⟨rfl, hb⟩; refine ⟨_, rfl, ?_⟩; replace HB := Aside0.mk (below_step bA hb); (try clear hb); (try clear hb2); (try clear hk); (try clear hi)) | ((with_reducible refine gate_callee (f := 26) rfl ?_); refine gL (some 21) Try.func26 #[.slice A0 l0.length c0] ?_; (with_reducible refine (laws_toPartS.calls k _ _ l0 t177 _ ?side1 ?side2 A10.out).mono ?_); (case side1 => exact cB HR0); (case side2 => exact HC0.out); rintro e w25 ⟨v178, rfl, ho0, hb⟩; refine ⟨_, rfl, ?_⟩; have HO179 := Aside0.mk (Kd.S_lower ho0 (below_size bA)); replace HB := Aside0.mk (below_step bA hb); (try clear hb); (try clear hb2); (try clear hk); (try clear hi); (try clear ho0)) | ((with_reducible refine gate_callee (f := 26) rfl ?_); refine gL (some 23) Try.func26 #[.slice A1 l1.length c1] ?_; (with_reducible refine (laws_toPartS.calls k _ _ l1 t180 _ ?side1 ?side2 A11.out).mono ?_); (case side1 => exact cB HR1); (case side2 => exact HC1.out); rintro e w26 ⟨v181, rfl, ho0, hb⟩; refine ⟨_, rfl, ?_⟩; have HO182 := Aside0.mk (Kd.S_lower (Kd.S_new' ho0 (Kd.S_lt (sK HO179))) (below_size bA)); replace HO179 := Aside0.mk (Kd.S_elder' (sK HO179) (Kd.S_base ho0) hb); replace HB := Aside0.mk (below_step bA hb); (try clear hb); (try clear hb2); (try clear hk); (try clear hi); (try clear ho0); obtain ⟨Ao27, co27, eo27⟩ := Kd.S_slice HO179.out; subst eo27; obtain ⟨Ao28, co28, eo28⟩ := Kd.S_slice HO182.out; subst eo28) | ((with_reducible refine gate_callee (f := 29) rfl ?_); refine gL (some 24) Try.func29 #[.slice Ao27 t177.length co27, .slice Ao28 t180.length co28] ?_; (with_reducible refine (spec_SameStages.calls k _ _ t177 _ _ t180 t183 _ ?side1 ?side2 ?side3 ?side4 A12.out).mono ?_); (case side1 => repeat (first | exact (Kd.S_reads' HO179.out).2.2 | (with_reducible refine Kd.C_alloc ?_ _) | (with_reducible refine Kd.C_drewN ?_ _) | (with_reducible refine Kd.C_drew ?_))); (case side2 => exact (Kd.S_reads' HO179.out).2.1); (case side3 => repeat (first | exact (Kd.S_reads' HO182.out).2.2 | (with_reducible refine Kd.C_alloc ?_ _) | (with_reducible refine Kd.C_drewN ?_ _) | (with_reducible refine Kd.C_drew ?_))); (case side4 => exact (Kd.S_reads' HO182.out).2.1); rintro e w' ⟨rfl, ⟨nd, rfl⟩⟩; refine ⟨_, rfl, ?_⟩) | ((with_reducible refine gate_callee (f := 26) rfl ?_); refine gL (some 26) Try.func26 #[.slice A0 l0.length c0] ?_; (with_reducible refine (laws_toPartS.calls k _ _ l0 t184 _ ?side1 ?side2 A13.out).mono ?_); (case side1 => exact cG HR0); (case side2 => exact HC0.out); rintro e w29 ⟨v185, rfl, ho0, hb⟩; refine ⟨_, rfl, ?_⟩; have HO186 := Aside0.mk (Kd.S_lower (Kd.S_new' (Kd.S_new' ho0 (Kd.S_lt (sK HO179))) (Kd.S_lt (sK HO182))) (below_size bA)); replace HO179 := Aside0.mk (Kd.S_elder' (sK HO179) (Kd.S_base ho0) hb); replace HO182 := Aside0.mk (Kd.S_elder' (sK HO182) (Kd.S_base ho0) hb); replace HB := Aside0.mk (below_step bA hb); (try clear hb); (try clear hb2); (try clear hk); (try clear hi); (try clear ho0)) | ((with_reducible refine gate_callee (f := 26) rfl ?_); refine gL (some 28) Try.func26 #[.slice A1 l1.length c1] ?_; (with_reducible refine (laws_toPartS.calls k _ _ l1 t187 _ ?side1 ?side2 A14.out).mono ?_); (case side1 => exact cB HR1); (case side2 => exact HC1.out); rintro e w30 ⟨v188, rfl, ho0, hb⟩; refine ⟨_, rfl, ?_⟩; have HO189 := Aside0.mk (Kd.S_lower (Kd.S_new' (Kd.S_new' (Kd.S_new' ho0 (Kd.S_lt (sK HO179))) (Kd.S_lt (sK HO182))) (Kd.S_lt (sK HO186))) (below_size bA)); replace HO179 := Aside0.mk (Kd.S_elder' (sK HO179) (Kd.S_base ho0) hb); replace HO182 := Aside0.mk (Kd.S_elder' (sK HO182) (Kd.S_base ho0) hb); replace HO186 := Aside0.mk (Kd.S_elder' (sK HO186) (Kd.S_base ho0) hb); replace HB := Aside0.mk (below_step bA hb); (try clear hb); (try clear hb2); (try clear hk); (try clear hi); (try clear ho0); obtain ⟨Ao31, co31, eo31⟩ := Kd.S_slice HO186.out; subst eo31; obtain ⟨Ao32, co32, eo32⟩ := Kd.S_slice HO189.out; subst eo32) | ((with_reducible refine gate_callee (f := 30) rfl ?_); refine gL (some 31) Try.func30 #[.slice Ao31 t184.length co31, .slice Ao32 t187.length co32] ?_; (with_reducible refine (impl_SameStages.calls k _ _ t184 _ _ t187 t190 _ ?side1 ?side2 ?side3 ?side4 A15.out).mono ?_); (case side1 => repeat (first | exact (Kd.S_reads' HO186.out).2.2 | (with_reducible refine Kd.C_alloc ?_ _) | (with_reducible refine Kd.C_drewN ?_ _) | (with_reducible refine Kd.C_drew ?_))); (case side2 => exact (Kd.S_reads' HO186.out).2.1); (case side3 => repeat (first | exact (Kd.S_reads' HO189.out).2.2 | (with_reducible refine Kd.C_alloc ?_ _) | (with_reducible refine Kd.C_drewN ?_ _) | (with_reducible refine Kd.C_drew ?_))); (case side4 => exact (Kd.S_reads' HO189.out).2.1); rintro e w33 ⟨rfl, hb⟩; refine ⟨_, rfl, ?_⟩; replace HO179 := Aside0.mk (Kd.S_below (sK HO179) hb); replace HO182 := Aside0.mk (Kd.S_below (sK HO182) hb); replace HO186 := Aside0.mk (Kd.S_below (sK HO186) hb); replace HO189 := Aside0.mk (Kd.S_below (sK HO189) hb); replace HB := Aside0.mk (below_step bA hb); (try clear hb); (try clear hb2); (try clear hk); (try clear hi)) | ((with_reducible refine gate_callee (f := 26) rfl ?_); refine gL (some 37) Try.func26 #[.slice A0 l0.length c0] ?_; (with_reducible refine (laws_toPartS.calls k _ _ l0 t191 _ ?side1 ?side2 A17.out).mono ?_); (case side1 => exact cB HR0); (case side2 => exact HC0.out); rintro e w34 ⟨v192, rfl, ho0, hb⟩; refine ⟨_, rfl, ?_⟩; have HO193 := Aside0.mk (Kd.S_lower (Kd.S_new' (Kd.S_new' (Kd.S_new' (Kd.S_new' ho0 (Kd.S_lt (sK HO179))) (Kd.S_lt (sK HO182))) (Kd.S_lt (sK HO186))) (Kd.S_lt (sK HO189))) (below_size bA)); replace HO179 := Aside0.mk (Kd.S_elder' (sK HO179) (Kd.S_base ho0) hb); replace HO182 := Aside0.mk (Kd.S_elder' (sK HO182) (Kd.S_base ho0) hb); replace HO186 := Aside0.mk (Kd.S_elder' (sK HO186) (Kd.S_base ho0) hb); replace HO189 := Aside0.mk (Kd.S_elder' (sK HO189) (Kd.S_base ho0) hb); replace HB := Aside0.mk (below_step bA hb); (try clear hb); (try clear hb2); (try clear hk); (try clear hi); (try clear ho0); obtain ⟨Ao35, co35, eo35⟩ := Kd.S_slice HO193.out; subst eo35) | ((with_reducible refine gate_callee (f := 28) rfl ?_); refine gL (some 38) Try.func28 #[.slice Ao31 t184.length co31, .slice Ao35 t191.length co35] ?_; (with_reducible refine (laws_eqPartS.calls k _ _ t184 _ _ t191 true _ ?side1 ?side2 ?side3 ?side4 A18.out).mono ?_); (case side1 => repeat (first | exact (Kd.S_reads' HO186.out).2.2 | (with_reducible refine Kd.C_alloc ?_ _) | (with_reducible refine Kd.C_drewN ?_ _) | (with_reducible refine Kd.C_drew ?_))); (case side2 => exact (Kd.S_reads' HO186.out).2.1); (case side3 => repeat (first | exact (Kd.S_reads' HO193.out).2.2 | (with_reducible refine Kd.C_alloc ?_ _) | (with_reducible refine Kd.C_drewN ?_ _) | (with_reducible refine Kd.C_drew ?_))); (case side4 => exact (Kd.S_reads' HO193.out).2.1); rintro e w36 ⟨rfl, hb⟩; refine ⟨_, rfl, ?_⟩; replace HO179 := Aside0.mk (Kd.S_below (sK HO179) hb); replace HO182 := Aside0.mk (Kd.S_below (sK HO182) hb); replace HO186 := Aside0.mk (Kd.S_below (sK HO186) hb); replace HO189 := Aside0.mk (Kd.S_below (sK HO189) hb); replace HO193 := Aside0.mk (Kd.S_below (sK HO193) hb); replace HB := Aside0.mk (below_step bA hb); (try clear hb); (try clear hb2); (try clear hk); (try clear hi)) | ((with_reducible refine gate_callee (f := 26) rfl ?_); refine gL (some 42) Try.func26 #[.slice A1 l1.length c1] ?_; (with_reducible refine (laws_toPartS.calls k _ _ l1 t195 _ ?side1 ?side2 A20.out).mono ?_); (case side1 => exact cB HR1); (case side2 => exact HC1.out); rintro e w37 ⟨v196, rfl, ho0, hb⟩; refine ⟨_, rfl, ?_⟩; have HO197 := Aside0.mk (Kd.S_lower (Kd.S_new' (Kd.S_new' (Kd.S_new' (Kd.S_new' (Kd.S_new' ho0 (Kd.S_lt (sK HO179))) (Kd.S_lt (sK HO182))) (Kd.S_lt (sK HO186))) (Kd.S_lt (sK HO189))) (Kd.S_lt (sK HO193))) (below_size bA)); replace HO179 := Aside0.mk (Kd.S_elder' (sK HO179) (Kd.S_base ho0) hb); replace HO182 := Aside0.mk (Kd.S_elder' (sK HO182) (Kd.S_base ho0) hb); replace HO186 := Aside0.mk (Kd.S_elder' (sK HO186) (Kd.S_base ho0) hb); replace HO189 := Aside0.mk (Kd.S_elder' (sK HO189) (Kd.S_base ho0) hb); replace HO193 := Aside0.mk (Kd.S_elder' (sK HO193) (Kd.S_base ho0) hb); replace HB := Aside0.mk (below_step bA hb); (try clear hb); (try clear hb2); (try clear hk); (try clear hi); (try clear ho0); obtain ⟨Ao38, co38, eo38⟩ := Kd.S_slice HO197.out; subst eo38) | ((with_reducible refine gate_callee (f := 28) rfl ?_); refine gL (some 43) Try.func28 #[.slice Ao32 t187.length co32, .slice Ao38 t195.length co38] ?_; (with_reducible refine (laws_eqPartS.calls k _ _ t187 _ _ t195 true _ ?side1 ?side2 ?side3 ?side4 A21.out).mono ?_); (case side1 => repeat (first | exact (Kd.S_reads' HO189.out).2.2 | (with_reducible refine Kd.C_alloc ?_ _) | (with_reducible refine Kd.C_drewN ?_ _) | (with_reducible refine Kd.C_drew ?_))); (case side2 => exact (Kd.S_reads' HO189.out).2.1); (case side3 => repeat (first | exact (Kd.S_reads' HO197.out).2.2 | (with_reducible refine Kd.C_alloc ?_ _) | (with_reducible refine Kd.C_drewN ?_ _) | (with_reducible refine Kd.C_drew ?_))); (case side4 => exact (Kd.S_reads' HO197.out).2.1); rintro e w39 ⟨rfl, hb⟩; refine ⟨_, rfl, ?_⟩; replace HO179 := Aside0.mk (Kd.S_below (sK HO179) hb); replace HO182 := Aside0.mk (Kd.S_below (sK HO182) hb); replace HO186 := Aside0.mk (Kd.S_below (sK HO186) hb); replace HO189 := Aside0.mk (Kd.S_below (sK HO189) hb); replace HO193 := Aside0.mk (Kd.S_below (sK HO193) hb); replace HO197 := Aside0.mk (Kd.S_below (sK HO197) hb); replace HB := Aside0.mk (below_step bA hb); (try clear hb); (try clear hb2); (try clear hk); (try clear hi)))
   go_ret
   exact ⟨rA, bA⟩

end Go.Proofs.Ytimmadeghcghoaa.P
