/- Printed by myprint.py (wip/tools) over the kit's print: what Go's functions compute, and that they do. Lean checks it. -/
import Derived.Test.YtdkmmefmhfbgkaaF0
namespace Go.Proofs.Ytdkmmefmhfbgkaa.P
open Go.RowKit Go.Proofs.YtdkmmefmhfbgkaaW.PrintWords Go.Proofs.YtdkmmefmhfbgkaaW.PrintLast Go.Proofs.YtdkmmefmhfbgkaaW.PrintMore Go.Proofs.Ytdkmmefmhfbgkaa.Sq
attribute [local go_sem] max2_int min2_int max_two min_two max_three min_three max_four min_four
set_option linter.unusedVariables false
set_option linter.unusedSimpArgs false

/-! ### laws_szPathS: function 11 -/
def laws_szPathS.f (l0 : List (S91)) (a1 : Int) : Option (Int) := if (wrap64 (a1 - (l0.length : Int))) < 0 then (some (-1)) else (some (wrap64 (a1 - (l0.length : Int))))
set_option maxHeartbeats 8000000 in
set_option maxRecDepth 100000 in
theorem laws_szPathS.calls (A0 : Option Addr) (c0 : Nat) (l0 : List (S91)) (a1 : Int) (r : Int) (w : World) (hr0 : Kd.C k91 w A0 l0.length l0) (hc0 : l0.length ≤ c0) (h : laws_szPathS.f l0 a1 = some r) :
  Calls Try.prog 11 #[.slice A0 l0.length c0, .int .i64 a1] w fun e w' => e = .returned (.int .i64 r) ∧ Drawn0 w w' := by
 have HR0 := Aside0.mk hr0
 have HC0 := Aside0.mk hc0
 clear hr0 hc0
 have H : (if (wrap64 (a1 - (l0.length : Int))) < 0 then (some (-1)) else (some (wrap64 (a1 - (l0.length : Int))))) = some r := h
 clear h
 by_cases c3 : (wrap64 (a1 - (l0.length : Int))) < 0
 ·
  rw [if_pos c3] at H
  have c3b0 := decide_eq_true c3
  clear c3
  obtain rfl := Option.some.inj H
  go_enter Try.func11, Try.ntmps11
  go_wp2
  go_ret
  exact ⟨by first | rfl | (simp; done) | (simp [*]; done), by repeat (first | exact Drawn0.refl _ | apply Drawn0.step)⟩
 ·
  rw [if_neg c3] at H
  have c3b0 := decide_eq_false c3
  clear c3
  obtain rfl := Option.some.inj H
  go_enter Try.func11, Try.ntmps11
  go_wp2
  go_ret
  exact ⟨by first | rfl | (simp; done) | (simp [*]; done), by repeat (first | exact Drawn0.refl _ | apply Drawn0.step)⟩

/-! ### laws_szIntS: function 79 -/
def laws_szIntS.f (l0 : List Int) (a1 : Int) : Option (Int) := if (wrap64 (a1 - (l0.length : Int))) < 0 then (some (-1)) else (some (wrap64 (a1 - (l0.length : Int))))
set_option maxHeartbeats 8000000 in
set_option maxRecDepth 100000 in
theorem laws_szIntS.calls (A0 : Option Addr) (c0 : Nat) (l0 : List Int) (a1 : Int) (r : Int) (w : World) (hr0 : Kd.C (Kd.int .i64) w A0 l0.length l0) (hc0 : l0.length ≤ c0) (h : laws_szIntS.f l0 a1 = some r) :
  Calls Try.prog 79 #[.slice A0 l0.length c0, .int .i64 a1] w fun e w' => e = .returned (.int .i64 r) ∧ Drawn0 w w' := by
 have HR0 := Aside0.mk hr0
 have HC0 := Aside0.mk hc0
 clear hr0 hc0
 have H : (if (wrap64 (a1 - (l0.length : Int))) < 0 then (some (-1)) else (some (wrap64 (a1 - (l0.length : Int))))) = some r := h
 clear h
 by_cases c3 : (wrap64 (a1 - (l0.length : Int))) < 0
 ·
  rw [if_pos c3] at H
  have c3b0 := decide_eq_true c3
  clear c3
  obtain rfl := Option.some.inj H
  go_enter Try.func79, Try.ntmps79
  go_wp2
  go_ret
  exact ⟨by first | rfl | (simp; done) | (simp [*]; done), by repeat (first | exact Drawn0.refl _ | apply Drawn0.step)⟩
 ·
  rw [if_neg c3] at H
  have c3b0 := decide_eq_false c3
  clear c3
  obtain rfl := Option.some.inj H
  go_enter Try.func79, Try.ntmps79
  go_wp2
  go_ret
  exact ⟨by first | rfl | (simp; done) | (simp [*]; done), by repeat (first | exact Drawn0.refl _ | apply Drawn0.step)⟩

/-! ### laws_szPart: function 60 -/
def laws_szPart.f (l0_0 : List Int) (a0_1 : Int) (a1 : Int) : Option (Int) := (laws_szIntS.f l0_0 a1).bind fun t102 => (if t102 < 0 then (some (-1)) else (some t102))
set_option maxHeartbeats 8000000 in
set_option maxRecDepth 100000 in
theorem laws_szPart.calls (A0_0 : Option Addr) (c0_0 : Nat) (l0_0 : List Int) (a0_1 : Int) (a1 : Int) (r : Int) (w : World) (hr0_0 : Kd.C (Kd.int .i64) w A0_0 l0_0.length l0_0) (hc0_0 : l0_0.length ≤ c0_0) (h : laws_szPart.f l0_0 a0_1 a1 = some r) :
  Calls Try.prog 60 #[.agg #[.slice A0_0 l0_0.length c0_0, .int .i64 a0_1], .int .i64 a1] w fun e w' => e = .returned (.int .i64 r) ∧ Below w.heap.size w w' := by
 have hu85 := Try.underlying85
 have HR0_0 := Aside0.mk hr0_0
 have HC0_0 := Aside0.mk hc0_0
 clear hr0_0 hc0_0
 have HB := Aside0.mk (Below.refl w.heap.size w)
 have H : ((laws_szIntS.f l0_0 a1).bind fun t102 => (if t102 < 0 then (some (-1)) else (some t102))) = some r := h
 clear h
 obtain ⟨t102, A3, H⟩ := bindE H
 try dsimp only at H
 by_cases c4 : t102 < 0
 ·
  rw [if_pos c4] at H
  have c4b0 := decide_eq_true c4
  clear c4
  obtain rfl := Option.some.inj H
  go_enter Try.func60, Try.ntmps60
  go_wp2_with (first | ((with_reducible refine gate_dst (N := 2) rfl ?_); refine bE (N := 2) (cs := #[.slice A0_0 l0_0.length c0_0, .int .i64 a0_1]) (t := 85) ?_; intro gb101 hg w5 hbox hb; have n0_ := Aside0.mk (below_step bA hb); have n1_ := Aside0.mk (hbox); have n2_ := Aside0.mk ((by rw [hg]; exact (below_size bA) : w.heap.size ≤ gb101)); have n3_ := Aside0.mk ((by rw [hg]; exact (below_size bA) : w.heap.size ≤ gb101)); clear HB; have HB := n0_; have BK101 := n1_; have GW101 := n2_; have GE101 := n3_; clear n0_ n1_ n2_ n3_; clear hb hbox hg; have hcz6_0 : w5.cell? ⟨gb101, 0, none⟩ = some (.slice A0_0 l0_0.length c0_0) := bC BK101 0; have hcz6_1 : w5.cell? ⟨gb101, 1, none⟩ = some (.int .i64 a0_1) := bC BK101 1; have hfz6_0 := blk_frozen BK101.out 0; have hfz6_1 := blk_frozen BK101.out 1) | ((with_reducible refine gate_callee (f := 79) rfl ?_); refine gL (some 8) Try.func79 #[.slice A0_0 l0_0.length c0_0, .int .i64 a1] ?_; (with_reducible refine (laws_szIntS.calls _ _ l0_0 a1 t102 _ ?side1 ?side2 A3.out).mono ?_); (case side1 => exact cB HR0_0); (case side2 => exact HC0_0.out); rintro e w' ⟨rfl, ⟨nd, rfl⟩⟩; refine ⟨_, rfl, ?_⟩))
  go_ret
  exact ⟨rA, bG⟩
 ·
  rw [if_neg c4] at H
  have c4b0 := decide_eq_false c4
  clear c4
  obtain rfl := Option.some.inj H
  go_enter Try.func60, Try.ntmps60
  go_wp2_with (first | ((with_reducible refine gate_dst (N := 2) rfl ?_); refine bE (N := 2) (cs := #[.slice A0_0 l0_0.length c0_0, .int .i64 a0_1]) (t := 85) ?_; intro gb101 hg w7 hbox hb; have n0_ := Aside0.mk (below_step bA hb); have n1_ := Aside0.mk (hbox); have n2_ := Aside0.mk ((by rw [hg]; exact (below_size bA) : w.heap.size ≤ gb101)); have n3_ := Aside0.mk ((by rw [hg]; exact (below_size bA) : w.heap.size ≤ gb101)); clear HB; have HB := n0_; have BK101 := n1_; have GW101 := n2_; have GE101 := n3_; clear n0_ n1_ n2_ n3_; clear hb hbox hg; have hcz8_0 : w7.cell? ⟨gb101, 0, none⟩ = some (.slice A0_0 l0_0.length c0_0) := bC BK101 0; have hcz8_1 : w7.cell? ⟨gb101, 1, none⟩ = some (.int .i64 a0_1) := bC BK101 1; have hfz8_0 := blk_frozen BK101.out 0; have hfz8_1 := blk_frozen BK101.out 1) | ((with_reducible refine gate_callee (f := 79) rfl ?_); refine gL (some 8) Try.func79 #[.slice A0_0 l0_0.length c0_0, .int .i64 a1] ?_; (with_reducible refine (laws_szIntS.calls _ _ l0_0 a1 t102 _ ?side1 ?side2 A3.out).mono ?_); (case side1 => exact cB HR0_0); (case side2 => exact HC0_0.out); rintro e w' ⟨rfl, ⟨nd, rfl⟩⟩; refine ⟨_, rfl, ?_⟩))
  go_ret
  exact ⟨rA, bG⟩

/-! ### laws_szPartS: function 12 -/
def laws_szPartS.l0 : Nat → List (S85) → Int → Int → Option (Int)
 | 0, _, _, _ => none
 | k + 1, x0, x1, x5 => if x5 < (x0.length : Int) then (if 0 ≤ x5 then ((laws_szPart.f ((rd_T85 x0 x5).f0) ((rd_T85 x0 x5).f1) x1).bind fun t104 => (if t104 < 0 then (some (-1)) else (laws_szPartS.l0 k x0 t104 (wrap64 (x5 + 1))))) else (none)) else (some x1)
def laws_szPartS.f (k : Nat) (l0 : List (S85)) (a1 : Int) : Option (Int) := if (wrap64 (a1 - (l0.length : Int))) < 0 then (some (-1)) else (laws_szPartS.l0 k l0 (wrap64 (a1 - (l0.length : Int))) 0)
theorem laws_szPartS.mono_l : ∀ k, (∀ y0 y1 y2, LeO (laws_szPartS.l0 k y0 y1 y2) (laws_szPartS.l0 (k + 1) y0 y1 y2))
 | 0 => fun _ _ _ r h => by simp [laws_szPartS.l0] at h
 | k + 1 => by
  have ih0 := laws_szPartS.mono_l k
  ·
   intro y0 y1 y2
   unfold laws_szPartS.l0
   repeat' first | (with_reducible first | exact LeO.refl _ | exact LeO.none _ | refine LeO.ite ?_ ?_ | refine LeO.bind ?_ (fun _ => ?_) | exact ih0 _ _ _)
theorem laws_szPartS.mono : ∀ a0 a1 k, LeO (laws_szPartS.f k a0 a1) (laws_szPartS.f (k + 1) a0 a1) := by
 intro a0 a1 k
 have ih0 := laws_szPartS.mono_l k
 unfold laws_szPartS.f
 repeat' first | (with_reducible first | exact LeO.refl _ | exact LeO.none _ | refine LeO.ite ?_ ?_ | refine LeO.bind ?_ (fun _ => ?_) | exact ih0 _ _ _)
set_option maxHeartbeats 8000000 in
set_option maxRecDepth 100000 in
theorem laws_szPartS.calls (k : Nat) (A0 : Option Addr) (c0 : Nat) (l0 : List (S85)) (a1 : Int) (r : Int) (w : World) (hr0 : Kd.C k85 w A0 l0.length l0) (hc0 : l0.length ≤ c0) (h : laws_szPartS.f k l0 a1 = some r) :
  Calls Try.prog 12 #[.slice A0 l0.length c0, .int .i64 a1] w fun e w' => e = .returned (.int .i64 r) ∧ Below w.heap.size w w' := by
 have hu85 := Try.underlying85
 have HR0 := Aside0.mk hr0
 have HC0 := Aside0.mk hc0
 clear hr0 hc0
 have HB := Aside0.mk (Below.refl w.heap.size w)
 have H : (if (wrap64 (a1 - (l0.length : Int))) < 0 then (some (-1)) else (laws_szPartS.l0 k l0 (wrap64 (a1 - (l0.length : Int))) 0)) = some r := h
 clear h
 by_cases c3 : (wrap64 (a1 - (l0.length : Int))) < 0
 ·
  rw [if_pos c3] at H
  have c3b0 := decide_eq_true c3
  clear c3
  obtain rfl := Option.some.inj H
  go_enter Try.func12, Try.ntmps12
  go_wp2
  go_ret
  exact ⟨rA, bA⟩
 ·
  rw [if_neg c3] at H
  have c3b0 := decide_eq_false c3
  clear c3
  have H' := Aside0.mk H
  clear H
  go_enter Try.func12, Try.ntmps12
  go_wp2
  go_loopg [1, 5] k (fun kq v1 v5 w' => ∃ (x1_1 : Int) (x5_1 : Int), v1 = .int .i64 x1_1 ∧ v5 = .int .i64 x5_1 ∧ Aside0 (laws_szPartS.l0 kq l0 x1_1 x5_1 = some r) ∧ Aside0 (kq ≤ k) ∧ Aside0 (Below w.heap.size w w'))
  case atStart => exact ⟨(wrap64 (a1 - (l0.length : Int))), (0), rS, rS, H', ⟨Nat.le_refl _⟩, ⟨bA⟩⟩
  case round =>
   clear H'
   try clear c1
   try clear p2
   try clear c3
   try clear c3b0
   obtain ⟨x1_1, x5_1, rfl, rfl, HA, HK1, HB⟩ := hrel
   cases gk with
   | zero => exact absurd HA.out (by simp [laws_szPartS.l0])
   | succ k1 =>
    have H := HA.out
    clear HA
    simp only [laws_szPartS.l0] at H
    by_cases c4 : x5_1 < (l0.length : Int)
    ·
     rw [if_pos c4] at H
     have c4b0 := decide_eq_true c4
     clear c4
     have c5 : 0 ≤ x5_1 := ifN H
     replace H := ifT H
     have c5b0 := decide_eq_true c5
     clear c5
     obtain ⟨t104, A6, H⟩ := bindE H
     try dsimp only at H
     by_cases c7 : t104 < 0
     ·
      rw [if_pos c7] at H
      have c7b0 := decide_eq_true c7
      clear c7
      obtain rfl := Option.some.inj H
      have p103 : 0 ≤ (x5_1 : Int) := dA
      have q103 : x5_1 < (l0.length : Int) := dA
      obtain ⟨ad103, A103_0, c103_0, e103, hx103_0, hx103_1, hl103_0, hi103_0⟩ := at_T85 HR0.out x5_1 p103 q103
      cases e103
      replace hx103_0 := hC HB hx103_0
      replace hx103_1 := hC HB hx103_1
      have HR103_0 := Aside0.mk hi103_0
      have HC103_0 := Aside0.mk hl103_0
      clear hi103_0 hl103_0
      replace p103 := eq_true p103
      replace q103 := eq_true q103
      go_wp2_with (first | ((with_reducible refine gate_callee (f := 60) rfl ?_); refine gL (some 23) Try.func60 #[.agg #[.slice A103_0 ((rd_T85 l0 x5_1).f0).length c103_0, .int .i64 ((rd_T85 l0 x5_1).f1)], .int .i64 x1_1] ?_; (with_reducible refine (laws_szPart.calls _ _ ((rd_T85 l0 x5_1).f0) ((rd_T85 l0 x5_1).f1) x1_1 t104 _ ?side1 ?side2 A6.out).mono ?_); (case side1 => exact cB HR103_0); (case side2 => exact HC103_0.out); rintro e w8 ⟨rfl, hb⟩; refine ⟨_, rfl, ?_⟩; replace HB := Aside0.mk (below_step bA hb); (try clear hb)))
      go_ret
      exact ⟨rA, bA⟩
     ·
      rw [if_neg c7] at H
      have c7b0 := decide_eq_false c7
      clear c7
      have H' := Aside0.mk H
      clear H
      have p103 : 0 ≤ (x5_1 : Int) := dA
      have q103 : x5_1 < (l0.length : Int) := dA
      obtain ⟨ad103, A103_0, c103_0, e103, hx103_0, hx103_1, hl103_0, hi103_0⟩ := at_T85 HR0.out x5_1 p103 q103
      cases e103
      replace hx103_0 := hC HB hx103_0
      replace hx103_1 := hC HB hx103_1
      have HR103_0 := Aside0.mk hi103_0
      have HC103_0 := Aside0.mk hl103_0
      clear hi103_0 hl103_0
      replace p103 := eq_true p103
      replace q103 := eq_true q103
      go_wp2_with (first | ((with_reducible refine gate_callee (f := 60) rfl ?_); refine gL (some 23) Try.func60 #[.agg #[.slice A103_0 ((rd_T85 l0 x5_1).f0).length c103_0, .int .i64 ((rd_T85 l0 x5_1).f1)], .int .i64 x1_1] ?_; (with_reducible refine (laws_szPart.calls _ _ ((rd_T85 l0 x5_1).f0) ((rd_T85 l0 x5_1).f1) x1_1 t104 _ ?side1 ?side2 A6.out).mono ?_); (case side1 => exact cB HR103_0); (case side2 => exact HC103_0.out); rintro e w9 ⟨rfl, hb⟩; refine ⟨_, rfl, ?_⟩; replace HB := Aside0.mk (below_step bA hb); (try clear hb)))
      go_roundg k1
      case measure => have := HK1.out; omega
      case rel => exact ⟨(t104), (wrap64 (x5_1 + 1)), rS, rS, H', ⟨by have := HK1.out; omega⟩, ⟨bA⟩⟩
    ·
     rw [if_neg c4] at H
     have c4b0 := decide_eq_false c4
     clear c4
     obtain rfl := Option.some.inj H
     go_wp2
     go_ret
     exact ⟨rA, bA⟩

/-! ### spec_l1In: function 62 -/
def spec_l1In.f (a0 : Int) (a1 : Int) (a2 : Int) : Option (Bool) := if a0 ≥ a1 then (some (decide (a0 ≤ a2))) else (some false)
set_option maxHeartbeats 8000000 in
set_option maxRecDepth 100000 in
theorem spec_l1In.calls (a0 : Int) (a1 : Int) (a2 : Int) (r : Bool) (w : World) (h : spec_l1In.f a0 a1 a2 = some r) :
  Calls Try.prog 62 #[.int .i64 a0, .int .i64 a1, .int .i64 a2] w fun e w' => e = .returned (.bool r) ∧ Drawn0 w w' := by
 have H : (if a0 ≥ a1 then (some (decide (a0 ≤ a2))) else (some false)) = some r := h
 clear h
 by_cases c4 : a0 ≥ a1
 ·
  rw [if_pos c4] at H
  have c4b0 := decide_eq_true c4
  clear c4
  obtain rfl := Option.some.inj H
  go_enter Try.func62, Try.ntmps62
  go_wp2
  go_ret
  exact ⟨by first | rfl | (simp; done) | (simp [*]; done), by repeat (first | exact Drawn0.refl _ | apply Drawn0.step)⟩
 ·
  rw [if_neg c4] at H
  have c4b0 := decide_eq_false c4
  clear c4
  obtain rfl := Option.some.inj H
  go_enter Try.func62, Try.ntmps62
  go_wp2
  go_ret
  exact ⟨by first | rfl | (simp; done) | (simp [*]; done), by repeat (first | exact Drawn0.refl _ | apply Drawn0.step)⟩

/-! ### spec_FindPath: function 116 -/
def spec_FindPath.l0 : Nat → List (S89) → Int → Int → Option (Int)
 | 0, _, _, _ => none
 | k + 1, x0, x1, x5 => if x5 < (x0.length : Int) then (if 0 ≤ x5 then (if ((rd_T89 x0 x5).f0) = x1 then (some x5) else (spec_FindPath.l0 k x0 x1 (wrap64 (x5 + 1)))) else (none)) else (some (-1))
def spec_FindPath.f (k : Nat) (l0 : List (S89)) (a1 : Int) : Option (Int) := spec_FindPath.l0 k l0 a1 0
theorem spec_FindPath.mono_l : ∀ k, (∀ y0 y1 y2, LeO (spec_FindPath.l0 k y0 y1 y2) (spec_FindPath.l0 (k + 1) y0 y1 y2))
 | 0 => fun _ _ _ r h => by simp [spec_FindPath.l0] at h
 | k + 1 => by
  have ih0 := spec_FindPath.mono_l k
  ·
   intro y0 y1 y2
   unfold spec_FindPath.l0
   repeat' first | (with_reducible first | exact LeO.refl _ | exact LeO.none _ | refine LeO.ite ?_ ?_ | refine LeO.bind ?_ (fun _ => ?_) | exact ih0 _ _ _)
theorem spec_FindPath.mono : ∀ a0 a1 k, LeO (spec_FindPath.f k a0 a1) (spec_FindPath.f (k + 1) a0 a1) := by
 intro a0 a1 k
 have ih0 := spec_FindPath.mono_l k
 unfold spec_FindPath.f
 repeat' first | (with_reducible first | exact LeO.refl _ | exact LeO.none _ | refine LeO.ite ?_ ?_ | refine LeO.bind ?_ (fun _ => ?_) | exact ih0 _ _ _)
set_option maxHeartbeats 8000000 in
set_option maxRecDepth 100000 in
theorem spec_FindPath.calls (k : Nat) (A0 : Option Addr) (c0 : Nat) (l0 : List (S89)) (a1 : Int) (r : Int) (w : World) (hr0 : Kd.C k89 w A0 l0.length l0) (hc0 : l0.length ≤ c0) (h : spec_FindPath.f k l0 a1 = some r) :
  Calls Try.prog 116 #[.slice A0 l0.length c0, .int .i64 a1] w fun e w' => e = .returned (.int .i64 r) ∧ Drawn0 w w' := by
 have HR0 := Aside0.mk hr0
 have HC0 := Aside0.mk hc0
 clear hr0 hc0
 have H : (spec_FindPath.l0 k l0 a1 0) = some r := h
 clear h
 have H' := Aside0.mk H
 clear H
 go_enter Try.func116, Try.ntmps116
 go_wp2
 go_loopg [5] k (fun kq v5 w' => ∃ (x5_1 : Int), v5 = .int .i64 x5_1 ∧ Aside0 (spec_FindPath.l0 kq l0 a1 x5_1 = some r) ∧ Aside0 (kq ≤ k) ∧ Drawn0 w w')
 case atStart => exact ⟨(0), rS, H', ⟨Nat.le_refl _⟩, by repeat (first | exact Drawn0.refl _ | apply Drawn0.step)⟩
 case round =>
  clear H'
  try clear c1
  try clear p2
  obtain ⟨x5_1, rfl, HA, HK1, ⟨m1, rfl⟩⟩ := hrel
  cases gk with
  | zero => exact absurd HA.out (by simp [spec_FindPath.l0])
  | succ k1 =>
   have H := HA.out
   clear HA
   simp only [spec_FindPath.l0] at H
   by_cases c3 : x5_1 < (l0.length : Int)
   ·
    rw [if_pos c3] at H
    have c3b0 := decide_eq_true c3
    clear c3
    have c4 : 0 ≤ x5_1 := ifN H
    replace H := ifT H
    have c4b0 := decide_eq_true c4
    clear c4
    by_cases c5 : ((rd_T89 l0 x5_1).f0) = a1
    ·
     rw [if_pos c5] at H
     have c5b0 : (((rd_T89 l0 x5_1).f0) == a1) = true := beq_iff_eq.mpr c5
     have c5b1 : (((rd_T89 l0 x5_1).f0) != a1) = false := bne_eq_false_iff_eq.mpr c5
     clear c5
     obtain rfl := Option.some.inj H
     have p105 : 0 ≤ (x5_1 : Int) := dA
     have q105 : x5_1 < (l0.length : Int) := dA
     obtain ⟨ad105, e105, hx105_0, hx105_1, hx105_2, hx105_3⟩ := at_T89 HR0.out x5_1 p105 q105
     cases e105
     replace p105 := eq_true p105
     replace q105 := eq_true q105
     go_wp2
     go_ret
     exact ⟨by first | rfl | (simp; done) | (simp [*]; done), by repeat (first | exact Drawn0.refl _ | apply Drawn0.step)⟩
    ·
     rw [if_neg c5] at H
     have c5b0 : (((rd_T89 l0 x5_1).f0) == a1) = false := beq_eq_false_iff_ne.mpr c5
     have c5b1 : (((rd_T89 l0 x5_1).f0) != a1) = true := bne_iff_ne.mpr c5
     have H' := Aside0.mk H
     clear H
     have p105 : 0 ≤ (x5_1 : Int) := dA
     have q105 : x5_1 < (l0.length : Int) := dA
     obtain ⟨ad105, e105, hx105_0, hx105_1, hx105_2, hx105_3⟩ := at_T89 HR0.out x5_1 p105 q105
     cases e105
     replace p105 := eq_true p105
     replace q105 := eq_true q105
     go_wp2
     go_roundg k1
     case measure => have := HK1.out; omega
     case rel => exact ⟨(wrap64 (x5_1 + 1)), rS, H', ⟨by have := HK1.out; omega⟩, by repeat (first | exact Drawn0.refl _ | apply Drawn0.step)⟩
   ·
    rw [if_neg c3] at H
    have c3b0 := decide_eq_false c3
    clear c3
    obtain rfl := Option.some.inj H
    go_wp2
    go_ret
    exact ⟨by first | rfl | (simp; done) | (simp [*]; done), by repeat (first | exact Drawn0.refl _ | apply Drawn0.step)⟩

/-! ### spec_LeastGreen: function 74 -/
def spec_LeastGreen.l0 : Nat → List (S89) → List Int → Int → Option (Int)
 | 0, _, _, _ => none
 | k + 1, x0, x1, x5 => if x5 < (x1.length : Int) then (if 0 ≤ x5 then ((spec_FindPath.f k x0 (rd x1 x5)).bind fun t107 => (if t107 ≥ 0 then (if 0 ≤ t107 then (if t107 < (x0.length : Int) then (if ((rd_T89 x0 t107).f1) = 2 then (some 7) else (spec_LeastGreen.l0 k x0 x1 (wrap64 (x5 + 1)))) else (none)) else (none)) else (spec_LeastGreen.l0 k x0 x1 (wrap64 (x5 + 1))))) else (none)) else (some 5)
def spec_LeastGreen.f (k : Nat) (l0 : List (S89)) (l1 : List Int) : Option (Int) := spec_LeastGreen.l0 k l0 l1 0
theorem spec_LeastGreen.mono_l : ∀ k, (∀ y0 y1 y2, LeO (spec_LeastGreen.l0 k y0 y1 y2) (spec_LeastGreen.l0 (k + 1) y0 y1 y2))
 | 0 => fun _ _ _ r h => by simp [spec_LeastGreen.l0] at h
 | k + 1 => by
  have ih0 := spec_LeastGreen.mono_l k
  ·
   intro y0 y1 y2
   unfold spec_LeastGreen.l0
   repeat' first | (with_reducible first | exact LeO.refl _ | exact LeO.none _ | refine LeO.ite ?_ ?_ | refine LeO.bind ?_ (fun _ => ?_) | exact ih0 _ _ _ | exact spec_FindPath.mono _ _ _)
theorem spec_LeastGreen.mono : ∀ a0 a1 k, LeO (spec_LeastGreen.f k a0 a1) (spec_LeastGreen.f (k + 1) a0 a1) := by
 intro a0 a1 k
 have ih0 := spec_LeastGreen.mono_l k
 unfold spec_LeastGreen.f
 repeat' first | (with_reducible first | exact LeO.refl _ | exact LeO.none _ | refine LeO.ite ?_ ?_ | refine LeO.bind ?_ (fun _ => ?_) | exact ih0 _ _ _ | exact spec_FindPath.mono _ _ _)
set_option maxHeartbeats 8000000 in
set_option maxRecDepth 100000 in
theorem spec_LeastGreen.calls (k : Nat) (A0 : Option Addr) (c0 : Nat) (l0 : List (S89)) (A1 : Option Addr) (c1 : Nat) (l1 : List Int) (r : Int) (w : World) (hr0 : Kd.C k89 w A0 l0.length l0) (hc0 : l0.length ≤ c0) (hr1 : Kd.C (Kd.int .i64) w A1 l1.length l1) (hc1 : l1.length ≤ c1) (h : spec_LeastGreen.f k l0 l1 = some r) :
  Calls Try.prog 74 #[.slice A0 l0.length c0, .slice A1 l1.length c1] w fun e w' => e = .returned (.int .i64 r) ∧ Drawn0 w w' := by
 have HR0 := Aside0.mk hr0
 have HC0 := Aside0.mk hc0
 clear hr0 hc0
 have HR1 := Aside0.mk hr1
 have HC1 := Aside0.mk hc1
 clear hr1 hc1
 have H : (spec_LeastGreen.l0 k l0 l1 0) = some r := h
 clear h
 have H' := Aside0.mk H
 clear H
 go_enter Try.func74, Try.ntmps74
 go_wp2
 go_loopg [5] k (fun kq v5 w' => ∃ (x5_1 : Int), v5 = .int .i64 x5_1 ∧ Aside0 (spec_LeastGreen.l0 kq l0 l1 x5_1 = some r) ∧ Aside0 (kq ≤ k) ∧ Drawn0 w w')
 case atStart => exact ⟨(0), rS, H', ⟨Nat.le_refl _⟩, by repeat (first | exact Drawn0.refl _ | apply Drawn0.step)⟩
 case round =>
  clear H'
  try clear c1
  try clear p2
  obtain ⟨x5_1, rfl, HA, HK1, ⟨m1, rfl⟩⟩ := hrel
  cases gk with
  | zero => exact absurd HA.out (by simp [spec_LeastGreen.l0])
  | succ k1 =>
   have H := HA.out
   clear HA
   simp only [spec_LeastGreen.l0] at H
   by_cases c3 : x5_1 < (l1.length : Int)
   ·
    rw [if_pos c3] at H
    have c3b0 := decide_eq_true c3
    clear c3
    have c4 : 0 ≤ x5_1 := ifN H
    replace H := ifT H
    have c4b0 := decide_eq_true c4
    clear c4
    obtain ⟨t107, A5, H⟩ := bindE H
    try dsimp only at H
    by_cases c6 : t107 ≥ 0
    ·
     rw [if_pos c6] at H
     have c6b0 := decide_eq_true c6
     clear c6
     have c7 : 0 ≤ t107 := ifN H
     replace H := ifT H
     have c7b0 := decide_eq_true c7
     clear c7
     have c8 : t107 < (l0.length : Int) := ifN H
     replace H := ifT H
     have c8b0 := decide_eq_true c8
     clear c8
     by_cases c9 : ((rd_T89 l0 t107).f1) = 2
     ·
      rw [if_pos c9] at H
      have c9b0 : (((rd_T89 l0 t107).f1) == 2) = true := beq_iff_eq.mpr c9
      have c9b1 : (((rd_T89 l0 t107).f1) != 2) = false := bne_eq_false_iff_eq.mpr c9
      clear c9
      obtain rfl := Option.some.inj H
      have p106 : 0 ≤ (x5_1 : Int) := dA
      have q106 : x5_1 < (l1.length : Int) := dA
      obtain ⟨ad106, e106, hx106_0⟩ := Kd.at_int HR1.out x5_1 p106 q106
      cases e106
      replace p106 := eq_true p106
      replace q106 := eq_true q106
      go_wp2_with (first | ((with_reducible refine gate_callee (f := 116) rfl ?_); refine gL (some 18) Try.func116 #[.slice A0 l0.length c0, .int .i64 (rd l1 x5_1)] ?_; (with_reducible refine (spec_FindPath.calls k1 _ _ l0 (rd l1 x5_1) t107 _ ?side1 ?side2 A5.out).mono ?_); (case side1 => exact cO HR0); (case side2 => exact HC0.out); rintro e w' ⟨rfl, ⟨nd, rfl⟩⟩; refine ⟨_, rfl, ?_⟩; have p108 : 0 ≤ (t107 : Int) := dA; have q108 : t107 < (l0.length : Int) := dA; obtain ⟨ad108, e108, hx108_0, hx108_1, hx108_2, hx108_3⟩ := at_T89 HR0.out t107 p108 q108; cases e108; replace p108 := eq_true p108; replace q108 := eq_true q108))
      go_ret
      exact ⟨by first | rfl | (simp; done) | (simp [*]; done), by repeat (first | exact Drawn0.refl _ | apply Drawn0.step)⟩
     ·
      rw [if_neg c9] at H
      have c9b0 : (((rd_T89 l0 t107).f1) == 2) = false := beq_eq_false_iff_ne.mpr c9
      have c9b1 : (((rd_T89 l0 t107).f1) != 2) = true := bne_iff_ne.mpr c9
      have H' := Aside0.mk H
      clear H
      have p106 : 0 ≤ (x5_1 : Int) := dA
      have q106 : x5_1 < (l1.length : Int) := dA
      obtain ⟨ad106, e106, hx106_0⟩ := Kd.at_int HR1.out x5_1 p106 q106
      cases e106
      replace p106 := eq_true p106
      replace q106 := eq_true q106
      go_wp2_with (first | ((with_reducible refine gate_callee (f := 116) rfl ?_); refine gL (some 18) Try.func116 #[.slice A0 l0.length c0, .int .i64 (rd l1 x5_1)] ?_; (with_reducible refine (spec_FindPath.calls k1 _ _ l0 (rd l1 x5_1) t107 _ ?side1 ?side2 A5.out).mono ?_); (case side1 => exact cO HR0); (case side2 => exact HC0.out); rintro e w' ⟨rfl, ⟨nd, rfl⟩⟩; refine ⟨_, rfl, ?_⟩; have p108 : 0 ≤ (t107 : Int) := dA; have q108 : t107 < (l0.length : Int) := dA; obtain ⟨ad108, e108, hx108_0, hx108_1, hx108_2, hx108_3⟩ := at_T89 HR0.out t107 p108 q108; cases e108; replace p108 := eq_true p108; replace q108 := eq_true q108))
      go_roundg k1
      case measure => have := HK1.out; omega
      case rel => exact ⟨(wrap64 (x5_1 + 1)), rS, H', ⟨by have := HK1.out; omega⟩, by repeat (first | exact Drawn0.refl _ | apply Drawn0.step)⟩
    ·
     rw [if_neg c6] at H
     have c6b0 := decide_eq_false c6
     clear c6
     have H' := Aside0.mk H
     clear H
     have p106 : 0 ≤ (x5_1 : Int) := dA
     have q106 : x5_1 < (l1.length : Int) := dA
     obtain ⟨ad106, e106, hx106_0⟩ := Kd.at_int HR1.out x5_1 p106 q106
     cases e106
     replace p106 := eq_true p106
     replace q106 := eq_true q106
     go_wp2_with (first | ((with_reducible refine gate_callee (f := 116) rfl ?_); refine gL (some 18) Try.func116 #[.slice A0 l0.length c0, .int .i64 (rd l1 x5_1)] ?_; (with_reducible refine (spec_FindPath.calls k1 _ _ l0 (rd l1 x5_1) t107 _ ?side1 ?side2 A5.out).mono ?_); (case side1 => exact cO HR0); (case side2 => exact HC0.out); rintro e w' ⟨rfl, ⟨nd, rfl⟩⟩; refine ⟨_, rfl, ?_⟩))
     go_roundg k1
     case measure => have := HK1.out; omega
     case rel => exact ⟨(wrap64 (x5_1 + 1)), rS, H', ⟨by have := HK1.out; omega⟩, by repeat (first | exact Drawn0.refl _ | apply Drawn0.step)⟩
   ·
    rw [if_neg c3] at H
    have c3b0 := decide_eq_false c3
    clear c3
    obtain rfl := Option.some.inj H
    go_wp2
    go_ret
    exact ⟨by first | rfl | (simp; done) | (simp [*]; done), by repeat (first | exact Drawn0.refl _ | apply Drawn0.step)⟩

/-! ### spec_IsPath: function 145 -/
def spec_IsPath.f (a0_0 : Int) (a0_1 : Int) (a0_2 : Int) (a0_3 : Int) : Option (Bool) := (spec_l1In.f a0_0 1 20).bind fun t110 => (if t110 = true then ((spec_l1In.f a0_1 1 3).bind fun t111 => (if t111 = true then ((spec_l1In.f a0_2 0 3).bind fun t112 => (if t112 = true then ((spec_l1In.f a0_3 0 3).bind fun t113 => (if t113 = true then (some ((a0_2 == a0_3) == (a0_1 == 2))) else (some false))) else (some false))) else (some false))) else (some false))
set_option maxHeartbeats 8000000 in
set_option maxRecDepth 100000 in
theorem spec_IsPath.calls (a0_0 : Int) (a0_1 : Int) (a0_2 : Int) (a0_3 : Int) (r : Bool) (w : World) (h : spec_IsPath.f a0_0 a0_1 a0_2 a0_3 = some r) :
  Calls Try.prog 145 #[.agg #[.int .i64 a0_0, .int .i64 a0_1, .int .i64 a0_2, .int .i64 a0_3]] w fun e w' => e = .returned (.bool r) ∧ Below w.heap.size w w' := by
 have hu89 := Try.underlying89
 have HB := Aside0.mk (Below.refl w.heap.size w)
 have H : ((spec_l1In.f a0_0 1 20).bind fun t110 => (if t110 = true then ((spec_l1In.f a0_1 1 3).bind fun t111 => (if t111 = true then ((spec_l1In.f a0_2 0 3).bind fun t112 => (if t112 = true then ((spec_l1In.f a0_3 0 3).bind fun t113 => (if t113 = true then (some ((a0_2 == a0_3) == (a0_1 == 2))) else (some false))) else (some false))) else (some false))) else (some false))) = some r := h
 clear h
 obtain ⟨t110, A2, H⟩ := bindE H
 try dsimp only at H
 by_cases c3 : t110 = true
 ·
  subst c3
  have H1 : ((spec_l1In.f a0_1 1 3).bind fun t111 => (if t111 = true then ((spec_l1In.f a0_2 0 3).bind fun t112 => (if t112 = true then ((spec_l1In.f a0_3 0 3).bind fun t113 => (if t113 = true then (some ((a0_2 == a0_3) == (a0_1 == 2))) else (some false))) else (some false))) else (some false))) = some r := by rw [if_pos rfl] at H; exact H
  clear H
  have H := H1
  clear H1
  obtain ⟨t111, A4, H⟩ := bindE H
  try dsimp only at H
  by_cases c5 : t111 = true
  ·
   subst c5
   have H1 : ((spec_l1In.f a0_2 0 3).bind fun t112 => (if t112 = true then ((spec_l1In.f a0_3 0 3).bind fun t113 => (if t113 = true then (some ((a0_2 == a0_3) == (a0_1 == 2))) else (some false))) else (some false))) = some r := by rw [if_pos rfl] at H; exact H
   clear H
   have H := H1
   clear H1
   obtain ⟨t112, A6, H⟩ := bindE H
   try dsimp only at H
   by_cases c7 : t112 = true
   ·
    subst c7
    have H1 : ((spec_l1In.f a0_3 0 3).bind fun t113 => (if t113 = true then (some ((a0_2 == a0_3) == (a0_1 == 2))) else (some false))) = some r := by rw [if_pos rfl] at H; exact H
    clear H
    have H := H1
    clear H1
    obtain ⟨t113, A8, H⟩ := bindE H
    try dsimp only at H
    by_cases c9 : t113 = true
    ·
     subst c9
     have H1 : (some ((a0_2 == a0_3) == (a0_1 == 2))) = some r := by rw [if_pos rfl] at H; exact H
     clear H
     have H := H1
     clear H1
     obtain rfl := Option.some.inj H
     go_enter Try.func145, Try.ntmps145
     go_wp2_with (first | ((with_reducible refine gate_dst (N := 1) rfl ?_); refine bE (N := 1) (cs := #[.int .i64 a0_0, .int .i64 a0_1, .int .i64 a0_2, .int .i64 a0_3]) (t := 89) ?_; intro gb109 hg w10 hbox hb; have n0_ := Aside0.mk (below_step bA hb); have n1_ := Aside0.mk (hbox); have n2_ := Aside0.mk ((by rw [hg]; exact (below_size bA) : w.heap.size ≤ gb109)); have n3_ := Aside0.mk ((by rw [hg]; exact (below_size bA) : w.heap.size ≤ gb109)); clear HB; have HB := n0_; have BK109 := n1_; have GW109 := n2_; have GE109 := n3_; clear n0_ n1_ n2_ n3_; clear hb hbox hg; have hcz11_0 : w10.cell? ⟨gb109, 0, none⟩ = some (.int .i64 a0_0) := bC BK109 0; have hcz11_1 : w10.cell? ⟨gb109, 1, none⟩ = some (.int .i64 a0_1) := bC BK109 1; have hcz11_2 : w10.cell? ⟨gb109, 2, none⟩ = some (.int .i64 a0_2) := bC BK109 2; have hcz11_3 : w10.cell? ⟨gb109, 3, none⟩ = some (.int .i64 a0_3) := bC BK109 3; have hfz11_0 := blk_frozen BK109.out 0; have hfz11_1 := blk_frozen BK109.out 1; have hfz11_2 := blk_frozen BK109.out 2; have hfz11_3 := blk_frozen BK109.out 3) | ((with_reducible refine gate_callee (f := 62) rfl ?_); refine gL (some 5) Try.func62 #[.int .i64 a0_0, .int .i64 1, .int .i64 20] ?_; (with_reducible refine (spec_l1In.calls a0_0 1 20 true _ A2.out).mono ?_); rintro e w' ⟨rfl, ⟨nd, rfl⟩⟩; refine ⟨_, rfl, ?_⟩) | (go_at_call 62; (with_reducible refine (spec_l1In.calls a0_1 1 3 true _ A4.out).mono ?_); rintro e w' ⟨rfl, ⟨nd, rfl⟩⟩) | (go_at_call 62; (with_reducible refine (spec_l1In.calls a0_2 0 3 true _ A6.out).mono ?_); rintro e w' ⟨rfl, ⟨nd, rfl⟩⟩) | (go_at_call 62; (with_reducible refine (spec_l1In.calls a0_3 0 3 true _ A8.out).mono ?_); rintro e w' ⟨rfl, ⟨nd, rfl⟩⟩))
     go_ret
     exact ⟨rA, bG⟩
    ·
     replace c9 := Bool.eq_false_iff.mpr c9
     subst c9
     have H1 : (some false) = some r := by rw [if_neg (show ¬ (false = true) by decide)] at H; exact H
     clear H
     have H := H1
     clear H1
     obtain rfl := Option.some.inj H
     go_enter Try.func145, Try.ntmps145
     go_wp2_with (first | ((with_reducible refine gate_dst (N := 1) rfl ?_); refine bE (N := 1) (cs := #[.int .i64 a0_0, .int .i64 a0_1, .int .i64 a0_2, .int .i64 a0_3]) (t := 89) ?_; intro gb109 hg w12 hbox hb; have n0_ := Aside0.mk (below_step bA hb); have n1_ := Aside0.mk (hbox); have n2_ := Aside0.mk ((by rw [hg]; exact (below_size bA) : w.heap.size ≤ gb109)); have n3_ := Aside0.mk ((by rw [hg]; exact (below_size bA) : w.heap.size ≤ gb109)); clear HB; have HB := n0_; have BK109 := n1_; have GW109 := n2_; have GE109 := n3_; clear n0_ n1_ n2_ n3_; clear hb hbox hg; have hcz13_0 : w12.cell? ⟨gb109, 0, none⟩ = some (.int .i64 a0_0) := bC BK109 0; have hcz13_1 : w12.cell? ⟨gb109, 1, none⟩ = some (.int .i64 a0_1) := bC BK109 1; have hcz13_2 : w12.cell? ⟨gb109, 2, none⟩ = some (.int .i64 a0_2) := bC BK109 2; have hcz13_3 : w12.cell? ⟨gb109, 3, none⟩ = some (.int .i64 a0_3) := bC BK109 3; have hfz13_0 := blk_frozen BK109.out 0; have hfz13_1 := blk_frozen BK109.out 1; have hfz13_2 := blk_frozen BK109.out 2; have hfz13_3 := blk_frozen BK109.out 3) | ((with_reducible refine gate_callee (f := 62) rfl ?_); refine gL (some 5) Try.func62 #[.int .i64 a0_0, .int .i64 1, .int .i64 20] ?_; (with_reducible refine (spec_l1In.calls a0_0 1 20 true _ A2.out).mono ?_); rintro e w' ⟨rfl, ⟨nd, rfl⟩⟩; refine ⟨_, rfl, ?_⟩) | (go_at_call 62; (with_reducible refine (spec_l1In.calls a0_1 1 3 true _ A4.out).mono ?_); rintro e w' ⟨rfl, ⟨nd, rfl⟩⟩) | (go_at_call 62; (with_reducible refine (spec_l1In.calls a0_2 0 3 true _ A6.out).mono ?_); rintro e w' ⟨rfl, ⟨nd, rfl⟩⟩) | (go_at_call 62; (with_reducible refine (spec_l1In.calls a0_3 0 3 false _ A8.out).mono ?_); rintro e w' ⟨rfl, ⟨nd, rfl⟩⟩))
     go_ret
     exact ⟨rA, bG⟩
   ·
    replace c7 := Bool.eq_false_iff.mpr c7
    subst c7
    have H1 : (some false) = some r := by rw [if_neg (show ¬ (false = true) by decide)] at H; exact H
    clear H
    have H := H1
    clear H1
    obtain rfl := Option.some.inj H
    go_enter Try.func145, Try.ntmps145
    go_wp2_with (first | ((with_reducible refine gate_dst (N := 1) rfl ?_); refine bE (N := 1) (cs := #[.int .i64 a0_0, .int .i64 a0_1, .int .i64 a0_2, .int .i64 a0_3]) (t := 89) ?_; intro gb109 hg w14 hbox hb; have n0_ := Aside0.mk (below_step bA hb); have n1_ := Aside0.mk (hbox); have n2_ := Aside0.mk ((by rw [hg]; exact (below_size bA) : w.heap.size ≤ gb109)); have n3_ := Aside0.mk ((by rw [hg]; exact (below_size bA) : w.heap.size ≤ gb109)); clear HB; have HB := n0_; have BK109 := n1_; have GW109 := n2_; have GE109 := n3_; clear n0_ n1_ n2_ n3_; clear hb hbox hg; have hcz15_0 : w14.cell? ⟨gb109, 0, none⟩ = some (.int .i64 a0_0) := bC BK109 0; have hcz15_1 : w14.cell? ⟨gb109, 1, none⟩ = some (.int .i64 a0_1) := bC BK109 1; have hcz15_2 : w14.cell? ⟨gb109, 2, none⟩ = some (.int .i64 a0_2) := bC BK109 2; have hcz15_3 : w14.cell? ⟨gb109, 3, none⟩ = some (.int .i64 a0_3) := bC BK109 3; have hfz15_0 := blk_frozen BK109.out 0; have hfz15_1 := blk_frozen BK109.out 1; have hfz15_2 := blk_frozen BK109.out 2; have hfz15_3 := blk_frozen BK109.out 3) | ((with_reducible refine gate_callee (f := 62) rfl ?_); refine gL (some 5) Try.func62 #[.int .i64 a0_0, .int .i64 1, .int .i64 20] ?_; (with_reducible refine (spec_l1In.calls a0_0 1 20 true _ A2.out).mono ?_); rintro e w' ⟨rfl, ⟨nd, rfl⟩⟩; refine ⟨_, rfl, ?_⟩) | (go_at_call 62; (with_reducible refine (spec_l1In.calls a0_1 1 3 true _ A4.out).mono ?_); rintro e w' ⟨rfl, ⟨nd, rfl⟩⟩) | (go_at_call 62; (with_reducible refine (spec_l1In.calls a0_2 0 3 false _ A6.out).mono ?_); rintro e w' ⟨rfl, ⟨nd, rfl⟩⟩))
    go_ret
    exact ⟨rA, bG⟩
  ·
   replace c5 := Bool.eq_false_iff.mpr c5
   subst c5
   have H1 : (some false) = some r := by rw [if_neg (show ¬ (false = true) by decide)] at H; exact H
   clear H
   have H := H1
   clear H1
   obtain rfl := Option.some.inj H
   go_enter Try.func145, Try.ntmps145
   go_wp2_with (first | ((with_reducible refine gate_dst (N := 1) rfl ?_); refine bE (N := 1) (cs := #[.int .i64 a0_0, .int .i64 a0_1, .int .i64 a0_2, .int .i64 a0_3]) (t := 89) ?_; intro gb109 hg w16 hbox hb; have n0_ := Aside0.mk (below_step bA hb); have n1_ := Aside0.mk (hbox); have n2_ := Aside0.mk ((by rw [hg]; exact (below_size bA) : w.heap.size ≤ gb109)); have n3_ := Aside0.mk ((by rw [hg]; exact (below_size bA) : w.heap.size ≤ gb109)); clear HB; have HB := n0_; have BK109 := n1_; have GW109 := n2_; have GE109 := n3_; clear n0_ n1_ n2_ n3_; clear hb hbox hg; have hcz17_0 : w16.cell? ⟨gb109, 0, none⟩ = some (.int .i64 a0_0) := bC BK109 0; have hcz17_1 : w16.cell? ⟨gb109, 1, none⟩ = some (.int .i64 a0_1) := bC BK109 1; have hcz17_2 : w16.cell? ⟨gb109, 2, none⟩ = some (.int .i64 a0_2) := bC BK109 2; have hcz17_3 : w16.cell? ⟨gb109, 3, none⟩ = some (.int .i64 a0_3) := bC BK109 3; have hfz17_0 := blk_frozen BK109.out 0; have hfz17_1 := blk_frozen BK109.out 1; have hfz17_2 := blk_frozen BK109.out 2; have hfz17_3 := blk_frozen BK109.out 3) | ((with_reducible refine gate_callee (f := 62) rfl ?_); refine gL (some 5) Try.func62 #[.int .i64 a0_0, .int .i64 1, .int .i64 20] ?_; (with_reducible refine (spec_l1In.calls a0_0 1 20 true _ A2.out).mono ?_); rintro e w' ⟨rfl, ⟨nd, rfl⟩⟩; refine ⟨_, rfl, ?_⟩) | (go_at_call 62; (with_reducible refine (spec_l1In.calls a0_1 1 3 false _ A4.out).mono ?_); rintro e w' ⟨rfl, ⟨nd, rfl⟩⟩))
   go_ret
   exact ⟨rA, bG⟩
 ·
  replace c3 := Bool.eq_false_iff.mpr c3
  subst c3
  have H1 : (some false) = some r := by rw [if_neg (show ¬ (false = true) by decide)] at H; exact H
  clear H
  have H := H1
  clear H1
  obtain rfl := Option.some.inj H
  go_enter Try.func145, Try.ntmps145
  go_wp2_with (first | ((with_reducible refine gate_dst (N := 1) rfl ?_); refine bE (N := 1) (cs := #[.int .i64 a0_0, .int .i64 a0_1, .int .i64 a0_2, .int .i64 a0_3]) (t := 89) ?_; intro gb109 hg w18 hbox hb; have n0_ := Aside0.mk (below_step bA hb); have n1_ := Aside0.mk (hbox); have n2_ := Aside0.mk ((by rw [hg]; exact (below_size bA) : w.heap.size ≤ gb109)); have n3_ := Aside0.mk ((by rw [hg]; exact (below_size bA) : w.heap.size ≤ gb109)); clear HB; have HB := n0_; have BK109 := n1_; have GW109 := n2_; have GE109 := n3_; clear n0_ n1_ n2_ n3_; clear hb hbox hg; have hcz19_0 : w18.cell? ⟨gb109, 0, none⟩ = some (.int .i64 a0_0) := bC BK109 0; have hcz19_1 : w18.cell? ⟨gb109, 1, none⟩ = some (.int .i64 a0_1) := bC BK109 1; have hcz19_2 : w18.cell? ⟨gb109, 2, none⟩ = some (.int .i64 a0_2) := bC BK109 2; have hcz19_3 : w18.cell? ⟨gb109, 3, none⟩ = some (.int .i64 a0_3) := bC BK109 3; have hfz19_0 := blk_frozen BK109.out 0; have hfz19_1 := blk_frozen BK109.out 1; have hfz19_2 := blk_frozen BK109.out 2; have hfz19_3 := blk_frozen BK109.out 3) | ((with_reducible refine gate_callee (f := 62) rfl ?_); refine gL (some 5) Try.func62 #[.int .i64 a0_0, .int .i64 1, .int .i64 20] ?_; (with_reducible refine (spec_l1In.calls a0_0 1 20 false _ A2.out).mono ?_); rintro e w' ⟨rfl, ⟨nd, rfl⟩⟩; refine ⟨_, rfl, ?_⟩))
  go_ret
  exact ⟨rA, bG⟩

/-! ### spec_ArePaths: function 122 -/
def spec_ArePaths.l0 : Nat → List (S89) → Int → Option (Bool)
 | 0, _, _ => none
 | k + 1, x0, x3 => if x3 < (x0.length : Int) then (if 0 ≤ x3 then ((spec_IsPath.f ((rd_T89 x0 x3).f0) ((rd_T89 x0 x3).f1) ((rd_T89 x0 x3).f2) ((rd_T89 x0 x3).f3)).bind fun t115 => (if t115 = true then (if x3 > 0 then (if 0 ≤ (wrap64 (x3 - 1)) then (if (wrap64 (x3 - 1)) < (x0.length : Int) then (if ((rd_T89 x0 (wrap64 (x3 - 1))).f0) ≥ ((rd_T89 x0 x3).f0) then (some false) else (spec_ArePaths.l0 k x0 (wrap64 (x3 + 1)))) else (none)) else (none)) else (spec_ArePaths.l0 k x0 (wrap64 (x3 + 1)))) else (some false))) else (none)) else (some (decide ((x0.length : Int) ≤ 12)))
def spec_ArePaths.f (k : Nat) (l0 : List (S89)) : Option (Bool) := spec_ArePaths.l0 k l0 0
theorem spec_ArePaths.mono_l : ∀ k, (∀ y0 y1, LeO (spec_ArePaths.l0 k y0 y1) (spec_ArePaths.l0 (k + 1) y0 y1))
 | 0 => fun _ _ r h => by simp [spec_ArePaths.l0] at h
 | k + 1 => by
  have ih0 := spec_ArePaths.mono_l k
  ·
   intro y0 y1
   unfold spec_ArePaths.l0
   repeat' first | (with_reducible first | exact LeO.refl _ | exact LeO.none _ | refine LeO.ite ?_ ?_ | refine LeO.bind ?_ (fun _ => ?_) | exact ih0 _ _)
theorem spec_ArePaths.mono : ∀ a0 k, LeO (spec_ArePaths.f k a0) (spec_ArePaths.f (k + 1) a0) := by
 intro a0 k
 have ih0 := spec_ArePaths.mono_l k
 unfold spec_ArePaths.f
 repeat' first | (with_reducible first | exact LeO.refl _ | exact LeO.none _ | refine LeO.ite ?_ ?_ | refine LeO.bind ?_ (fun _ => ?_) | exact ih0 _ _)
def spec_ArePaths.T4 : Bool × List (List Nat × List Nat) := (true, [([], []), ([], []), ([0, 1], [0, 1]), ([2], [2]), ([3], [3]), ([4], [4]), ([5, 4], [5]), ([6], [6]), ([7, 6], [6, 7]), ([8, 6, 6], [6, 8]), ([9], [9]), ([9], [9]), ([11, 9], [9, 11]), ([10, 12, 9], [9, 10, 12]), ([13, 9], [9, 13]), ([14, 9], [9, 14]), ([9], [9]), ([9], [9]), ([16, 17, 9], [9, 16, 17]), ([18, 9], [9, 18]), ([19, 9], [9, 19]), ([15, 20, 9], [9, 15, 20]), ([9, 21, 6], [6, 9, 21]), ([6, 22], [6, 22])])
def spec_ArePaths.B4 : List Nat := [0, 0, 3, 7, 15, 31, 63, 127, 255, 511, 1023, 1023, 3071, 8191, 16383, 32767, 1023, 1023, 197631, 459775, 984063, 2097151, 4194303, 8388607]
theorem spec_ArePaths.tab4 : rtab .any (opsOf Try.f122 4) = spec_ArePaths.T4 := by kernel_rfl
theorem spec_ArePaths.bits4 : waitsOk spec_ArePaths.T4.2 spec_ArePaths.B4 = true := by kernel_rfl
set_option maxHeartbeats 8000000 in
set_option maxRecDepth 100000 in
theorem spec_ArePaths.calls (k : Nat) (A0 : Option Addr) (c0 : Nat) (l0 : List (S89)) (r : Bool) (w : World) (hr0 : Kd.C k89 w A0 l0.length l0) (hc0 : l0.length ≤ c0) (h : spec_ArePaths.f k l0 = some r) :
  Calls Try.prog 122 #[.slice A0 l0.length c0] w fun e w' => e = .returned (.bool r) ∧ Below w.heap.size w w' := by
 have hu89 := Try.underlying89
 have HR0 := Aside0.mk hr0
 have HC0 := Aside0.mk hc0
 clear hr0 hc0
 have HB := Aside0.mk (Below.refl w.heap.size w)
 have H : (spec_ArePaths.l0 k l0 0) = some r := h
 clear h
 have H' := Aside0.mk H
 clear H
 go_enter Try.func122, Try.ntmps122
 go_wp2
 go_loopg [3] k (fun kq v3 w' => ∃ (x3_1 : Int), v3 = .int .i64 x3_1 ∧ Aside0 (spec_ArePaths.l0 kq l0 x3_1 = some r) ∧ Aside0 (kq ≤ k) ∧ Aside0 (Below w.heap.size w w'))
 case atStart => exact ⟨(0), rS, H', ⟨Nat.le_refl _⟩, ⟨bA⟩⟩
 case round =>
  clear H'
  try clear c1
  obtain ⟨x3_1, rfl, HA, HK1, HB⟩ := hrel
  cases gk with
  | zero => exact absurd HA.out (by simp [spec_ArePaths.l0])
  | succ k1 =>
   have H := HA.out
   clear HA
   simp only [spec_ArePaths.l0] at H
   by_cases c2 : x3_1 < (l0.length : Int)
   ·
    rw [if_pos c2] at H
    have c2b0 := decide_eq_true c2
    clear c2
    have c3 : 0 ≤ x3_1 := ifN H
    replace H := ifT H
    have c3b0 := decide_eq_true c3
    clear c3
    obtain ⟨t115, A4, H⟩ := bindE H
    try dsimp only at H
    by_cases c5 : t115 = true
    ·
     subst c5
     have H1 : (if x3_1 > 0 then (if 0 ≤ (wrap64 (x3_1 - 1)) then (if (wrap64 (x3_1 - 1)) < (l0.length : Int) then (if ((rd_T89 l0 (wrap64 (x3_1 - 1))).f0) ≥ ((rd_T89 l0 x3_1).f0) then (some false) else (spec_ArePaths.l0 k1 l0 (wrap64 (x3_1 + 1)))) else (none)) else (none)) else (spec_ArePaths.l0 k1 l0 (wrap64 (x3_1 + 1)))) = some r := by rw [if_pos rfl] at H; exact H
     clear H
     have H := H1
     clear H1
     by_cases c6 : x3_1 > 0
     ·
      rw [if_pos c6] at H
      have c6b0 := decide_eq_true c6
      clear c6
      obtain ⟨ji7, hji7⟩ : ∃ j_ : Int, (wrap64 (x3_1 - 1)) = j_ := ⟨_, rfl⟩
      replace H : (if 0 ≤ (ji7) then (if (ji7) < (l0.length : Int) then (if ((rd_T89 l0 (ji7)).f0) ≥ ((rd_T89 l0 x3_1).f0) then (some false) else (spec_ArePaths.l0 k1 l0 (wrap64 (x3_1 + 1)))) else (none)) else (none)) = some r := by first | (rw [hji7] at H; exact H) | (simp only [hji7] at H ⊢; exact H)
      (try rw [hji7] at A4)
      have hji7w : (IntKind.i64.wrap (x3_1 - 1)) = ji7 := (i64_w _).trans hji7
      have c8 : 0 ≤ (ji7) := ifN H
      replace H := ifT H
      have c8b0 := decide_eq_true c8
      clear c8
      have c9 : (ji7) < (l0.length : Int) := ifN H
      replace H := ifT H
      have c9b0 := decide_eq_true c9
      clear c9
      by_cases c10 : ((rd_T89 l0 (ji7)).f0) ≥ ((rd_T89 l0 x3_1).f0)
      ·
       rw [if_pos c10] at H
       have c10b0 := decide_eq_true c10
       clear c10
       obtain rfl := Option.some.inj H
       try go_wp2
       have HBo := HB
       replace HB := Aside0.mk (below_drew1 HB.out)
       have p114 : 0 ≤ (x3_1 : Int) := dA
       have q114 : x3_1 < (l0.length : Int) := dA
       obtain ⟨ad114, e114, hx114_0, hx114_1, hx114_2, hx114_3⟩ := at_T89 HR0.out x3_1 p114 q114
       have hw114_3 := hx114_3
       have hw114_2 := hx114_2
       have hw114_1 := hx114_1
       have hw114_0 := hx114_0
       cases e114
       replace hx114_0 := hC HB hx114_0
       replace hx114_1 := hC HB hx114_1
       replace hx114_2 := hC HB hx114_2
       replace hx114_3 := hC HB hx114_3
       replace p114 := eq_true p114
       replace q114 := eq_true q114
       have p116 : 0 ≤ ((ji7) : Int) := dA
       have q116 : (ji7) < (l0.length : Int) := dA
       obtain ⟨ad116, e116, hx116_0, hx116_1, hx116_2, hx116_3⟩ := at_T89 HR0.out (ji7) p116 q116
       have hw116_3 := hx116_3
       have hw116_2 := hx116_2
       have hw116_1 := hx116_1
       have hw116_0 := hx116_0
       obtain rfl : ad114 = ad116 := (by injection e116)
       replace hx116_0 := hC HB hx116_0
       replace hx116_1 := hC HB hx116_1
       replace hx116_2 := hC HB hx116_2
       replace hx116_3 := hC HB hx116_3
       replace p116 := eq_true p116
       replace q116 := eq_true q116
       have p117 : 0 ≤ (x3_1 : Int) := dA
       have q117 : x3_1 < (l0.length : Int) := dA
       obtain ⟨ad117, e117, hx117_0, hx117_1, hx117_2, hx117_3⟩ := at_T89 HR0.out x3_1 p117 q117
       have hw117_3 := hx117_3
       have hw117_2 := hx117_2
       have hw117_1 := hx117_1
       have hw117_0 := hx117_0
       obtain rfl : ad114 = ad117 := (by injection e117)
       replace hx117_0 := hC HB hx117_0
       replace hx117_1 := hC HB hx117_1
       replace hx117_2 := hC HB hx117_2
       replace hx117_3 := hC HB hx117_3
       replace p117 := eq_true p117
       replace q117 := eq_true q117
       refine start_ (n := 24) (S := fun w' => w'.cell? (ad114.add ((x3_1).toNat * 4)) = some (.int .i64 ((rd_T89 l0 x3_1).f0)) ∧ w'.cell? ⟨(ad114.add ((x3_1).toNat * 4)).block, (ad114.add ((x3_1).toNat * 4)).off + 1, none⟩ = some (.int .i64 ((rd_T89 l0 x3_1).f1)) ∧ w'.cell? ⟨(ad114.add ((x3_1).toNat * 4)).block, (ad114.add ((x3_1).toNat * 4)).off + 2, none⟩ = some (.int .i64 ((rd_T89 l0 x3_1).f2)) ∧ w'.cell? ⟨(ad114.add ((x3_1).toNat * 4)).block, (ad114.add ((x3_1).toNat * 4)).off + 3, none⟩ = some (.int .i64 ((rd_T89 l0 x3_1).f3)) ∧ w'.cell? (ad114.add (((ji7)).toNat * 4)) = some (.int .i64 ((rd_T89 l0 (ji7)).f0)) ∧ w'.cell? ⟨(ad114.add (((ji7)).toNat * 4)).block, (ad114.add (((ji7)).toNat * 4)).off + 1, none⟩ = some (.int .i64 ((rd_T89 l0 (ji7)).f1)) ∧ w'.cell? ⟨(ad114.add (((ji7)).toNat * 4)).block, (ad114.add (((ji7)).toNat * 4)).off + 2, none⟩ = some (.int .i64 ((rd_T89 l0 (ji7)).f2)) ∧ w'.cell? ⟨(ad114.add (((ji7)).toNat * 4)).block, (ad114.add (((ji7)).toNat * 4)).off + 3, none⟩ = some (.int .i64 ((rd_T89 l0 (ji7)).f3)) ∧ w'.cell? (ad114.add ((x3_1).toNat * 4)) = some (.int .i64 ((rd_T89 l0 x3_1).f0)) ∧ w'.cell? ⟨(ad114.add ((x3_1).toNat * 4)).block, (ad114.add ((x3_1).toNat * 4)).off + 1, none⟩ = some (.int .i64 ((rd_T89 l0 x3_1).f1)) ∧ w'.cell? ⟨(ad114.add ((x3_1).toNat * 4)).block, (ad114.add ((x3_1).toNat * 4)).off + 2, none⟩ = some (.int .i64 ((rd_T89 l0 x3_1).f2)) ∧ w'.cell? ⟨(ad114.add ((x3_1).toNat * 4)).block, (ad114.add ((x3_1).toNat * 4)).off + 3, none⟩ = some (.int .i64 ((rd_T89 l0 x3_1).f3))) (ds := []) (mb 24 0) (by kernel_rfl) rfl rfl ⟨(hC HB hw114_0), (hC HB hw114_1), (hC HB hw114_2), (hC HB hw114_3), (hC HB hw116_0), (hC HB hw116_1), (hC HB hw116_2), (hC HB hw116_3), (hC HB hw117_0), (hC HB hw117_1), (hC HB hw117_2), (hC HB hw117_3)⟩ (fun hHeld => ?_); refine with_tabW spec_ArePaths.tab4 spec_ArePaths.bits4 (fun HT_ HW_ => ?_)
       generalize wr.drew = w11 at HB hx114_0 hx114_1 hx114_2 hx114_3 hx116_0 hx116_1 hx116_2 hx116_3 hx117_0 hx117_1 hx117_2 hx117_3 hHeld ⊢
       refine pA (i := 0) (N := some 10) (mb 24 1) HT_ ?_
       refine pA (i := 1) (N := some 11) (mb 24 3) HT_ ?_
       refine pA (i := 2) (N := some 12) (mb 24 7) HT_ ?_
       refine tA12 (i := 3) (N := some 13) (mb 24 15) HT_ HW_ hHeld ?_
       refine oA (i := 4) (N := some 14) (mb 24 31) HT_ (fun K hK => ?_)
       refine gA Try.func145 #[.agg #[.int .i64 ((rd_T89 l0 x3_1).f0), .int .i64 ((rd_T89 l0 x3_1).f1), .int .i64 ((rd_T89 l0 x3_1).f2), .int .i64 ((rd_T89 l0 x3_1).f3)]] ?_
       with_reducible refine (spec_IsPath.calls ((rd_T89 l0 x3_1).f0) ((rd_T89 l0 x3_1).f1) ((rd_T89 l0 x3_1).f2) ((rd_T89 l0 x3_1).f3) true _ A4.out).mono ?_
       rintro e w12 ⟨rfl, hb⟩
       refine ⟨_, rfl, ?_⟩
       replace HB := Aside0.mk (below_step bA hb)
       (try clear hb)
       (try clear hb2)
       (try clear hk)
       (try clear hi)
       refine hK.out _ _ ⟨(hC HB hw114_0), (hC HB hw114_1), (hC HB hw114_2), (hC HB hw114_3), (hC HB hw116_0), (hC HB hw116_1), (hC HB hw116_2), (hC HB hw116_3), (hC HB hw117_0), (hC HB hw117_1), (hC HB hw117_2), (hC HB hw117_3)⟩ (fun hHeld => ?_)
       clear hK K
       refine nB ?_
       refine pA (i := 5) (N := some 15) (mb 24 63) HT_ ?_
       refine pA (i := 6) (N := some 16) (mb 24 127) HT_ ?_
       refine pA (i := 7) (N := some 17) (mb 24 255) HT_ ?_
       refine pA (i := 8) (N := some 18) (mb 24 511) HT_ ?_
       refine pA (i := 9) (N := some 19) (mb 24 1023) HT_ ?_
       refine pA (i := 10) (N := some 20) (mb 24 2047) HT_ ?_
       refine pA (i := 11) (N := some 21) (mb 24 4095) HT_ ?_
       refine pA (i := 12) (N := some 22) (mb 24 8191) HT_ ?_
       refine pA (i := 13) (N := some 23) (mb 24 16383) HT_ ?_
       refine pA (i := 14) (N := some 24) (mb 24 32767) HT_ ?_
       refine pA (i := 16) (N := some 26) (mb 24 98303) HT_ ?_
       refine pA (i := 17) (N := some 27) (mb 24 229375) HT_ ?_
       refine pA (i := 18) (N := some 28) (mb 24 491519) HT_ ?_
       refine pA (i := 19) (N := some 29) (mb 24 1015807) HT_ ?_
       refine tA12 (i := 15) (N := some 25) (mb 24 1048575) HT_ HW_ hHeld ?_
       refine tA12 (i := 20) (N := some 30) (mb 24 2097151) HT_ HW_ hHeld ?_
       refine pA (i := 21) (N := some 31) (mb 24 4194303) HT_ ?_
       refine pA (i := 22) (N := some 32) (mb 24 8388607) HT_ ?_
       refine pA (i := 23) (N := some 33) (mb 24 16777215) HT_ ?_
       refine eA HT_ ?_
       try go_wp2
       go_ret
       exact ⟨by first | rfl | (simp [errW_none, errW_some] <;> rfl) | (simp only [← hji7]; first | rfl | (simp [errW_none, errW_some] <;> rfl)) | (simp [*, errW_none, errW_some] <;> rfl), bA⟩
      ·
       rw [if_neg c10] at H
       have c10b0 := decide_eq_false c10
       clear c10
       have H' := Aside0.mk H
       clear H
       try go_wp2
       have HBo := HB
       replace HB := Aside0.mk (below_drew1 HB.out)
       have p114 : 0 ≤ (x3_1 : Int) := dA
       have q114 : x3_1 < (l0.length : Int) := dA
       obtain ⟨ad114, e114, hx114_0, hx114_1, hx114_2, hx114_3⟩ := at_T89 HR0.out x3_1 p114 q114
       have hw114_3 := hx114_3
       have hw114_2 := hx114_2
       have hw114_1 := hx114_1
       have hw114_0 := hx114_0
       cases e114
       replace hx114_0 := hC HB hx114_0
       replace hx114_1 := hC HB hx114_1
       replace hx114_2 := hC HB hx114_2
       replace hx114_3 := hC HB hx114_3
       replace p114 := eq_true p114
       replace q114 := eq_true q114
       have p116 : 0 ≤ ((ji7) : Int) := dA
       have q116 : (ji7) < (l0.length : Int) := dA
       obtain ⟨ad116, e116, hx116_0, hx116_1, hx116_2, hx116_3⟩ := at_T89 HR0.out (ji7) p116 q116
       have hw116_3 := hx116_3
       have hw116_2 := hx116_2
       have hw116_1 := hx116_1
       have hw116_0 := hx116_0
       obtain rfl : ad114 = ad116 := (by injection e116)
       replace hx116_0 := hC HB hx116_0
       replace hx116_1 := hC HB hx116_1
       replace hx116_2 := hC HB hx116_2
       replace hx116_3 := hC HB hx116_3
       replace p116 := eq_true p116
       replace q116 := eq_true q116
       have p117 : 0 ≤ (x3_1 : Int) := dA
       have q117 : x3_1 < (l0.length : Int) := dA
       obtain ⟨ad117, e117, hx117_0, hx117_1, hx117_2, hx117_3⟩ := at_T89 HR0.out x3_1 p117 q117
       have hw117_3 := hx117_3
       have hw117_2 := hx117_2
       have hw117_1 := hx117_1
       have hw117_0 := hx117_0
       obtain rfl : ad114 = ad117 := (by injection e117)
       replace hx117_0 := hC HB hx117_0
       replace hx117_1 := hC HB hx117_1
       replace hx117_2 := hC HB hx117_2
       replace hx117_3 := hC HB hx117_3
       replace p117 := eq_true p117
       replace q117 := eq_true q117
       refine start_ (n := 24) (S := fun w' => w'.cell? (ad114.add ((x3_1).toNat * 4)) = some (.int .i64 ((rd_T89 l0 x3_1).f0)) ∧ w'.cell? ⟨(ad114.add ((x3_1).toNat * 4)).block, (ad114.add ((x3_1).toNat * 4)).off + 1, none⟩ = some (.int .i64 ((rd_T89 l0 x3_1).f1)) ∧ w'.cell? ⟨(ad114.add ((x3_1).toNat * 4)).block, (ad114.add ((x3_1).toNat * 4)).off + 2, none⟩ = some (.int .i64 ((rd_T89 l0 x3_1).f2)) ∧ w'.cell? ⟨(ad114.add ((x3_1).toNat * 4)).block, (ad114.add ((x3_1).toNat * 4)).off + 3, none⟩ = some (.int .i64 ((rd_T89 l0 x3_1).f3)) ∧ w'.cell? (ad114.add (((ji7)).toNat * 4)) = some (.int .i64 ((rd_T89 l0 (ji7)).f0)) ∧ w'.cell? ⟨(ad114.add (((ji7)).toNat * 4)).block, (ad114.add (((ji7)).toNat * 4)).off + 1, none⟩ = some (.int .i64 ((rd_T89 l0 (ji7)).f1)) ∧ w'.cell? ⟨(ad114.add (((ji7)).toNat * 4)).block, (ad114.add (((ji7)).toNat * 4)).off + 2, none⟩ = some (.int .i64 ((rd_T89 l0 (ji7)).f2)) ∧ w'.cell? ⟨(ad114.add (((ji7)).toNat * 4)).block, (ad114.add (((ji7)).toNat * 4)).off + 3, none⟩ = some (.int .i64 ((rd_T89 l0 (ji7)).f3)) ∧ w'.cell? (ad114.add ((x3_1).toNat * 4)) = some (.int .i64 ((rd_T89 l0 x3_1).f0)) ∧ w'.cell? ⟨(ad114.add ((x3_1).toNat * 4)).block, (ad114.add ((x3_1).toNat * 4)).off + 1, none⟩ = some (.int .i64 ((rd_T89 l0 x3_1).f1)) ∧ w'.cell? ⟨(ad114.add ((x3_1).toNat * 4)).block, (ad114.add ((x3_1).toNat * 4)).off + 2, none⟩ = some (.int .i64 ((rd_T89 l0 x3_1).f2)) ∧ w'.cell? ⟨(ad114.add ((x3_1).toNat * 4)).block, (ad114.add ((x3_1).toNat * 4)).off + 3, none⟩ = some (.int .i64 ((rd_T89 l0 x3_1).f3))) (ds := []) (mb 24 0) (by kernel_rfl) rfl rfl ⟨(hC HB hw114_0), (hC HB hw114_1), (hC HB hw114_2), (hC HB hw114_3), (hC HB hw116_0), (hC HB hw116_1), (hC HB hw116_2), (hC HB hw116_3), (hC HB hw117_0), (hC HB hw117_1), (hC HB hw117_2), (hC HB hw117_3)⟩ (fun hHeld => ?_); refine with_tabW spec_ArePaths.tab4 spec_ArePaths.bits4 (fun HT_ HW_ => ?_)
       generalize wr.drew = w13 at HB hx114_0 hx114_1 hx114_2 hx114_3 hx116_0 hx116_1 hx116_2 hx116_3 hx117_0 hx117_1 hx117_2 hx117_3 hHeld ⊢
       refine pA (i := 0) (N := some 10) (mb 24 1) HT_ ?_
       refine pA (i := 1) (N := some 11) (mb 24 3) HT_ ?_
       refine pA (i := 2) (N := some 12) (mb 24 7) HT_ ?_
       refine tA12 (i := 3) (N := some 13) (mb 24 15) HT_ HW_ hHeld ?_
       refine oA (i := 4) (N := some 14) (mb 24 31) HT_ (fun K hK => ?_)
       refine gA Try.func145 #[.agg #[.int .i64 ((rd_T89 l0 x3_1).f0), .int .i64 ((rd_T89 l0 x3_1).f1), .int .i64 ((rd_T89 l0 x3_1).f2), .int .i64 ((rd_T89 l0 x3_1).f3)]] ?_
       with_reducible refine (spec_IsPath.calls ((rd_T89 l0 x3_1).f0) ((rd_T89 l0 x3_1).f1) ((rd_T89 l0 x3_1).f2) ((rd_T89 l0 x3_1).f3) true _ A4.out).mono ?_
       rintro e w14 ⟨rfl, hb⟩
       refine ⟨_, rfl, ?_⟩
       replace HB := Aside0.mk (below_step bA hb)
       (try clear hb)
       (try clear hb2)
       (try clear hk)
       (try clear hi)
       refine hK.out _ _ ⟨(hC HB hw114_0), (hC HB hw114_1), (hC HB hw114_2), (hC HB hw114_3), (hC HB hw116_0), (hC HB hw116_1), (hC HB hw116_2), (hC HB hw116_3), (hC HB hw117_0), (hC HB hw117_1), (hC HB hw117_2), (hC HB hw117_3)⟩ (fun hHeld => ?_)
       clear hK K
       refine nB ?_
       refine pA (i := 5) (N := some 15) (mb 24 63) HT_ ?_
       refine pA (i := 6) (N := some 16) (mb 24 127) HT_ ?_
       refine pA (i := 7) (N := some 17) (mb 24 255) HT_ ?_
       refine pA (i := 8) (N := some 18) (mb 24 511) HT_ ?_
       refine pA (i := 9) (N := some 19) (mb 24 1023) HT_ ?_
       refine pA (i := 10) (N := some 20) (mb 24 2047) HT_ ?_
       refine pA (i := 11) (N := some 21) (mb 24 4095) HT_ ?_
       refine pA (i := 12) (N := some 22) (mb 24 8191) HT_ ?_
       refine pA (i := 13) (N := some 23) (mb 24 16383) HT_ ?_
       refine pA (i := 14) (N := some 24) (mb 24 32767) HT_ ?_
       refine pA (i := 16) (N := some 26) (mb 24 98303) HT_ ?_
       refine pA (i := 17) (N := some 27) (mb 24 229375) HT_ ?_
       refine pA (i := 18) (N := some 28) (mb 24 491519) HT_ ?_
       refine pA (i := 19) (N := some 29) (mb 24 1015807) HT_ ?_
       refine tA12 (i := 15) (N := some 25) (mb 24 1048575) HT_ HW_ hHeld ?_
       refine tA12 (i := 20) (N := some 30) (mb 24 2097151) HT_ HW_ hHeld ?_
       refine pA (i := 21) (N := some 31) (mb 24 4194303) HT_ ?_
       refine pA (i := 22) (N := some 32) (mb 24 8388607) HT_ ?_
       refine pA (i := 23) (N := some 33) (mb 24 16777215) HT_ ?_
       refine eA HT_ ?_
       try go_wp2
       go_roundg k1
       case measure => have := HK1.out; omega
       case rel => exact ⟨(wrap64 (x3_1 + 1)), rS, H', ⟨by have := HK1.out; omega⟩, ⟨bA⟩⟩
     ·
      rw [if_neg c6] at H
      have c6b0 := decide_eq_false c6
      clear c6
      have H' := Aside0.mk H
      clear H
      try go_wp2
      have HBo := HB
      replace HB := Aside0.mk (below_drew1 HB.out)
      have p114 : 0 ≤ (x3_1 : Int) := dA
      have q114 : x3_1 < (l0.length : Int) := dA
      obtain ⟨ad114, e114, hx114_0, hx114_1, hx114_2, hx114_3⟩ := at_T89 HR0.out x3_1 p114 q114
      have hw114_3 := hx114_3
      have hw114_2 := hx114_2
      have hw114_1 := hx114_1
      have hw114_0 := hx114_0
      cases e114
      replace hx114_0 := hC HB hx114_0
      replace hx114_1 := hC HB hx114_1
      replace hx114_2 := hC HB hx114_2
      replace hx114_3 := hC HB hx114_3
      replace p114 := eq_true p114
      replace q114 := eq_true q114
      refine start_ (n := 24) (S := fun w' => w'.cell? (ad114.add ((x3_1).toNat * 4)) = some (.int .i64 ((rd_T89 l0 x3_1).f0)) ∧ w'.cell? ⟨(ad114.add ((x3_1).toNat * 4)).block, (ad114.add ((x3_1).toNat * 4)).off + 1, none⟩ = some (.int .i64 ((rd_T89 l0 x3_1).f1)) ∧ w'.cell? ⟨(ad114.add ((x3_1).toNat * 4)).block, (ad114.add ((x3_1).toNat * 4)).off + 2, none⟩ = some (.int .i64 ((rd_T89 l0 x3_1).f2)) ∧ w'.cell? ⟨(ad114.add ((x3_1).toNat * 4)).block, (ad114.add ((x3_1).toNat * 4)).off + 3, none⟩ = some (.int .i64 ((rd_T89 l0 x3_1).f3))) (ds := []) (mb 24 0) (by kernel_rfl) rfl rfl ⟨(hC HB hw114_0), (hC HB hw114_1), (hC HB hw114_2), (hC HB hw114_3)⟩ (fun hHeld => ?_); refine with_tabW spec_ArePaths.tab4 spec_ArePaths.bits4 (fun HT_ HW_ => ?_)
      generalize wr.drew = w15 at HB hx114_0 hx114_1 hx114_2 hx114_3 hHeld ⊢
      refine pA (i := 0) (N := some 10) (mb 24 1) HT_ ?_
      refine pA (i := 1) (N := some 11) (mb 24 3) HT_ ?_
      refine pA (i := 2) (N := some 12) (mb 24 7) HT_ ?_
      refine tA4 (i := 3) (N := some 13) (mb 24 15) HT_ HW_ hHeld ?_
      refine oA (i := 4) (N := some 14) (mb 24 31) HT_ (fun K hK => ?_)
      refine gA Try.func145 #[.agg #[.int .i64 ((rd_T89 l0 x3_1).f0), .int .i64 ((rd_T89 l0 x3_1).f1), .int .i64 ((rd_T89 l0 x3_1).f2), .int .i64 ((rd_T89 l0 x3_1).f3)]] ?_
      with_reducible refine (spec_IsPath.calls ((rd_T89 l0 x3_1).f0) ((rd_T89 l0 x3_1).f1) ((rd_T89 l0 x3_1).f2) ((rd_T89 l0 x3_1).f3) true _ A4.out).mono ?_
      rintro e w16 ⟨rfl, hb⟩
      refine ⟨_, rfl, ?_⟩
      replace HB := Aside0.mk (below_step bA hb)
      (try clear hb)
      (try clear hb2)
      (try clear hk)
      (try clear hi)
      refine hK.out _ _ ⟨(hC HB hw114_0), (hC HB hw114_1), (hC HB hw114_2), (hC HB hw114_3)⟩ (fun hHeld => ?_)
      clear hK K
      refine nB ?_
      refine pA (i := 5) (N := some 15) (mb 24 63) HT_ ?_
      refine pA (i := 6) (N := some 16) (mb 24 127) HT_ ?_
      refine pA (i := 7) (N := some 17) (mb 24 255) HT_ ?_
      refine pA (i := 8) (N := some 18) (mb 24 511) HT_ ?_
      refine pA (i := 9) (N := some 19) (mb 24 1023) HT_ ?_
      refine pU (i := 10) (N := some 20) (mb 24 2047) HT_ ?_
      refine pU (i := 11) (N := some 21) (mb 24 4095) HT_ ?_
      refine pU (i := 12) (N := some 22) (mb 24 8191) HT_ ?_
      refine pU (i := 13) (N := some 23) (mb 24 16383) HT_ ?_
      refine pU (i := 14) (N := some 24) (mb 24 32767) HT_ ?_
      refine pU (i := 15) (N := some 25) (mb 24 65535) HT_ ?_
      refine pU (i := 16) (N := some 26) (mb 24 131071) HT_ ?_
      refine pU (i := 17) (N := some 27) (mb 24 262143) HT_ ?_
      refine pU (i := 18) (N := some 28) (mb 24 524287) HT_ ?_
      refine pU (i := 19) (N := some 29) (mb 24 1048575) HT_ ?_
      refine pU (i := 20) (N := some 30) (mb 24 2097151) HT_ ?_
      refine pU (i := 21) (N := some 31) (mb 24 4194303) HT_ ?_
      refine pA (i := 22) (N := some 32) (mb 24 8388607) HT_ ?_
      refine pA (i := 23) (N := some 33) (mb 24 16777215) HT_ ?_
      refine eA HT_ ?_
      try go_wp2
      go_roundg k1
      case measure => have := HK1.out; omega
      case rel => exact ⟨(wrap64 (x3_1 + 1)), rS, H', ⟨by have := HK1.out; omega⟩, ⟨bA⟩⟩
    ·
     replace c5 := Bool.eq_false_iff.mpr c5
     subst c5
     have H1 : (some false) = some r := by rw [if_neg (show ¬ (false = true) by decide)] at H; exact H
     clear H
     have H := H1
     clear H1
     obtain rfl := Option.some.inj H
     try go_wp2
     have HBo := HB
     replace HB := Aside0.mk (below_drew1 HB.out)
     have p114 : 0 ≤ (x3_1 : Int) := dA
     have q114 : x3_1 < (l0.length : Int) := dA
     obtain ⟨ad114, e114, hx114_0, hx114_1, hx114_2, hx114_3⟩ := at_T89 HR0.out x3_1 p114 q114
     have hw114_3 := hx114_3
     have hw114_2 := hx114_2
     have hw114_1 := hx114_1
     have hw114_0 := hx114_0
     cases e114
     replace hx114_0 := hC HB hx114_0
     replace hx114_1 := hC HB hx114_1
     replace hx114_2 := hC HB hx114_2
     replace hx114_3 := hC HB hx114_3
     replace p114 := eq_true p114
     replace q114 := eq_true q114
     refine start_ (n := 24) (S := fun w' => w'.cell? (ad114.add ((x3_1).toNat * 4)) = some (.int .i64 ((rd_T89 l0 x3_1).f0)) ∧ w'.cell? ⟨(ad114.add ((x3_1).toNat * 4)).block, (ad114.add ((x3_1).toNat * 4)).off + 1, none⟩ = some (.int .i64 ((rd_T89 l0 x3_1).f1)) ∧ w'.cell? ⟨(ad114.add ((x3_1).toNat * 4)).block, (ad114.add ((x3_1).toNat * 4)).off + 2, none⟩ = some (.int .i64 ((rd_T89 l0 x3_1).f2)) ∧ w'.cell? ⟨(ad114.add ((x3_1).toNat * 4)).block, (ad114.add ((x3_1).toNat * 4)).off + 3, none⟩ = some (.int .i64 ((rd_T89 l0 x3_1).f3))) (ds := []) (mb 24 0) (by kernel_rfl) rfl rfl ⟨(hC HB hw114_0), (hC HB hw114_1), (hC HB hw114_2), (hC HB hw114_3)⟩ (fun hHeld => ?_); refine with_tabW spec_ArePaths.tab4 spec_ArePaths.bits4 (fun HT_ HW_ => ?_)
     generalize wr.drew = w17 at HB hx114_0 hx114_1 hx114_2 hx114_3 hHeld ⊢
     refine pA (i := 0) (N := some 10) (mb 24 1) HT_ ?_
     refine pA (i := 1) (N := some 11) (mb 24 3) HT_ ?_
     refine pA (i := 2) (N := some 12) (mb 24 7) HT_ ?_
     refine tA4 (i := 3) (N := some 13) (mb 24 15) HT_ HW_ hHeld ?_
     refine oA (i := 4) (N := some 14) (mb 24 31) HT_ (fun K hK => ?_)
     refine gA Try.func145 #[.agg #[.int .i64 ((rd_T89 l0 x3_1).f0), .int .i64 ((rd_T89 l0 x3_1).f1), .int .i64 ((rd_T89 l0 x3_1).f2), .int .i64 ((rd_T89 l0 x3_1).f3)]] ?_
     with_reducible refine (spec_IsPath.calls ((rd_T89 l0 x3_1).f0) ((rd_T89 l0 x3_1).f1) ((rd_T89 l0 x3_1).f2) ((rd_T89 l0 x3_1).f3) false _ A4.out).mono ?_
     rintro e w18 ⟨rfl, hb⟩
     refine ⟨_, rfl, ?_⟩
     replace HB := Aside0.mk (below_step bA hb)
     (try clear hb)
     (try clear hb2)
     (try clear hk)
     (try clear hi)
     refine hK.out _ _ ⟨(hC HB hw114_0), (hC HB hw114_1), (hC HB hw114_2), (hC HB hw114_3)⟩ (fun hHeld => ?_)
     clear hK K
     refine nB ?_
     refine pA (i := 5) (N := some 15) (mb 24 63) HT_ ?_
     refine pA (i := 6) (N := some 16) (mb 24 127) HT_ ?_
     refine pU (i := 7) (N := some 17) (mb 24 255) HT_ ?_
     refine pU (i := 8) (N := some 18) (mb 24 511) HT_ ?_
     refine pU (i := 9) (N := some 19) (mb 24 1023) HT_ ?_
     refine pU (i := 10) (N := some 20) (mb 24 2047) HT_ ?_
     refine pU (i := 11) (N := some 21) (mb 24 4095) HT_ ?_
     refine pU (i := 12) (N := some 22) (mb 24 8191) HT_ ?_
     refine pU (i := 13) (N := some 23) (mb 24 16383) HT_ ?_
     refine pU (i := 14) (N := some 24) (mb 24 32767) HT_ ?_
     refine pU (i := 15) (N := some 25) (mb 24 65535) HT_ ?_
     refine pU (i := 16) (N := some 26) (mb 24 131071) HT_ ?_
     refine pU (i := 17) (N := some 27) (mb 24 262143) HT_ ?_
     refine pU (i := 18) (N := some 28) (mb 24 524287) HT_ ?_
     refine pU (i := 19) (N := some 29) (mb 24 1048575) HT_ ?_
     refine pU (i := 20) (N := some 30) (mb 24 2097151) HT_ ?_
     refine pU (i := 21) (N := some 31) (mb 24 4194303) HT_ ?_
     refine pU (i := 22) (N := some 32) (mb 24 8388607) HT_ ?_
     refine pA (i := 23) (N := some 33) (mb 24 16777215) HT_ ?_
     refine eA HT_ ?_
     try go_wp2
     go_ret
     exact ⟨rA, bA⟩
   ·
    rw [if_neg c2] at H
    have c2b0 := decide_eq_false c2
    clear c2
    obtain rfl := Option.some.inj H
    go_wp2
    go_ret
    exact ⟨rA, bA⟩

/-! ### spec_Interleave: function 149 -/
mutual
def spec_Interleave.l0 : Nat → Int → Int → Int → Int → List Int → Int → Option (Bool)
 | 0, _, _, _, _, _, _ => none
 | k + 1, x0, x1, x2, x3, x9, x10 => if x10 < 4 then (spec_Interleave.l1 k x0 x1 x2 x3 x9 x10 0) else (spec_Interleave.l2 k x1 x2 x3 0 (Int.tmod (wrap64 (x0 + 1)) 8))
def spec_Interleave.l1 : Nat → Int → Int → Int → Int → List Int → Int → Int → Option (Bool)
 | 0, _, _, _, _, _, _, _ => none
 | k + 1, x0, x1, x2, x3, x9, x10, x11 => if x11 < x10 then (if 0 ≤ x10 then (if x10 < (x9.length : Int) then (if 0 ≤ x11 then (if x11 < (x9.length : Int) then (if (rd x9 x10) = (rd x9 x11) then (some false) else (spec_Interleave.l1 k x0 x1 x2 x3 x9 x10 (wrap64 (x11 + 1)))) else (none)) else (none)) else (none)) else (none)) else (if 0 ≤ x10 then (if x10 < (x9.length : Int) then ((spec_l1In.f (rd x9 x10) 0 7).bind fun t124 => (if t124 = true then (spec_Interleave.l0 k x0 x1 x2 x3 x9 (wrap64 (x10 + 1))) else (some false))) else (none)) else (none))
def spec_Interleave.l2 : Nat → Int → Int → Int → Int → Int → Option (Bool)
 | 0, _, _, _, _, _ => none
 | k + 1, x1, x2, x3, x12, x13 => if x13 = x1 then (some (x12 == 1)) else (if x13 = x2 then (spec_Interleave.l2 k x1 x2 x3 (wrap64 (x12 + 1)) (Int.tmod (wrap64 (x13 + 1)) 8)) else (if x13 = x3 then (spec_Interleave.l2 k x1 x2 x3 (wrap64 (x12 + 1)) (Int.tmod (wrap64 (x13 + 1)) 8)) else (spec_Interleave.l2 k x1 x2 x3 x12 (Int.tmod (wrap64 (x13 + 1)) 8))))
end
def spec_Interleave.f (k : Nat) (a0 : Int) (a1 : Int) (a2 : Int) (a3 : Int) : Option (Bool) := spec_Interleave.l0 k a0 a1 a2 a3 (([a0, a1, a2, a3] : List Int)) 0
theorem spec_Interleave.mono_l : ∀ k, (∀ y0 y1 y2 y3 y4 y5, LeO (spec_Interleave.l0 k y0 y1 y2 y3 y4 y5) (spec_Interleave.l0 (k + 1) y0 y1 y2 y3 y4 y5)) ∧ (∀ y0 y1 y2 y3 y4 y5 y6, LeO (spec_Interleave.l1 k y0 y1 y2 y3 y4 y5 y6) (spec_Interleave.l1 (k + 1) y0 y1 y2 y3 y4 y5 y6)) ∧ (∀ y0 y1 y2 y3 y4, LeO (spec_Interleave.l2 k y0 y1 y2 y3 y4) (spec_Interleave.l2 (k + 1) y0 y1 y2 y3 y4))
 | 0 => ⟨fun _ _ _ _ _ _ r h => by simp [spec_Interleave.l0] at h, fun _ _ _ _ _ _ _ r h => by simp [spec_Interleave.l1] at h, fun _ _ _ _ _ r h => by simp [spec_Interleave.l2] at h⟩
 | k + 1 => by
  obtain ⟨ih0, ih1, ih2⟩ := spec_Interleave.mono_l k
  refine ⟨?_, ?_, ?_⟩
  ·
   intro y0 y1 y2 y3 y4 y5
   unfold spec_Interleave.l0
   repeat' first | (with_reducible first | exact LeO.refl _ | exact LeO.none _ | refine LeO.ite ?_ ?_ | refine LeO.bind ?_ (fun _ => ?_) | exact ih0 _ _ _ _ _ _ | exact ih1 _ _ _ _ _ _ _ | exact ih2 _ _ _ _ _)
  ·
   intro y0 y1 y2 y3 y4 y5 y6
   unfold spec_Interleave.l1
   repeat' first | (with_reducible first | exact LeO.refl _ | exact LeO.none _ | refine LeO.ite ?_ ?_ | refine LeO.bind ?_ (fun _ => ?_) | exact ih0 _ _ _ _ _ _ | exact ih1 _ _ _ _ _ _ _ | exact ih2 _ _ _ _ _)
  ·
   intro y0 y1 y2 y3 y4
   unfold spec_Interleave.l2
   repeat' first | (with_reducible first | exact LeO.refl _ | exact LeO.none _ | refine LeO.ite ?_ ?_ | refine LeO.bind ?_ (fun _ => ?_) | exact ih0 _ _ _ _ _ _ | exact ih1 _ _ _ _ _ _ _ | exact ih2 _ _ _ _ _)
theorem spec_Interleave.mono : ∀ a0 a1 a2 a3 k, LeO (spec_Interleave.f k a0 a1 a2 a3) (spec_Interleave.f (k + 1) a0 a1 a2 a3) := by
 intro a0 a1 a2 a3 k
 obtain ⟨ih0, ih1, ih2⟩ := spec_Interleave.mono_l k
 unfold spec_Interleave.f
 repeat' first | (with_reducible first | exact LeO.refl _ | exact LeO.none _ | refine LeO.ite ?_ ?_ | refine LeO.bind ?_ (fun _ => ?_) | exact ih0 _ _ _ _ _ _ | exact ih1 _ _ _ _ _ _ _ | exact ih2 _ _ _ _ _)
set_option maxHeartbeats 8000000 in
set_option maxRecDepth 100000 in
theorem spec_Interleave.calls (k : Nat) (a0 : Int) (a1 : Int) (a2 : Int) (a3 : Int) (r : Bool) (w : World) (h : spec_Interleave.f k a0 a1 a2 a3 = some r) :
  Calls Try.prog 149 #[.int .i64 a0, .int .i64 a1, .int .i64 a2, .int .i64 a3] w fun e w' => e = .returned (.bool r) ∧ Below w.heap.size w w' := by
 have HB := Aside0.mk (Below.refl w.heap.size w)
 have H : (spec_Interleave.l0 k a0 a1 a2 a3 (([a0, a1, a2, a3] : List Int)) 0) = some r := h
 clear h
 obtain ⟨y118, hy118⟩ : ∃ y_ : List Int, y_ = (([a0, a1, a2, a3] : List Int)) := ⟨_, rfl⟩
 replace H : (spec_Interleave.l0 k a0 a1 a2 a3 y118 0) = some r := by first | (rw [hy118]; with_reducible exact H) | (have H2_ := (Option.bind_some _ _).symm.trans H; rw [hy118]; with_reducible exact H2_) | (have H2_ := (Option.bind_some _ _).symm.trans H; with_reducible exact H2_) | with_reducible exact H | (rw [hy118]; exact H) | exact H
 have Ny118 := Aside0.mk hy118
 clear hy118
 have H' := Aside0.mk H
 clear H
 go_enter Try.func149, Try.ntmps149
 go_wp2_with (first | ((with_reducible refine gate_dst (N := 18) rfl ?_); refine Kd.R_lit (Kd.int .i64) _ 3 ?hg (N := 18) ?hd (xs := ([a0, a1, a2, a3] : List Int)) (inner := [.int .i64 a0, .int .i64 a1, .int .i64 a2, .int .i64 a3]) (ok := fun _ => True) (okp := fun _ => True) ?hr ?hp (fun _ hk => hk) trivial (Below.refl _ _) (Nat.le_refl _) (by simp) ?_; (case hd => rfl); (case hg => rfl); (case hr => first | (go_simp; done) | (go_simp; rfl)); (case hp => exact (Reps.one (show Kd.M (Kd.int .i64) _ _ _ a0 [.int .i64 a0] from rfl) (Reps.one (show Kd.M (Kd.int .i64) _ _ _ a1 [.int .i64 a1] from rfl) (Reps.one (show Kd.M (Kd.int .i64) _ _ _ a2 [.int .i64 a2] from rfl) (Reps.one (show Kd.M (Kd.int .i64) _ _ _ a3 [.int .i64 a3] from rfl) (Reps.none _ _)))))); intro v119 w5 ho6 hb hg_ hnew_; clear hg_ hnew_; (first | rw [← Ny118.out] at ho6 | (simp only [Int.reduceToNat] at ho6; rw [← Ny118.out] at ho6)); have HO120 := Aside0.mk (Kd.R_lower ho6 (below_size bA)); replace HB := Aside0.mk (below_step bA hb); clear hb ho6))
 repeat (go_quiet (first | ((with_reducible refine gate_dst (N := 18) rfl ?_); refine Kd.R_lit (Kd.int .i64) _ 3 ?hg (N := 18) ?hd (xs := ([a0, a1, a2, a3] : List Int)) (inner := [.int .i64 a0, .int .i64 a1, .int .i64 a2, .int .i64 a3]) (ok := fun _ => True) (okp := fun _ => True) ?hr ?hp (fun _ hk => hk) trivial (Below.refl _ _) (Nat.le_refl _) (by simp) ?_; (case hd => rfl); (case hg => rfl); (case hr => first | (go_simp; done) | (go_simp; rfl)); (case hp => exact (Reps.one (show Kd.M (Kd.int .i64) _ _ _ a0 [.int .i64 a0] from rfl) (Reps.one (show Kd.M (Kd.int .i64) _ _ _ a1 [.int .i64 a1] from rfl) (Reps.one (show Kd.M (Kd.int .i64) _ _ _ a2 [.int .i64 a2] from rfl) (Reps.one (show Kd.M (Kd.int .i64) _ _ _ a3 [.int .i64 a3] from rfl) (Reps.none _ _)))))); intro v119 w5 ho6 hb hg_ hnew_; clear hg_ hnew_; (first | rw [← Ny118.out] at ho6 | (simp only [Int.reduceToNat] at ho6; rw [← Ny118.out] at ho6)); have HO120 := Aside0.mk (Kd.R_lower ho6 (below_size bA)); replace HB := Aside0.mk (below_step bA hb); clear hb ho6)); try go_wp2_with (first | ((with_reducible refine gate_dst (N := 18) rfl ?_); refine Kd.R_lit (Kd.int .i64) _ 3 ?hg (N := 18) ?hd (xs := ([a0, a1, a2, a3] : List Int)) (inner := [.int .i64 a0, .int .i64 a1, .int .i64 a2, .int .i64 a3]) (ok := fun _ => True) (okp := fun _ => True) ?hr ?hp (fun _ hk => hk) trivial (Below.refl _ _) (Nat.le_refl _) (by simp) ?_; (case hd => rfl); (case hg => rfl); (case hr => first | (go_simp; done) | (go_simp; rfl)); (case hp => exact (Reps.one (show Kd.M (Kd.int .i64) _ _ _ a0 [.int .i64 a0] from rfl) (Reps.one (show Kd.M (Kd.int .i64) _ _ _ a1 [.int .i64 a1] from rfl) (Reps.one (show Kd.M (Kd.int .i64) _ _ _ a2 [.int .i64 a2] from rfl) (Reps.one (show Kd.M (Kd.int .i64) _ _ _ a3 [.int .i64 a3] from rfl) (Reps.none _ _)))))); intro v119 w5 ho6 hb hg_ hnew_; clear hg_ hnew_; (first | rw [← Ny118.out] at ho6 | (simp only [Int.reduceToNat] at ho6; rw [← Ny118.out] at ho6)); have HO120 := Aside0.mk (Kd.R_lower ho6 (below_size bA)); replace HB := Aside0.mk (below_step bA hb); clear hb ho6)))
 go_loopg [10] k (fun kq v10 w' => ∃ (x10_1 : Int), v10 = .int .i64 x10_1 ∧ Aside0 (spec_Interleave.l0 kq a0 a1 a2 a3 y118 x10_1 = some r) ∧ Aside0 (kq ≤ k) ∧ Aside0 (Kd.R (Kd.int .i64) 3 w' w.heap.size (fun _ => True) v119 y118) ∧ Aside0 (Below w.heap.size w w'))
 case atStart => exact ⟨(0), rS, H', ⟨Nat.le_refl _⟩, ⟨rK HO120⟩, ⟨bA⟩⟩
 case round =>
  clear H'
  try clear c1
  try clear p2
  obtain ⟨x10_1, rfl, HA, HK1, HO_9, HB⟩ := hrel
  cases gk with
  | zero => exact absurd HA.out (by simp [spec_Interleave.l0])
  | succ k1 =>
   have H := HA.out
   clear HA
   simp only [spec_Interleave.l0] at H
   by_cases c7 : x10_1 < 4
   ·
    rw [if_pos c7] at H
    have c7b0 := decide_eq_true c7
    clear c7
    have H' := Aside0.mk H
    clear H
    go_wp2
    repeat (go_quiet (fail); try go_wp2)
    go_loopg [11] k1 (fun kq v11 w' => ∃ (x11_2 : Int), v11 = .int .i64 x11_2 ∧ Aside0 (spec_Interleave.l1 kq a0 a1 a2 a3 y118 x10_1 x11_2 = some r) ∧ Aside0 (kq ≤ k1) ∧ Aside0 (Kd.R (Kd.int .i64) 3 w' w.heap.size (fun _ => True) v119 y118) ∧ Aside0 (Below w.heap.size w w'))
    case atStart => exact ⟨(0), rS, H', ⟨Nat.le_refl _⟩, ⟨rK HO_9⟩, ⟨bA⟩⟩
    case round =>
     clear H'
     try clear c1
     try clear p2
     try clear c7
     try clear c7b0
     try clear p2
     obtain ⟨x11_2, rfl, HA, HK2, HO_9, HB⟩ := hrel
     cases gk with
     | zero => exact absurd HA.out (by simp [spec_Interleave.l1])
     | succ k2 =>
      have H := HA.out
      clear HA
      simp only [spec_Interleave.l1] at H
      by_cases c8 : x11_2 < x10_1
      ·
       rw [if_pos c8] at H
       have c8b0 := decide_eq_true c8
       clear c8
       have c9 : 0 ≤ x10_1 := ifN H
       replace H := ifT H
       have c9b0 := decide_eq_true c9
       clear c9
       have c10 : x10_1 < (y118.length : Int) := ifN H
       replace H := ifT H
       have c10b0 := decide_eq_true c10
       clear c10
       have c11 : 0 ≤ x11_2 := ifN H
       replace H := ifT H
       have c11b0 := decide_eq_true c11
       clear c11
       have c12 : x11_2 < (y118.length : Int) := ifN H
       replace H := ifT H
       have c12b0 := decide_eq_true c12
       clear c12
       by_cases c13 : (rd y118 x10_1) = (rd y118 x11_2)
       ·
        rw [if_pos c13] at H
        have c13b0 : ((rd y118 x10_1) == (rd y118 x11_2)) = true := beq_iff_eq.mpr c13
        have c13b1 : ((rd y118 x10_1) != (rd y118 x11_2)) = false := bne_eq_false_iff_eq.mpr c13
        clear c13
        obtain rfl := Option.some.inj H
        obtain ⟨Ao14, co14, eo14⟩ := Kd.R_slice HO_9.out
        subst eo14
        have p121 : 0 ≤ (x10_1 : Int) := dA
        have q121 : x10_1 < (y118.length : Int) := dA
        obtain ⟨ad121, e121, hx121_0⟩ := Kd.at_int (Kd.R_reads' HO_9.out).2.2 x10_1 p121 q121
        cases e121
        replace p121 := eq_true p121
        replace q121 := eq_true q121
        have p122 : 0 ≤ (x11_2 : Int) := dA
        have q122 : x11_2 < (y118.length : Int) := dA
        obtain ⟨ad122, e122, hx122_0⟩ := Kd.at_int (Kd.R_reads' HO_9.out).2.2 x11_2 p122 q122
        obtain rfl : ad121 = ad122 := (by injection e122)
        replace p122 := eq_true p122
        replace q122 := eq_true q122
        go_wp2
        repeat (go_quiet (fail); try go_wp2)
        go_ret
        exact ⟨rA, bA⟩
       ·
        rw [if_neg c13] at H
        have c13b0 : ((rd y118 x10_1) == (rd y118 x11_2)) = false := beq_eq_false_iff_ne.mpr c13
        have c13b1 : ((rd y118 x10_1) != (rd y118 x11_2)) = true := bne_iff_ne.mpr c13
        have H' := Aside0.mk H
        clear H
        obtain ⟨Ao15, co15, eo15⟩ := Kd.R_slice HO_9.out
        subst eo15
        have p121 : 0 ≤ (x10_1 : Int) := dA
        have q121 : x10_1 < (y118.length : Int) := dA
        obtain ⟨ad121, e121, hx121_0⟩ := Kd.at_int (Kd.R_reads' HO_9.out).2.2 x10_1 p121 q121
        cases e121
        replace p121 := eq_true p121
        replace q121 := eq_true q121
        have p122 : 0 ≤ (x11_2 : Int) := dA
        have q122 : x11_2 < (y118.length : Int) := dA
        obtain ⟨ad122, e122, hx122_0⟩ := Kd.at_int (Kd.R_reads' HO_9.out).2.2 x11_2 p122 q122
        obtain rfl : ad121 = ad122 := (by injection e122)
        replace p122 := eq_true p122
        replace q122 := eq_true q122
        go_wp2
        repeat (go_quiet (fail); try go_wp2)
        go_roundg k2
        case measure => have := HK1.out; have := HK2.out; omega
        case rel => exact ⟨(wrap64 (x11_2 + 1)), rS, H', ⟨by have := HK1.out; have := HK2.out; omega⟩, ⟨rK HO_9⟩, ⟨bA⟩⟩
      ·
       rw [if_neg c8] at H
       have c8b0 := decide_eq_false c8
       clear c8
       have c16 : 0 ≤ x10_1 := ifN H
       replace H := ifT H
       have c16b0 := decide_eq_true c16
       clear c16
       have c17 : x10_1 < (y118.length : Int) := ifN H
       replace H := ifT H
       have c17b0 := decide_eq_true c17
       clear c17
       obtain ⟨t124, A18, H⟩ := bindE H
       try dsimp only at H
       by_cases c19 : t124 = true
       ·
        subst c19
        have H1 : (spec_Interleave.l0 k2 a0 a1 a2 a3 y118 (wrap64 (x10_1 + 1))) = some r := by rw [if_pos rfl] at H; exact H
        clear H
        have H := H1
        clear H1
        have H' := Aside0.mk H
        clear H
        obtain ⟨Ao20, co20, eo20⟩ := Kd.R_slice HO_9.out
        subst eo20
        have p123 : 0 ≤ (x10_1 : Int) := dA
        have q123 : x10_1 < (y118.length : Int) := dA
        obtain ⟨ad123, e123, hx123_0⟩ := Kd.at_int (Kd.R_reads' HO_9.out).2.2 x10_1 p123 q123
        cases e123
        replace p123 := eq_true p123
        replace q123 := eq_true q123
        go_wp2_with (first | (go_at_call 62; (with_reducible refine (spec_l1In.calls (rd y118 x10_1) 0 7 true _ A18.out).mono ?_); rintro e w' ⟨rfl, ⟨nd, rfl⟩⟩; (try first | exact ⟨rfl, _, World.drewN_drewN _ _ _⟩ | exact ⟨rfl, _, Eq.trans (World.drewN_drewN _ _ _) (congrArg (World.drewN _) (Nat.add_assoc _ _ _))⟩)))
        repeat (go_quiet (first | (go_at_call 62; (with_reducible refine (spec_l1In.calls (rd y118 x10_1) 0 7 true _ A18.out).mono ?_); rintro e w' ⟨rfl, ⟨nd, rfl⟩⟩; (try first | exact ⟨rfl, _, World.drewN_drewN _ _ _⟩ | exact ⟨rfl, _, Eq.trans (World.drewN_drewN _ _ _) (congrArg (World.drewN _) (Nat.add_assoc _ _ _))⟩))); try go_wp2_with (first | (go_at_call 62; (with_reducible refine (spec_l1In.calls (rd y118 x10_1) 0 7 true _ A18.out).mono ?_); rintro e w' ⟨rfl, ⟨nd, rfl⟩⟩; (try first | exact ⟨rfl, _, World.drewN_drewN _ _ _⟩ | exact ⟨rfl, _, Eq.trans (World.drewN_drewN _ _ _) (congrArg (World.drewN _) (Nat.add_assoc _ _ _))⟩))))
        go_roundg k2
        case measure => have := HK1.out; have := HK2.out; omega
        case rel => exact ⟨(wrap64 (x10_1 + 1)), rS, H', ⟨by have := HK1.out; have := HK2.out; omega⟩, ⟨rK HO_9⟩, ⟨bA⟩⟩
       ·
        replace c19 := Bool.eq_false_iff.mpr c19
        subst c19
        have H1 : (some false) = some r := by rw [if_neg (show ¬ (false = true) by decide)] at H; exact H
        clear H
        have H := H1
        clear H1
        obtain rfl := Option.some.inj H
        obtain ⟨Ao21, co21, eo21⟩ := Kd.R_slice HO_9.out
        subst eo21
        have p123 : 0 ≤ (x10_1 : Int) := dA
        have q123 : x10_1 < (y118.length : Int) := dA
        obtain ⟨ad123, e123, hx123_0⟩ := Kd.at_int (Kd.R_reads' HO_9.out).2.2 x10_1 p123 q123
        cases e123
        replace p123 := eq_true p123
        replace q123 := eq_true q123
        go_wp2_with (first | (go_at_call 62; (with_reducible refine (spec_l1In.calls (rd y118 x10_1) 0 7 false _ A18.out).mono ?_); rintro e w' ⟨rfl, ⟨nd, rfl⟩⟩; (try first | exact ⟨rfl, _, World.drewN_drewN _ _ _⟩ | exact ⟨rfl, _, Eq.trans (World.drewN_drewN _ _ _) (congrArg (World.drewN _) (Nat.add_assoc _ _ _))⟩)))
        repeat (go_quiet (first | (go_at_call 62; (with_reducible refine (spec_l1In.calls (rd y118 x10_1) 0 7 false _ A18.out).mono ?_); rintro e w' ⟨rfl, ⟨nd, rfl⟩⟩; (try first | exact ⟨rfl, _, World.drewN_drewN _ _ _⟩ | exact ⟨rfl, _, Eq.trans (World.drewN_drewN _ _ _) (congrArg (World.drewN _) (Nat.add_assoc _ _ _))⟩))); try go_wp2_with (first | (go_at_call 62; (with_reducible refine (spec_l1In.calls (rd y118 x10_1) 0 7 false _ A18.out).mono ?_); rintro e w' ⟨rfl, ⟨nd, rfl⟩⟩; (try first | exact ⟨rfl, _, World.drewN_drewN _ _ _⟩ | exact ⟨rfl, _, Eq.trans (World.drewN_drewN _ _ _) (congrArg (World.drewN _) (Nat.add_assoc _ _ _))⟩))))
        go_ret
        exact ⟨rA, bA⟩
   ·
    rw [if_neg c7] at H
    have c7b0 := decide_eq_false c7
    clear c7
    have H' := Aside0.mk H
    clear H
    go_wp2
    repeat (go_quiet (fail); try go_wp2)
    go_loopg [12, 13] k1 (fun kq v12 v13 w' => ∃ (x12_2 : Int) (x13_2 : Int), v12 = .int .i64 x12_2 ∧ v13 = .int .i64 x13_2 ∧ Aside0 (spec_Interleave.l2 kq a1 a2 a3 x12_2 x13_2 = some r) ∧ Aside0 (kq ≤ k1) ∧ Aside0 (Below w.heap.size w w'))
    case atStart => exact ⟨(0), (Int.tmod (wrap64 (a0 + 1)) 8), rS, rS, H', ⟨Nat.le_refl _⟩, ⟨bA⟩⟩
    case round =>
     clear H'
     try clear c1
     try clear p1
     try clear q1
     try clear hx1
     try clear p2
     try clear p6
     try clear c7
     try clear c7b0
     try clear c8
     try clear c8b0
     try clear c9
     try clear c9b0
     try clear c10
     try clear c10b0
     try clear c11
     try clear c11b0
     try clear c12
     try clear c12b0
     try clear p12
     try clear q12
     try clear hx12
     try clear c13
     try clear c13b0
     try clear c13b1
     try clear c14
     try clear c16
     try clear c16b0
     try clear c17
     try clear c17b0
     try clear c19
     try clear hx121_0
     try clear hx122_0
     try clear hx123_0
     try clear p121
     try clear p122
     try clear p123
     try clear p2
     try clear q121
     try clear q122
     try clear q123
     obtain ⟨x12_2, x13_2, rfl, rfl, HA, HK2, HB⟩ := hrel
     cases gk with
     | zero => exact absurd HA.out (by simp [spec_Interleave.l2])
     | succ k2 =>
      have H := HA.out
      clear HA
      simp only [spec_Interleave.l2] at H
      by_cases c22 : x13_2 = a1
      ·
       rw [if_pos c22] at H
       have c22b0 : (x13_2 == a1) = true := beq_iff_eq.mpr c22
       have c22b1 : (x13_2 != a1) = false := bne_eq_false_iff_eq.mpr c22
       clear c22
       obtain rfl := Option.some.inj H
       go_wp2
       repeat (go_quiet (fail); try go_wp2)
       go_ret
       exact ⟨rA, bA⟩
      ·
       rw [if_neg c22] at H
       have c22b0 : (x13_2 == a1) = false := beq_eq_false_iff_ne.mpr c22
       have c22b1 : (x13_2 != a1) = true := bne_iff_ne.mpr c22
       by_cases c23 : x13_2 = a2
       ·
        rw [if_pos c23] at H
        have c23b0 : (x13_2 == a2) = true := beq_iff_eq.mpr c23
        have c23b1 : (x13_2 != a2) = false := bne_eq_false_iff_eq.mpr c23
        clear c23
        have H' := Aside0.mk H
        clear H
        go_wp2
        repeat (go_quiet (fail); try go_wp2)
        go_roundg k2
        case measure => have := HK1.out; have := HK2.out; omega
        case rel => exact ⟨(wrap64 (x12_2 + 1)), (Int.tmod (wrap64 (x13_2 + 1)) 8), rS, rS, H', ⟨by have := HK1.out; have := HK2.out; omega⟩, ⟨bA⟩⟩
       ·
        rw [if_neg c23] at H
        have c23b0 : (x13_2 == a2) = false := beq_eq_false_iff_ne.mpr c23
        have c23b1 : (x13_2 != a2) = true := bne_iff_ne.mpr c23
        by_cases c24 : x13_2 = a3
        ·
         rw [if_pos c24] at H
         have c24b0 : (x13_2 == a3) = true := beq_iff_eq.mpr c24
         have c24b1 : (x13_2 != a3) = false := bne_eq_false_iff_eq.mpr c24
         clear c24
         have H' := Aside0.mk H
         clear H
         go_wp2
         repeat (go_quiet (fail); try go_wp2)
         go_roundg k2
         case measure => have := HK1.out; have := HK2.out; omega
         case rel => exact ⟨(wrap64 (x12_2 + 1)), (Int.tmod (wrap64 (x13_2 + 1)) 8), rS, rS, H', ⟨by have := HK1.out; have := HK2.out; omega⟩, ⟨bA⟩⟩
        ·
         rw [if_neg c24] at H
         have c24b0 : (x13_2 == a3) = false := beq_eq_false_iff_ne.mpr c24
         have c24b1 : (x13_2 != a3) = true := bne_iff_ne.mpr c24
         have H' := Aside0.mk H
         clear H
         go_wp2
         repeat (go_quiet (fail); try go_wp2)
         go_roundg k2
         case measure => have := HK1.out; have := HK2.out; omega
         case rel => exact ⟨(x12_2), (Int.tmod (wrap64 (x13_2 + 1)) 8), rS, rS, H', ⟨by have := HK1.out; have := HK2.out; omega⟩, ⟨bA⟩⟩

/-! ### spec_InPlace: function 150 -/
def spec_InPlace.f (a0 : Int) : Option (Int) := (spec_l1In.f a0 0 3).bind fun t125 => (if t125 = true then (some (wrap64 (2 * a0))) else (some (-1)))
set_option maxHeartbeats 8000000 in
set_option maxRecDepth 100000 in
theorem spec_InPlace.calls (a0 : Int) (r : Int) (w : World) (h : spec_InPlace.f a0 = some r) :
  Calls Try.prog 150 #[.int .i64 a0] w fun e w' => e = .returned (.int .i64 r) ∧ Drawn0 w w' := by
 have H : ((spec_l1In.f a0 0 3).bind fun t125 => (if t125 = true then (some (wrap64 (2 * a0))) else (some (-1)))) = some r := h
 clear h
 obtain ⟨t125, A2, H⟩ := bindE H
 try dsimp only at H
 by_cases c3 : t125 = true
 ·
  subst c3
  have H1 : (some (wrap64 (2 * a0))) = some r := by rw [if_pos rfl] at H; exact H
  clear H
  have H := H1
  clear H1
  obtain rfl := Option.some.inj H
  go_enter Try.func150, Try.ntmps150
  go_wp2_with (first | ((with_reducible refine gate_callee (f := 62) rfl ?_); refine gL (some 4) Try.func62 #[.int .i64 a0, .int .i64 0, .int .i64 3] ?_; (with_reducible refine (spec_l1In.calls a0 0 3 true _ A2.out).mono ?_); rintro e w' ⟨rfl, ⟨nd, rfl⟩⟩; refine ⟨_, rfl, ?_⟩))
  go_ret
  exact ⟨by first | rfl | (simp; done) | (simp [*]; done), by repeat (first | exact Drawn0.refl _ | apply Drawn0.step)⟩
 ·
  replace c3 := Bool.eq_false_iff.mpr c3
  subst c3
  have H1 : (some (-1)) = some r := by rw [if_neg (show ¬ (false = true) by decide)] at H; exact H
  clear H
  have H := H1
  clear H1
  obtain rfl := Option.some.inj H
  go_enter Try.func150, Try.ntmps150
  go_wp2_with (first | ((with_reducible refine gate_callee (f := 62) rfl ?_); refine gL (some 4) Try.func62 #[.int .i64 a0, .int .i64 0, .int .i64 3] ?_; (with_reducible refine (spec_l1In.calls a0 0 3 false _ A2.out).mono ?_); rintro e w' ⟨rfl, ⟨nd, rfl⟩⟩; refine ⟨_, rfl, ?_⟩))
  go_ret
  exact ⟨by first | rfl | (simp; done) | (simp [*]; done), by repeat (first | exact Drawn0.refl _ | apply Drawn0.step)⟩

/-! ### spec_OutPlace: function 151 -/
def spec_OutPlace.f (a0 : Int) : Option (Int) := (spec_l1In.f a0 0 3).bind fun t126 => (if t126 = true then (some (wrap64 ((wrap64 (2 * a0)) + 1))) else (some (-1)))
set_option maxHeartbeats 8000000 in
set_option maxRecDepth 100000 in
theorem spec_OutPlace.calls (a0 : Int) (r : Int) (w : World) (h : spec_OutPlace.f a0 = some r) :
  Calls Try.prog 151 #[.int .i64 a0] w fun e w' => e = .returned (.int .i64 r) ∧ Drawn0 w w' := by
 have H : ((spec_l1In.f a0 0 3).bind fun t126 => (if t126 = true then (some (wrap64 ((wrap64 (2 * a0)) + 1))) else (some (-1)))) = some r := h
 clear h
 obtain ⟨t126, A2, H⟩ := bindE H
 try dsimp only at H
 by_cases c3 : t126 = true
 ·
  subst c3
  have H1 : (some (wrap64 ((wrap64 (2 * a0)) + 1))) = some r := by rw [if_pos rfl] at H; exact H
  clear H
  have H := H1
  clear H1
  obtain rfl := Option.some.inj H
  go_enter Try.func151, Try.ntmps151
  go_wp2_with (first | ((with_reducible refine gate_callee (f := 62) rfl ?_); refine gL (some 4) Try.func62 #[.int .i64 a0, .int .i64 0, .int .i64 3] ?_; (with_reducible refine (spec_l1In.calls a0 0 3 true _ A2.out).mono ?_); rintro e w' ⟨rfl, ⟨nd, rfl⟩⟩; refine ⟨_, rfl, ?_⟩))
  go_ret
  exact ⟨by first | rfl | (simp; done) | (simp [*]; done), by repeat (first | exact Drawn0.refl _ | apply Drawn0.step)⟩
 ·
  replace c3 := Bool.eq_false_iff.mpr c3
  subst c3
  have H1 : (some (-1)) = some r := by rw [if_neg (show ¬ (false = true) by decide)] at H; exact H
  clear H
  have H := H1
  clear H1
  obtain rfl := Option.some.inj H
  go_enter Try.func151, Try.ntmps151
  go_wp2_with (first | ((with_reducible refine gate_callee (f := 62) rfl ?_); refine gL (some 4) Try.func62 #[.int .i64 a0, .int .i64 0, .int .i64 3] ?_; (with_reducible refine (spec_l1In.calls a0 0 3 false _ A2.out).mono ?_); rintro e w' ⟨rfl, ⟨nd, rfl⟩⟩; refine ⟨_, rfl, ?_⟩))
  go_ret
  exact ⟨by first | rfl | (simp; done) | (simp [*]; done), by repeat (first | exact Drawn0.refl _ | apply Drawn0.step)⟩

/-! ### spec_Conflict: function 129 -/
def spec_Conflict.j0 : Nat → Bool → Int → Int → Int → Int → Int → Int → Int → Int → Option (Bool)
 | 0, _, _, _, _, _, _, _, _, _ => none
 | k + 1, x5, x128000, x128001, x128002, x128003, x129000, x129001, x129002, x129003 => if x5 = true then (some false) else (if x128001 = 2 then (if x129002 = x128002 then (some true) else (some (x129003 == x128002))) else (if x129001 = 2 then (if x128002 = x129002 then (some true) else (some (x128003 == x129002))) else (if x128002 = x129002 then (some false) else (if x128003 = x129003 then (some true) else ((spec_InPlace.f x128002).bind fun t131 => ((spec_OutPlace.f x128003).bind fun t132 => ((spec_InPlace.f x129002).bind fun t133 => ((spec_OutPlace.f x129003).bind fun t134 => ((spec_Interleave.f k t131 t132 t133 t134).bind fun t135 => (some t135))))))))))
def spec_Conflict.f (k : Nat) (a0_0 : Int) (a0_1 : Int) (a0_2 : Int) (a0_3 : Int) (a1_0 : Int) (a1_1 : Int) (a1_2 : Int) (a1_3 : Int) : Option (Bool) := (spec_IsPath.f a0_0 a0_1 a0_2 a0_3).bind fun t129 => (if t129 = true then ((spec_IsPath.f a1_0 a1_1 a1_2 a1_3).bind fun t130 => (if t130 = true then (if a0_1 = 2 then (spec_Conflict.j0 k (a1_1 == 2) a0_0 a0_1 a0_2 a0_3 a1_0 a1_1 a1_2 a1_3) else (spec_Conflict.j0 k false a0_0 a0_1 a0_2 a0_3 a1_0 a1_1 a1_2 a1_3)) else (spec_Conflict.j0 k true a0_0 a0_1 a0_2 a0_3 a1_0 a1_1 a1_2 a1_3))) else (spec_Conflict.j0 k true a0_0 a0_1 a0_2 a0_3 a1_0 a1_1 a1_2 a1_3))
theorem spec_Conflict.mono_l : ∀ k, (∀ y0 y1 y2 y3 y4 y5 y6 y7 y8, LeO (spec_Conflict.j0 k y0 y1 y2 y3 y4 y5 y6 y7 y8) (spec_Conflict.j0 (k + 1) y0 y1 y2 y3 y4 y5 y6 y7 y8))
 | 0 => fun _ _ _ _ _ _ _ _ _ r h => by simp [spec_Conflict.j0] at h
 | k + 1 => by
  have ih0 := spec_Conflict.mono_l k
  ·
   intro y0 y1 y2 y3 y4 y5 y6 y7 y8
   unfold spec_Conflict.j0
   repeat' first | (with_reducible first | exact LeO.refl _ | exact LeO.none _ | refine LeO.ite ?_ ?_ | refine LeO.bind ?_ (fun _ => ?_) | exact ih0 _ _ _ _ _ _ _ _ _ | exact spec_Interleave.mono _ _ _ _ _)
theorem spec_Conflict.mono : ∀ a0 a1 a2 a3 a4 a5 a6 a7 k, LeO (spec_Conflict.f k a0 a1 a2 a3 a4 a5 a6 a7) (spec_Conflict.f (k + 1) a0 a1 a2 a3 a4 a5 a6 a7) := by
 intro a0 a1 a2 a3 a4 a5 a6 a7 k
 have ih0 := spec_Conflict.mono_l k
 unfold spec_Conflict.f
 repeat' first | (with_reducible first | exact LeO.refl _ | exact LeO.none _ | refine LeO.ite ?_ ?_ | refine LeO.bind ?_ (fun _ => ?_) | exact ih0 _ _ _ _ _ _ _ _ _ | exact spec_Interleave.mono _ _ _ _ _)
def spec_Conflict.T11 : Bool × List (List Nat × List Nat) := (true, [([], []), ([0], [0]), ([1], [1]), ([], []), ([3], [3]), ([4, 2], [4]), ([], []), ([6], [6]), ([7, 5], [7]), ([], []), ([9], [9]), ([10, 8], [10]), ([2, 5, 8, 11, 11], [2, 5, 8, 11]), ([12, 12, 0, 1, 2, 3, 4, 5, 6, 7, 8, 9, 10, 11, 12], [12])])
def spec_Conflict.B11 : List Nat := [0, 1, 3, 0, 8, 31, 0, 64, 255, 0, 512, 2047, 4095, 8191]
theorem spec_Conflict.tab11 : rtab .any (opsOf Try.f129 11) = spec_Conflict.T11 := by kernel_rfl
theorem spec_Conflict.bits11 : waitsOk spec_Conflict.T11.2 spec_Conflict.B11 = true := by kernel_rfl
set_option maxHeartbeats 8000000 in
set_option maxRecDepth 100000 in
theorem spec_Conflict.calls (k : Nat) (a0_0 : Int) (a0_1 : Int) (a0_2 : Int) (a0_3 : Int) (a1_0 : Int) (a1_1 : Int) (a1_2 : Int) (a1_3 : Int) (r : Bool) (w : World) (h : spec_Conflict.f k a0_0 a0_1 a0_2 a0_3 a1_0 a1_1 a1_2 a1_3 = some r) :
  Calls Try.prog 129 #[.agg #[.int .i64 a0_0, .int .i64 a0_1, .int .i64 a0_2, .int .i64 a0_3], .agg #[.int .i64 a1_0, .int .i64 a1_1, .int .i64 a1_2, .int .i64 a1_3]] w fun e w' => e = .returned (.bool r) ∧ Below w.heap.size w w' := by
 have hu89 := Try.underlying89
 have HB := Aside0.mk (Below.refl w.heap.size w)
 have H : ((spec_IsPath.f a0_0 a0_1 a0_2 a0_3).bind fun t129 => (if t129 = true then ((spec_IsPath.f a1_0 a1_1 a1_2 a1_3).bind fun t130 => (if t130 = true then (if a0_1 = 2 then (spec_Conflict.j0 k (a1_1 == 2) a0_0 a0_1 a0_2 a0_3 a1_0 a1_1 a1_2 a1_3) else (spec_Conflict.j0 k false a0_0 a0_1 a0_2 a0_3 a1_0 a1_1 a1_2 a1_3)) else (spec_Conflict.j0 k true a0_0 a0_1 a0_2 a0_3 a1_0 a1_1 a1_2 a1_3))) else (spec_Conflict.j0 k true a0_0 a0_1 a0_2 a0_3 a1_0 a1_1 a1_2 a1_3))) = some r := h
 clear h
 have HC3 := Aside0.mk H
 clear H
 go_enter Try.func129, Try.ntmps129
 go_upto_region 1 with (first | ((with_reducible refine gate_dst (N := 2) rfl ?_); refine bE (N := 2) (cs := #[.int .i64 a0_0, .int .i64 a0_1, .int .i64 a0_2, .int .i64 a0_3]) (t := 89) ?_; intro gb127 hg w4 hbox hb; have n0_ := Aside0.mk (below_step bA hb); have n1_ := Aside0.mk (hbox); have n2_ := Aside0.mk ((by rw [hg]; exact (below_size bA) : w.heap.size ≤ gb127)); have n3_ := Aside0.mk ((by rw [hg]; exact (below_size bA) : w.heap.size ≤ gb127)); clear HB; have HB := n0_; have BK127 := n1_; have GW127 := n2_; have GE127 := n3_; clear n0_ n1_ n2_ n3_; clear hb hbox hg) | ((with_reducible refine gate_dst (N := 3) rfl ?_); refine bE (N := 3) (cs := #[.int .i64 a1_0, .int .i64 a1_1, .int .i64 a1_2, .int .i64 a1_3]) (t := 89) ?_; intro gb128 hg w5 hbox hb; have n0_ := Aside0.mk (blk_below (g := gb127) (bK BK127) hb); have n1_ := Aside0.mk (below_step bG hb); have n2_ := Aside0.mk (hbox); have n3_ := Aside0.mk ((by rw [hg]; exact (below_size bG) : w.heap.size ≤ gb128)); have n4_ := Aside0.mk ((by rw [hg]; exact (below_size bG) : w.heap.size ≤ gb128)); have n5_ := Aside0.mk ((by rw [hg]; exact Nat.ne_of_lt (blk_lt (g := gb127) (o := .cells #[.int .i64 a0_0, .int .i64 a0_1, .int .i64 a0_2, .int .i64 a0_3] 89 (0, 0)) (bK BK127)) : gb127 ≠ gb128)); have n6_ := Aside0.mk ((by rw [hg]; exact Nat.ne_of_gt (blk_lt (g := gb127) (o := .cells #[.int .i64 a0_0, .int .i64 a0_1, .int .i64 a0_2, .int .i64 a0_3] 89 (0, 0)) (bK BK127)) : gb128 ≠ gb127)); clear BK127; clear HB; have BK127 := n0_; have HB := n1_; have BK128 := n2_; have GW128 := n3_; have GE128 := n4_; have NB127_128 := n5_; have NB128_127 := n6_; clear n0_ n1_ n2_ n3_ n4_ n5_ n6_; clear hb hbox hg))
 (try simp only [Act.put, List.setIfInBounds_toArray, List.set_cons_zero, List.set_cons_succ])
 go_cut [5] (fun v5 wc => ∃ (kq : Nat) (x5_2 : Bool), v5 = .bool x5_2 ∧ Aside0 (spec_Conflict.j0 kq x5_2 a0_0 a0_1 a0_2 a0_3 a1_0 a1_1 a1_2 a1_3 = some r) ∧ Aside0 (kq ≤ k) ∧ Aside0 (wc.heap[gb127]? = some (.cells #[.int .i64 a0_0, .int .i64 a0_1, .int .i64 a0_2, .int .i64 a0_3] 89 (0, 0))) ∧ Aside0 (wc.heap[gb128]? = some (.cells #[.int .i64 a1_0, .int .i64 a1_1, .int .i64 a1_2, .int .i64 a1_3] 89 (0, 0))) ∧ Aside0 (Below w.heap.size w wc))
 case first =>
  have H := HC3.out
  clear HC3
  obtain ⟨t129, A6, H⟩ := bindE H
  try dsimp only at H
  by_cases c7 : t129 = true
  ·
   subst c7
   have H1 : ((spec_IsPath.f a1_0 a1_1 a1_2 a1_3).bind fun t130 => (if t130 = true then (if a0_1 = 2 then (spec_Conflict.j0 k (a1_1 == 2) a0_0 a0_1 a0_2 a0_3 a1_0 a1_1 a1_2 a1_3) else (spec_Conflict.j0 k false a0_0 a0_1 a0_2 a0_3 a1_0 a1_1 a1_2 a1_3)) else (spec_Conflict.j0 k true a0_0 a0_1 a0_2 a0_3 a1_0 a1_1 a1_2 a1_3))) = some r := by rw [if_pos rfl] at H; exact H
   clear H
   have H := H1
   clear H1
   obtain ⟨t130, A8, H⟩ := bindE H
   try dsimp only at H
   by_cases c9 : t130 = true
   ·
    subst c9
    have H1 : (if a0_1 = 2 then (spec_Conflict.j0 k (a1_1 == 2) a0_0 a0_1 a0_2 a0_3 a1_0 a1_1 a1_2 a1_3) else (spec_Conflict.j0 k false a0_0 a0_1 a0_2 a0_3 a1_0 a1_1 a1_2 a1_3)) = some r := by rw [if_pos rfl] at H; exact H
    clear H
    have H := H1
    clear H1
    by_cases c10 : a0_1 = 2
    ·
     rw [if_pos c10] at H
     have c10b0 : (a0_1 == 2) = true := beq_iff_eq.mpr c10
     have c10b1 : (a0_1 != 2) = false := bne_eq_false_iff_eq.mpr c10
     clear c10
     (first | rw [c10b0] | (simp only [i64_w, i32_w]; rw [c10b0]) | skip)
     have H' := Aside0.mk H
     clear H
     have hnb11 := NB127_128.out
     have hnc11 := NB128_127.out
     obtain ⟨hcz12_0, hcz12_1, hcz12_2, hcz12_3, hfz12_0, hfz12_1, hfz12_2, hfz12_3⟩ := blkc4 BK127
     go_wp2_with (first | ((with_reducible refine gate_callee (f := 145) rfl ?_); refine gL (some 7) Try.func145 #[.agg #[.int .i64 a0_0, .int .i64 a0_1, .int .i64 a0_2, .int .i64 a0_3]] ?_; (with_reducible refine (spec_IsPath.calls a0_0 a0_1 a0_2 a0_3 true _ A6.out).mono ?_); rintro e w13 ⟨rfl, hb⟩; refine ⟨_, rfl, ?_⟩; replace BK127 := Aside0.mk (blk_below (g := gb127) (bK BK127) hb); replace BK128 := Aside0.mk (blk_below (g := gb128) (bK BK128) hb); replace HB := Aside0.mk (below_step bG hb); (try clear hb); have hcz14_0 : w13.cell? ⟨gb128, 0, none⟩ = some (.int .i64 a1_0) := bC BK128 0; have hcz14_1 : w13.cell? ⟨gb128, 1, none⟩ = some (.int .i64 a1_1) := bC BK128 1; have hcz14_2 : w13.cell? ⟨gb128, 2, none⟩ = some (.int .i64 a1_2) := bC BK128 2; have hcz14_3 : w13.cell? ⟨gb128, 3, none⟩ = some (.int .i64 a1_3) := bC BK128 3; have hfz14_0 := blk_frozen BK128.out 0; have hfz14_1 := blk_frozen BK128.out 1; have hfz14_2 := blk_frozen BK128.out 2; have hfz14_3 := blk_frozen BK128.out 3) | (go_at_call 145; (with_reducible refine (spec_IsPath.calls a1_0 a1_1 a1_2 a1_3 true _ A8.out).mono ?_); rintro e w15 ⟨rfl, hb⟩; replace BK127 := Aside0.mk (blk_below (g := gb127) (bK BK127) hb); replace BK128 := Aside0.mk (blk_below (g := gb128) (bK BK128) hb); replace HB := Aside0.mk (below_step bG hb); (try clear hb); obtain ⟨hcz16_0, hcz16_1, hcz16_2, hcz16_3, hfz16_0, hfz16_1, hfz16_2, hfz16_3⟩ := blkc4 BK127; obtain ⟨hcz17_0, hcz17_1, hcz17_2, hcz17_3, hfz17_0, hfz17_1, hfz17_2, hfz17_3⟩ := blkc4 BK128))
     go_meet
     case rel => exact ⟨_, ((a1_1 == 2)), rS, H', ⟨by first | omega | exact Nat.le_refl _⟩, ⟨bK BK127⟩, ⟨bK BK128⟩, ⟨bG⟩⟩
    ·
     rw [if_neg c10] at H
     have c10b0 : (a0_1 == 2) = false := beq_eq_false_iff_ne.mpr c10
     have c10b1 : (a0_1 != 2) = true := bne_iff_ne.mpr c10
     (first | rw [c10b0] | (simp only [i64_w, i32_w]; rw [c10b0]) | skip)
     have H' := Aside0.mk H
     clear H
     have hnb18 := NB127_128.out
     have hnc18 := NB128_127.out
     obtain ⟨hcz19_0, hcz19_1, hcz19_2, hcz19_3, hfz19_0, hfz19_1, hfz19_2, hfz19_3⟩ := blkc4 BK127
     go_wp2_with (first | ((with_reducible refine gate_callee (f := 145) rfl ?_); refine gL (some 7) Try.func145 #[.agg #[.int .i64 a0_0, .int .i64 a0_1, .int .i64 a0_2, .int .i64 a0_3]] ?_; (with_reducible refine (spec_IsPath.calls a0_0 a0_1 a0_2 a0_3 true _ A6.out).mono ?_); rintro e w20 ⟨rfl, hb⟩; refine ⟨_, rfl, ?_⟩; replace BK127 := Aside0.mk (blk_below (g := gb127) (bK BK127) hb); replace BK128 := Aside0.mk (blk_below (g := gb128) (bK BK128) hb); replace HB := Aside0.mk (below_step bG hb); (try clear hb); have hcz21_0 : w20.cell? ⟨gb128, 0, none⟩ = some (.int .i64 a1_0) := bC BK128 0; have hcz21_1 : w20.cell? ⟨gb128, 1, none⟩ = some (.int .i64 a1_1) := bC BK128 1; have hcz21_2 : w20.cell? ⟨gb128, 2, none⟩ = some (.int .i64 a1_2) := bC BK128 2; have hcz21_3 : w20.cell? ⟨gb128, 3, none⟩ = some (.int .i64 a1_3) := bC BK128 3; have hfz21_0 := blk_frozen BK128.out 0; have hfz21_1 := blk_frozen BK128.out 1; have hfz21_2 := blk_frozen BK128.out 2; have hfz21_3 := blk_frozen BK128.out 3) | (go_at_call 145; (with_reducible refine (spec_IsPath.calls a1_0 a1_1 a1_2 a1_3 true _ A8.out).mono ?_); rintro e w22 ⟨rfl, hb⟩; replace BK127 := Aside0.mk (blk_below (g := gb127) (bK BK127) hb); replace BK128 := Aside0.mk (blk_below (g := gb128) (bK BK128) hb); replace HB := Aside0.mk (below_step bG hb); (try clear hb); obtain ⟨hcz23_0, hcz23_1, hcz23_2, hcz23_3, hfz23_0, hfz23_1, hfz23_2, hfz23_3⟩ := blkc4 BK127))
     go_meet
     case rel => exact ⟨_, (false), rS, H', ⟨by first | omega | exact Nat.le_refl _⟩, ⟨bK BK127⟩, ⟨bK BK128⟩, ⟨bG⟩⟩
   ·
    replace c9 := Bool.eq_false_iff.mpr c9
    subst c9
    have H1 : (spec_Conflict.j0 k true a0_0 a0_1 a0_2 a0_3 a1_0 a1_1 a1_2 a1_3) = some r := by rw [if_neg (show ¬ (false = true) by decide)] at H; exact H
    clear H
    have H := H1
    clear H1
    have H' := Aside0.mk H
    clear H
    have hnb24 := NB127_128.out
    have hnc24 := NB128_127.out
    obtain ⟨hcz25_0, hcz25_1, hcz25_2, hcz25_3, hfz25_0, hfz25_1, hfz25_2, hfz25_3⟩ := blkc4 BK127
    go_wp2_with (first | ((with_reducible refine gate_callee (f := 145) rfl ?_); refine gL (some 7) Try.func145 #[.agg #[.int .i64 a0_0, .int .i64 a0_1, .int .i64 a0_2, .int .i64 a0_3]] ?_; (with_reducible refine (spec_IsPath.calls a0_0 a0_1 a0_2 a0_3 true _ A6.out).mono ?_); rintro e w26 ⟨rfl, hb⟩; refine ⟨_, rfl, ?_⟩; replace BK127 := Aside0.mk (blk_below (g := gb127) (bK BK127) hb); replace BK128 := Aside0.mk (blk_below (g := gb128) (bK BK128) hb); replace HB := Aside0.mk (below_step bG hb); (try clear hb); have hcz27_0 : w26.cell? ⟨gb128, 0, none⟩ = some (.int .i64 a1_0) := bC BK128 0; have hcz27_1 : w26.cell? ⟨gb128, 1, none⟩ = some (.int .i64 a1_1) := bC BK128 1; have hcz27_2 : w26.cell? ⟨gb128, 2, none⟩ = some (.int .i64 a1_2) := bC BK128 2; have hcz27_3 : w26.cell? ⟨gb128, 3, none⟩ = some (.int .i64 a1_3) := bC BK128 3; have hfz27_0 := blk_frozen BK128.out 0; have hfz27_1 := blk_frozen BK128.out 1; have hfz27_2 := blk_frozen BK128.out 2; have hfz27_3 := blk_frozen BK128.out 3) | (go_at_call 145; (with_reducible refine (spec_IsPath.calls a1_0 a1_1 a1_2 a1_3 false _ A8.out).mono ?_); rintro e w28 ⟨rfl, hb⟩; replace BK127 := Aside0.mk (blk_below (g := gb127) (bK BK127) hb); replace BK128 := Aside0.mk (blk_below (g := gb128) (bK BK128) hb); replace HB := Aside0.mk (below_step bG hb); (try clear hb)))
    go_meet
    case rel => exact ⟨_, (true), rS, H', ⟨by first | omega | exact Nat.le_refl _⟩, ⟨bK BK127⟩, ⟨bK BK128⟩, ⟨bG⟩⟩
  ·
   replace c7 := Bool.eq_false_iff.mpr c7
   subst c7
   have H1 : (spec_Conflict.j0 k true a0_0 a0_1 a0_2 a0_3 a1_0 a1_1 a1_2 a1_3) = some r := by rw [if_neg (show ¬ (false = true) by decide)] at H; exact H
   clear H
   have H := H1
   clear H1
   have H' := Aside0.mk H
   clear H
   have hnb29 := NB127_128.out
   have hnc29 := NB128_127.out
   obtain ⟨hcz30_0, hcz30_1, hcz30_2, hcz30_3, hfz30_0, hfz30_1, hfz30_2, hfz30_3⟩ := blkc4 BK127
   go_wp2_with (first | ((with_reducible refine gate_callee (f := 145) rfl ?_); refine gL (some 7) Try.func145 #[.agg #[.int .i64 a0_0, .int .i64 a0_1, .int .i64 a0_2, .int .i64 a0_3]] ?_; (with_reducible refine (spec_IsPath.calls a0_0 a0_1 a0_2 a0_3 false _ A6.out).mono ?_); rintro e w31 ⟨rfl, hb⟩; refine ⟨_, rfl, ?_⟩; replace BK127 := Aside0.mk (blk_below (g := gb127) (bK BK127) hb); replace BK128 := Aside0.mk (blk_below (g := gb128) (bK BK128) hb); replace HB := Aside0.mk (below_step bG hb); (try clear hb)))
   go_meet
   case rel => exact ⟨_, (true), rS, H', ⟨by first | omega | exact Nat.le_refl _⟩, ⟨bK BK127⟩, ⟨bK BK128⟩, ⟨bG⟩⟩
 case rest =>
  clear HC3
  try clear c1
  try clear c2
  try clear p2
  try clear c7
  try clear c9
  try clear c10
  try clear c10b0
  try clear c10b1
  try clear c11
  try clear c12
  try clear c14
  try clear c18
  try clear c24
  try clear c29
  try clear hcz12_0
  try clear hcz12_1
  try clear hcz12_2
  try clear hcz12_3
  try clear hcz14_0
  try clear hcz14_1
  try clear hcz14_2
  try clear hcz14_3
  try clear hcz16_0
  try clear hcz16_1
  try clear hcz16_2
  try clear hcz16_3
  try clear hcz17_0
  try clear hcz17_1
  try clear hcz17_2
  try clear hcz17_3
  try clear hcz19_0
  try clear hcz19_1
  try clear hcz19_2
  try clear hcz19_3
  try clear hcz21_0
  try clear hcz21_1
  try clear hcz21_2
  try clear hcz21_3
  try clear hcz23_0
  try clear hcz23_1
  try clear hcz23_2
  try clear hcz23_3
  try clear hcz25_0
  try clear hcz25_1
  try clear hcz25_2
  try clear hcz25_3
  try clear hcz27_0
  try clear hcz27_1
  try clear hcz27_2
  try clear hcz27_3
  try clear hcz30_0
  try clear hcz30_1
  try clear hcz30_2
  try clear hcz30_3
  try clear hfz12_0
  try clear hfz12_1
  try clear hfz12_2
  try clear hfz12_3
  try clear hfz14_0
  try clear hfz14_1
  try clear hfz14_2
  try clear hfz14_3
  try clear hfz16_0
  try clear hfz16_1
  try clear hfz16_2
  try clear hfz16_3
  try clear hfz17_0
  try clear hfz17_1
  try clear hfz17_2
  try clear hfz17_3
  try clear hfz19_0
  try clear hfz19_1
  try clear hfz19_2
  try clear hfz19_3
  try clear hfz21_0
  try clear hfz21_1
  try clear hfz21_2
  try clear hfz21_3
  try clear hfz23_0
  try clear hfz23_1
  try clear hfz23_2
  try clear hfz23_3
  try clear hfz25_0
  try clear hfz25_1
  try clear hfz25_2
  try clear hfz25_3
  try clear hfz27_0
  try clear hfz27_1
  try clear hfz27_2
  try clear hfz27_3
  try clear hfz30_0
  try clear hfz30_1
  try clear hfz30_2
  try clear hfz30_3
  obtain ⟨kq, x5_2, rfl, HA, HJ2, BK127, BK128, HB⟩ := hcut
  cases kq with
  | zero => exact absurd HA.out (by simp [spec_Conflict.j0])
  | succ kj2 =>
   have H := HA.out
   clear HA
   simp only [spec_Conflict.j0] at H
   by_cases c32 : x5_2 = true
   ·
    subst c32
    have H1 : (some false) = some r := by rw [if_pos rfl] at H; exact H
    clear H
    have H := H1
    clear H1
    obtain rfl := Option.some.inj H
    go_wp2
    go_ret
    exact ⟨rA, bG⟩
   ·
    replace c32 := Bool.eq_false_iff.mpr c32
    subst c32
    have H1 : (if a0_1 = 2 then (if a1_2 = a0_2 then (some true) else (some (a1_3 == a0_2))) else (if a1_1 = 2 then (if a0_2 = a1_2 then (some true) else (some (a0_3 == a1_2))) else (if a0_2 = a1_2 then (some false) else (if a0_3 = a1_3 then (some true) else ((spec_InPlace.f a0_2).bind fun t131 => ((spec_OutPlace.f a0_3).bind fun t132 => ((spec_InPlace.f a1_2).bind fun t133 => ((spec_OutPlace.f a1_3).bind fun t134 => ((spec_Interleave.f kj2 t131 t132 t133 t134).bind fun t135 => (some t135)))))))))) = some r := by rw [if_neg (show ¬ (false = true) by decide)] at H; exact H
    clear H
    have H := H1
    clear H1
    by_cases c33 : a0_1 = 2
    ·
     rw [if_pos c33] at H
     have c33b0 : (a0_1 == 2) = true := beq_iff_eq.mpr c33
     have c33b1 : (a0_1 != 2) = false := bne_eq_false_iff_eq.mpr c33
     clear c33
     by_cases c34 : a1_2 = a0_2
     ·
      rw [if_pos c34] at H
      have c34b0 : (a1_2 == a0_2) = true := beq_iff_eq.mpr c34
      have c34b1 : (a1_2 != a0_2) = false := bne_eq_false_iff_eq.mpr c34
      clear c34
      obtain rfl := Option.some.inj H
      have hnb35 := NB127_128.out
      have hnc35 := NB128_127.out
      obtain ⟨hcz36_0, hcz36_1, hcz36_2, hcz36_3, hfz36_0, hfz36_1, hfz36_2, hfz36_3⟩ := blkc4 BK127
      obtain ⟨hcz37_0, hcz37_1, hcz37_2, hcz37_3, hfz37_0, hfz37_1, hfz37_2, hfz37_3⟩ := blkc4 BK128
      go_wp2
      go_ret
      exact ⟨rA, bG⟩
     ·
      rw [if_neg c34] at H
      have c34b0 : (a1_2 == a0_2) = false := beq_eq_false_iff_ne.mpr c34
      have c34b1 : (a1_2 != a0_2) = true := bne_iff_ne.mpr c34
      obtain rfl := Option.some.inj H
      have hnb38 := NB127_128.out
      have hnc38 := NB128_127.out
      obtain ⟨hcz39_0, hcz39_1, hcz39_2, hcz39_3, hfz39_0, hfz39_1, hfz39_2, hfz39_3⟩ := blkc4 BK127
      obtain ⟨hcz40_0, hcz40_1, hcz40_2, hcz40_3, hfz40_0, hfz40_1, hfz40_2, hfz40_3⟩ := blkc4 BK128
      go_wp2
      go_ret
      exact ⟨rA, bG⟩
    ·
     rw [if_neg c33] at H
     have c33b0 : (a0_1 == 2) = false := beq_eq_false_iff_ne.mpr c33
     have c33b1 : (a0_1 != 2) = true := bne_iff_ne.mpr c33
     by_cases c41 : a1_1 = 2
     ·
      rw [if_pos c41] at H
      have c41b0 : (a1_1 == 2) = true := beq_iff_eq.mpr c41
      have c41b1 : (a1_1 != 2) = false := bne_eq_false_iff_eq.mpr c41
      clear c41
      by_cases c42 : a0_2 = a1_2
      ·
       rw [if_pos c42] at H
       have c42b0 : (a0_2 == a1_2) = true := beq_iff_eq.mpr c42
       have c42b1 : (a0_2 != a1_2) = false := bne_eq_false_iff_eq.mpr c42
       clear c42
       obtain rfl := Option.some.inj H
       have hnb43 := NB127_128.out
       have hnc43 := NB128_127.out
       obtain ⟨hcz44_0, hcz44_1, hcz44_2, hcz44_3, hfz44_0, hfz44_1, hfz44_2, hfz44_3⟩ := blkc4 BK127
       obtain ⟨hcz45_0, hcz45_1, hcz45_2, hcz45_3, hfz45_0, hfz45_1, hfz45_2, hfz45_3⟩ := blkc4 BK128
       go_wp2
       go_ret
       exact ⟨rA, bG⟩
      ·
       rw [if_neg c42] at H
       have c42b0 : (a0_2 == a1_2) = false := beq_eq_false_iff_ne.mpr c42
       have c42b1 : (a0_2 != a1_2) = true := bne_iff_ne.mpr c42
       obtain rfl := Option.some.inj H
       have hnb46 := NB127_128.out
       have hnc46 := NB128_127.out
       obtain ⟨hcz47_0, hcz47_1, hcz47_2, hcz47_3, hfz47_0, hfz47_1, hfz47_2, hfz47_3⟩ := blkc4 BK127
       obtain ⟨hcz48_0, hcz48_1, hcz48_2, hcz48_3, hfz48_0, hfz48_1, hfz48_2, hfz48_3⟩ := blkc4 BK128
       go_wp2
       go_ret
       exact ⟨rA, bG⟩
     ·
      rw [if_neg c41] at H
      have c41b0 : (a1_1 == 2) = false := beq_eq_false_iff_ne.mpr c41
      have c41b1 : (a1_1 != 2) = true := bne_iff_ne.mpr c41
      by_cases c49 : a0_2 = a1_2
      ·
       rw [if_pos c49] at H
       have c49b0 : (a0_2 == a1_2) = true := beq_iff_eq.mpr c49
       have c49b1 : (a0_2 != a1_2) = false := bne_eq_false_iff_eq.mpr c49
       clear c49
       obtain rfl := Option.some.inj H
       have hnb50 := NB127_128.out
       have hnc50 := NB128_127.out
       obtain ⟨hcz51_0, hcz51_1, hcz51_2, hcz51_3, hfz51_0, hfz51_1, hfz51_2, hfz51_3⟩ := blkc4 BK127
       obtain ⟨hcz52_0, hcz52_1, hcz52_2, hcz52_3, hfz52_0, hfz52_1, hfz52_2, hfz52_3⟩ := blkc4 BK128
       go_wp2
       go_ret
       exact ⟨rA, bG⟩
      ·
       rw [if_neg c49] at H
       have c49b0 : (a0_2 == a1_2) = false := beq_eq_false_iff_ne.mpr c49
       have c49b1 : (a0_2 != a1_2) = true := bne_iff_ne.mpr c49
       by_cases c53 : a0_3 = a1_3
       ·
        rw [if_pos c53] at H
        have c53b0 : (a0_3 == a1_3) = true := beq_iff_eq.mpr c53
        have c53b1 : (a0_3 != a1_3) = false := bne_eq_false_iff_eq.mpr c53
        clear c53
        obtain rfl := Option.some.inj H
        have hnb54 := NB127_128.out
        have hnc54 := NB128_127.out
        obtain ⟨hcz55_0, hcz55_1, hcz55_2, hcz55_3, hfz55_0, hfz55_1, hfz55_2, hfz55_3⟩ := blkc4 BK127
        obtain ⟨hcz56_0, hcz56_1, hcz56_2, hcz56_3, hfz56_0, hfz56_1, hfz56_2, hfz56_3⟩ := blkc4 BK128
        go_wp2
        go_ret
        exact ⟨rA, bG⟩
       ·
        rw [if_neg c53] at H
        have c53b0 : (a0_3 == a1_3) = false := beq_eq_false_iff_ne.mpr c53
        have c53b1 : (a0_3 != a1_3) = true := bne_iff_ne.mpr c53
        obtain ⟨t131, A57, H⟩ := bindE H
        try dsimp only at H
        obtain ⟨t132, A58, H⟩ := bindE H
        try dsimp only at H
        obtain ⟨t133, A59, H⟩ := bindE H
        try dsimp only at H
        obtain ⟨t134, A60, H⟩ := bindE H
        try dsimp only at H
        obtain ⟨t135, A61, H⟩ := bindE H
        try dsimp only at H
        obtain rfl := Option.some.inj H
        have hnb62 := NB127_128.out
        have hnc62 := NB128_127.out
        obtain ⟨hcz63_0, hcz63_1, hcz63_2, hcz63_3, hfz63_0, hfz63_1, hfz63_2, hfz63_3⟩ := blkc4 BK127
        obtain ⟨hcz64_0, hcz64_1, hcz64_2, hcz64_3, hfz64_0, hfz64_1, hfz64_2, hfz64_3⟩ := blkc4 BK128
        try go_wp2
        replace BK127 := Aside0.mk (blk_drew BK127.out)
        replace BK128 := Aside0.mk (blk_drew BK128.out)
        have HBo := HB
        replace HB := Aside0.mk (below_drew1 HB.out)
        refine start_ (n := 14) (S := fun w' => w'.cell? ⟨gb127, 0, none⟩ = some (.int .i64 a0_0) ∧ w'.cell? ⟨gb127, 1, none⟩ = some (.int .i64 a0_1) ∧ w'.cell? ⟨gb127, 2, none⟩ = some (.int .i64 a0_2) ∧ w'.cell? ⟨gb127, 3, none⟩ = some (.int .i64 a0_3) ∧ w'.cell? ⟨gb128, 0, none⟩ = some (.int .i64 a1_0) ∧ w'.cell? ⟨gb128, 1, none⟩ = some (.int .i64 a1_1) ∧ w'.cell? ⟨gb128, 2, none⟩ = some (.int .i64 a1_2) ∧ w'.cell? ⟨gb128, 3, none⟩ = some (.int .i64 a1_3)) (ds := []) (mb 14 0) (by kernel_rfl) rfl rfl ⟨bC BK127 0, bC BK127 1, bC BK127 2, bC BK127 3, bC BK128 0, bC BK128 1, bC BK128 2, bC BK128 3⟩ (fun hHeld => ?_); refine with_tabW spec_Conflict.tab11 spec_Conflict.bits11 (fun HT_ HW_ => ?_)
        generalize wc.drew = w65 at BK127 BK128 HB hHeld ⊢
        refine pA (i := 0) (N := some 68) (mb 14 1) HT_ ?_
        refine pA (i := 3) (N := some 71) (mb 14 9) HT_ ?_
        refine pA (i := 6) (N := some 74) (mb 14 73) HT_ ?_
        refine pA (i := 9) (N := some 77) (mb 14 585) HT_ ?_
        refine tA8 (i := 1) (N := some 69) (mb 14 587) HT_ HW_ hHeld ?_
        refine tA8 (i := 4) (N := some 72) (mb 14 603) HT_ HW_ hHeld ?_
        refine tA8 (i := 7) (N := some 75) (mb 14 731) HT_ HW_ hHeld ?_
        refine tA8 (i := 10) (N := some 78) (mb 14 1755) HT_ HW_ hHeld ?_
        refine oA (i := 2) (N := some 70) (mb 14 1759) HT_ (fun K hK => ?_)
        refine gA Try.func150 #[.int .i64 a0_2] ?_
        with_reducible refine (spec_InPlace.calls a0_2 t131 _ A57.out).mono ?_
        rintro e w' ⟨rfl, ⟨nd, rfl⟩⟩
        refine ⟨_, rfl, ?_⟩
        refine hK.out _ _ ⟨bC BK127 0, bC BK127 1, bC BK127 2, bC BK127 3, bC BK128 0, bC BK128 1, bC BK128 2, bC BK128 3⟩ (fun hHeld => ?_)
        clear hK K
        refine nB ?_
        refine oA (i := 5) (N := some 73) (mb 14 1791) HT_ (fun K hK => ?_)
        refine gA Try.func151 #[.int .i64 a0_3] ?_
        with_reducible refine (spec_OutPlace.calls a0_3 t132 _ A58.out).mono ?_
        rintro e w' ⟨rfl, ⟨nd, rfl⟩⟩
        refine ⟨_, rfl, ?_⟩
        refine hK.out _ _ ⟨bC BK127 0, bC BK127 1, bC BK127 2, bC BK127 3, bC BK128 0, bC BK128 1, bC BK128 2, bC BK128 3⟩ (fun hHeld => ?_)
        clear hK K
        refine nB ?_
        refine oA (i := 8) (N := some 76) (mb 14 2047) HT_ (fun K hK => ?_)
        refine gA Try.func150 #[.int .i64 a1_2] ?_
        with_reducible refine (spec_InPlace.calls a1_2 t133 _ A59.out).mono ?_
        rintro e w' ⟨rfl, ⟨nd, rfl⟩⟩
        refine ⟨_, rfl, ?_⟩
        refine hK.out _ _ ⟨bC BK127 0, bC BK127 1, bC BK127 2, bC BK127 3, bC BK128 0, bC BK128 1, bC BK128 2, bC BK128 3⟩ (fun hHeld => ?_)
        clear hK K
        refine nB ?_
        refine oA (i := 11) (N := some 79) (mb 14 4095) HT_ (fun K hK => ?_)
        refine gA Try.func151 #[.int .i64 a1_3] ?_
        with_reducible refine (spec_OutPlace.calls a1_3 t134 _ A60.out).mono ?_
        rintro e w' ⟨rfl, ⟨nd, rfl⟩⟩
        refine ⟨_, rfl, ?_⟩
        refine hK.out _ _ ⟨bC BK127 0, bC BK127 1, bC BK127 2, bC BK127 3, bC BK128 0, bC BK128 1, bC BK128 2, bC BK128 3⟩ (fun hHeld => ?_)
        clear hK K
        refine nB ?_
        refine oA (i := 12) (N := some 80) (mb 14 8191) HT_ (fun K hK => ?_)
        refine gA Try.func149 #[.int .i64 t131, .int .i64 t132, .int .i64 t133, .int .i64 t134] ?_
        with_reducible refine (spec_Interleave.calls kj2 t131 t132 t133 t134 t135 _ A61.out).mono ?_
        rintro e w66 ⟨rfl, hb⟩
        refine ⟨_, rfl, ?_⟩
        replace BK127 := Aside0.mk (blk_below (g := gb127) (bK BK127) hb)
        replace BK128 := Aside0.mk (blk_below (g := gb128) (bK BK128) hb)
        replace HB := Aside0.mk (below_step bG hb)
        (try clear hb)
        (try clear hb2)
        (try clear hk)
        (try clear hi)
        refine hK.out _ _ ⟨bC BK127 0, bC BK127 1, bC BK127 2, bC BK127 3, bC BK128 0, bC BK128 1, bC BK128 2, bC BK128 3⟩ (fun hHeld => ?_)
        clear hK K
        refine nB ?_
        refine pA (i := 13) (N := some 4) (mb 14 16383) HT_ ?_
        refine eA HT_ ?_
        try go_wp2
        go_ret
        exact ⟨rA, bG⟩

/-! ### spec_IsTogether: function 82 -/
mutual
def spec_IsTogether.l0 : Nat → List (S89) → List Int → Int → Option (Bool)
 | 0, _, _, _ => none
 | k + 1, x0, x1, x5 => if x5 < (x1.length : Int) then (if 0 ≤ x5 then ((spec_FindPath.f k x0 (rd x1 x5)).bind fun t138 => (if t138 < 0 then (spec_IsTogether.j1 k x0 x1 x5 t138 true) else (if x5 > 0 then (if 0 ≤ (wrap64 (x5 - 1)) then (if (wrap64 (x5 - 1)) < (x1.length : Int) then (spec_IsTogether.j1 k x0 x1 x5 t138 (decide ((rd x1 (wrap64 (x5 - 1))) ≥ (rd x1 x5)))) else (none)) else (none)) else (spec_IsTogether.j1 k x0 x1 x5 t138 false)))) else (none)) else ((spec_ArePaths.f k x0).bind fun t136 => (some t136))
def spec_IsTogether.j1 : Nat → List (S89) → List Int → Int → Int → Bool → Option (Bool)
 | 0, _, _, _, _, _ => none
 | k + 1, x0, x1, x5, x6, x37 => if x37 = true then (some false) else (spec_IsTogether.l1 k x0 x1 x5 x6 0)
def spec_IsTogether.l1 : Nat → List (S89) → List Int → Int → Int → Int → Option (Bool)
 | 0, _, _, _, _, _ => none
 | k + 1, x0, x1, x5, x6, x7 => if x7 < x5 then (if 0 ≤ x6 then (if x6 < (x0.length : Int) then (if 0 ≤ x7 then (if x7 < (x1.length : Int) then ((spec_FindPath.f k x0 (rd x1 x7)).bind fun t143 => (if 0 ≤ t143 then (if t143 < (x0.length : Int) then ((spec_Conflict.f k ((rd_T89 x0 x6).f0) ((rd_T89 x0 x6).f1) ((rd_T89 x0 x6).f2) ((rd_T89 x0 x6).f3) ((rd_T89 x0 t143).f0) ((rd_T89 x0 t143).f1) ((rd_T89 x0 t143).f2) ((rd_T89 x0 t143).f3)).bind fun t145 => (if t145 = true then (some false) else (spec_IsTogether.l1 k x0 x1 x5 x6 (wrap64 (x7 + 1))))) else (none)) else (none))) else (none)) else (none)) else (none)) else (none)) else (spec_IsTogether.l0 k x0 x1 (wrap64 (x5 + 1)))
end
def spec_IsTogether.f (k : Nat) (l0 : List (S89)) (l1 : List Int) : Option (Bool) := spec_IsTogether.l0 k l0 l1 0
theorem spec_IsTogether.mono_l : ∀ k, (∀ y0 y1 y2, LeO (spec_IsTogether.l0 k y0 y1 y2) (spec_IsTogether.l0 (k + 1) y0 y1 y2)) ∧ (∀ y0 y1 y2 y3 y4, LeO (spec_IsTogether.j1 k y0 y1 y2 y3 y4) (spec_IsTogether.j1 (k + 1) y0 y1 y2 y3 y4)) ∧ (∀ y0 y1 y2 y3 y4, LeO (spec_IsTogether.l1 k y0 y1 y2 y3 y4) (spec_IsTogether.l1 (k + 1) y0 y1 y2 y3 y4))
 | 0 => ⟨fun _ _ _ r h => by simp [spec_IsTogether.l0] at h, fun _ _ _ _ _ r h => by simp [spec_IsTogether.j1] at h, fun _ _ _ _ _ r h => by simp [spec_IsTogether.l1] at h⟩
 | k + 1 => by
  obtain ⟨ih0, ih1, ih2⟩ := spec_IsTogether.mono_l k
  refine ⟨?_, ?_, ?_⟩
  ·
   intro y0 y1 y2
   unfold spec_IsTogether.l0
   repeat' first | (with_reducible first | exact LeO.refl _ | exact LeO.none _ | refine LeO.ite ?_ ?_ | refine LeO.bind ?_ (fun _ => ?_) | exact ih0 _ _ _ | exact ih1 _ _ _ _ _ | exact ih2 _ _ _ _ _ | exact spec_ArePaths.mono _ _ | exact spec_Conflict.mono _ _ _ _ _ _ _ _ _ | exact spec_FindPath.mono _ _ _)
  ·
   intro y0 y1 y2 y3 y4
   unfold spec_IsTogether.j1
   repeat' first | (with_reducible first | exact LeO.refl _ | exact LeO.none _ | refine LeO.ite ?_ ?_ | refine LeO.bind ?_ (fun _ => ?_) | exact ih0 _ _ _ | exact ih1 _ _ _ _ _ | exact ih2 _ _ _ _ _ | exact spec_ArePaths.mono _ _ | exact spec_Conflict.mono _ _ _ _ _ _ _ _ _ | exact spec_FindPath.mono _ _ _)
  ·
   intro y0 y1 y2 y3 y4
   unfold spec_IsTogether.l1
   repeat' first | (with_reducible first | exact LeO.refl _ | exact LeO.none _ | refine LeO.ite ?_ ?_ | refine LeO.bind ?_ (fun _ => ?_) | exact ih0 _ _ _ | exact ih1 _ _ _ _ _ | exact ih2 _ _ _ _ _ | exact spec_ArePaths.mono _ _ | exact spec_Conflict.mono _ _ _ _ _ _ _ _ _ | exact spec_FindPath.mono _ _ _)
theorem spec_IsTogether.mono : ∀ a0 a1 k, LeO (spec_IsTogether.f k a0 a1) (spec_IsTogether.f (k + 1) a0 a1) := by
 intro a0 a1 k
 obtain ⟨ih0, ih1, ih2⟩ := spec_IsTogether.mono_l k
 unfold spec_IsTogether.f
 repeat' first | (with_reducible first | exact LeO.refl _ | exact LeO.none _ | refine LeO.ite ?_ ?_ | refine LeO.bind ?_ (fun _ => ?_) | exact ih0 _ _ _ | exact ih1 _ _ _ _ _ | exact ih2 _ _ _ _ _ | exact spec_ArePaths.mono _ _ | exact spec_Conflict.mono _ _ _ _ _ _ _ _ _ | exact spec_FindPath.mono _ _ _)
def spec_IsTogether.T5 : Bool × List (List Nat × List Nat) := (true, [([], []), ([0], [0]), ([1], [1]), ([2], [2]), ([3, 2], [2, 3]), ([4, 2, 2], [2, 4]), ([5], [5]), ([5], [5]), ([7, 5], [5, 7]), ([6, 8, 5], [5, 6, 8]), ([9, 5], [5, 9]), ([5], [5]), ([5], [5]), ([11, 12, 5], [5, 11, 12]), ([13, 5], [5, 13]), ([10, 14, 5], [5, 10, 14]), ([5, 15, 2], [2, 5, 15]), ([2, 16], [2, 16])])
def spec_IsTogether.B5 : List Nat := [0, 1, 3, 7, 15, 31, 63, 63, 191, 511, 1023, 63, 63, 6207, 14399, 32767, 65535, 131071]
theorem spec_IsTogether.tab5 : rtab .any (opsOf Try.f82 5) = spec_IsTogether.T5 := by kernel_rfl
theorem spec_IsTogether.bits5 : waitsOk spec_IsTogether.T5.2 spec_IsTogether.B5 = true := by kernel_rfl
def spec_IsTogether.T10 : Bool × List (List Nat × List Nat) := (true, [([], []), ([], []), ([0, 1], [0, 1]), ([2], [2]), ([], []), ([], []), ([], []), ([], []), ([6, 7], [6, 7]), ([8], [8]), ([5, 9], [5, 9]), ([4, 10], [4, 10]), ([11], [11]), ([3, 12, 10], [3, 12])])
def spec_IsTogether.B10 : List Nat := [0, 0, 3, 7, 0, 0, 0, 0, 192, 448, 992, 2032, 4080, 8191]
theorem spec_IsTogether.tab10 : rtab .any (opsOf Try.f82 10) = spec_IsTogether.T10 := by kernel_rfl
theorem spec_IsTogether.bits10 : waitsOk spec_IsTogether.T10.2 spec_IsTogether.B10 = true := by kernel_rfl
set_option maxHeartbeats 8000000 in
set_option maxRecDepth 100000 in
theorem spec_IsTogether.calls (k : Nat) (A0 : Option Addr) (c0 : Nat) (l0 : List (S89)) (A1 : Option Addr) (c1 : Nat) (l1 : List Int) (r : Bool) (w : World) (hr0 : Kd.C k89 w A0 l0.length l0) (hc0 : l0.length ≤ c0) (hr1 : Kd.C (Kd.int .i64) w A1 l1.length l1) (hc1 : l1.length ≤ c1) (h : spec_IsTogether.f k l0 l1 = some r) :
  Calls Try.prog 82 #[.slice A0 l0.length c0, .slice A1 l1.length c1] w fun e w' => e = .returned (.bool r) ∧ Below w.heap.size w w' := by
 have hu89 := Try.underlying89
 have HR0 := Aside0.mk hr0
 have HC0 := Aside0.mk hc0
 clear hr0 hc0
 have HR1 := Aside0.mk hr1
 have HC1 := Aside0.mk hc1
 clear hr1 hc1
 have HB := Aside0.mk (Below.refl w.heap.size w)
 have H : (spec_IsTogether.l0 k l0 l1 0) = some r := h
 clear h
 have H' := Aside0.mk H
 clear H
 go_enter Try.func82, Try.ntmps82
 go_wp2
 go_loopg [5] k (fun kq v5 w' => ∃ (x5_1 : Int), v5 = .int .i64 x5_1 ∧ Aside0 (spec_IsTogether.l0 kq l0 l1 x5_1 = some r) ∧ Aside0 (kq ≤ k) ∧ Aside0 (Below w.heap.size w w'))
 case atStart => exact ⟨(0), rS, H', ⟨Nat.le_refl _⟩, ⟨bA⟩⟩
 case round =>
  clear H'
  try clear c1
  try clear p2
  obtain ⟨x5_1, rfl, HA, HK1, HB⟩ := hrel
  cases gk with
  | zero => exact absurd HA.out (by simp [spec_IsTogether.l0])
  | succ k1 =>
   have H := HA.out
   clear HA
   simp only [spec_IsTogether.l0] at H
   by_cases c3 : x5_1 < (l1.length : Int)
   ·
    rw [if_pos c3] at H
    have c3b0 := decide_eq_true c3
    clear c3
    have c4 : 0 ≤ x5_1 := ifN H
    replace H := ifT H
    have c4b0 := decide_eq_true c4
    clear c4
    obtain ⟨t138, A5, H⟩ := bindE H
    try dsimp only at H
    have HC6 := Aside0.mk H
    clear H
    have p137 : 0 ≤ (x5_1 : Int) := dA
    have q137 : x5_1 < (l1.length : Int) := dA
    obtain ⟨ad137, e137, hx137_0⟩ := Kd.at_int HR1.out x5_1 p137 q137
    cases e137
    replace hx137_0 := hC HB hx137_0
    replace p137 := eq_true p137
    replace q137 := eq_true q137
    go_upto_region 5 with (first | ((with_reducible refine gate_callee (f := 116) rfl ?_); refine gL (some 19) Try.func116 #[.slice A0 l0.length c0, .int .i64 (rd l1 x5_1)] ?_; (with_reducible refine (spec_FindPath.calls k1 _ _ l0 (rd l1 x5_1) t138 _ ?side1 ?side2 A5.out).mono ?_); (case side1 => exact cB HR0); (case side2 => exact HC0.out); rintro e w' ⟨rfl, ⟨nd, rfl⟩⟩; refine ⟨_, rfl, ?_⟩))
    (try simp only [Act.put, List.setIfInBounds_toArray, List.set_cons_zero, List.set_cons_succ])
    go_cut [37] (fun v37 wc => ∃ (kq : Nat) (x37_5 : Bool), v37 = .bool x37_5 ∧ Aside0 (spec_IsTogether.j1 kq l0 l1 x5_1 t138 x37_5 = some r) ∧ Aside0 (kq ≤ k1) ∧ Aside0 (Below w.heap.size w wc))
    case first =>
     have H := HC6.out
     clear HC6
     by_cases c7 : t138 < 0
     ·
      rw [if_pos c7] at H
      have c7b0 := decide_eq_true c7
      clear c7
      (first | rw [c7b0] | (simp only [i64_w, i32_w]; rw [c7b0]) | skip)
      have H' := Aside0.mk H
      clear H
      try go_wp2
      have HBo := HB
      replace HB := Aside0.mk (below_drew1 HB.out)
      refine start_ (n := 18) (S := fun w' => True) (ds := []) (mb 18 0) (by kernel_rfl) rfl rfl trivial (fun hHeld => ?_); refine with_tabW spec_IsTogether.tab5 spec_IsTogether.bits5 (fun HT_ HW_ => ?_)
      generalize wr.drew = w8 at HB hHeld ⊢
      refine pA (i := 0) (N := some 20) (mb 18 1) HT_ ?_
      refine pA (i := 1) (N := some 21) (mb 18 3) HT_ ?_
      refine pA (i := 2) (N := some 22) (mb 18 7) HT_ ?_
      refine pU (i := 3) (N := some 23) (mb 18 15) HT_ ?_
      refine pU (i := 4) (N := some 24) (mb 18 31) HT_ ?_
      refine pU (i := 5) (N := some 25) (mb 18 63) HT_ ?_
      refine pU (i := 6) (N := some 26) (mb 18 127) HT_ ?_
      refine pU (i := 7) (N := some 27) (mb 18 255) HT_ ?_
      refine pU (i := 8) (N := some 28) (mb 18 511) HT_ ?_
      refine pU (i := 9) (N := some 29) (mb 18 1023) HT_ ?_
      refine pU (i := 10) (N := some 30) (mb 18 2047) HT_ ?_
      refine pU (i := 11) (N := some 31) (mb 18 4095) HT_ ?_
      refine pU (i := 12) (N := some 32) (mb 18 8191) HT_ ?_
      refine pU (i := 13) (N := some 33) (mb 18 16383) HT_ ?_
      refine pU (i := 14) (N := some 34) (mb 18 32767) HT_ ?_
      refine pU (i := 15) (N := some 35) (mb 18 65535) HT_ ?_
      refine pU (i := 16) (N := some 36) (mb 18 131071) HT_ ?_
      refine pA (i := 17) (N := some 37) (mb 18 262143) HT_ ?_
      refine eA HT_ ?_
      try go_wp2
      go_meet
      case rel => exact ⟨_, (true), rS, H', ⟨by have := HK1.out; first | omega | exact Nat.le_refl _⟩, ⟨bA⟩⟩
     ·
      rw [if_neg c7] at H
      have c7b0 := decide_eq_false c7
      clear c7
      (first | rw [c7b0] | (simp only [i64_w, i32_w]; rw [c7b0]) | skip)
      by_cases c9 : x5_1 > 0
      ·
       rw [if_pos c9] at H
       have c9b0 := decide_eq_true c9
       clear c9
       obtain ⟨ji10, hji10⟩ : ∃ j_ : Int, (wrap64 (x5_1 - 1)) = j_ := ⟨_, rfl⟩
       replace H : (if 0 ≤ (ji10) then (if (ji10) < (l1.length : Int) then (spec_IsTogether.j1 k1 l0 l1 x5_1 t138 (decide ((rd l1 (ji10)) ≥ (rd l1 x5_1)))) else (none)) else (none)) = some r := by first | (rw [hji10] at H; exact H) | (simp only [hji10] at H ⊢; exact H)
       have hji10w : (IntKind.i64.wrap (x5_1 - 1)) = ji10 := (i64_w _).trans hji10
       have c11 : 0 ≤ (ji10) := ifN H
       replace H := ifT H
       have c11b0 := decide_eq_true c11
       clear c11
       have c12 : (ji10) < (l1.length : Int) := ifN H
       replace H := ifT H
       have c12b0 := decide_eq_true c12
       clear c12
       have H' := Aside0.mk H
       clear H
       try go_wp2
       have HBo := HB
       replace HB := Aside0.mk (below_drew1 HB.out)
       have p139 : 0 ≤ ((ji10) : Int) := dA
       have q139 : (ji10) < (l1.length : Int) := dA
       obtain ⟨ad139, e139, hx139_0⟩ := Kd.at_int HR1.out (ji10) p139 q139
       have hw139_0 := hx139_0
       obtain rfl : ad137 = ad139 := (by injection e139)
       replace hx139_0 := hC HB hx139_0
       replace p139 := eq_true p139
       replace q139 := eq_true q139
       have p140 : 0 ≤ (x5_1 : Int) := dA
       have q140 : x5_1 < (l1.length : Int) := dA
       obtain ⟨ad140, e140, hx140_0⟩ := Kd.at_int HR1.out x5_1 p140 q140
       have hw140_0 := hx140_0
       obtain rfl : ad137 = ad140 := (by injection e140)
       replace hx140_0 := hC HB hx140_0
       replace p140 := eq_true p140
       replace q140 := eq_true q140
       refine start_ (n := 18) (S := fun w' => w'.cell? (ad137.add ((ji10)).toNat) = some (.int .i64 (rd l1 (ji10))) ∧ w'.cell? (ad137.add (x5_1).toNat) = some (.int .i64 (rd l1 x5_1))) (ds := []) (mb 18 0) (by kernel_rfl) rfl rfl ⟨(hC HB hw139_0), (hC HB hw140_0)⟩ (fun hHeld => ?_); refine with_tabW spec_IsTogether.tab5 spec_IsTogether.bits5 (fun HT_ HW_ => ?_)
       generalize wr.drew = w13 at HB hx139_0 hx140_0 hHeld ⊢
       refine pA (i := 0) (N := some 20) (mb 18 1) HT_ ?_
       refine pA (i := 1) (N := some 21) (mb 18 3) HT_ ?_
       refine pA (i := 2) (N := some 22) (mb 18 7) HT_ ?_
       refine pA (i := 3) (N := some 23) (mb 18 15) HT_ ?_
       refine pA (i := 4) (N := some 24) (mb 18 31) HT_ ?_
       refine pA (i := 5) (N := some 25) (mb 18 63) HT_ ?_
       refine pA (i := 6) (N := some 26) (mb 18 127) HT_ ?_
       refine pA (i := 7) (N := some 27) (mb 18 255) HT_ ?_
       refine pA (i := 8) (N := some 28) (mb 18 511) HT_ ?_
       refine pA (i := 9) (N := some 29) (mb 18 1023) HT_ ?_
       refine pA (i := 11) (N := some 31) (mb 18 3071) HT_ ?_
       refine pA (i := 12) (N := some 32) (mb 18 7167) HT_ ?_
       refine pA (i := 13) (N := some 33) (mb 18 15359) HT_ ?_
       refine tA2 (i := 10) (N := some 30) (mb 18 16383) HT_ HW_ hHeld ?_
       refine tA2 (i := 14) (N := some 34) (mb 18 32767) HT_ HW_ hHeld ?_
       refine pA (i := 15) (N := some 35) (mb 18 65535) HT_ ?_
       refine pA (i := 16) (N := some 36) (mb 18 131071) HT_ ?_
       refine pA (i := 17) (N := some 37) (mb 18 262143) HT_ ?_
       refine eA HT_ ?_
       try go_wp2
       go_meet
       case rel => exact ⟨_, (decide ((rd l1 (ji10)) ≥ (rd l1 x5_1))), (by first | rfl | (simp; done) | (simp only [← hji10] <;> (first | rfl | simp)) | (simp [*]; done)), H', ⟨by have := HK1.out; first | omega | exact Nat.le_refl _⟩, ⟨bA⟩⟩
      ·
       rw [if_neg c9] at H
       have c9b0 := decide_eq_false c9
       clear c9
       have H' := Aside0.mk H
       clear H
       try go_wp2
       have HBo := HB
       replace HB := Aside0.mk (below_drew1 HB.out)
       refine start_ (n := 18) (S := fun w' => True) (ds := []) (mb 18 0) (by kernel_rfl) rfl rfl trivial (fun hHeld => ?_); refine with_tabW spec_IsTogether.tab5 spec_IsTogether.bits5 (fun HT_ HW_ => ?_)
       generalize wr.drew = w14 at HB hHeld ⊢
       refine pA (i := 0) (N := some 20) (mb 18 1) HT_ ?_
       refine pA (i := 1) (N := some 21) (mb 18 3) HT_ ?_
       refine pA (i := 2) (N := some 22) (mb 18 7) HT_ ?_
       refine pA (i := 3) (N := some 23) (mb 18 15) HT_ ?_
       refine pA (i := 4) (N := some 24) (mb 18 31) HT_ ?_
       refine pA (i := 5) (N := some 25) (mb 18 63) HT_ ?_
       refine pU (i := 6) (N := some 26) (mb 18 127) HT_ ?_
       refine pU (i := 7) (N := some 27) (mb 18 255) HT_ ?_
       refine pU (i := 8) (N := some 28) (mb 18 511) HT_ ?_
       refine pU (i := 9) (N := some 29) (mb 18 1023) HT_ ?_
       refine pU (i := 10) (N := some 30) (mb 18 2047) HT_ ?_
       refine pU (i := 11) (N := some 31) (mb 18 4095) HT_ ?_
       refine pU (i := 12) (N := some 32) (mb 18 8191) HT_ ?_
       refine pU (i := 13) (N := some 33) (mb 18 16383) HT_ ?_
       refine pU (i := 14) (N := some 34) (mb 18 32767) HT_ ?_
       refine pU (i := 15) (N := some 35) (mb 18 65535) HT_ ?_
       refine pA (i := 16) (N := some 36) (mb 18 131071) HT_ ?_
       refine pA (i := 17) (N := some 37) (mb 18 262143) HT_ ?_
       refine eA HT_ ?_
       try go_wp2
       go_meet
       case rel => exact ⟨_, (false), rS, H', ⟨by have := HK1.out; first | omega | exact Nat.le_refl _⟩, ⟨bA⟩⟩
    case rest =>
     clear HC6
     try clear c1
     try clear p1
     try clear q1
     try clear hx1
     try clear p2
     try clear c3
     try clear c3b0
     try clear c4
     try clear c4b0
     try clear p6
     try clear c7
     try clear c7b0
     try clear c8
     try clear c9
     try clear c9b0
     try clear c11
     try clear c11b0
     try clear c12
     try clear c12b0
     try clear p13
     try clear q13
     try clear hx13
     try clear p14
     try clear q14
     try clear hx14
     try clear hx137_0
     try clear hx139_0
     try clear hx140_0
     try clear p137
     try clear p139
     try clear p140
     try clear p2
     try clear q137
     try clear q139
     try clear q140
     obtain ⟨kq, x37_5, rfl, HA, HJ5, HB⟩ := hcut
     cases kq with
     | zero => exact absurd HA.out (by simp [spec_IsTogether.j1])
     | succ kj5 =>
      have H := HA.out
      clear HA
      simp only [spec_IsTogether.j1] at H
      by_cases c15 : x37_5 = true
      ·
       subst c15
       have H1 : (some false) = some r := by rw [if_pos rfl] at H; exact H
       clear H
       have H := H1
       clear H1
       obtain rfl := Option.some.inj H
       go_wp2
       go_ret
       exact ⟨rA, bA⟩
      ·
       replace c15 := Bool.eq_false_iff.mpr c15
       subst c15
       have H1 : (spec_IsTogether.l1 kj5 l0 l1 x5_1 t138 0) = some r := by rw [if_neg (show ¬ (false = true) by decide)] at H; exact H
       clear H
       have H := H1
       clear H1
       have H' := Aside0.mk H
       clear H
       go_wp2
       go_loopg [7] kj5 (fun kq v7 w' => ∃ (x7_3 : Int), v7 = .int .i64 x7_3 ∧ Aside0 (spec_IsTogether.l1 kq l0 l1 x5_1 t138 x7_3 = some r) ∧ Aside0 (kq ≤ kj5) ∧ Aside0 (Below w.heap.size w w'))
       case atStart => exact ⟨(0), rS, H', ⟨Nat.le_refl _⟩, ⟨bA⟩⟩
       case round =>
        clear H'
        try clear c1
        try clear p1
        try clear q1
        try clear hx1
        try clear p2
        try clear c3
        try clear c3b0
        try clear c4
        try clear c4b0
        try clear p6
        try clear c7
        try clear c7b0
        try clear c8
        try clear c9
        try clear c9b0
        try clear c11
        try clear c11b0
        try clear c12
        try clear c12b0
        try clear p13
        try clear q13
        try clear hx13
        try clear p14
        try clear q14
        try clear hx14
        try clear c15
        try clear hx137_0
        try clear hx139_0
        try clear hx140_0
        try clear p1
        try clear p13
        try clear p137
        try clear p139
        try clear p14
        try clear p140
        try clear p2
        try clear p6
        try clear q1
        try clear q13
        try clear q137
        try clear q139
        try clear q14
        try clear q140
        obtain ⟨x7_3, rfl, HA, HK3, HB⟩ := hrel
        cases gk with
        | zero => exact absurd HA.out (by simp [spec_IsTogether.l1])
        | succ k3 =>
         have H := HA.out
         clear HA
         simp only [spec_IsTogether.l1] at H
         by_cases c16 : x7_3 < x5_1
         ·
          rw [if_pos c16] at H
          have c16b0 := decide_eq_true c16
          clear c16
          have c17 : 0 ≤ t138 := ifN H
          replace H := ifT H
          have c17b0 := decide_eq_true c17
          clear c17
          have c18 : t138 < (l0.length : Int) := ifN H
          replace H := ifT H
          have c18b0 := decide_eq_true c18
          clear c18
          have c19 : 0 ≤ x7_3 := ifN H
          replace H := ifT H
          have c19b0 := decide_eq_true c19
          clear c19
          have c20 : x7_3 < (l1.length : Int) := ifN H
          replace H := ifT H
          have c20b0 := decide_eq_true c20
          clear c20
          obtain ⟨t143, A21, H⟩ := bindE H
          try dsimp only at H
          have c22 : 0 ≤ t143 := ifN H
          replace H := ifT H
          have c22b0 := decide_eq_true c22
          clear c22
          have c23 : t143 < (l0.length : Int) := ifN H
          replace H := ifT H
          have c23b0 := decide_eq_true c23
          clear c23
          obtain ⟨t145, A24, H⟩ := bindE H
          try dsimp only at H
          by_cases c25 : t145 = true
          ·
           subst c25
           have H1 : (some false) = some r := by rw [if_pos rfl] at H; exact H
           clear H
           have H := H1
           clear H1
           obtain rfl := Option.some.inj H
           try go_wp2
           have HBo := HB
           replace HB := Aside0.mk (below_drew1 HB.out)
           have p141 : 0 ≤ (t138 : Int) := dA
           have q141 : t138 < (l0.length : Int) := dA
           obtain ⟨ad141, e141, hx141_0, hx141_1, hx141_2, hx141_3⟩ := at_T89 HR0.out t138 p141 q141
           have hw141_3 := hx141_3
           have hw141_2 := hx141_2
           have hw141_1 := hx141_1
           have hw141_0 := hx141_0
           cases e141
           replace hx141_0 := hC HB hx141_0
           replace hx141_1 := hC HB hx141_1
           replace hx141_2 := hC HB hx141_2
           replace hx141_3 := hC HB hx141_3
           replace p141 := eq_true p141
           replace q141 := eq_true q141
           have p142 : 0 ≤ (x7_3 : Int) := dA
           have q142 : x7_3 < (l1.length : Int) := dA
           obtain ⟨ad142, e142, hx142_0⟩ := Kd.at_int HR1.out x7_3 p142 q142
           have hw142_0 := hx142_0
           obtain rfl : ad137 = ad142 := (by injection e142)
           replace hx142_0 := hC HB hx142_0
           replace p142 := eq_true p142
           replace q142 := eq_true q142
           have p144 : 0 ≤ (t143 : Int) := dA
           have q144 : t143 < (l0.length : Int) := dA
           obtain ⟨ad144, e144, hx144_0, hx144_1, hx144_2, hx144_3⟩ := at_T89 HR0.out t143 p144 q144
           have hw144_3 := hx144_3
           have hw144_2 := hx144_2
           have hw144_1 := hx144_1
           have hw144_0 := hx144_0
           obtain rfl : ad141 = ad144 := (by injection e144)
           replace hx144_0 := hC HB hx144_0
           replace hx144_1 := hC HB hx144_1
           replace hx144_2 := hC HB hx144_2
           replace hx144_3 := hC HB hx144_3
           replace p144 := eq_true p144
           replace q144 := eq_true q144
           refine start_ (n := 14) (S := fun w' => w'.cell? (ad141.add ((t138).toNat * 4)) = some (.int .i64 ((rd_T89 l0 t138).f0)) ∧ w'.cell? ⟨(ad141.add ((t138).toNat * 4)).block, (ad141.add ((t138).toNat * 4)).off + 1, none⟩ = some (.int .i64 ((rd_T89 l0 t138).f1)) ∧ w'.cell? ⟨(ad141.add ((t138).toNat * 4)).block, (ad141.add ((t138).toNat * 4)).off + 2, none⟩ = some (.int .i64 ((rd_T89 l0 t138).f2)) ∧ w'.cell? ⟨(ad141.add ((t138).toNat * 4)).block, (ad141.add ((t138).toNat * 4)).off + 3, none⟩ = some (.int .i64 ((rd_T89 l0 t138).f3)) ∧ w'.cell? (ad137.add (x7_3).toNat) = some (.int .i64 (rd l1 x7_3)) ∧ w'.cell? (ad141.add ((t143).toNat * 4)) = some (.int .i64 ((rd_T89 l0 t143).f0)) ∧ w'.cell? ⟨(ad141.add ((t143).toNat * 4)).block, (ad141.add ((t143).toNat * 4)).off + 1, none⟩ = some (.int .i64 ((rd_T89 l0 t143).f1)) ∧ w'.cell? ⟨(ad141.add ((t143).toNat * 4)).block, (ad141.add ((t143).toNat * 4)).off + 2, none⟩ = some (.int .i64 ((rd_T89 l0 t143).f2)) ∧ w'.cell? ⟨(ad141.add ((t143).toNat * 4)).block, (ad141.add ((t143).toNat * 4)).off + 3, none⟩ = some (.int .i64 ((rd_T89 l0 t143).f3))) (ds := []) (mb 14 0) (by kernel_rfl) rfl rfl ⟨(hC HB hw141_0), (hC HB hw141_1), (hC HB hw141_2), (hC HB hw141_3), (hC HB hw142_0), (hC HB hw144_0), (hC HB hw144_1), (hC HB hw144_2), (hC HB hw144_3)⟩ (fun hHeld => ?_); refine with_tabW spec_IsTogether.tab10 spec_IsTogether.bits10 (fun HT_ HW_ => ?_)
           generalize wr.drew = w26 at HB hx141_0 hx141_1 hx141_2 hx141_3 hx142_0 hx144_0 hx144_1 hx144_2 hx144_3 hHeld ⊢
           refine pA (i := 0) (N := some 43) (mb 14 1) HT_ ?_
           refine pA (i := 1) (N := some 44) (mb 14 3) HT_ ?_
           refine pA (i := 2) (N := some 45) (mb 14 7) HT_ ?_
           refine pA (i := 4) (N := some 47) (mb 14 23) HT_ ?_
           refine pA (i := 5) (N := some 48) (mb 14 55) HT_ ?_
           refine pA (i := 6) (N := some 49) (mb 14 119) HT_ ?_
           refine pA (i := 7) (N := some 50) (mb 14 247) HT_ ?_
           refine pA (i := 8) (N := some 51) (mb 14 503) HT_ ?_
           refine tA9 (i := 3) (N := some 46) (mb 14 511) HT_ HW_ hHeld ?_
           refine tA9 (i := 9) (N := some 52) (mb 14 1023) HT_ HW_ hHeld ?_
           refine oA (i := 10) (N := some 53) (mb 14 2047) HT_ (fun K hK => ?_)
           refine gA Try.func116 #[.slice (some ad141) l0.length c0, .int .i64 (rd l1 x7_3)] ?_
           with_reducible refine (spec_FindPath.calls k3 _ _ l0 (rd l1 x7_3) t143 _ ?side1 ?side2 A21.out).mono ?_
           (case side1 => exact cB HR0)
           (case side2 => exact HC0.out)
           rintro e w' ⟨rfl, ⟨nd, rfl⟩⟩
           refine ⟨_, rfl, ?_⟩
           refine hK.out _ _ ⟨(hC HB hw141_0), (hC HB hw141_1), (hC HB hw141_2), (hC HB hw141_3), (hC HB hw142_0), (hC HB hw144_0), (hC HB hw144_1), (hC HB hw144_2), (hC HB hw144_3)⟩ (fun hHeld => ?_)
           clear hK K
           refine nB ?_
           refine pA (i := 11) (N := some 54) (mb 14 4095) HT_ ?_
           refine tA9 (i := 12) (N := some 55) (mb 14 8191) HT_ HW_ hHeld ?_
           refine oA (i := 13) (N := some 56) (mb 14 16383) HT_ (fun K hK => ?_)
           refine gA Try.func129 #[.agg #[.int .i64 ((rd_T89 l0 t138).f0), .int .i64 ((rd_T89 l0 t138).f1), .int .i64 ((rd_T89 l0 t138).f2), .int .i64 ((rd_T89 l0 t138).f3)], .agg #[.int .i64 ((rd_T89 l0 t143).f0), .int .i64 ((rd_T89 l0 t143).f1), .int .i64 ((rd_T89 l0 t143).f2), .int .i64 ((rd_T89 l0 t143).f3)]] ?_
           with_reducible refine (spec_Conflict.calls k3 ((rd_T89 l0 t138).f0) ((rd_T89 l0 t138).f1) ((rd_T89 l0 t138).f2) ((rd_T89 l0 t138).f3) ((rd_T89 l0 t143).f0) ((rd_T89 l0 t143).f1) ((rd_T89 l0 t143).f2) ((rd_T89 l0 t143).f3) true _ A24.out).mono ?_
           rintro e w27 ⟨rfl, hb⟩
           refine ⟨_, rfl, ?_⟩
           replace HB := Aside0.mk (below_step bA hb)
           (try clear hb)
           (try clear hb2)
           (try clear hk)
           (try clear hi)
           refine hK.out _ _ ⟨(hC HB hw141_0), (hC HB hw141_1), (hC HB hw141_2), (hC HB hw141_3), (hC HB hw142_0), (hC HB hw144_0), (hC HB hw144_1), (hC HB hw144_2), (hC HB hw144_3)⟩ (fun hHeld => ?_)
           clear hK K
           refine nB ?_
           refine eA HT_ ?_
           try go_wp2
           go_ret
           exact ⟨rA, bA⟩
          ·
           replace c25 := Bool.eq_false_iff.mpr c25
           subst c25
           have H1 : (spec_IsTogether.l1 k3 l0 l1 x5_1 t138 (wrap64 (x7_3 + 1))) = some r := by rw [if_neg (show ¬ (false = true) by decide)] at H; exact H
           clear H
           have H := H1
           clear H1
           have H' := Aside0.mk H
           clear H
           try go_wp2
           have HBo := HB
           replace HB := Aside0.mk (below_drew1 HB.out)
           have p141 : 0 ≤ (t138 : Int) := dA
           have q141 : t138 < (l0.length : Int) := dA
           obtain ⟨ad141, e141, hx141_0, hx141_1, hx141_2, hx141_3⟩ := at_T89 HR0.out t138 p141 q141
           have hw141_3 := hx141_3
           have hw141_2 := hx141_2
           have hw141_1 := hx141_1
           have hw141_0 := hx141_0
           cases e141
           replace hx141_0 := hC HB hx141_0
           replace hx141_1 := hC HB hx141_1
           replace hx141_2 := hC HB hx141_2
           replace hx141_3 := hC HB hx141_3
           replace p141 := eq_true p141
           replace q141 := eq_true q141
           have p142 : 0 ≤ (x7_3 : Int) := dA
           have q142 : x7_3 < (l1.length : Int) := dA
           obtain ⟨ad142, e142, hx142_0⟩ := Kd.at_int HR1.out x7_3 p142 q142
           have hw142_0 := hx142_0
           obtain rfl : ad137 = ad142 := (by injection e142)
           replace hx142_0 := hC HB hx142_0
           replace p142 := eq_true p142
           replace q142 := eq_true q142
           have p144 : 0 ≤ (t143 : Int) := dA
           have q144 : t143 < (l0.length : Int) := dA
           obtain ⟨ad144, e144, hx144_0, hx144_1, hx144_2, hx144_3⟩ := at_T89 HR0.out t143 p144 q144
           have hw144_3 := hx144_3
           have hw144_2 := hx144_2
           have hw144_1 := hx144_1
           have hw144_0 := hx144_0
           obtain rfl : ad141 = ad144 := (by injection e144)
           replace hx144_0 := hC HB hx144_0
           replace hx144_1 := hC HB hx144_1
           replace hx144_2 := hC HB hx144_2
           replace hx144_3 := hC HB hx144_3
           replace p144 := eq_true p144
           replace q144 := eq_true q144
           refine start_ (n := 14) (S := fun w' => w'.cell? (ad141.add ((t138).toNat * 4)) = some (.int .i64 ((rd_T89 l0 t138).f0)) ∧ w'.cell? ⟨(ad141.add ((t138).toNat * 4)).block, (ad141.add ((t138).toNat * 4)).off + 1, none⟩ = some (.int .i64 ((rd_T89 l0 t138).f1)) ∧ w'.cell? ⟨(ad141.add ((t138).toNat * 4)).block, (ad141.add ((t138).toNat * 4)).off + 2, none⟩ = some (.int .i64 ((rd_T89 l0 t138).f2)) ∧ w'.cell? ⟨(ad141.add ((t138).toNat * 4)).block, (ad141.add ((t138).toNat * 4)).off + 3, none⟩ = some (.int .i64 ((rd_T89 l0 t138).f3)) ∧ w'.cell? (ad137.add (x7_3).toNat) = some (.int .i64 (rd l1 x7_3)) ∧ w'.cell? (ad141.add ((t143).toNat * 4)) = some (.int .i64 ((rd_T89 l0 t143).f0)) ∧ w'.cell? ⟨(ad141.add ((t143).toNat * 4)).block, (ad141.add ((t143).toNat * 4)).off + 1, none⟩ = some (.int .i64 ((rd_T89 l0 t143).f1)) ∧ w'.cell? ⟨(ad141.add ((t143).toNat * 4)).block, (ad141.add ((t143).toNat * 4)).off + 2, none⟩ = some (.int .i64 ((rd_T89 l0 t143).f2)) ∧ w'.cell? ⟨(ad141.add ((t143).toNat * 4)).block, (ad141.add ((t143).toNat * 4)).off + 3, none⟩ = some (.int .i64 ((rd_T89 l0 t143).f3))) (ds := []) (mb 14 0) (by kernel_rfl) rfl rfl ⟨(hC HB hw141_0), (hC HB hw141_1), (hC HB hw141_2), (hC HB hw141_3), (hC HB hw142_0), (hC HB hw144_0), (hC HB hw144_1), (hC HB hw144_2), (hC HB hw144_3)⟩ (fun hHeld => ?_); refine with_tabW spec_IsTogether.tab10 spec_IsTogether.bits10 (fun HT_ HW_ => ?_)
           generalize wr.drew = w28 at HB hx141_0 hx141_1 hx141_2 hx141_3 hx142_0 hx144_0 hx144_1 hx144_2 hx144_3 hHeld ⊢
           refine pA (i := 0) (N := some 43) (mb 14 1) HT_ ?_
           refine pA (i := 1) (N := some 44) (mb 14 3) HT_ ?_
           refine pA (i := 2) (N := some 45) (mb 14 7) HT_ ?_
           refine pA (i := 4) (N := some 47) (mb 14 23) HT_ ?_
           refine pA (i := 5) (N := some 48) (mb 14 55) HT_ ?_
           refine pA (i := 6) (N := some 49) (mb 14 119) HT_ ?_
           refine pA (i := 7) (N := some 50) (mb 14 247) HT_ ?_
           refine pA (i := 8) (N := some 51) (mb 14 503) HT_ ?_
           refine tA9 (i := 3) (N := some 46) (mb 14 511) HT_ HW_ hHeld ?_
           refine tA9 (i := 9) (N := some 52) (mb 14 1023) HT_ HW_ hHeld ?_
           refine oA (i := 10) (N := some 53) (mb 14 2047) HT_ (fun K hK => ?_)
           refine gA Try.func116 #[.slice (some ad141) l0.length c0, .int .i64 (rd l1 x7_3)] ?_
           with_reducible refine (spec_FindPath.calls k3 _ _ l0 (rd l1 x7_3) t143 _ ?side1 ?side2 A21.out).mono ?_
           (case side1 => exact cB HR0)
           (case side2 => exact HC0.out)
           rintro e w' ⟨rfl, ⟨nd, rfl⟩⟩
           refine ⟨_, rfl, ?_⟩
           refine hK.out _ _ ⟨(hC HB hw141_0), (hC HB hw141_1), (hC HB hw141_2), (hC HB hw141_3), (hC HB hw142_0), (hC HB hw144_0), (hC HB hw144_1), (hC HB hw144_2), (hC HB hw144_3)⟩ (fun hHeld => ?_)
           clear hK K
           refine nB ?_
           refine pA (i := 11) (N := some 54) (mb 14 4095) HT_ ?_
           refine tA9 (i := 12) (N := some 55) (mb 14 8191) HT_ HW_ hHeld ?_
           refine oA (i := 13) (N := some 56) (mb 14 16383) HT_ (fun K hK => ?_)
           refine gA Try.func129 #[.agg #[.int .i64 ((rd_T89 l0 t138).f0), .int .i64 ((rd_T89 l0 t138).f1), .int .i64 ((rd_T89 l0 t138).f2), .int .i64 ((rd_T89 l0 t138).f3)], .agg #[.int .i64 ((rd_T89 l0 t143).f0), .int .i64 ((rd_T89 l0 t143).f1), .int .i64 ((rd_T89 l0 t143).f2), .int .i64 ((rd_T89 l0 t143).f3)]] ?_
           with_reducible refine (spec_Conflict.calls k3 ((rd_T89 l0 t138).f0) ((rd_T89 l0 t138).f1) ((rd_T89 l0 t138).f2) ((rd_T89 l0 t138).f3) ((rd_T89 l0 t143).f0) ((rd_T89 l0 t143).f1) ((rd_T89 l0 t143).f2) ((rd_T89 l0 t143).f3) false _ A24.out).mono ?_
           rintro e w29 ⟨rfl, hb⟩
           refine ⟨_, rfl, ?_⟩
           replace HB := Aside0.mk (below_step bA hb)
           (try clear hb)
           (try clear hb2)
           (try clear hk)
           (try clear hi)
           refine hK.out _ _ ⟨(hC HB hw141_0), (hC HB hw141_1), (hC HB hw141_2), (hC HB hw141_3), (hC HB hw142_0), (hC HB hw144_0), (hC HB hw144_1), (hC HB hw144_2), (hC HB hw144_3)⟩ (fun hHeld => ?_)
           clear hK K
           refine nB ?_
           refine eA HT_ ?_
           try go_wp2
           go_roundg k3
           case measure => have := HK1.out; have := HJ5.out; have := HK3.out; omega
           case rel => exact ⟨(wrap64 (x7_3 + 1)), rS, H', ⟨by have := HK1.out; have := HJ5.out; have := HK3.out; omega⟩, ⟨bA⟩⟩
         ·
          rw [if_neg c16] at H
          have c16b0 := decide_eq_false c16
          clear c16
          have H' := Aside0.mk H
          clear H
          go_wp2
          go_roundg k3
          case measure => have := HK1.out; have := HJ5.out; have := HK3.out; omega
          case rel => exact ⟨(wrap64 (x5_1 + 1)), rS, H', ⟨by have := HK1.out; have := HJ5.out; have := HK3.out; omega⟩, ⟨bA⟩⟩
   ·
    rw [if_neg c3] at H
    have c3b0 := decide_eq_false c3
    clear c3
    obtain ⟨t136, A30, H⟩ := bindE H
    try dsimp only at H
    obtain rfl := Option.some.inj H
    go_wp2_with (first | ((with_reducible refine gate_callee (f := 122) rfl ?_); refine gL (some 58) Try.func122 #[.slice A0 l0.length c0] ?_; (with_reducible refine (spec_ArePaths.calls k1 _ _ l0 t136 _ ?side1 ?side2 A30.out).mono ?_); (case side1 => exact cB HR0); (case side2 => exact HC0.out); rintro e w31 ⟨rfl, hb⟩; refine ⟨_, rfl, ?_⟩; replace HB := Aside0.mk (below_step bA hb); (try clear hb)))
    go_ret
    exact ⟨rA, bA⟩

/-! ### spec_l6Has: function 101 -/
def spec_l6Has.l0 : Nat → List Int → Int → Int → Option (Bool)
 | 0, _, _, _ => none
 | k + 1, x0, x1, x5 => if x5 < (x0.length : Int) then (if 0 ≤ x5 then (if (rd x0 x5) = x1 then (some true) else (spec_l6Has.l0 k x0 x1 (wrap64 (x5 + 1)))) else (none)) else (some false)
def spec_l6Has.f (k : Nat) (l0 : List Int) (a1 : Int) : Option (Bool) := spec_l6Has.l0 k l0 a1 0
theorem spec_l6Has.mono_l : ∀ k, (∀ y0 y1 y2, LeO (spec_l6Has.l0 k y0 y1 y2) (spec_l6Has.l0 (k + 1) y0 y1 y2))
 | 0 => fun _ _ _ r h => by simp [spec_l6Has.l0] at h
 | k + 1 => by
  have ih0 := spec_l6Has.mono_l k
  ·
   intro y0 y1 y2
   unfold spec_l6Has.l0
   repeat' first | (with_reducible first | exact LeO.refl _ | exact LeO.none _ | refine LeO.ite ?_ ?_ | refine LeO.bind ?_ (fun _ => ?_) | exact ih0 _ _ _)
theorem spec_l6Has.mono : ∀ a0 a1 k, LeO (spec_l6Has.f k a0 a1) (spec_l6Has.f (k + 1) a0 a1) := by
 intro a0 a1 k
 have ih0 := spec_l6Has.mono_l k
 unfold spec_l6Has.f
 repeat' first | (with_reducible first | exact LeO.refl _ | exact LeO.none _ | refine LeO.ite ?_ ?_ | refine LeO.bind ?_ (fun _ => ?_) | exact ih0 _ _ _)
set_option maxHeartbeats 8000000 in
set_option maxRecDepth 100000 in
theorem spec_l6Has.calls (k : Nat) (A0 : Option Addr) (c0 : Nat) (l0 : List Int) (a1 : Int) (r : Bool) (w : World) (hr0 : Kd.C (Kd.int .i64) w A0 l0.length l0) (hc0 : l0.length ≤ c0) (h : spec_l6Has.f k l0 a1 = some r) :
  Calls Try.prog 101 #[.slice A0 l0.length c0, .int .i64 a1] w fun e w' => e = .returned (.bool r) ∧ Drawn0 w w' := by
 have HR0 := Aside0.mk hr0
 have HC0 := Aside0.mk hc0
 clear hr0 hc0
 have H : (spec_l6Has.l0 k l0 a1 0) = some r := h
 clear h
 have H' := Aside0.mk H
 clear H
 go_enter Try.func101, Try.ntmps101
 go_wp2
 go_loopg [5] k (fun kq v5 w' => ∃ (x5_1 : Int), v5 = .int .i64 x5_1 ∧ Aside0 (spec_l6Has.l0 kq l0 a1 x5_1 = some r) ∧ Aside0 (kq ≤ k) ∧ Drawn0 w w')
 case atStart => exact ⟨(0), rS, H', ⟨Nat.le_refl _⟩, by repeat (first | exact Drawn0.refl _ | apply Drawn0.step)⟩
 case round =>
  clear H'
  try clear c1
  try clear p2
  obtain ⟨x5_1, rfl, HA, HK1, ⟨m1, rfl⟩⟩ := hrel
  cases gk with
  | zero => exact absurd HA.out (by simp [spec_l6Has.l0])
  | succ k1 =>
   have H := HA.out
   clear HA
   simp only [spec_l6Has.l0] at H
   by_cases c3 : x5_1 < (l0.length : Int)
   ·
    rw [if_pos c3] at H
    have c3b0 := decide_eq_true c3
    clear c3
    have c4 : 0 ≤ x5_1 := ifN H
    replace H := ifT H
    have c4b0 := decide_eq_true c4
    clear c4
    by_cases c5 : (rd l0 x5_1) = a1
    ·
     rw [if_pos c5] at H
     have c5b0 : ((rd l0 x5_1) == a1) = true := beq_iff_eq.mpr c5
     have c5b1 : ((rd l0 x5_1) != a1) = false := bne_eq_false_iff_eq.mpr c5
     clear c5
     obtain rfl := Option.some.inj H
     have p146 : 0 ≤ (x5_1 : Int) := dA
     have q146 : x5_1 < (l0.length : Int) := dA
     obtain ⟨ad146, e146, hx146_0⟩ := Kd.at_int HR0.out x5_1 p146 q146
     cases e146
     replace p146 := eq_true p146
     replace q146 := eq_true q146
     go_wp2
     go_ret
     exact ⟨by first | rfl | (simp; done) | (simp [*]; done), by repeat (first | exact Drawn0.refl _ | apply Drawn0.step)⟩
    ·
     rw [if_neg c5] at H
     have c5b0 : ((rd l0 x5_1) == a1) = false := beq_eq_false_iff_ne.mpr c5
     have c5b1 : ((rd l0 x5_1) != a1) = true := bne_iff_ne.mpr c5
     have H' := Aside0.mk H
     clear H
     have p146 : 0 ≤ (x5_1 : Int) := dA
     have q146 : x5_1 < (l0.length : Int) := dA
     obtain ⟨ad146, e146, hx146_0⟩ := Kd.at_int HR0.out x5_1 p146 q146
     cases e146
     replace p146 := eq_true p146
     replace q146 := eq_true q146
     go_wp2
     go_roundg k1
     case measure => have := HK1.out; omega
     case rel => exact ⟨(wrap64 (x5_1 + 1)), rS, H', ⟨by have := HK1.out; omega⟩, by repeat (first | exact Drawn0.refl _ | apply Drawn0.step)⟩
   ·
    rw [if_neg c3] at H
    have c3b0 := decide_eq_false c3
    clear c3
    obtain rfl := Option.some.inj H
    go_wp2
    go_ret
    exact ⟨by first | rfl | (simp; done) | (simp [*]; done), by repeat (first | exact Drawn0.refl _ | apply Drawn0.step)⟩

/-! ### spec_Covers: function 124 -/
mutual
def spec_Covers.l0 : Nat → List (S89) → List (List Int) → Int → Option (Bool)
 | 0, _, _, _ => none
 | k + 1, x0, x1, x5 => if x5 < (x1.length : Int) then (if 0 ≤ x5 then ((spec_IsTogether.f k x0 (rd_L2 x1 x5)).bind fun t148 => (if t148 = true then (spec_Covers.l0 k x0 x1 (wrap64 (x5 + 1))) else (some false))) else (none)) else (spec_Covers.l1 k x0 x1 0)
def spec_Covers.l1 : Nat → List (S89) → List (List Int) → Int → Option (Bool)
 | 0, _, _, _ => none
 | k + 1, x0, x1, x6 => if x6 < (x0.length : Int) then (spec_Covers.l2 k x0 x1 x6 false 0) else ((spec_ArePaths.f k x0).bind fun t149 => (some t149))
def spec_Covers.l2 : Nat → List (S89) → List (List Int) → Int → Bool → Int → Option (Bool)
 | 0, _, _, _, _, _ => none
 | k + 1, x0, x1, x6, x7, x8 => if x8 < (x1.length : Int) then (if x7 = true then (spec_Covers.l2 k x0 x1 x6 true (wrap64 (x8 + 1))) else (if 0 ≤ x8 then (if 0 ≤ x6 then (if x6 < (x0.length : Int) then ((spec_l6Has.f k (rd_L2 x1 x8) ((rd_T89 x0 x6).f0)).bind fun t152 => (spec_Covers.l2 k x0 x1 x6 t152 (wrap64 (x8 + 1)))) else (none)) else (none)) else (none))) else (if x7 = true then (spec_Covers.l1 k x0 x1 (wrap64 (x6 + 1))) else (some false))
end
def spec_Covers.f (k : Nat) (l0 : List (S89)) (l1 : List (List Int)) : Option (Bool) := spec_Covers.l0 k l0 l1 0
theorem spec_Covers.mono_l : ∀ k, (∀ y0 y1 y2, LeO (spec_Covers.l0 k y0 y1 y2) (spec_Covers.l0 (k + 1) y0 y1 y2)) ∧ (∀ y0 y1 y2, LeO (spec_Covers.l1 k y0 y1 y2) (spec_Covers.l1 (k + 1) y0 y1 y2)) ∧ (∀ y0 y1 y2 y3 y4, LeO (spec_Covers.l2 k y0 y1 y2 y3 y4) (spec_Covers.l2 (k + 1) y0 y1 y2 y3 y4))
 | 0 => ⟨fun _ _ _ r h => by simp [spec_Covers.l0] at h, fun _ _ _ r h => by simp [spec_Covers.l1] at h, fun _ _ _ _ _ r h => by simp [spec_Covers.l2] at h⟩
 | k + 1 => by
  obtain ⟨ih0, ih1, ih2⟩ := spec_Covers.mono_l k
  refine ⟨?_, ?_, ?_⟩
  ·
   intro y0 y1 y2
   unfold spec_Covers.l0
   repeat' first | (with_reducible first | exact LeO.refl _ | exact LeO.none _ | refine LeO.ite ?_ ?_ | refine LeO.bind ?_ (fun _ => ?_) | exact ih0 _ _ _ | exact ih1 _ _ _ | exact ih2 _ _ _ _ _ | exact spec_ArePaths.mono _ _ | exact spec_IsTogether.mono _ _ _ | exact spec_l6Has.mono _ _ _)
  ·
   intro y0 y1 y2
   unfold spec_Covers.l1
   repeat' first | (with_reducible first | exact LeO.refl _ | exact LeO.none _ | refine LeO.ite ?_ ?_ | refine LeO.bind ?_ (fun _ => ?_) | exact ih0 _ _ _ | exact ih1 _ _ _ | exact ih2 _ _ _ _ _ | exact spec_ArePaths.mono _ _ | exact spec_IsTogether.mono _ _ _ | exact spec_l6Has.mono _ _ _)
  ·
   intro y0 y1 y2 y3 y4
   unfold spec_Covers.l2
   repeat' first | (with_reducible first | exact LeO.refl _ | exact LeO.none _ | refine LeO.ite ?_ ?_ | refine LeO.bind ?_ (fun _ => ?_) | exact ih0 _ _ _ | exact ih1 _ _ _ | exact ih2 _ _ _ _ _ | exact spec_ArePaths.mono _ _ | exact spec_IsTogether.mono _ _ _ | exact spec_l6Has.mono _ _ _)
theorem spec_Covers.mono : ∀ a0 a1 k, LeO (spec_Covers.f k a0 a1) (spec_Covers.f (k + 1) a0 a1) := by
 intro a0 a1 k
 obtain ⟨ih0, ih1, ih2⟩ := spec_Covers.mono_l k
 unfold spec_Covers.f
 repeat' first | (with_reducible first | exact LeO.refl _ | exact LeO.none _ | refine LeO.ite ?_ ?_ | refine LeO.bind ?_ (fun _ => ?_) | exact ih0 _ _ _ | exact ih1 _ _ _ | exact ih2 _ _ _ _ _ | exact spec_ArePaths.mono _ _ | exact spec_IsTogether.mono _ _ _ | exact spec_l6Has.mono _ _ _)
set_option maxHeartbeats 8000000 in
set_option maxRecDepth 100000 in
theorem spec_Covers.calls (k : Nat) (A0 : Option Addr) (c0 : Nat) (l0 : List (S89)) (A1 : Option Addr) (c1 : Nat) (l1 : List (List Int)) (r : Bool) (w : World) (hr0 : Kd.C k89 w A0 l0.length l0) (hc0 : l0.length ≤ c0) (hr1 : Kd.C (Kd.slice 3 (Kd.int .i64)) w A1 l1.length l1) (hc1 : l1.length ≤ c1) (h : spec_Covers.f k l0 l1 = some r) :
  Calls Try.prog 124 #[.slice A0 l0.length c0, .slice A1 l1.length c1] w fun e w' => e = .returned (.bool r) ∧ Below w.heap.size w w' := by
 have HR0 := Aside0.mk hr0
 have HC0 := Aside0.mk hc0
 clear hr0 hc0
 have HR1 := Aside0.mk hr1
 have HC1 := Aside0.mk hc1
 clear hr1 hc1
 have HB := Aside0.mk (Below.refl w.heap.size w)
 have H : (spec_Covers.l0 k l0 l1 0) = some r := h
 clear h
 have H' := Aside0.mk H
 clear H
 go_enter Try.func124, Try.ntmps124
 go_wp2
 repeat (go_quiet (fail); try go_wp2)
 go_loopg [5] k (fun kq v5 w' => ∃ (x5_1 : Int), v5 = .int .i64 x5_1 ∧ Aside0 (spec_Covers.l0 kq l0 l1 x5_1 = some r) ∧ Aside0 (kq ≤ k) ∧ Aside0 (Below w.heap.size w w'))
 case atStart => exact ⟨(0), rS, H', ⟨Nat.le_refl _⟩, ⟨bA⟩⟩
 case round =>
  clear H'
  try clear c1
  try clear p2
  obtain ⟨x5_1, rfl, HA, HK1, HB⟩ := hrel
  cases gk with
  | zero => exact absurd HA.out (by simp [spec_Covers.l0])
  | succ k1 =>
   have H := HA.out
   clear HA
   simp only [spec_Covers.l0] at H
   by_cases c3 : x5_1 < (l1.length : Int)
   ·
    rw [if_pos c3] at H
    have c3b0 := decide_eq_true c3
    clear c3
    have c4 : 0 ≤ x5_1 := ifN H
    replace H := ifT H
    have c4b0 := decide_eq_true c4
    clear c4
    obtain ⟨t148, A5, H⟩ := bindE H
    try dsimp only at H
    by_cases c6 : t148 = true
    ·
     subst c6
     have H1 : (spec_Covers.l0 k1 l0 l1 (wrap64 (x5_1 + 1))) = some r := by rw [if_pos rfl] at H; exact H
     clear H
     have H := H1
     clear H1
     have H' := Aside0.mk H
     clear H
     have p147 : 0 ≤ (x5_1 : Int) := dA
     have q147 : x5_1 < (l1.length : Int) := dA
     obtain ⟨ad147, A147_0, c147_0, e147, hx147_0, hl147_0, hi147_0⟩ := at_L2 HR1.out x5_1 p147 q147
     cases e147
     replace hx147_0 := hC HB hx147_0
     have HR147_0 := Aside0.mk hi147_0
     have HC147_0 := Aside0.mk hl147_0
     clear hi147_0 hl147_0
     replace p147 := eq_true p147
     replace q147 := eq_true q147
     go_wp2_with (first | (go_at_call 82; (with_reducible refine (spec_IsTogether.calls k1 _ _ l0 _ _ (rd_L2 l1 x5_1) true _ ?side1 ?side2 ?side3 ?side4 A5.out).mono ?_); (case side1 => exact cB HR0); (case side2 => exact HC0.out); (case side3 => exact cB HR147_0); (case side4 => exact HC147_0.out); rintro e w7 ⟨rfl, hb⟩; replace HB := Aside0.mk (below_step bA hb); (try clear hb)))
     repeat (go_quiet (first | (go_at_call 82; (with_reducible refine (spec_IsTogether.calls k1 _ _ l0 _ _ (rd_L2 l1 x5_1) true _ ?side1 ?side2 ?side3 ?side4 A5.out).mono ?_); (case side1 => exact cB HR0); (case side2 => exact HC0.out); (case side3 => exact cB HR147_0); (case side4 => exact HC147_0.out); rintro e w7 ⟨rfl, hb⟩; replace HB := Aside0.mk (below_step bA hb); (try clear hb))); try go_wp2_with (first | (go_at_call 82; (with_reducible refine (spec_IsTogether.calls k1 _ _ l0 _ _ (rd_L2 l1 x5_1) true _ ?side1 ?side2 ?side3 ?side4 A5.out).mono ?_); (case side1 => exact cB HR0); (case side2 => exact HC0.out); (case side3 => exact cB HR147_0); (case side4 => exact HC147_0.out); rintro e w7 ⟨rfl, hb⟩; replace HB := Aside0.mk (below_step bA hb); (try clear hb))))
     go_roundg k1
     case measure => have := HK1.out; omega
     case rel => exact ⟨(wrap64 (x5_1 + 1)), rS, H', ⟨by have := HK1.out; omega⟩, ⟨bA⟩⟩
    ·
     replace c6 := Bool.eq_false_iff.mpr c6
     subst c6
     have H1 : (some false) = some r := by rw [if_neg (show ¬ (false = true) by decide)] at H; exact H
     clear H
     have H := H1
     clear H1
     obtain rfl := Option.some.inj H
     have p147 : 0 ≤ (x5_1 : Int) := dA
     have q147 : x5_1 < (l1.length : Int) := dA
     obtain ⟨ad147, A147_0, c147_0, e147, hx147_0, hl147_0, hi147_0⟩ := at_L2 HR1.out x5_1 p147 q147
     cases e147
     replace hx147_0 := hC HB hx147_0
     have HR147_0 := Aside0.mk hi147_0
     have HC147_0 := Aside0.mk hl147_0
     clear hi147_0 hl147_0
     replace p147 := eq_true p147
     replace q147 := eq_true q147
     go_wp2_with (first | (go_at_call 82; (with_reducible refine (spec_IsTogether.calls k1 _ _ l0 _ _ (rd_L2 l1 x5_1) false _ ?side1 ?side2 ?side3 ?side4 A5.out).mono ?_); (case side1 => exact cB HR0); (case side2 => exact HC0.out); (case side3 => exact cB HR147_0); (case side4 => exact HC147_0.out); rintro e w8 ⟨rfl, hb⟩; replace HB := Aside0.mk (below_step bA hb); (try clear hb)))
     repeat (go_quiet (first | (go_at_call 82; (with_reducible refine (spec_IsTogether.calls k1 _ _ l0 _ _ (rd_L2 l1 x5_1) false _ ?side1 ?side2 ?side3 ?side4 A5.out).mono ?_); (case side1 => exact cB HR0); (case side2 => exact HC0.out); (case side3 => exact cB HR147_0); (case side4 => exact HC147_0.out); rintro e w8 ⟨rfl, hb⟩; replace HB := Aside0.mk (below_step bA hb); (try clear hb))); try go_wp2_with (first | (go_at_call 82; (with_reducible refine (spec_IsTogether.calls k1 _ _ l0 _ _ (rd_L2 l1 x5_1) false _ ?side1 ?side2 ?side3 ?side4 A5.out).mono ?_); (case side1 => exact cB HR0); (case side2 => exact HC0.out); (case side3 => exact cB HR147_0); (case side4 => exact HC147_0.out); rintro e w8 ⟨rfl, hb⟩; replace HB := Aside0.mk (below_step bA hb); (try clear hb))))
     go_ret
     exact ⟨rA, bA⟩
   ·
    rw [if_neg c3] at H
    have c3b0 := decide_eq_false c3
    clear c3
    have H' := Aside0.mk H
    clear H
    go_wp2
    repeat (go_quiet (fail); try go_wp2)
    go_loopg [6] k1 (fun kq v6 w' => ∃ (x6_2 : Int), v6 = .int .i64 x6_2 ∧ Aside0 (spec_Covers.l1 kq l0 l1 x6_2 = some r) ∧ Aside0 (kq ≤ k1) ∧ Aside0 (Below w.heap.size w w'))
    case atStart => exact ⟨(0), rS, H', ⟨Nat.le_refl _⟩, ⟨bA⟩⟩
    case round =>
     clear H'
     try clear c1
     try clear p1
     try clear q1
     try clear hx1
     try clear p2
     try clear c3
     try clear c3b0
     try clear c4
     try clear c4b0
     try clear c6
     try clear p6
     try clear hx147_0
     try clear p147
     try clear p2
     try clear q147
     obtain ⟨x6_2, rfl, HA, HK2, HB⟩ := hrel
     cases gk with
     | zero => exact absurd HA.out (by simp [spec_Covers.l1])
     | succ k2 =>
      have H := HA.out
      clear HA
      simp only [spec_Covers.l1] at H
      by_cases c9 : x6_2 < (l0.length : Int)
      ·
       rw [if_pos c9] at H
       have c9b0 := decide_eq_true c9
       clear c9
       have H' := Aside0.mk H
       clear H
       go_wp2
       repeat (go_quiet (fail); try go_wp2)
       go_loopg [7, 8] k2 (fun kq v7 v8 w' => ∃ (x7_3 : Bool) (x8_3 : Int), v7 = .bool x7_3 ∧ v8 = .int .i64 x8_3 ∧ Aside0 (spec_Covers.l2 kq l0 l1 x6_2 x7_3 x8_3 = some r) ∧ Aside0 (kq ≤ k2) ∧ Aside0 (Below w.heap.size w w'))
       case atStart => exact ⟨(false), (0), rS, rS, H', ⟨Nat.le_refl _⟩, ⟨bA⟩⟩
       case round =>
        clear H'
        try clear c1
        try clear p1
        try clear q1
        try clear hx1
        try clear p2
        try clear c3
        try clear c3b0
        try clear c4
        try clear c4b0
        try clear c6
        try clear p6
        try clear c9
        try clear c9b0
        try clear hx147_0
        try clear p1
        try clear p147
        try clear p2
        try clear p6
        try clear q1
        try clear q147
        obtain ⟨x7_3, x8_3, rfl, rfl, HA, HK3, HB⟩ := hrel
        cases gk with
        | zero => exact absurd HA.out (by simp [spec_Covers.l2])
        | succ k3 =>
         have H := HA.out
         clear HA
         simp only [spec_Covers.l2] at H
         by_cases c10 : x8_3 < (l1.length : Int)
         ·
          rw [if_pos c10] at H
          have c10b0 := decide_eq_true c10
          clear c10
          by_cases c11 : x7_3 = true
          ·
           subst c11
           have H1 : (spec_Covers.l2 k3 l0 l1 x6_2 true (wrap64 (x8_3 + 1))) = some r := by rw [if_pos rfl] at H; exact H
           clear H
           have H := H1
           clear H1
           have H' := Aside0.mk H
           clear H
           go_wp2
           repeat (go_quiet (fail); try go_wp2)
           go_roundg k3
           case measure => have := HK1.out; have := HK2.out; have := HK3.out; omega
           case rel => exact ⟨(true), (wrap64 (x8_3 + 1)), rS, rS, H', ⟨by have := HK1.out; have := HK2.out; have := HK3.out; omega⟩, ⟨bA⟩⟩
          ·
           replace c11 := Bool.eq_false_iff.mpr c11
           subst c11
           have H1 : (if 0 ≤ x8_3 then (if 0 ≤ x6_2 then (if x6_2 < (l0.length : Int) then ((spec_l6Has.f k3 (rd_L2 l1 x8_3) ((rd_T89 l0 x6_2).f0)).bind fun t152 => (spec_Covers.l2 k3 l0 l1 x6_2 t152 (wrap64 (x8_3 + 1)))) else (none)) else (none)) else (none)) = some r := by rw [if_neg (show ¬ (false = true) by decide)] at H; exact H
           clear H
           have H := H1
           clear H1
           have c12 : 0 ≤ x8_3 := ifN H
           replace H := ifT H
           have c12b0 := decide_eq_true c12
           clear c12
           have c13 : 0 ≤ x6_2 := ifN H
           replace H := ifT H
           have c13b0 := decide_eq_true c13
           clear c13
           have c14 : x6_2 < (l0.length : Int) := ifN H
           replace H := ifT H
           have c14b0 := decide_eq_true c14
           clear c14
           obtain ⟨t152, A15, H⟩ := bindE H
           try dsimp only at H
           have H' := Aside0.mk H
           clear H
           have p150 : 0 ≤ (x8_3 : Int) := dA
           have q150 : x8_3 < (l1.length : Int) := dA
           obtain ⟨ad150, A150_0, c150_0, e150, hx150_0, hl150_0, hi150_0⟩ := at_L2 HR1.out x8_3 p150 q150
           cases e150
           replace hx150_0 := hC HB hx150_0
           have HR150_0 := Aside0.mk hi150_0
           have HC150_0 := Aside0.mk hl150_0
           clear hi150_0 hl150_0
           replace p150 := eq_true p150
           replace q150 := eq_true q150
           have p151 : 0 ≤ (x6_2 : Int) := dA
           have q151 : x6_2 < (l0.length : Int) := dA
           obtain ⟨ad151, e151, hx151_0, hx151_1, hx151_2, hx151_3⟩ := at_T89 HR0.out x6_2 p151 q151
           cases e151
           replace hx151_0 := hC HB hx151_0
           replace hx151_1 := hC HB hx151_1
           replace hx151_2 := hC HB hx151_2
           replace hx151_3 := hC HB hx151_3
           replace p151 := eq_true p151
           replace q151 := eq_true q151
           go_wp2_with (first | (go_at_call 101; (with_reducible refine (spec_l6Has.calls k3 _ _ (rd_L2 l1 x8_3) ((rd_T89 l0 x6_2).f0) t152 _ ?side1 ?side2 A15.out).mono ?_); (case side1 => exact cB HR150_0); (case side2 => exact HC150_0.out); rintro e w' ⟨rfl, ⟨nd, rfl⟩⟩; (try first | exact ⟨rfl, _, World.drewN_drewN _ _ _⟩ | exact ⟨rfl, _, Eq.trans (World.drewN_drewN _ _ _) (congrArg (World.drewN _) (Nat.add_assoc _ _ _))⟩)))
           repeat (go_quiet (first | (go_at_call 101; (with_reducible refine (spec_l6Has.calls k3 _ _ (rd_L2 l1 x8_3) ((rd_T89 l0 x6_2).f0) t152 _ ?side1 ?side2 A15.out).mono ?_); (case side1 => exact cB HR150_0); (case side2 => exact HC150_0.out); rintro e w' ⟨rfl, ⟨nd, rfl⟩⟩; (try first | exact ⟨rfl, _, World.drewN_drewN _ _ _⟩ | exact ⟨rfl, _, Eq.trans (World.drewN_drewN _ _ _) (congrArg (World.drewN _) (Nat.add_assoc _ _ _))⟩))); try go_wp2_with (first | (go_at_call 101; (with_reducible refine (spec_l6Has.calls k3 _ _ (rd_L2 l1 x8_3) ((rd_T89 l0 x6_2).f0) t152 _ ?side1 ?side2 A15.out).mono ?_); (case side1 => exact cB HR150_0); (case side2 => exact HC150_0.out); rintro e w' ⟨rfl, ⟨nd, rfl⟩⟩; (try first | exact ⟨rfl, _, World.drewN_drewN _ _ _⟩ | exact ⟨rfl, _, Eq.trans (World.drewN_drewN _ _ _) (congrArg (World.drewN _) (Nat.add_assoc _ _ _))⟩))))
           go_roundg k3
           case measure => have := HK1.out; have := HK2.out; have := HK3.out; omega
           case rel => exact ⟨(t152), (wrap64 (x8_3 + 1)), rS, rS, H', ⟨by have := HK1.out; have := HK2.out; have := HK3.out; omega⟩, ⟨bA⟩⟩
         ·
          rw [if_neg c10] at H
          have c10b0 := decide_eq_false c10
          clear c10
          by_cases c16 : x7_3 = true
          ·
           subst c16
           have H1 : (spec_Covers.l1 k3 l0 l1 (wrap64 (x6_2 + 1))) = some r := by rw [if_pos rfl] at H; exact H
           clear H
           have H := H1
           clear H1
           have H' := Aside0.mk H
           clear H
           go_wp2
           repeat (go_quiet (fail); try go_wp2)
           go_roundg k3
           case measure => have := HK1.out; have := HK2.out; have := HK3.out; omega
           case rel => exact ⟨(wrap64 (x6_2 + 1)), rS, H', ⟨by have := HK1.out; have := HK2.out; have := HK3.out; omega⟩, ⟨bA⟩⟩
          ·
           replace c16 := Bool.eq_false_iff.mpr c16
           subst c16
           have H1 : (some false) = some r := by rw [if_neg (show ¬ (false = true) by decide)] at H; exact H
           clear H
           have H := H1
           clear H1
           obtain rfl := Option.some.inj H
           go_wp2
           repeat (go_quiet (fail); try go_wp2)
           go_ret
           exact ⟨rA, bA⟩
      ·
       rw [if_neg c9] at H
       have c9b0 := decide_eq_false c9
       clear c9
       obtain ⟨t149, A17, H⟩ := bindE H
       try dsimp only at H
       obtain rfl := Option.some.inj H
       go_wp2_with (first | (go_at_call 122; (with_reducible refine (spec_ArePaths.calls k2 _ _ l0 t149 _ ?side1 ?side2 A17.out).mono ?_); (case side1 => exact cB HR0); (case side2 => exact HC0.out); rintro e w18 ⟨rfl, hb⟩; replace HB := Aside0.mk (below_step bA hb); (try clear hb)))
       repeat (go_quiet (first | (go_at_call 122; (with_reducible refine (spec_ArePaths.calls k2 _ _ l0 t149 _ ?side1 ?side2 A17.out).mono ?_); (case side1 => exact cB HR0); (case side2 => exact HC0.out); rintro e w18 ⟨rfl, hb⟩; replace HB := Aside0.mk (below_step bA hb); (try clear hb))); try go_wp2_with (first | (go_at_call 122; (with_reducible refine (spec_ArePaths.calls k2 _ _ l0 t149 _ ?side1 ?side2 A17.out).mono ?_); (case side1 => exact cB HR0); (case side2 => exact HC0.out); rintro e w18 ⟨rfl, hb⟩; replace HB := Aside0.mk (below_step bA hb); (try clear hb))))
       go_ret
       exact ⟨rA, bA⟩

/-! ### spec_l8Stages: function 125 -/
def spec_l8Stages.l0 : Nat → List (S92) → List (List Int) → Int → Option ((List (List Int)))
 | 0, _, _, _ => none
 | k + 1, x0, x3, x4 => if x4 < (x0.length : Int) then (if 0 ≤ x4 then (if x3.length < 5864062014805 then (spec_l8Stages.l0 k x0 (x3 ++ [(rd_T92 x0 x4).f0]) (wrap64 (x4 + 1))) else (none)) else (none)) else (some x3)
def spec_l8Stages.f (k : Nat) (l0 : List (S92)) : Option ((List (List Int))) := spec_l8Stages.l0 k l0 (([] : List (List Int))) 0
theorem spec_l8Stages.mono_l : ∀ k, (∀ y0 y1 y2, LeO (spec_l8Stages.l0 k y0 y1 y2) (spec_l8Stages.l0 (k + 1) y0 y1 y2))
 | 0 => fun _ _ _ r h => by simp [spec_l8Stages.l0] at h
 | k + 1 => by
  have ih0 := spec_l8Stages.mono_l k
  ·
   intro y0 y1 y2
   unfold spec_l8Stages.l0
   repeat' first | (with_reducible first | exact LeO.refl _ | exact LeO.none _ | refine LeO.ite ?_ ?_ | refine LeO.bind ?_ (fun _ => ?_) | exact ih0 _ _ _)
theorem spec_l8Stages.mono : ∀ a0 k, LeO (spec_l8Stages.f k a0) (spec_l8Stages.f (k + 1) a0) := by
 intro a0 k
 have ih0 := spec_l8Stages.mono_l k
 unfold spec_l8Stages.f
 repeat' first | (with_reducible first | exact LeO.refl _ | exact LeO.none _ | refine LeO.ite ?_ ?_ | refine LeO.bind ?_ (fun _ => ?_) | exact ih0 _ _ _)
set_option maxHeartbeats 8000000 in
set_option maxRecDepth 100000 in
theorem spec_l8Stages.calls (k : Nat) (P0_ : Nat → Prop) (A0 : Option Addr) (c0 : Nat) (l0 : List (S92)) (r : List (List Int)) (w : World) (hs0 : Kd.V k92 92 w w.heap.size (fun k_ => P0_ k_) (.slice A0 l0.length c0) l0) (h : spec_l8Stages.f k l0 = some r) :
  Calls Try.prog 125 #[.slice A0 l0.length c0] w fun e w' => ∃ v0_ : Value, e = .returned (v0_) ∧ Kd.N (Kd.slice 3 (Kd.int .i64)) 41 w' w.heap.size (fun k_ => (P0_ k_ ∨ w.heap.size ≤ k_)) v0_ r ∧ Below w.heap.size w w' := by
 have HO0 := Aside0.mk (show Kd.V k92 92 w w.heap.size (fun k_ => (P0_ k_ ∨ w.heap.size ≤ k_)) (.slice A0 l0.length c0) l0 from Kd.V_mono hs0 (fun k_ hk => .inl hk))
 have HB := Aside0.mk (Below.refl w.heap.size w)
 have H : (spec_l8Stages.l0 k l0 (([] : List (List Int))) 0) = some r := h
 clear h
 obtain ⟨y153, hy153⟩ : ∃ y_ : List (List Int), y_ = (([] : List (List Int))) := ⟨_, rfl⟩
 replace H : (spec_l8Stages.l0 k l0 y153 0) = some r := by first | (rw [hy153]; with_reducible exact H) | (have H2_ := (Option.bind_some _ _).symm.trans H; rw [hy153]; with_reducible exact H2_) | (have H2_ := (Option.bind_some _ _).symm.trans H; with_reducible exact H2_) | with_reducible exact H | (rw [hy153]; exact H) | exact H
 have Ny153 := Aside0.mk hy153
 clear hy153
 have H' := Aside0.mk H
 clear H
 go_enter Try.func125, Try.ntmps125
 go_wp2_with (first | ((with_reducible refine gate_dst (N := 5) rfl ?_); refine Kd.N_lit (Kd.slice 3 (Kd.int .i64)) _ 41 ?hg (N' := 5) ?hd (xs := ([] : List (List Int))) (inner := []) (ok := (fun k_ => (P0_ k_ ∨ w.heap.size ≤ k_))) (okp := (fun k_ => (P0_ k_ ∨ w.heap.size ≤ k_))) ?hr ?hp (fun _ hk => hk) ((show ∀ k_, w.heap.size ≤ k_ → (fun k_ => (P0_ k_ ∨ w.heap.size ≤ k_)) k_ from fun k_ hk => (.inr (Nat.le_trans (below_size bA) hk))) _ (Nat.le_refl _)) (Below.refl _ _) (Nat.le_refl _) (by simp) ?_; (case hd => rfl); (case hg => rfl); (case hr => first | (go_simp; done) | (go_simp; rfl)); (case hp => exact (Reps.none _ _)); intro v154 w2 ho3 hb hg_ hnew_; clear hg_ hnew_; (first | rw [← Ny153.out] at ho3 | (simp only [Int.reduceToNat] at ho3; rw [← Ny153.out] at ho3)); have n0_ := Aside0.mk (Kd.V_elder' (by (with_reducible repeat (first | apply Kd.V_alloc | apply Kd.V_drewN | apply Kd.V_drew)); exact HO0.out) (Kd.N_base ho3) hb); have n1_ := Aside0.mk (Kd.N_lower ho3 (below_size bA)); have n2_ := Aside0.mk (below_step bA hb); clear HO0; clear HB; have HO0 := n0_; have HO155 := n1_; have HB := n2_; clear n0_ n1_ n2_; clear hb ho3))
 go_loopg [3, 4] k (fun kq v3 v4 w' => ∃ (x3_1 : List (List Int)) (x4_1 : Int), v4 = .int .i64 x4_1 ∧ Aside0 (spec_l8Stages.l0 kq l0 x3_1 x4_1 = some r) ∧ Aside0 (kq ≤ k) ∧ Aside0 (Kd.V k92 92 w' w.heap.size (fun k_ => (P0_ k_ ∨ w.heap.size ≤ k_) ∧ some k_ ≠ (v3 : Value).ownBlock) (.slice A0 l0.length c0) l0) ∧ Aside0 (Kd.N (Kd.slice 3 (Kd.int .i64)) 41 w' w.heap.size (fun k_ => (P0_ k_ ∨ w.heap.size ≤ k_)) v3 x3_1) ∧ Aside0 (Below w.heap.size w w'))
 case atStart => exact ⟨(y153), (0), rS, H', ⟨Nat.le_refl _⟩, ⟨by (with_reducible repeat (first | apply Kd.V_alloc | apply Kd.V_drewN | apply Kd.V_drew)); exact HO0.out⟩, ⟨by (with_reducible repeat (first | apply Kd.N_alloc | apply Kd.N_drewN | apply Kd.N_drew)); exact HO155.out⟩, ⟨bA⟩⟩
 case round =>
  clear H'
  try clear c1
  try clear p2
  obtain ⟨x3_1, x4_1, rfl, HA, HK1, HO_0, HO_3, HB⟩ := hrel
  cases gk with
  | zero => exact absurd HA.out (by simp [spec_l8Stages.l0])
  | succ k1 =>
   have H := HA.out
   clear HA
   simp only [spec_l8Stages.l0] at H
   by_cases c4 : x4_1 < (l0.length : Int)
   ·
    rw [if_pos c4] at H
    have c4b0 := decide_eq_true c4
    clear c4
    have c5 : 0 ≤ x4_1 := ifN H
    replace H := ifT H
    have c5b0 := decide_eq_true c5
    clear c5
    have c6 : x3_1.length < 5864062014805 := ifN H
    replace H := ifT H
    have LMc6 := Aside0.mk c6
    clear c6
    obtain ⟨y157, hy157⟩ : ∃ y_ : List (List Int), y_ = (x3_1 ++ [(rd_T92 l0 x4_1).f0]) := ⟨_, rfl⟩
    replace H : (spec_l8Stages.l0 k1 l0 y157 (wrap64 (x4_1 + 1))) = some r := by first | (rw [hy157]; with_reducible exact H) | (have H2_ := (Option.bind_some _ _).symm.trans H; rw [hy157]; with_reducible exact H2_) | (have H2_ := (Option.bind_some _ _).symm.trans H; with_reducible exact H2_) | with_reducible exact H | (rw [hy157]; exact H) | exact H
    have Ny157 := Aside0.mk hy157
    clear hy157
    have H' := Aside0.mk H
    clear H
    have p156 : 0 ≤ (x4_1 : Int) := dA
    have q156 : x4_1 < (l0.length : Int) := dA
    obtain ⟨ad156, A156_0, c156_0, e156, hx156_0, hx156_1, hl156_0, hi156_0⟩ := at_T92 (Kd.V_reads' HO_0.out).2.2 x4_1 p156 q156
    cases e156
    obtain ⟨ce156, hce156, hMe156, hcc156⟩ := Kd.V_get HO_0.out z92 x4_1 p156 (by first | exact q156 | exact dA | (have e_ := (Kd.V_reads' HO_0.out).1; omega))
    obtain ⟨ua156_0, uc156_0, rfl, ul156_0, ge156_0⟩ := k92_openF hMe156
    have hv156_0 := hcc156 0 _ rfl
    rw [Nat.add_zero] at hv156_0
    replace hv156_0 := Option.some.inj (hv156_0.symm.trans hx156_0)
    injection hv156_0 with hva_ hvn_ hvc_
    rw [hva_] at ge156_0
    rw [hvc_] at ul156_0
    have HL156_0 := Aside0.mk (show Kd.V (Kd.int .i64) 3 _ w.heap.size _ _ ((rd_T92 l0 x4_1).f0) from Kd.V_mk ul156_0 ge156_0)
    clear hva_ hvn_ hvc_ ge156_0 ul156_0
    clear hcc156 hce156
    have HR156_0 := Aside0.mk hi156_0
    have HC156_0 := Aside0.mk hl156_0
    clear hi156_0 hl156_0
    replace p156 := eq_true p156
    replace q156 := eq_true q156
    go_wp2_with (first | ((with_reducible refine gate_builtin (b := .append) (xs := #[.tmp 12, .tmp 18]) rfl ?_); at_builtin; refine Kd.N_append (Kd.slice 3 (Kd.int .i64)) (w0 := w) w.heap.size rfl (.tmp 12) (.tmp 18) 103 41 (.slice none 0 0) 24 rfl Try.underlying103 info41 rfl (by decide) (by omega) u3 x3_1 ((rd_T92 l0 x4_1).f0) [.slice A156_0 ((rd_T92 l0 x4_1).f0).length c156_0] (fun k_ => (P0_ k_ ∨ w.heap.size ≤ k_)) (fun k_ => ((fun k_ => (P0_ k_ ∨ w.heap.size ≤ k_))) k_ ∧ some k_ ≠ (u3 : Value).ownBlock) rfl rfl ?aP (fun _ hk => hk) ?aF ?aO ?aB ?aS ?aL ?_; (case aP => exact (Kd.FK_slice_mk (Kd.V_reads' (Kd.V_mono (ok' := (fun k_ => ((fun k_ => (P0_ k_ ∨ w.heap.size ≤ k_))) k_ ∧ some k_ ≠ (u3 : Value).ownBlock)) (HL156_0.out) (fun k_ hk => ⟨hk.1, hk.2⟩))).2.1 (Kd.V_F (Kd.V_mono (ok' := (fun k_ => ((fun k_ => (P0_ k_ ∨ w.heap.size ≤ k_))) k_ ∧ some k_ ≠ (u3 : Value).ownBlock)) (HL156_0.out) (fun k_ hk => ⟨hk.1, hk.2⟩))))); (case aB => exact bA); (case aF => exact (fun k_ hk => (.inr (Nat.le_trans (below_size bA) hk)))); (case aO => exact (by (with_reducible repeat (first | apply Kd.N_alloc | apply Kd.N_drewN | apply Kd.N_drew)); exact HO_3.out)); (case aS => exact (below_size bA)); (case aL => have := LMc6.out; omega); intro v158 w7 ho hb hg hat; rw [← Ny157.out] at ho; have n0_ := Aside0.mk (Kd.V_afterv (ok := (fun k_ => (P0_ k_ ∨ w.heap.size ≤ k_))) (by (with_reducible repeat (first | apply Kd.V_alloc | apply Kd.V_drewN | apply Kd.V_drew)); exact HO_0.out) hg hat); have n1_ := Aside0.mk (Kd.V_afterv (ok := (fun k_ => (P0_ k_ ∨ w.heap.size ≤ k_))) (by (with_reducible repeat (first | apply Kd.V_alloc | apply Kd.V_drewN | apply Kd.V_drew)); exact HL156_0.out) hg hat); have n2_ := Aside0.mk (hb); have n3_ := Aside0.mk (ho); clear HO_0; clear HL156_0; clear HB; clear HO_3; have HO_0 := n0_; have HL156_0 := n1_; have HB := n2_; have HO159 := n3_; clear n0_ n1_ n2_ n3_; clear ho hb hg hat))
    go_roundg k1
    case measure => have := HK1.out; omega
    case rel => exact ⟨(y157), (wrap64 (x4_1 + 1)), rS, H', ⟨by have := HK1.out; omega⟩, ⟨by (with_reducible repeat (first | apply Kd.V_alloc | apply Kd.V_drewN | apply Kd.V_drew)); exact HO_0.out⟩, ⟨by (with_reducible repeat (first | apply Kd.N_alloc | apply Kd.N_drewN | apply Kd.N_drew)); exact HO159.out⟩, ⟨bA⟩⟩
   ·
    rw [if_neg c4] at H
    have c4b0 := decide_eq_false c4
    clear c4
    obtain rfl := Option.some.inj H
    go_wp2
    go_ret
    exact ⟨_, by first | rfl | (simp [errW_none, errW_some] <;> rfl) | (simp [*, errW_none, errW_some] <;> rfl), by (with_reducible repeat (first | apply Kd.N_alloc | apply Kd.N_drewN | apply Kd.N_drew)); exact HO_3.out, bA⟩

/-! ### spec_IsPlan: function 75 -/
def spec_IsPlan.l0 : Nat → List (S89) → List (S92) → Int → Option (Bool)
 | 0, _, _, _ => none
 | k + 1, x0, x1, x5 => if x5 < (x1.length : Int) then (if 0 ≤ x5 then (if (((rd_T92 x1 x5).f0).length : Int) = 0 then (some false) else ((spec_IsTogether.f k x0 ((rd_T92 x1 x5).f0)).bind fun t167 => (if t167 = true then ((spec_LeastGreen.f k x0 ((rd_T92 x1 x5).f0)).bind fun t170 => ((spec_l1In.f ((rd_T92 x1 x5).f1) t170 60).bind fun t171 => (if t171 = true then (spec_IsPlan.l0 k x0 x1 (wrap64 (x5 + 1))) else (some false)))) else (some false)))) else (none)) else ((spec_l8Stages.f k x1).bind fun t161 => ((spec_Covers.f k x0 t161).bind fun t164 => (some t164)))
def spec_IsPlan.f (k : Nat) (l0 : List (S89)) (l1 : List (S92)) : Option (Bool) := (spec_l1In.f (l1.length : Int) 1 6).bind fun t160 => (if t160 = true then (spec_IsPlan.l0 k l0 l1 0) else (some false))
theorem spec_IsPlan.mono_l : ∀ k, (∀ y0 y1 y2, LeO (spec_IsPlan.l0 k y0 y1 y2) (spec_IsPlan.l0 (k + 1) y0 y1 y2))
 | 0 => fun _ _ _ r h => by simp [spec_IsPlan.l0] at h
 | k + 1 => by
  have ih0 := spec_IsPlan.mono_l k
  ·
   intro y0 y1 y2
   unfold spec_IsPlan.l0
   repeat' first | (with_reducible first | exact LeO.refl _ | exact LeO.none _ | refine LeO.ite ?_ ?_ | refine LeO.bind ?_ (fun _ => ?_) | exact ih0 _ _ _ | exact spec_Covers.mono _ _ _ | exact spec_IsTogether.mono _ _ _ | exact spec_LeastGreen.mono _ _ _ | exact spec_l8Stages.mono _ _)
theorem spec_IsPlan.mono : ∀ a0 a1 k, LeO (spec_IsPlan.f k a0 a1) (spec_IsPlan.f (k + 1) a0 a1) := by
 intro a0 a1 k
 have ih0 := spec_IsPlan.mono_l k
 unfold spec_IsPlan.f
 repeat' first | (with_reducible first | exact LeO.refl _ | exact LeO.none _ | refine LeO.ite ?_ ?_ | refine LeO.bind ?_ (fun _ => ?_) | exact ih0 _ _ _ | exact spec_Covers.mono _ _ _ | exact spec_IsTogether.mono _ _ _ | exact spec_LeastGreen.mono _ _ _ | exact spec_l8Stages.mono _ _)
def spec_IsPlan.T6 : Bool × List (List Nat × List Nat) := (true, [([], []), ([], []), ([0, 1], [0, 1]), ([2], [2]), ([3], [3]), ([4], [4]), ([5], [5]), ([6], [6]), ([7], [7]), ([7], [7]), ([7], [7]), ([9, 10, 7], [7, 9, 10]), ([11, 7], [7, 11]), ([12, 7], [7, 12]), ([8, 13, 7, 7], [7, 8, 13]), ([14, 7], [7, 14]), ([7, 15], [7, 15]), ([16, 14], [16]), ([17], [17]), ([17], [17]), ([18, 19, 17], [17, 18, 19]), ([20, 17], [17, 20]), ([21, 17], [17, 21]), ([17], [17]), ([17], [17]), ([17], [17]), ([24, 25, 17], [17, 24, 25]), ([26, 17], [17, 26]), ([27, 17], [17, 27]), ([23, 28, 17, 17], [17, 23, 28]), ([22, 29, 29, 17], [17, 22, 29]), ([30, 17], [17, 30]), ([17, 31], [17, 31])])
def spec_IsPlan.B6 : List Nat := [0, 0, 3, 7, 15, 31, 63, 127, 255, 255, 255, 1791, 3839, 7935, 16383, 32767, 65535, 131071, 262143, 262143, 1048575, 2097151, 4194303, 262143, 262143, 262143, 50593791, 117702655, 251920383, 528744447, 1073741823, 2147483647, 4294967295]
theorem spec_IsPlan.tab6 : rtab .any (opsOf Try.f75 6) = spec_IsPlan.T6 := by kernel_rfl
theorem spec_IsPlan.bits6 : waitsOk spec_IsPlan.T6.2 spec_IsPlan.B6 = true := by kernel_rfl
set_option maxHeartbeats 8000000 in
set_option maxRecDepth 100000 in
theorem spec_IsPlan.calls (k : Nat) (A0 : Option Addr) (c0 : Nat) (l0 : List (S89)) (A1 : Option Addr) (c1 : Nat) (l1 : List (S92)) (r : Bool) (w : World) (hr0 : Kd.C k89 w A0 l0.length l0) (hc0 : l0.length ≤ c0) (hr1 : Kd.C k92 w A1 l1.length l1) (hc1 : l1.length ≤ c1) (h : spec_IsPlan.f k l0 l1 = some r) :
  Calls Try.prog 75 #[.slice A0 l0.length c0, .slice A1 l1.length c1] w fun e w' => e = .returned (.bool r) ∧ Below w.heap.size w w' := by
 have HR0 := Aside0.mk hr0
 have HC0 := Aside0.mk hc0
 clear hr0 hc0
 have HR1 := Aside0.mk hr1
 have HC1 := Aside0.mk hc1
 clear hr1 hc1
 have HB := Aside0.mk (Below.refl w.heap.size w)
 have H : ((spec_l1In.f (l1.length : Int) 1 6).bind fun t160 => (if t160 = true then (spec_IsPlan.l0 k l0 l1 0) else (some false))) = some r := h
 clear h
 obtain ⟨t160, A3, H⟩ := bindE H
 try dsimp only at H
 by_cases c4 : t160 = true
 ·
  subst c4
  have H1 : (spec_IsPlan.l0 k l0 l1 0) = some r := by rw [if_pos rfl] at H; exact H
  clear H
  have H := H1
  clear H1
  have H' := Aside0.mk H
  clear H
  go_enter Try.func75, Try.ntmps75
  go_wp2_with (first | ((with_reducible refine gate_callee (f := 62) rfl ?_); refine gL (some 8) Try.func62 #[.int .i64 (l1.length : Int), .int .i64 1, .int .i64 6] ?_; (with_reducible refine (spec_l1In.calls (l1.length : Int) 1 6 true _ A3.out).mono ?_); rintro e w' ⟨rfl, ⟨nd, rfl⟩⟩; refine ⟨_, rfl, ?_⟩))
  go_loopg [5] k (fun kq v5 w' => ∃ (x5_1 : Int), v5 = .int .i64 x5_1 ∧ Aside0 (spec_IsPlan.l0 kq l0 l1 x5_1 = some r) ∧ Aside0 (kq ≤ k) ∧ Aside0 (Below w.heap.size w w'))
  case atStart => exact ⟨(0), rS, H', ⟨Nat.le_refl _⟩, ⟨bA⟩⟩
  case round =>
   clear H'
   try clear c1
   try clear p2
   try clear c4
   obtain ⟨x5_1, rfl, HA, HK1, HB⟩ := hrel
   cases gk with
   | zero => exact absurd HA.out (by simp [spec_IsPlan.l0])
   | succ k1 =>
    have H := HA.out
    clear HA
    simp only [spec_IsPlan.l0] at H
    by_cases c5 : x5_1 < (l1.length : Int)
    ·
     rw [if_pos c5] at H
     have c5b0 := decide_eq_true c5
     clear c5
     have c6 : 0 ≤ x5_1 := ifN H
     replace H := ifT H
     have c6b0 := decide_eq_true c6
     clear c6
     by_cases c7 : (((rd_T92 l1 x5_1).f0).length : Int) = 0
     ·
      rw [if_pos c7] at H
      have c7b0 : ((((rd_T92 l1 x5_1).f0).length : Int) == 0) = true := beq_iff_eq.mpr c7
      have c7b1 : ((((rd_T92 l1 x5_1).f0).length : Int) != 0) = false := bne_eq_false_iff_eq.mpr c7
      clear c7
      obtain rfl := Option.some.inj H
      try go_wp2
      have HBo := HB
      replace HB := Aside0.mk (below_drew1 HB.out)
      have p165 : 0 ≤ (x5_1 : Int) := dA
      have q165 : x5_1 < (l1.length : Int) := dA
      obtain ⟨ad165, A165_0, c165_0, e165, hx165_0, hx165_1, hl165_0, hi165_0⟩ := at_T92 HR1.out x5_1 p165 q165
      have hw165_1 := hx165_1
      have hw165_0 := hx165_0
      cases e165
      replace hx165_0 := hC HB hx165_0
      replace hx165_1 := hC HB hx165_1
      have HR165_0 := Aside0.mk hi165_0
      have HC165_0 := Aside0.mk hl165_0
      clear hi165_0 hl165_0
      replace p165 := eq_true p165
      replace q165 := eq_true q165
      refine start_ (n := 33) (S := fun w' => w'.cell? (ad165.add ((x5_1).toNat * 2)) = some (.slice A165_0 ((rd_T92 l1 x5_1).f0).length c165_0) ∧ w'.cell? ⟨(ad165.add ((x5_1).toNat * 2)).block, (ad165.add ((x5_1).toNat * 2)).off + 1, none⟩ = some (.int .i64 ((rd_T92 l1 x5_1).f1))) (ds := []) (mb 33 0) (by kernel_rfl) rfl rfl ⟨(hC HB hw165_0), (hC HB hw165_1)⟩ (fun hHeld => ?_); refine with_tabW spec_IsPlan.tab6 spec_IsPlan.bits6 (fun HT_ HW_ => ?_)
      generalize wr.drew = w8 at HB HR165_0 hx165_0 hx165_1 hHeld ⊢
      refine pA (i := 0) (N := some 16) (mb 33 1) HT_ ?_
      refine pA (i := 1) (N := some 17) (mb 33 3) HT_ ?_
      refine pA (i := 2) (N := some 18) (mb 33 7) HT_ ?_
      refine pA (i := 3) (N := some 19) (mb 33 15) HT_ ?_
      refine tA2 (i := 4) (N := some 20) (mb 33 31) HT_ HW_ hHeld ?_
      refine pA (i := 5) (N := some 21) (mb 33 63) HT_ ?_
      refine pA (i := 6) (N := some 22) (mb 33 127) HT_ ?_
      refine pA (i := 7) (N := some 23) (mb 33 255) HT_ ?_
      refine pU (i := 8) (N := some 24) (mb 33 511) HT_ ?_
      refine pU (i := 9) (N := some 25) (mb 33 1023) HT_ ?_
      refine pU (i := 10) (N := some 26) (mb 33 2047) HT_ ?_
      refine pU (i := 11) (N := some 27) (mb 33 4095) HT_ ?_
      refine pU (i := 12) (N := some 28) (mb 33 8191) HT_ ?_
      refine pU (i := 13) (N := some 29) (mb 33 16383) HT_ ?_
      refine pU (i := 14) (N := some 30) (mb 33 32767) HT_ ?_
      refine pU (i := 15) (N := some 31) (mb 33 65535) HT_ ?_
      refine pA (i := 16) (N := some 32) (mb 33 131071) HT_ ?_
      refine pA (i := 17) (N := some 33) (mb 33 262143) HT_ ?_
      refine pU (i := 18) (N := some 34) (mb 33 524287) HT_ ?_
      refine pU (i := 19) (N := some 35) (mb 33 1048575) HT_ ?_
      refine pU (i := 20) (N := some 36) (mb 33 2097151) HT_ ?_
      refine pU (i := 21) (N := some 37) (mb 33 4194303) HT_ ?_
      refine pU (i := 22) (N := some 38) (mb 33 8388607) HT_ ?_
      refine pU (i := 23) (N := some 39) (mb 33 16777215) HT_ ?_
      refine pU (i := 24) (N := some 40) (mb 33 33554431) HT_ ?_
      refine pU (i := 25) (N := some 41) (mb 33 67108863) HT_ ?_
      refine pU (i := 26) (N := some 42) (mb 33 134217727) HT_ ?_
      refine pU (i := 27) (N := some 43) (mb 33 268435455) HT_ ?_
      refine pU (i := 28) (N := some 44) (mb 33 536870911) HT_ ?_
      refine pU (i := 29) (N := some 45) (mb 33 1073741823) HT_ ?_
      refine pU (i := 30) (N := some 46) (mb 33 2147483647) HT_ ?_
      refine pU (i := 31) (N := some 47) (mb 33 4294967295) HT_ ?_
      refine pA (i := 32) (N := some 48) (mb 33 8589934591) HT_ ?_
      refine eA HT_ ?_
      try go_wp2
      go_ret
      exact ⟨rA, bA⟩
     ·
      rw [if_neg c7] at H
      have c7b0 : ((((rd_T92 l1 x5_1).f0).length : Int) == 0) = false := beq_eq_false_iff_ne.mpr c7
      have c7b1 : ((((rd_T92 l1 x5_1).f0).length : Int) != 0) = true := bne_iff_ne.mpr c7
      have c7b2 : ¬ (((rd_T92 l1 x5_1).f0) = []) := fun h_ => c7 (by rw [h_]; rfl)
      obtain ⟨t167, A9, H⟩ := bindE H
      try dsimp only at H
      by_cases c10 : t167 = true
      ·
       subst c10
       have H1 : ((spec_LeastGreen.f k1 l0 ((rd_T92 l1 x5_1).f0)).bind fun t170 => ((spec_l1In.f ((rd_T92 l1 x5_1).f1) t170 60).bind fun t171 => (if t171 = true then (spec_IsPlan.l0 k1 l0 l1 (wrap64 (x5_1 + 1))) else (some false)))) = some r := by rw [if_pos rfl] at H; exact H
       clear H
       have H := H1
       clear H1
       obtain ⟨t170, A11, H⟩ := bindE H
       try dsimp only at H
       obtain ⟨t171, A12, H⟩ := bindE H
       try dsimp only at H
       by_cases c13 : t171 = true
       ·
        subst c13
        have H1 : (spec_IsPlan.l0 k1 l0 l1 (wrap64 (x5_1 + 1))) = some r := by rw [if_pos rfl] at H; exact H
        clear H
        have H := H1
        clear H1
        have H' := Aside0.mk H
        clear H
        try go_wp2
        have HBo := HB
        replace HB := Aside0.mk (below_drew1 HB.out)
        have p165 : 0 ≤ (x5_1 : Int) := dA
        have q165 : x5_1 < (l1.length : Int) := dA
        obtain ⟨ad165, A165_0, c165_0, e165, hx165_0, hx165_1, hl165_0, hi165_0⟩ := at_T92 HR1.out x5_1 p165 q165
        have hw165_1 := hx165_1
        have hw165_0 := hx165_0
        cases e165
        replace hx165_0 := hC HB hx165_0
        replace hx165_1 := hC HB hx165_1
        have HR165_0 := Aside0.mk hi165_0
        have HC165_0 := Aside0.mk hl165_0
        clear hi165_0 hl165_0
        replace p165 := eq_true p165
        replace q165 := eq_true q165
        have p166 : 0 ≤ (x5_1 : Int) := dA
        have q166 : x5_1 < (l1.length : Int) := dA
        obtain ⟨ad166, A166_0, c166_0, e166, hx166_0, hx166_1, hl166_0, hi166_0⟩ := at_T92 HR1.out x5_1 p166 q166
        have hw166_1 := hx166_1
        have hw166_0 := hx166_0
        obtain rfl : ad165 = ad166 := (by injection e166)
        replace hx166_0 := hC HB hx166_0
        replace hx166_1 := hC HB hx166_1
        have HR166_0 := Aside0.mk hi166_0
        have HC166_0 := Aside0.mk hl166_0
        clear hi166_0 hl166_0
        replace p166 := eq_true p166
        replace q166 := eq_true q166
        have ea_ := Option.some.inj (hx165_0.symm.trans hx166_0)
        injection ea_ with ea_ en_ ec_
        subst ea_
        subst ec_
        clear en_
        have p168 : 0 ≤ (x5_1 : Int) := dA
        have q168 : x5_1 < (l1.length : Int) := dA
        obtain ⟨ad168, A168_0, c168_0, e168, hx168_0, hx168_1, hl168_0, hi168_0⟩ := at_T92 HR1.out x5_1 p168 q168
        have hw168_1 := hx168_1
        have hw168_0 := hx168_0
        obtain rfl : ad165 = ad168 := (by injection e168)
        replace hx168_0 := hC HB hx168_0
        replace hx168_1 := hC HB hx168_1
        have HR168_0 := Aside0.mk hi168_0
        have HC168_0 := Aside0.mk hl168_0
        clear hi168_0 hl168_0
        replace p168 := eq_true p168
        replace q168 := eq_true q168
        first | have ea_ := Option.some.inj (hw165_0.symm.trans hw168_0) | have ea_ := Option.some.inj (hx165_0.symm.trans hx168_0)
        injection ea_ with ea_ en_ ec_
        subst ea_
        subst ec_
        clear en_
        have p169 : 0 ≤ (x5_1 : Int) := dA
        have q169 : x5_1 < (l1.length : Int) := dA
        obtain ⟨ad169, A169_0, c169_0, e169, hx169_0, hx169_1, hl169_0, hi169_0⟩ := at_T92 HR1.out x5_1 p169 q169
        have hw169_1 := hx169_1
        have hw169_0 := hx169_0
        obtain rfl : ad165 = ad169 := (by injection e169)
        replace hx169_0 := hC HB hx169_0
        replace hx169_1 := hC HB hx169_1
        have HR169_0 := Aside0.mk hi169_0
        have HC169_0 := Aside0.mk hl169_0
        clear hi169_0 hl169_0
        replace p169 := eq_true p169
        replace q169 := eq_true q169
        first | have ea_ := Option.some.inj (hw165_0.symm.trans hw169_0) | have ea_ := Option.some.inj (hx165_0.symm.trans hx169_0)
        injection ea_ with ea_ en_ ec_
        subst ea_
        subst ec_
        clear en_
        refine start_ (n := 33) (S := fun w' => w'.cell? (ad165.add ((x5_1).toNat * 2)) = some (.slice A165_0 ((rd_T92 l1 x5_1).f0).length c165_0) ∧ w'.cell? ⟨(ad165.add ((x5_1).toNat * 2)).block, (ad165.add ((x5_1).toNat * 2)).off + 1, none⟩ = some (.int .i64 ((rd_T92 l1 x5_1).f1)) ∧ w'.cell? (ad165.add ((x5_1).toNat * 2)) = some (.slice A165_0 ((rd_T92 l1 x5_1).f0).length c165_0) ∧ w'.cell? ⟨(ad165.add ((x5_1).toNat * 2)).block, (ad165.add ((x5_1).toNat * 2)).off + 1, none⟩ = some (.int .i64 ((rd_T92 l1 x5_1).f1)) ∧ w'.cell? (ad165.add ((x5_1).toNat * 2)) = some (.slice A165_0 ((rd_T92 l1 x5_1).f0).length c165_0) ∧ w'.cell? ⟨(ad165.add ((x5_1).toNat * 2)).block, (ad165.add ((x5_1).toNat * 2)).off + 1, none⟩ = some (.int .i64 ((rd_T92 l1 x5_1).f1)) ∧ w'.cell? (ad165.add ((x5_1).toNat * 2)) = some (.slice A165_0 ((rd_T92 l1 x5_1).f0).length c165_0) ∧ w'.cell? ⟨(ad165.add ((x5_1).toNat * 2)).block, (ad165.add ((x5_1).toNat * 2)).off + 1, none⟩ = some (.int .i64 ((rd_T92 l1 x5_1).f1))) (ds := []) (mb 33 0) (by kernel_rfl) rfl rfl ⟨(hC HB hw165_0), (hC HB hw165_1), (hC HB hw166_0), (hC HB hw166_1), (hC HB hw168_0), (hC HB hw168_1), (hC HB hw169_0), (hC HB hw169_1)⟩ (fun hHeld => ?_); refine with_tabW spec_IsPlan.tab6 spec_IsPlan.bits6 (fun HT_ HW_ => ?_)
        generalize wr.drew = w14 at HB HR165_0 HR166_0 HR168_0 HR169_0 hx165_0 hx165_1 hx166_0 hx166_1 hx168_0 hx168_1 hx169_0 hx169_1 hHeld ⊢
        refine pA (i := 0) (N := some 16) (mb 33 1) HT_ ?_
        refine pA (i := 1) (N := some 17) (mb 33 3) HT_ ?_
        refine pA (i := 2) (N := some 18) (mb 33 7) HT_ ?_
        refine pA (i := 3) (N := some 19) (mb 33 15) HT_ ?_
        refine tA8 (i := 4) (N := some 20) (mb 33 31) HT_ HW_ hHeld ?_
        refine pA (i := 5) (N := some 21) (mb 33 63) HT_ ?_
        refine pA (i := 6) (N := some 22) (mb 33 127) HT_ ?_
        refine pA (i := 7) (N := some 23) (mb 33 255) HT_ ?_
        refine pA (i := 8) (N := some 24) (mb 33 511) HT_ ?_
        refine pA (i := 9) (N := some 25) (mb 33 1023) HT_ ?_
        refine pA (i := 10) (N := some 26) (mb 33 2047) HT_ ?_
        refine pA (i := 11) (N := some 27) (mb 33 4095) HT_ ?_
        refine pA (i := 12) (N := some 28) (mb 33 8191) HT_ ?_
        refine tA8 (i := 13) (N := some 29) (mb 33 16383) HT_ HW_ hHeld ?_
        refine oA (i := 14) (N := some 30) (mb 33 32767) HT_ (fun K hK => ?_)
        refine gA Try.func82 #[.slice A0 l0.length c0, .slice A165_0 ((rd_T92 l1 x5_1).f0).length c165_0] ?_
        with_reducible refine (spec_IsTogether.calls k1 _ _ l0 _ _ ((rd_T92 l1 x5_1).f0) true _ ?side1 ?side2 ?side3 ?side4 A9.out).mono ?_
        (case side1 => exact cB HR0)
        (case side2 => exact HC0.out)
        (case side3 => exact cB HR166_0)
        (case side4 => exact HC166_0.out)
        rintro e w15 ⟨rfl, hb⟩
        refine ⟨_, rfl, ?_⟩
        replace HB := Aside0.mk (below_step bA hb)
        (try clear hb)
        (try clear hb2)
        (try clear hk)
        (try clear hi)
        refine hK.out _ _ ⟨(hC HB hw165_0), (hC HB hw165_1), (hC HB hw166_0), (hC HB hw166_1), (hC HB hw168_0), (hC HB hw168_1), (hC HB hw169_0), (hC HB hw169_1)⟩ (fun hHeld => ?_)
        clear hK K
        refine nB ?_
        refine pA (i := 15) (N := some 31) (mb 33 65535) HT_ ?_
        refine pA (i := 16) (N := some 32) (mb 33 131071) HT_ ?_
        refine pA (i := 17) (N := some 33) (mb 33 262143) HT_ ?_
        refine pA (i := 18) (N := some 34) (mb 33 524287) HT_ ?_
        refine pA (i := 19) (N := some 35) (mb 33 1048575) HT_ ?_
        refine pA (i := 20) (N := some 36) (mb 33 2097151) HT_ ?_
        refine pA (i := 21) (N := some 37) (mb 33 4194303) HT_ ?_
        refine pA (i := 23) (N := some 39) (mb 33 12582911) HT_ ?_
        refine pA (i := 24) (N := some 40) (mb 33 29360127) HT_ ?_
        refine pA (i := 25) (N := some 41) (mb 33 62914559) HT_ ?_
        refine pA (i := 26) (N := some 42) (mb 33 130023423) HT_ ?_
        refine pA (i := 27) (N := some 43) (mb 33 264241151) HT_ ?_
        refine tA8 (i := 22) (N := some 38) (mb 33 268435455) HT_ HW_ hHeld ?_
        refine tA8 (i := 28) (N := some 44) (mb 33 536870911) HT_ HW_ hHeld ?_
        refine oA (i := 29) (N := some 45) (mb 33 1073741823) HT_ (fun K hK => ?_)
        refine gA Try.func74 #[.slice A0 l0.length c0, .slice A165_0 ((rd_T92 l1 x5_1).f0).length c165_0] ?_
        with_reducible refine (spec_LeastGreen.calls k1 _ _ l0 _ _ ((rd_T92 l1 x5_1).f0) t170 _ ?side1 ?side2 ?side3 ?side4 A11.out).mono ?_
        (case side1 => exact cB HR0)
        (case side2 => exact HC0.out)
        (case side3 => exact cB HR169_0)
        (case side4 => exact HC169_0.out)
        rintro e w' ⟨rfl, ⟨nd, rfl⟩⟩
        refine ⟨_, rfl, ?_⟩
        refine hK.out _ _ ⟨(hC HB hw165_0), (hC HB hw165_1), (hC HB hw166_0), (hC HB hw166_1), (hC HB hw168_0), (hC HB hw168_1), (hC HB hw169_0), (hC HB hw169_1)⟩ (fun hHeld => ?_)
        clear hK K
        refine nB ?_
        refine oA (i := 30) (N := some 46) (mb 33 2147483647) HT_ (fun K hK => ?_)
        refine gA Try.func62 #[.int .i64 ((rd_T92 l1 x5_1).f1), .int .i64 t170, .int .i64 60] ?_
        with_reducible refine (spec_l1In.calls ((rd_T92 l1 x5_1).f1) t170 60 true _ A12.out).mono ?_
        rintro e w' ⟨rfl, ⟨nd, rfl⟩⟩
        refine ⟨_, rfl, ?_⟩
        refine hK.out _ _ ⟨(hC HB hw165_0), (hC HB hw165_1), (hC HB hw166_0), (hC HB hw166_1), (hC HB hw168_0), (hC HB hw168_1), (hC HB hw169_0), (hC HB hw169_1)⟩ (fun hHeld => ?_)
        clear hK K
        refine nB ?_
        refine pA (i := 31) (N := some 47) (mb 33 4294967295) HT_ ?_
        refine pA (i := 32) (N := some 48) (mb 33 8589934591) HT_ ?_
        refine eA HT_ ?_
        try go_wp2
        go_roundg k1
        case measure => have := HK1.out; omega
        case rel => exact ⟨(wrap64 (x5_1 + 1)), rS, H', ⟨by have := HK1.out; omega⟩, ⟨bA⟩⟩
       ·
        replace c13 := Bool.eq_false_iff.mpr c13
        subst c13
        have H1 : (some false) = some r := by rw [if_neg (show ¬ (false = true) by decide)] at H; exact H
        clear H
        have H := H1
        clear H1
        obtain rfl := Option.some.inj H
        try go_wp2
        have HBo := HB
        replace HB := Aside0.mk (below_drew1 HB.out)
        have p165 : 0 ≤ (x5_1 : Int) := dA
        have q165 : x5_1 < (l1.length : Int) := dA
        obtain ⟨ad165, A165_0, c165_0, e165, hx165_0, hx165_1, hl165_0, hi165_0⟩ := at_T92 HR1.out x5_1 p165 q165
        have hw165_1 := hx165_1
        have hw165_0 := hx165_0
        cases e165
        replace hx165_0 := hC HB hx165_0
        replace hx165_1 := hC HB hx165_1
        have HR165_0 := Aside0.mk hi165_0
        have HC165_0 := Aside0.mk hl165_0
        clear hi165_0 hl165_0
        replace p165 := eq_true p165
        replace q165 := eq_true q165
        have p166 : 0 ≤ (x5_1 : Int) := dA
        have q166 : x5_1 < (l1.length : Int) := dA
        obtain ⟨ad166, A166_0, c166_0, e166, hx166_0, hx166_1, hl166_0, hi166_0⟩ := at_T92 HR1.out x5_1 p166 q166
        have hw166_1 := hx166_1
        have hw166_0 := hx166_0
        obtain rfl : ad165 = ad166 := (by injection e166)
        replace hx166_0 := hC HB hx166_0
        replace hx166_1 := hC HB hx166_1
        have HR166_0 := Aside0.mk hi166_0
        have HC166_0 := Aside0.mk hl166_0
        clear hi166_0 hl166_0
        replace p166 := eq_true p166
        replace q166 := eq_true q166
        have ea_ := Option.some.inj (hx165_0.symm.trans hx166_0)
        injection ea_ with ea_ en_ ec_
        subst ea_
        subst ec_
        clear en_
        have p168 : 0 ≤ (x5_1 : Int) := dA
        have q168 : x5_1 < (l1.length : Int) := dA
        obtain ⟨ad168, A168_0, c168_0, e168, hx168_0, hx168_1, hl168_0, hi168_0⟩ := at_T92 HR1.out x5_1 p168 q168
        have hw168_1 := hx168_1
        have hw168_0 := hx168_0
        obtain rfl : ad165 = ad168 := (by injection e168)
        replace hx168_0 := hC HB hx168_0
        replace hx168_1 := hC HB hx168_1
        have HR168_0 := Aside0.mk hi168_0
        have HC168_0 := Aside0.mk hl168_0
        clear hi168_0 hl168_0
        replace p168 := eq_true p168
        replace q168 := eq_true q168
        first | have ea_ := Option.some.inj (hw165_0.symm.trans hw168_0) | have ea_ := Option.some.inj (hx165_0.symm.trans hx168_0)
        injection ea_ with ea_ en_ ec_
        subst ea_
        subst ec_
        clear en_
        have p169 : 0 ≤ (x5_1 : Int) := dA
        have q169 : x5_1 < (l1.length : Int) := dA
        obtain ⟨ad169, A169_0, c169_0, e169, hx169_0, hx169_1, hl169_0, hi169_0⟩ := at_T92 HR1.out x5_1 p169 q169
        have hw169_1 := hx169_1
        have hw169_0 := hx169_0
        obtain rfl : ad165 = ad169 := (by injection e169)
        replace hx169_0 := hC HB hx169_0
        replace hx169_1 := hC HB hx169_1
        have HR169_0 := Aside0.mk hi169_0
        have HC169_0 := Aside0.mk hl169_0
        clear hi169_0 hl169_0
        replace p169 := eq_true p169
        replace q169 := eq_true q169
        first | have ea_ := Option.some.inj (hw165_0.symm.trans hw169_0) | have ea_ := Option.some.inj (hx165_0.symm.trans hx169_0)
        injection ea_ with ea_ en_ ec_
        subst ea_
        subst ec_
        clear en_
        refine start_ (n := 33) (S := fun w' => w'.cell? (ad165.add ((x5_1).toNat * 2)) = some (.slice A165_0 ((rd_T92 l1 x5_1).f0).length c165_0) ∧ w'.cell? ⟨(ad165.add ((x5_1).toNat * 2)).block, (ad165.add ((x5_1).toNat * 2)).off + 1, none⟩ = some (.int .i64 ((rd_T92 l1 x5_1).f1)) ∧ w'.cell? (ad165.add ((x5_1).toNat * 2)) = some (.slice A165_0 ((rd_T92 l1 x5_1).f0).length c165_0) ∧ w'.cell? ⟨(ad165.add ((x5_1).toNat * 2)).block, (ad165.add ((x5_1).toNat * 2)).off + 1, none⟩ = some (.int .i64 ((rd_T92 l1 x5_1).f1)) ∧ w'.cell? (ad165.add ((x5_1).toNat * 2)) = some (.slice A165_0 ((rd_T92 l1 x5_1).f0).length c165_0) ∧ w'.cell? ⟨(ad165.add ((x5_1).toNat * 2)).block, (ad165.add ((x5_1).toNat * 2)).off + 1, none⟩ = some (.int .i64 ((rd_T92 l1 x5_1).f1)) ∧ w'.cell? (ad165.add ((x5_1).toNat * 2)) = some (.slice A165_0 ((rd_T92 l1 x5_1).f0).length c165_0) ∧ w'.cell? ⟨(ad165.add ((x5_1).toNat * 2)).block, (ad165.add ((x5_1).toNat * 2)).off + 1, none⟩ = some (.int .i64 ((rd_T92 l1 x5_1).f1))) (ds := []) (mb 33 0) (by kernel_rfl) rfl rfl ⟨(hC HB hw165_0), (hC HB hw165_1), (hC HB hw166_0), (hC HB hw166_1), (hC HB hw168_0), (hC HB hw168_1), (hC HB hw169_0), (hC HB hw169_1)⟩ (fun hHeld => ?_); refine with_tabW spec_IsPlan.tab6 spec_IsPlan.bits6 (fun HT_ HW_ => ?_)
        generalize wr.drew = w16 at HB HR165_0 HR166_0 HR168_0 HR169_0 hx165_0 hx165_1 hx166_0 hx166_1 hx168_0 hx168_1 hx169_0 hx169_1 hHeld ⊢
        refine pA (i := 0) (N := some 16) (mb 33 1) HT_ ?_
        refine pA (i := 1) (N := some 17) (mb 33 3) HT_ ?_
        refine pA (i := 2) (N := some 18) (mb 33 7) HT_ ?_
        refine pA (i := 3) (N := some 19) (mb 33 15) HT_ ?_
        refine tA8 (i := 4) (N := some 20) (mb 33 31) HT_ HW_ hHeld ?_
        refine pA (i := 5) (N := some 21) (mb 33 63) HT_ ?_
        refine pA (i := 6) (N := some 22) (mb 33 127) HT_ ?_
        refine pA (i := 7) (N := some 23) (mb 33 255) HT_ ?_
        refine pA (i := 8) (N := some 24) (mb 33 511) HT_ ?_
        refine pA (i := 9) (N := some 25) (mb 33 1023) HT_ ?_
        refine pA (i := 10) (N := some 26) (mb 33 2047) HT_ ?_
        refine pA (i := 11) (N := some 27) (mb 33 4095) HT_ ?_
        refine pA (i := 12) (N := some 28) (mb 33 8191) HT_ ?_
        refine tA8 (i := 13) (N := some 29) (mb 33 16383) HT_ HW_ hHeld ?_
        refine oA (i := 14) (N := some 30) (mb 33 32767) HT_ (fun K hK => ?_)
        refine gA Try.func82 #[.slice A0 l0.length c0, .slice A165_0 ((rd_T92 l1 x5_1).f0).length c165_0] ?_
        with_reducible refine (spec_IsTogether.calls k1 _ _ l0 _ _ ((rd_T92 l1 x5_1).f0) true _ ?side1 ?side2 ?side3 ?side4 A9.out).mono ?_
        (case side1 => exact cB HR0)
        (case side2 => exact HC0.out)
        (case side3 => exact cB HR166_0)
        (case side4 => exact HC166_0.out)
        rintro e w17 ⟨rfl, hb⟩
        refine ⟨_, rfl, ?_⟩
        replace HB := Aside0.mk (below_step bA hb)
        (try clear hb)
        (try clear hb2)
        (try clear hk)
        (try clear hi)
        refine hK.out _ _ ⟨(hC HB hw165_0), (hC HB hw165_1), (hC HB hw166_0), (hC HB hw166_1), (hC HB hw168_0), (hC HB hw168_1), (hC HB hw169_0), (hC HB hw169_1)⟩ (fun hHeld => ?_)
        clear hK K
        refine nB ?_
        refine pA (i := 15) (N := some 31) (mb 33 65535) HT_ ?_
        refine pA (i := 16) (N := some 32) (mb 33 131071) HT_ ?_
        refine pA (i := 17) (N := some 33) (mb 33 262143) HT_ ?_
        refine pA (i := 18) (N := some 34) (mb 33 524287) HT_ ?_
        refine pA (i := 19) (N := some 35) (mb 33 1048575) HT_ ?_
        refine pA (i := 20) (N := some 36) (mb 33 2097151) HT_ ?_
        refine pA (i := 21) (N := some 37) (mb 33 4194303) HT_ ?_
        refine pA (i := 23) (N := some 39) (mb 33 12582911) HT_ ?_
        refine pA (i := 24) (N := some 40) (mb 33 29360127) HT_ ?_
        refine pA (i := 25) (N := some 41) (mb 33 62914559) HT_ ?_
        refine pA (i := 26) (N := some 42) (mb 33 130023423) HT_ ?_
        refine pA (i := 27) (N := some 43) (mb 33 264241151) HT_ ?_
        refine tA8 (i := 22) (N := some 38) (mb 33 268435455) HT_ HW_ hHeld ?_
        refine tA8 (i := 28) (N := some 44) (mb 33 536870911) HT_ HW_ hHeld ?_
        refine oA (i := 29) (N := some 45) (mb 33 1073741823) HT_ (fun K hK => ?_)
        refine gA Try.func74 #[.slice A0 l0.length c0, .slice A165_0 ((rd_T92 l1 x5_1).f0).length c165_0] ?_
        with_reducible refine (spec_LeastGreen.calls k1 _ _ l0 _ _ ((rd_T92 l1 x5_1).f0) t170 _ ?side1 ?side2 ?side3 ?side4 A11.out).mono ?_
        (case side1 => exact cB HR0)
        (case side2 => exact HC0.out)
        (case side3 => exact cB HR169_0)
        (case side4 => exact HC169_0.out)
        rintro e w' ⟨rfl, ⟨nd, rfl⟩⟩
        refine ⟨_, rfl, ?_⟩
        refine hK.out _ _ ⟨(hC HB hw165_0), (hC HB hw165_1), (hC HB hw166_0), (hC HB hw166_1), (hC HB hw168_0), (hC HB hw168_1), (hC HB hw169_0), (hC HB hw169_1)⟩ (fun hHeld => ?_)
        clear hK K
        refine nB ?_
        refine oA (i := 30) (N := some 46) (mb 33 2147483647) HT_ (fun K hK => ?_)
        refine gA Try.func62 #[.int .i64 ((rd_T92 l1 x5_1).f1), .int .i64 t170, .int .i64 60] ?_
        with_reducible refine (spec_l1In.calls ((rd_T92 l1 x5_1).f1) t170 60 false _ A12.out).mono ?_
        rintro e w' ⟨rfl, ⟨nd, rfl⟩⟩
        refine ⟨_, rfl, ?_⟩
        refine hK.out _ _ ⟨(hC HB hw165_0), (hC HB hw165_1), (hC HB hw166_0), (hC HB hw166_1), (hC HB hw168_0), (hC HB hw168_1), (hC HB hw169_0), (hC HB hw169_1)⟩ (fun hHeld => ?_)
        clear hK K
        refine nB ?_
        refine pA (i := 31) (N := some 47) (mb 33 4294967295) HT_ ?_
        refine pA (i := 32) (N := some 48) (mb 33 8589934591) HT_ ?_
        refine eA HT_ ?_
        try go_wp2
        go_ret
        exact ⟨rA, bA⟩
      ·
       replace c10 := Bool.eq_false_iff.mpr c10
       subst c10
       have H1 : (some false) = some r := by rw [if_neg (show ¬ (false = true) by decide)] at H; exact H
       clear H
       have H := H1
       clear H1
       obtain rfl := Option.some.inj H
       try go_wp2
       have HBo := HB
       replace HB := Aside0.mk (below_drew1 HB.out)
       have p165 : 0 ≤ (x5_1 : Int) := dA
       have q165 : x5_1 < (l1.length : Int) := dA
       obtain ⟨ad165, A165_0, c165_0, e165, hx165_0, hx165_1, hl165_0, hi165_0⟩ := at_T92 HR1.out x5_1 p165 q165
       have hw165_1 := hx165_1
       have hw165_0 := hx165_0
       cases e165
       replace hx165_0 := hC HB hx165_0
       replace hx165_1 := hC HB hx165_1
       have HR165_0 := Aside0.mk hi165_0
       have HC165_0 := Aside0.mk hl165_0
       clear hi165_0 hl165_0
       replace p165 := eq_true p165
       replace q165 := eq_true q165
       have p166 : 0 ≤ (x5_1 : Int) := dA
       have q166 : x5_1 < (l1.length : Int) := dA
       obtain ⟨ad166, A166_0, c166_0, e166, hx166_0, hx166_1, hl166_0, hi166_0⟩ := at_T92 HR1.out x5_1 p166 q166
       have hw166_1 := hx166_1
       have hw166_0 := hx166_0
       obtain rfl : ad165 = ad166 := (by injection e166)
       replace hx166_0 := hC HB hx166_0
       replace hx166_1 := hC HB hx166_1
       have HR166_0 := Aside0.mk hi166_0
       have HC166_0 := Aside0.mk hl166_0
       clear hi166_0 hl166_0
       replace p166 := eq_true p166
       replace q166 := eq_true q166
       have ea_ := Option.some.inj (hx165_0.symm.trans hx166_0)
       injection ea_ with ea_ en_ ec_
       subst ea_
       subst ec_
       clear en_
       refine start_ (n := 33) (S := fun w' => w'.cell? (ad165.add ((x5_1).toNat * 2)) = some (.slice A165_0 ((rd_T92 l1 x5_1).f0).length c165_0) ∧ w'.cell? ⟨(ad165.add ((x5_1).toNat * 2)).block, (ad165.add ((x5_1).toNat * 2)).off + 1, none⟩ = some (.int .i64 ((rd_T92 l1 x5_1).f1)) ∧ w'.cell? (ad165.add ((x5_1).toNat * 2)) = some (.slice A165_0 ((rd_T92 l1 x5_1).f0).length c165_0) ∧ w'.cell? ⟨(ad165.add ((x5_1).toNat * 2)).block, (ad165.add ((x5_1).toNat * 2)).off + 1, none⟩ = some (.int .i64 ((rd_T92 l1 x5_1).f1))) (ds := []) (mb 33 0) (by kernel_rfl) rfl rfl ⟨(hC HB hw165_0), (hC HB hw165_1), (hC HB hw166_0), (hC HB hw166_1)⟩ (fun hHeld => ?_); refine with_tabW spec_IsPlan.tab6 spec_IsPlan.bits6 (fun HT_ HW_ => ?_)
       generalize wr.drew = w18 at HB HR165_0 HR166_0 hx165_0 hx165_1 hx166_0 hx166_1 hHeld ⊢
       refine pA (i := 0) (N := some 16) (mb 33 1) HT_ ?_
       refine pA (i := 1) (N := some 17) (mb 33 3) HT_ ?_
       refine pA (i := 2) (N := some 18) (mb 33 7) HT_ ?_
       refine pA (i := 3) (N := some 19) (mb 33 15) HT_ ?_
       refine tA4 (i := 4) (N := some 20) (mb 33 31) HT_ HW_ hHeld ?_
       refine pA (i := 5) (N := some 21) (mb 33 63) HT_ ?_
       refine pA (i := 6) (N := some 22) (mb 33 127) HT_ ?_
       refine pA (i := 7) (N := some 23) (mb 33 255) HT_ ?_
       refine pA (i := 8) (N := some 24) (mb 33 511) HT_ ?_
       refine pA (i := 9) (N := some 25) (mb 33 1023) HT_ ?_
       refine pA (i := 10) (N := some 26) (mb 33 2047) HT_ ?_
       refine pA (i := 11) (N := some 27) (mb 33 4095) HT_ ?_
       refine pA (i := 12) (N := some 28) (mb 33 8191) HT_ ?_
       refine tA4 (i := 13) (N := some 29) (mb 33 16383) HT_ HW_ hHeld ?_
       refine oA (i := 14) (N := some 30) (mb 33 32767) HT_ (fun K hK => ?_)
       refine gA Try.func82 #[.slice A0 l0.length c0, .slice A165_0 ((rd_T92 l1 x5_1).f0).length c165_0] ?_
       with_reducible refine (spec_IsTogether.calls k1 _ _ l0 _ _ ((rd_T92 l1 x5_1).f0) false _ ?side1 ?side2 ?side3 ?side4 A9.out).mono ?_
       (case side1 => exact cB HR0)
       (case side2 => exact HC0.out)
       (case side3 => exact cB HR166_0)
       (case side4 => exact HC166_0.out)
       rintro e w19 ⟨rfl, hb⟩
       refine ⟨_, rfl, ?_⟩
       replace HB := Aside0.mk (below_step bA hb)
       (try clear hb)
       (try clear hb2)
       (try clear hk)
       (try clear hi)
       refine hK.out _ _ ⟨(hC HB hw165_0), (hC HB hw165_1), (hC HB hw166_0), (hC HB hw166_1)⟩ (fun hHeld => ?_)
       clear hK K
       refine nB ?_
       refine pA (i := 15) (N := some 31) (mb 33 65535) HT_ ?_
       refine pA (i := 16) (N := some 32) (mb 33 131071) HT_ ?_
       refine pA (i := 17) (N := some 33) (mb 33 262143) HT_ ?_
       refine pU (i := 18) (N := some 34) (mb 33 524287) HT_ ?_
       refine pU (i := 19) (N := some 35) (mb 33 1048575) HT_ ?_
       refine pU (i := 20) (N := some 36) (mb 33 2097151) HT_ ?_
       refine pU (i := 21) (N := some 37) (mb 33 4194303) HT_ ?_
       refine pU (i := 22) (N := some 38) (mb 33 8388607) HT_ ?_
       refine pU (i := 23) (N := some 39) (mb 33 16777215) HT_ ?_
       refine pU (i := 24) (N := some 40) (mb 33 33554431) HT_ ?_
       refine pU (i := 25) (N := some 41) (mb 33 67108863) HT_ ?_
       refine pU (i := 26) (N := some 42) (mb 33 134217727) HT_ ?_
       refine pU (i := 27) (N := some 43) (mb 33 268435455) HT_ ?_
       refine pU (i := 28) (N := some 44) (mb 33 536870911) HT_ ?_
       refine pU (i := 29) (N := some 45) (mb 33 1073741823) HT_ ?_
       refine pU (i := 30) (N := some 46) (mb 33 2147483647) HT_ ?_
       refine pU (i := 31) (N := some 47) (mb 33 4294967295) HT_ ?_
       refine pA (i := 32) (N := some 48) (mb 33 8589934591) HT_ ?_
       refine eA HT_ ?_
       try go_wp2
       go_ret
       exact ⟨rA, bA⟩
    ·
     rw [if_neg c5] at H
     have c5b0 := decide_eq_false c5
     clear c5
     obtain ⟨t161, A20, H⟩ := bindE H
     try dsimp only at H
     obtain ⟨t164, A21, H⟩ := bindE H
     try dsimp only at H
     obtain rfl := Option.some.inj H
     go_wp2_with (first | ((with_reducible refine gate_callee (f := 125) rfl ?_); refine gL (some 51) Try.func125 #[.slice A1 l1.length c1] ?_; (with_reducible refine (spec_l8Stages.calls k1 (fun k_ => k_ < w.heap.size) _ _ l1 t161 _ ?side1 A20.out).mono ?_); (case side1 => exact Kd.V_mk HC1.out (Kd.F_below (Kd.C_F k92_heap HR1.out) bA)); rintro e w22 ⟨v162, rfl, ho0, hb⟩; refine ⟨_, rfl, ?_⟩; have HO163 := Aside0.mk (Kd.N_lower (Kd.N_mono (ok' := fun k_ => True) ho0 (fun k_ hk_ => trivial)) (below_size bA)); replace HB := Aside0.mk (below_step bA hb); (try clear hb); (try clear ho0); obtain ⟨Ao23, co23, eo23⟩ := Kd.N_slice HO163.out; subst eo23) | ((with_reducible refine gate_callee (f := 124) rfl ?_); refine gL (some 52) Try.func124 #[.slice A0 l0.length c0, .slice Ao23 t161.length co23] ?_; (with_reducible refine (spec_Covers.calls k1 _ _ l0 _ _ t161 t164 _ ?side1 ?side2 ?side3 ?side4 A21.out).mono ?_); (case side1 => exact cB HR0); (case side2 => exact HC0.out); (case side3 => repeat (first | exact (Kd.N_reads' HO163.out).2.2 | (with_reducible refine Kd.C_alloc ?_ _) | (with_reducible refine Kd.C_drewN ?_ _) | (with_reducible refine Kd.C_drew ?_))); (case side4 => exact (Kd.N_reads' HO163.out).2.1); rintro e w24 ⟨rfl, hb⟩; refine ⟨_, rfl, ?_⟩; have n0_ := Aside0.mk (Kd.N_below (by (with_reducible repeat (first | apply Kd.N_alloc | apply Kd.N_drewN | apply Kd.N_drew)); exact HO163.out) hb); have n1_ := Aside0.mk (below_step bA hb); clear HO163; clear HB; have HO163 := n0_; have HB := n1_; clear n0_ n1_; (try clear hb)))
     go_ret
     exact ⟨rA, bA⟩
 ·
  replace c4 := Bool.eq_false_iff.mpr c4
  subst c4
  have H1 : (some false) = some r := by rw [if_neg (show ¬ (false = true) by decide)] at H; exact H
  clear H
  have H := H1
  clear H1
  obtain rfl := Option.some.inj H
  go_enter Try.func75, Try.ntmps75
  go_wp2_with (first | ((with_reducible refine gate_callee (f := 62) rfl ?_); refine gL (some 8) Try.func62 #[.int .i64 (l1.length : Int), .int .i64 1, .int .i64 6] ?_; (with_reducible refine (spec_l1In.calls (l1.length : Int) 1 6 false _ A3.out).mono ?_); rintro e w' ⟨rfl, ⟨nd, rfl⟩⟩; refine ⟨_, rfl, ?_⟩))
  go_ret
  exact ⟨rA, bA⟩

/-! ### spec_Closes: function 130 -/
def spec_Closes.l0 : Nat → List Int → List Int → List Int → Int → Option (List Int)
 | 0, _, _, _, _ => none
 | k + 1, x0, x1, x5, x6 => if x6 < (x0.length : Int) then (if 0 ≤ x6 then ((spec_l6Has.f k x1 (rd x0 x6)).bind fun t176 => (if t176 = true then (spec_Closes.l0 k x0 x1 x5 (wrap64 (x6 + 1))) else (if x5.length < 17592186044416 then (spec_Closes.l0 k x0 x1 (x5 ++ [rd x0 x6]) (wrap64 (x6 + 1))) else (none)))) else (none)) else (some x5)
def spec_Closes.f (k : Nat) (l0 : List Int) (l1 : List Int) : Option (List Int) := spec_Closes.l0 k l0 l1 (([] : List Int)) 0
theorem spec_Closes.mono_l : ∀ k, (∀ y0 y1 y2 y3, LeO (spec_Closes.l0 k y0 y1 y2 y3) (spec_Closes.l0 (k + 1) y0 y1 y2 y3))
 | 0 => fun _ _ _ _ r h => by simp [spec_Closes.l0] at h
 | k + 1 => by
  have ih0 := spec_Closes.mono_l k
  ·
   intro y0 y1 y2 y3
   unfold spec_Closes.l0
   repeat' first | (with_reducible first | exact LeO.refl _ | exact LeO.none _ | refine LeO.ite ?_ ?_ | refine LeO.bind ?_ (fun _ => ?_) | exact ih0 _ _ _ _ | exact spec_l6Has.mono _ _ _)
theorem spec_Closes.mono : ∀ a0 a1 k, LeO (spec_Closes.f k a0 a1) (spec_Closes.f (k + 1) a0 a1) := by
 intro a0 a1 k
 have ih0 := spec_Closes.mono_l k
 unfold spec_Closes.f
 repeat' first | (with_reducible first | exact LeO.refl _ | exact LeO.none _ | refine LeO.ite ?_ ?_ | refine LeO.bind ?_ (fun _ => ?_) | exact ih0 _ _ _ _ | exact spec_l6Has.mono _ _ _)
set_option maxHeartbeats 8000000 in
set_option maxRecDepth 100000 in
theorem spec_Closes.calls (k : Nat) (A0 : Option Addr) (c0 : Nat) (l0 : List Int) (A1 : Option Addr) (c1 : Nat) (l1 : List Int) (r : List Int) (w : World) (hr0 : Kd.C (Kd.int .i64) w A0 l0.length l0) (hc0 : l0.length ≤ c0) (hr1 : Kd.C (Kd.int .i64) w A1 l1.length l1) (hc1 : l1.length ≤ c1) (h : spec_Closes.f k l0 l1 = some r) :
  Calls Try.prog 130 #[.slice A0 l0.length c0, .slice A1 l1.length c1] w fun e w' => ∃ v0_ : Value, e = .returned (v0_) ∧ Kd.R (Kd.int .i64) 3 w' w.heap.size (fun _ => True) v0_ r ∧ Below w.heap.size w w' := by
 have HR0 := Aside0.mk hr0
 have HC0 := Aside0.mk hc0
 clear hr0 hc0
 have HR1 := Aside0.mk hr1
 have HC1 := Aside0.mk hc1
 clear hr1 hc1
 have HB := Aside0.mk (Below.refl w.heap.size w)
 have H : (spec_Closes.l0 k l0 l1 (([] : List Int)) 0) = some r := h
 clear h
 obtain ⟨y172, hy172⟩ : ∃ y_ : List Int, y_ = (([] : List Int)) := ⟨_, rfl⟩
 replace H : (spec_Closes.l0 k l0 l1 y172 0) = some r := by first | (rw [hy172]; with_reducible exact H) | (have H2_ := (Option.bind_some _ _).symm.trans H; rw [hy172]; with_reducible exact H2_) | (have H2_ := (Option.bind_some _ _).symm.trans H; with_reducible exact H2_) | with_reducible exact H | (rw [hy172]; exact H) | exact H
 have Ny172 := Aside0.mk hy172
 clear hy172
 have H' := Aside0.mk H
 clear H
 go_enter Try.func130, Try.ntmps130
 go_wp2_with (first | ((with_reducible refine gate_dst (N := 7) rfl ?_); refine Kd.R_lit (Kd.int .i64) _ 3 ?hg (N := 7) ?hd (xs := ([] : List Int)) (inner := []) (ok := fun _ => True) (okp := fun _ => True) ?hr ?hp (fun _ hk => hk) trivial (Below.refl _ _) (Nat.le_refl _) (by simp) ?_; (case hd => rfl); (case hg => rfl); (case hr => first | (go_simp; done) | (go_simp; rfl)); (case hp => exact (Reps.none _ _)); intro v173 w3 ho4 hb hg_ hnew_; clear hg_ hnew_; (first | rw [← Ny172.out] at ho4 | (simp only [Int.reduceToNat] at ho4; rw [← Ny172.out] at ho4)); have HO174 := Aside0.mk (Kd.R_lower ho4 (below_size bA)); replace HB := Aside0.mk (below_step bA hb); clear hb ho4))
 go_loopg [5, 6] k (fun kq v5 v6 w' => ∃ (x5_1 : List Int) (x6_1 : Int), v6 = .int .i64 x6_1 ∧ Aside0 (spec_Closes.l0 kq l0 l1 x5_1 x6_1 = some r) ∧ Aside0 (kq ≤ k) ∧ Aside0 (Kd.R (Kd.int .i64) 3 w' w.heap.size (fun _ => True) v5 x5_1) ∧ Aside0 (Below w.heap.size w w'))
 case atStart => exact ⟨(y172), (0), rS, H', ⟨Nat.le_refl _⟩, ⟨rK HO174⟩, ⟨bA⟩⟩
 case round =>
  clear H'
  try clear c1
  try clear p2
  obtain ⟨x5_1, x6_1, rfl, HA, HK1, HO_5, HB⟩ := hrel
  cases gk with
  | zero => exact absurd HA.out (by simp [spec_Closes.l0])
  | succ k1 =>
   have H := HA.out
   clear HA
   simp only [spec_Closes.l0] at H
   by_cases c5 : x6_1 < (l0.length : Int)
   ·
    rw [if_pos c5] at H
    have c5b0 := decide_eq_true c5
    clear c5
    have c6 : 0 ≤ x6_1 := ifN H
    replace H := ifT H
    have c6b0 := decide_eq_true c6
    clear c6
    obtain ⟨t176, A7, H⟩ := bindE H
    try dsimp only at H
    by_cases c8 : t176 = true
    ·
     subst c8
     have H1 : (spec_Closes.l0 k1 l0 l1 x5_1 (wrap64 (x6_1 + 1))) = some r := by rw [if_pos rfl] at H; exact H
     clear H
     have H := H1
     clear H1
     have H' := Aside0.mk H
     clear H
     have p175 : 0 ≤ (x6_1 : Int) := dA
     have q175 : x6_1 < (l0.length : Int) := dA
     obtain ⟨ad175, e175, hx175_0⟩ := Kd.at_int HR0.out x6_1 p175 q175
     cases e175
     replace hx175_0 := hC HB hx175_0
     replace p175 := eq_true p175
     replace q175 := eq_true q175
     go_wp2_with (first | ((with_reducible refine gate_callee (f := 101) rfl ?_); refine gL (some 19) Try.func101 #[.slice A1 l1.length c1, .int .i64 (rd l0 x6_1)] ?_; (with_reducible refine (spec_l6Has.calls k1 _ _ l1 (rd l0 x6_1) true _ ?side1 ?side2 A7.out).mono ?_); (case side1 => exact cB HR1); (case side2 => exact HC1.out); rintro e w' ⟨rfl, ⟨nd, rfl⟩⟩; refine ⟨_, rfl, ?_⟩))
     go_roundg k1
     case measure => have := HK1.out; omega
     case rel => exact ⟨(x5_1), (wrap64 (x6_1 + 1)), rS, H', ⟨by have := HK1.out; omega⟩, ⟨rK HO_5⟩, ⟨bA⟩⟩
    ·
     replace c8 := Bool.eq_false_iff.mpr c8
     subst c8
     have H1 : (if x5_1.length < 17592186044416 then (spec_Closes.l0 k1 l0 l1 (x5_1 ++ [rd l0 x6_1]) (wrap64 (x6_1 + 1))) else (none)) = some r := by rw [if_neg (show ¬ (false = true) by decide)] at H; exact H
     clear H
     have H := H1
     clear H1
     have c9 : x5_1.length < 17592186044416 := ifN H
     replace H := ifT H
     have LMc9 := Aside0.mk c9
     clear c9
     obtain ⟨y178, hy178⟩ : ∃ y_ : List Int, y_ = (x5_1 ++ [rd l0 x6_1]) := ⟨_, rfl⟩
     replace H : (spec_Closes.l0 k1 l0 l1 y178 (wrap64 (x6_1 + 1))) = some r := by first | (rw [hy178]; with_reducible exact H) | (have H2_ := (Option.bind_some _ _).symm.trans H; rw [hy178]; with_reducible exact H2_) | (have H2_ := (Option.bind_some _ _).symm.trans H; with_reducible exact H2_) | with_reducible exact H | (rw [hy178]; exact H) | exact H
     have Ny178 := Aside0.mk hy178
     clear hy178
     have H' := Aside0.mk H
     clear H
     have p175 : 0 ≤ (x6_1 : Int) := dA
     have q175 : x6_1 < (l0.length : Int) := dA
     obtain ⟨ad175, e175, hx175_0⟩ := Kd.at_int HR0.out x6_1 p175 q175
     cases e175
     replace hx175_0 := hC HB hx175_0
     replace p175 := eq_true p175
     replace q175 := eq_true q175
     go_wp2_with (first | ((with_reducible refine gate_callee (f := 101) rfl ?_); refine gL (some 19) Try.func101 #[.slice A1 l1.length c1, .int .i64 (rd l0 x6_1)] ?_; (with_reducible refine (spec_l6Has.calls k1 _ _ l1 (rd l0 x6_1) false _ ?side1 ?side2 A7.out).mono ?_); (case side1 => exact cB HR1); (case side2 => exact HC1.out); rintro e w' ⟨rfl, ⟨nd, rfl⟩⟩; refine ⟨_, rfl, ?_⟩; have p177 : 0 ≤ (x6_1 : Int) := dA; have q177 : x6_1 < (l0.length : Int) := dA; obtain ⟨ad177, e177, hx177_0⟩ := Kd.at_int HR0.out x6_1 p177 q177; obtain rfl : ad175 = ad177 := (by injection e177); replace hx177_0 := hC HB hx177_0; replace p177 := eq_true p177; replace q177 := eq_true q177) | ((with_reducible refine gate_builtin (b := .append) (xs := #[.tmp 21, .tmp 26]) rfl ?_); at_builtin; refine Kd.R_append (Kd.int .i64) (w0 := w) w.heap.size rfl (.tmp 21) (.tmp 26) 41 3 (.int .i64 0) 8 rfl Try.underlying41 info3 rfl (by decide) (by omega) u5 x5_1 (rd l0 x6_1) [.int .i64 (rd l0 x6_1)] (fun _ => True) (fun _ => False) rfl rfl ?aP (fun _ hk => hk.elim) ?aF ?aO ?aB ?aS ?aL ?_; (case aP => exact rfl); (case aB => exact bA); (case aF => exact (fun _ _ => trivial)); (case aO => exact (rK HO_5)); (case aS => exact (below_size bA)); (case aL => have := LMc9.out; omega); intro v179 w10 ho hb hg hat; rw [← Ny178.out] at ho; have n0_ := Aside0.mk (hb); have n1_ := Aside0.mk (ho); clear HB; clear HO_5; have HB := n0_; have HO180 := n1_; clear n0_ n1_; clear ho hb hg hat))
     go_roundg k1
     case measure => have := HK1.out; omega
     case rel => exact ⟨(y178), (wrap64 (x6_1 + 1)), rS, H', ⟨by have := HK1.out; omega⟩, ⟨rK HO180⟩, ⟨bA⟩⟩
   ·
    rw [if_neg c5] at H
    have c5b0 := decide_eq_false c5
    clear c5
    obtain rfl := Option.some.inj H
    go_wp2
    go_ret
    exact ⟨_, by first | rfl | (simp [errW_none, errW_some] <;> rfl) | (simp [*, errW_none, errW_some] <;> rfl), by (with_reducible repeat (first | apply Kd.R_alloc | apply Kd.R_drewN | apply Kd.R_drew)); exact HO_5.out, bA⟩

/-! ### spec_Max: function 131 -/
def spec_Max.f (a0 : Int) (a1 : Int) : Option (Int) := if a1 > a0 then (some a1) else (some a0)
set_option maxHeartbeats 8000000 in
set_option maxRecDepth 100000 in
theorem spec_Max.calls (a0 : Int) (a1 : Int) (r : Int) (w : World) (h : spec_Max.f a0 a1 = some r) :
  Calls Try.prog 131 #[.int .i64 a0, .int .i64 a1] w fun e w' => e = .returned (.int .i64 r) ∧ Drawn0 w w' := by
 have H : (if a1 > a0 then (some a1) else (some a0)) = some r := h
 clear h
 by_cases c3 : a1 > a0
 ·
  rw [if_pos c3] at H
  have c3b0 := decide_eq_true c3
  clear c3
  obtain rfl := Option.some.inj H
  go_enter Try.func131, Try.ntmps131
  go_wp2
  go_ret
  exact ⟨by first | rfl | (simp; done) | (simp [*]; done), by repeat (first | exact Drawn0.refl _ | apply Drawn0.step)⟩
 ·
  rw [if_neg c3] at H
  have c3b0 := decide_eq_false c3
  clear c3
  obtain rfl := Option.some.inj H
  go_enter Try.func131, Try.ntmps131
  go_wp2
  go_ret
  exact ⟨by first | rfl | (simp; done) | (simp [*]; done), by repeat (first | exact Drawn0.refl _ | apply Drawn0.step)⟩

/-! ### spec_ClearOf: function 132 -/
def spec_ClearOf.f (a0_0 : Int) (a0_1 : Int) (a0_2 : Int) (a0_3 : Int) : Option (Int) := (spec_IsPath.f a0_0 a0_1 a0_2 a0_3).bind fun t182 => (if t182 = true then ((some (([0, 2, 5, 3] : List Int) : List Int)).bind fun y183 => (if 0 ≤ a0_1 then (if a0_1 < (y183.length : Int) then (some (rd y183 a0_1)) else (none)) else (none))) else (some 0))
set_option maxHeartbeats 8000000 in
set_option maxRecDepth 100000 in
theorem spec_ClearOf.calls (a0_0 : Int) (a0_1 : Int) (a0_2 : Int) (a0_3 : Int) (r : Int) (w : World) (h : spec_ClearOf.f a0_0 a0_1 a0_2 a0_3 = some r) :
  Calls Try.prog 132 #[.agg #[.int .i64 a0_0, .int .i64 a0_1, .int .i64 a0_2, .int .i64 a0_3]] w fun e w' => e = .returned (.int .i64 r) ∧ Below w.heap.size w w' := by
 have hu89 := Try.underlying89
 have HB := Aside0.mk (Below.refl w.heap.size w)
 have H : ((spec_IsPath.f a0_0 a0_1 a0_2 a0_3).bind fun t182 => (if t182 = true then ((some (([0, 2, 5, 3] : List Int) : List Int)).bind fun y183 => (if 0 ≤ a0_1 then (if a0_1 < (y183.length : Int) then (some (rd y183 a0_1)) else (none)) else (none))) else (some 0))) = some r := h
 clear h
 obtain ⟨t182, A2, H⟩ := bindE H
 try dsimp only at H
 by_cases c3 : t182 = true
 ·
  subst c3
  have H1 : ((some (([0, 2, 5, 3] : List Int) : List Int)).bind fun y183 => (if 0 ≤ a0_1 then (if a0_1 < (y183.length : Int) then (some (rd y183 a0_1)) else (none)) else (none))) = some r := by rw [if_pos rfl] at H; exact H
  clear H
  have H := H1
  clear H1
  obtain ⟨y183, hy183⟩ : ∃ y_ : List Int, y_ = (([0, 2, 5, 3] : List Int)) := ⟨_, rfl⟩
  replace H : (if 0 ≤ a0_1 then (if a0_1 < (y183.length : Int) then (some (rd y183 a0_1)) else (none)) else (none)) = some r := by first | (rw [hy183]; with_reducible exact H) | (have H2_ := (Option.bind_some _ _).symm.trans H; rw [hy183]; with_reducible exact H2_) | (have H2_ := (Option.bind_some _ _).symm.trans H; with_reducible exact H2_) | with_reducible exact H | (rw [hy183]; exact H) | exact H
  have Ny183 := Aside0.mk hy183
  clear hy183
  have c4 : 0 ≤ a0_1 := ifN H
  replace H := ifT H
  have c4b0 := decide_eq_true c4
  clear c4
  have c5 : a0_1 < (y183.length : Int) := ifN H
  replace H := ifT H
  have c5b0 := decide_eq_true c5
  clear c5
  obtain rfl := Option.some.inj H
  go_enter Try.func132, Try.ntmps132
  go_wp2_with (first | ((with_reducible refine gate_dst (N := 1) rfl ?_); refine bE (N := 1) (cs := #[.int .i64 a0_0, .int .i64 a0_1, .int .i64 a0_2, .int .i64 a0_3]) (t := 89) ?_; intro gb181 hg w6 hbox hb; have n0_ := Aside0.mk (below_step bA hb); have n1_ := Aside0.mk (hbox); have n2_ := Aside0.mk ((by rw [hg]; exact (below_size bA) : w.heap.size ≤ gb181)); have n3_ := Aside0.mk ((by rw [hg]; exact (below_size bA) : w.heap.size ≤ gb181)); clear HB; have HB := n0_; have BK181 := n1_; have GW181 := n2_; have GE181 := n3_; clear n0_ n1_ n2_ n3_; clear hb hbox hg; have hcz7_0 : w6.cell? ⟨gb181, 0, none⟩ = some (.int .i64 a0_0) := bC BK181 0; have hcz7_1 : w6.cell? ⟨gb181, 1, none⟩ = some (.int .i64 a0_1) := bC BK181 1; have hcz7_2 : w6.cell? ⟨gb181, 2, none⟩ = some (.int .i64 a0_2) := bC BK181 2; have hcz7_3 : w6.cell? ⟨gb181, 3, none⟩ = some (.int .i64 a0_3) := bC BK181 3; have hfz7_0 := blk_frozen BK181.out 0; have hfz7_1 := blk_frozen BK181.out 1; have hfz7_2 := blk_frozen BK181.out 2; have hfz7_3 := blk_frozen BK181.out 3) | ((with_reducible refine gate_callee (f := 145) rfl ?_); refine gL (some 4) Try.func145 #[.agg #[.int .i64 a0_0, .int .i64 a0_1, .int .i64 a0_2, .int .i64 a0_3]] ?_; (with_reducible refine (spec_IsPath.calls a0_0 a0_1 a0_2 a0_3 true _ A2.out).mono ?_); rintro e w8 ⟨rfl, hb⟩; refine ⟨_, rfl, ?_⟩; replace BK181 := Aside0.mk (blk_below (g := gb181) (bK BK181) hb); replace HB := Aside0.mk (below_step bG hb); (try clear hb)) | ((with_reducible refine gate_dst (N := 6) rfl ?_); refine Kd.R_lit (Kd.int .i64) _ 3 ?hg (N := 6) ?hd (xs := ([0, 2, 5, 3] : List Int)) (inner := [.int .i64 0, .int .i64 2, .int .i64 5, .int .i64 3]) (ok := fun _ => True) (okp := fun _ => True) ?hr ?hp (fun _ hk => hk) trivial (Below.refl _ _) (Nat.le_refl _) (by simp) ?_; (case hd => rfl); (case hg => rfl); (case hr => first | (go_simp; done) | (go_simp; rfl)); (case hp => exact (Reps.one (show Kd.M (Kd.int .i64) _ _ _ 0 [.int .i64 0] from rfl) (Reps.one (show Kd.M (Kd.int .i64) _ _ _ 2 [.int .i64 2] from rfl) (Reps.one (show Kd.M (Kd.int .i64) _ _ _ 5 [.int .i64 5] from rfl) (Reps.one (show Kd.M (Kd.int .i64) _ _ _ 3 [.int .i64 3] from rfl) (Reps.none _ _)))))); intro v184 w9 ho10 hb hg_ hnew_; clear hg_ hnew_; (first | rw [← Ny183.out] at ho10 | (simp only [Int.reduceToNat] at ho10; rw [← Ny183.out] at ho10)); have HO185 := Aside0.mk (Kd.R_lower ho10 (below_size bG)); replace BK181 := Aside0.mk (blk_below (g := gb181) (bK BK181) hb); replace HB := Aside0.mk (below_step bG hb); clear hb ho10; obtain ⟨hcz11_0, hcz11_1, hcz11_2, hcz11_3, hfz11_0, hfz11_1, hfz11_2, hfz11_3⟩ := blkc4 BK181; obtain ⟨Ao12, co12, eo12⟩ := Kd.R_slice HO185.out; subst eo12; have p186 : 0 ≤ (a0_1 : Int) := dA; have q186 : a0_1 < (y183.length : Int) := dA; obtain ⟨ad186, e186, hx186_0⟩ := Kd.at_int (Kd.R_reads' HO185.out).2.2 a0_1 p186 q186; cases e186; replace p186 := eq_true p186; replace q186 := eq_true q186))
  go_ret
  exact ⟨rA, bG⟩
 ·
  replace c3 := Bool.eq_false_iff.mpr c3
  subst c3
  have H1 : (some 0) = some r := by rw [if_neg (show ¬ (false = true) by decide)] at H; exact H
  clear H
  have H := H1
  clear H1
  obtain rfl := Option.some.inj H
  go_enter Try.func132, Try.ntmps132
  go_wp2_with (first | ((with_reducible refine gate_dst (N := 1) rfl ?_); refine bE (N := 1) (cs := #[.int .i64 a0_0, .int .i64 a0_1, .int .i64 a0_2, .int .i64 a0_3]) (t := 89) ?_; intro gb181 hg w13 hbox hb; have n0_ := Aside0.mk (below_step bA hb); have n1_ := Aside0.mk (hbox); have n2_ := Aside0.mk ((by rw [hg]; exact (below_size bA) : w.heap.size ≤ gb181)); have n3_ := Aside0.mk ((by rw [hg]; exact (below_size bA) : w.heap.size ≤ gb181)); clear HB; have HB := n0_; have BK181 := n1_; have GW181 := n2_; have GE181 := n3_; clear n0_ n1_ n2_ n3_; clear hb hbox hg; have hcz14_0 : w13.cell? ⟨gb181, 0, none⟩ = some (.int .i64 a0_0) := bC BK181 0; have hcz14_1 : w13.cell? ⟨gb181, 1, none⟩ = some (.int .i64 a0_1) := bC BK181 1; have hcz14_2 : w13.cell? ⟨gb181, 2, none⟩ = some (.int .i64 a0_2) := bC BK181 2; have hcz14_3 : w13.cell? ⟨gb181, 3, none⟩ = some (.int .i64 a0_3) := bC BK181 3; have hfz14_0 := blk_frozen BK181.out 0; have hfz14_1 := blk_frozen BK181.out 1; have hfz14_2 := blk_frozen BK181.out 2; have hfz14_3 := blk_frozen BK181.out 3) | ((with_reducible refine gate_callee (f := 145) rfl ?_); refine gL (some 4) Try.func145 #[.agg #[.int .i64 a0_0, .int .i64 a0_1, .int .i64 a0_2, .int .i64 a0_3]] ?_; (with_reducible refine (spec_IsPath.calls a0_0 a0_1 a0_2 a0_3 false _ A2.out).mono ?_); rintro e w15 ⟨rfl, hb⟩; refine ⟨_, rfl, ?_⟩; replace BK181 := Aside0.mk (blk_below (g := gb181) (bK BK181) hb); replace HB := Aside0.mk (below_step bG hb); (try clear hb)))
  go_ret
  exact ⟨rA, bG⟩

end Go.Proofs.Ytdkmmefmhfbgkaa.P
