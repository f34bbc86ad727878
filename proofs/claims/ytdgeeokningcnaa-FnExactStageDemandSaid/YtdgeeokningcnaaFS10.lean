/- Printed by myprint.py (wip/tools) over the kit's print: what Go's functions compute, and that they do. Lean checks it. -/
import Derived.Test.YtdgeeokningcnaaF0
namespace Go.Proofs.Ytdgeeokningcnaa.P
open Go.RowKit Go.Proofs.YtdgeeokningcnaaW.PrintWords Go.Proofs.YtdgeeokningcnaaW.PrintLast Go.Proofs.YtdgeeokningcnaaW.PrintMore Go.Proofs.Ytdgeeokningcnaa.Sq
attribute [local go_sem] max2_int min2_int max_two min_two max_three min_three max_four min_four
set_option linter.unusedVariables false
set_option linter.unusedSimpArgs false

/-! ### spec_IsTrusted: function 15 -/
def spec_IsTrusted.f (a0_0 : Int) (a0_1 : Int) (a0_2 : Int) (a0_3 : Bool) : Option (Bool) := if a0_3 = true then (some false) else (some (decide (a0_2 ≤ 900)))
set_option maxHeartbeats 8000000 in
set_option maxRecDepth 100000 in
theorem spec_IsTrusted.calls (a0_0 : Int) (a0_1 : Int) (a0_2 : Int) (a0_3 : Bool) (r : Bool) (w : World) (h : spec_IsTrusted.f a0_0 a0_1 a0_2 a0_3 = some r) :
    Calls Try.prog 15 #[.agg #[.int .i64 a0_0, .int .i64 a0_1, .int .i64 a0_2, .bool a0_3]] w fun e w' => e = .returned (.bool r) ∧ Below w.heap.size w w' := by
  have hu25 := Try.underlying25
  have HB := Aside0.mk (Below.refl w.heap.size w)
  have H : (if a0_3 = true then (some false) else (some (decide (a0_2 ≤ 900)))) = some r := h
  clear h
  by_cases c2 : a0_3 = true
  · subst c2
    have H1 : (some false) = some r := by rw [if_pos rfl] at H; exact H
    clear H
    have H := H1
    clear H1
    obtain rfl := Option.some.inj H
    go_enter Try.func15, Try.ntmps15
    go_wp2_with (first | ((with_reducible refine gate_dst (N := 1) rfl ?_); refine bE (N := 1) (cs := #[.int .i64 a0_0, .int .i64 a0_1, .int .i64 a0_2, .bool true]) (t := 25) ?_; intro gb101 hg w3 hbox hb; have n0_ := Aside0.mk (below_step bA hb); have n1_ := Aside0.mk (hbox); have n2_ := Aside0.mk ((by rw [hg]; exact (below_size bA) : w.heap.size ≤ gb101)); have n3_ := Aside0.mk ((by rw [hg]; exact (below_size bA) : w.heap.size ≤ gb101)); clear HB; have HB := n0_; have BK101 := n1_; have GW101 := n2_; have GE101 := n3_; clear n0_ n1_ n2_ n3_; clear hb hbox hg; obtain ⟨hcz4_0, hcz4_1, hcz4_2, hcz4_3, hfz4_0, hfz4_1, hfz4_2, hfz4_3⟩ := blkc4 BK101))
    go_ret
    exact ⟨rA, bG⟩
  · replace c2 := Bool.eq_false_iff.mpr c2
    subst c2
    have H1 : (some (decide (a0_2 ≤ 900))) = some r := by rw [if_neg (show ¬ (false = true) by decide)] at H; exact H
    clear H
    have H := H1
    clear H1
    obtain rfl := Option.some.inj H
    go_enter Try.func15, Try.ntmps15
    go_wp2_with (first | ((with_reducible refine gate_dst (N := 1) rfl ?_); refine bE (N := 1) (cs := #[.int .i64 a0_0, .int .i64 a0_1, .int .i64 a0_2, .bool false]) (t := 25) ?_; intro gb101 hg w5 hbox hb; have n0_ := Aside0.mk (below_step bA hb); have n1_ := Aside0.mk (hbox); have n2_ := Aside0.mk ((by rw [hg]; exact (below_size bA) : w.heap.size ≤ gb101)); have n3_ := Aside0.mk ((by rw [hg]; exact (below_size bA) : w.heap.size ≤ gb101)); clear HB; have HB := n0_; have BK101 := n1_; have GW101 := n2_; have GE101 := n3_; clear n0_ n1_ n2_ n3_; clear hb hbox hg; obtain ⟨hcz6_0, hcz6_1, hcz6_2, hcz6_3, hfz6_0, hfz6_1, hfz6_2, hfz6_3⟩ := blkc4 BK101))
    go_ret
    exact ⟨rA, bG⟩

/-! ### spec_l10Count: function 62 -/
def spec_l10Count.l0 : Nat → List (S25) → Int → Int → Option (Int × Bool)
  | 0, _, _, _ => none
  | k + 1, x0, x1, x6 => if x6 < (x0.length : Int) then (if 0 ≤ x6 then (if ((rd_T25 x0 x6).f0) = x1 then ((spec_IsTrusted.f ((rd_T25 x0 x6).f0) ((rd_T25 x0 x6).f1) ((rd_T25 x0 x6).f2) ((rd_T25 x0 x6).f3)).bind fun t178 => (if t178 = true then (some ((rd_T25 x0 x6).f1, true)) else (spec_l10Count.l0 k x0 x1 (wrap64 (x6 + 1))))) else (spec_l10Count.l0 k x0 x1 (wrap64 (x6 + 1)))) else (none)) else (some (0, false))
def spec_l10Count.f (k : Nat) (l0 : List (S25)) (a1 : Int) : Option (Int × Bool) := spec_l10Count.l0 k l0 a1 0
theorem spec_l10Count.mono_l : ∀ k, (∀ y0 y1 y2, LeO (spec_l10Count.l0 k y0 y1 y2) (spec_l10Count.l0 (k + 1) y0 y1 y2))
  | 0 => fun _ _ _ r h => by simp [spec_l10Count.l0] at h
  | k + 1 => by
    have ih0 := spec_l10Count.mono_l k
    · intro y0 y1 y2
      unfold spec_l10Count.l0
      repeat' first | (with_reducible first | exact LeO.refl _ | exact LeO.none _ | refine LeO.ite ?_ ?_ | refine LeO.bind ?_ (fun _ => ?_) | exact ih0 _ _ _) | exact LeO.none _ | refine LeO.ite ?_ ?_ | refine LeO.bind ?_ (fun _ => ?_) | exact ih0 _ _ _
theorem spec_l10Count.mono : ∀ a0 a1 k, LeO (spec_l10Count.f k a0 a1) (spec_l10Count.f (k + 1) a0 a1) := by
  intro a0 a1 k
  have ih0 := spec_l10Count.mono_l k
  unfold spec_l10Count.f
  repeat' first | (with_reducible first | exact LeO.refl _ | exact LeO.none _ | refine LeO.ite ?_ ?_ | refine LeO.bind ?_ (fun _ => ?_) | exact ih0 _ _ _) | exact LeO.none _ | refine LeO.ite ?_ ?_ | refine LeO.bind ?_ (fun _ => ?_) | exact ih0 _ _ _
set_option maxHeartbeats 8000000 in
set_option maxRecDepth 100000 in
theorem spec_l10Count.calls (k : Nat) (A0 : Option Addr) (c0 : Nat) (l0 : List (S25)) (a1 : Int) (r1 : Int) (r2 : Bool) (w : World) (hr0 : Kd.C k25 w A0 l0.length l0) (hc0 : l0.length ≤ c0) (h : spec_l10Count.f k l0 a1 = some (r1, r2)) :
    Calls Try.prog 62 #[.slice A0 l0.length c0, .int .i64 a1] w fun e w' => e = .returned (.tuple #[.int .i64 r1, .bool r2]) ∧ Below w.heap.size w w' := by
  have hu25 := Try.underlying25
  have HR0 := Aside0.mk hr0
  have HC0 := Aside0.mk hc0
  clear hr0 hc0
  have HB := Aside0.mk (Below.refl w.heap.size w)
  have H : (spec_l10Count.l0 k l0 a1 0) = some (r1, r2) := h
  clear h
  have H' := Aside0.mk H
  clear H
  go_enter Try.func62, Try.ntmps62
  go_wp2
  go_loopg [6] k (fun kq v6 w' => ∃ (x6_1 : Int), v6 = .int .i64 x6_1 ∧ Aside0 (spec_l10Count.l0 kq l0 a1 x6_1 = some (r1, r2)) ∧ Aside0 (kq ≤ k) ∧ Aside0 (Below w.heap.size w w'))
  case atStart => exact ⟨(0), rS, H', ⟨Nat.le_refl _⟩, ⟨bA⟩⟩
  case round =>
    clear H'
    try clear p2
    obtain ⟨x6_1, rfl, HA, HK1, HB⟩ := hrel
    cases gk with
    | zero => exact absurd HA.out (by simp [spec_l10Count.l0])
    | succ k1 =>
      have H := HA.out
      clear HA
      simp only [spec_l10Count.l0] at H
      by_cases c3 : x6_1 < (l0.length : Int)
      · rw [if_pos c3] at H
        have c3b0 : decide (x6_1 < (l0.length : Int)) = true := decide_eq_true c3
        clear c3
        have c4 : 0 ≤ x6_1 := ifN H
        replace H := ifT H
        have c4b0 : decide (0 ≤ x6_1) = true := decide_eq_true c4
        clear c4
        by_cases c5 : ((rd_T25 l0 x6_1).f0) = a1
        · rw [if_pos c5] at H
          have c5b0 : (((rd_T25 l0 x6_1).f0) == a1) = true := beq_iff_eq.mpr c5
          have c5b1 : (((rd_T25 l0 x6_1).f0) != a1) = false := bne_eq_false_iff_eq.mpr c5
          clear c5
          obtain ⟨t178, A6, H⟩ := bindE H
          try dsimp only at H
          by_cases c7 : t178 = true
          · subst c7
            have H1 : (some ((rd_T25 l0 x6_1).f1, true)) = some (r1, r2) := by rw [if_pos rfl] at H; exact H
            clear H
            have H := H1
            clear H1
            simp only [Option.some.injEq, Prod.mk.injEq] at H
            obtain ⟨rfl, rfl⟩ := H
            have p176 : 0 ≤ (x6_1 : Int) := dA
            have q176 : x6_1 < (l0.length : Int) := dA
            obtain ⟨ad176, e176, hx176_0, hx176_1, hx176_2, hx176_3⟩ := at_T25 HR0.out x6_1 p176 q176
            cases e176
            replace hx176_0 := hC HB hx176_0
            replace hx176_1 := hC HB hx176_1
            replace hx176_2 := hC HB hx176_2
            replace hx176_3 := hC HB hx176_3
            replace p176 := eq_true p176
            replace q176 := eq_true q176
            have p177 : 0 ≤ (x6_1 : Int) := dA
            have q177 : x6_1 < (l0.length : Int) := dA
            obtain ⟨ad177, e177, hx177_0, hx177_1, hx177_2, hx177_3⟩ := at_T25 HR0.out x6_1 p177 q177
            obtain rfl : ad176 = ad177 := (by injection e177)
            replace hx177_0 := hC HB hx177_0
            replace hx177_1 := hC HB hx177_1
            replace hx177_2 := hC HB hx177_2
            replace hx177_3 := hC HB hx177_3
            replace p177 := eq_true p177
            replace q177 := eq_true q177
            go_wp2_with (first | (go_at_call 15; (with_reducible refine (spec_IsTrusted.calls ((rd_T25 l0 x6_1).f0) ((rd_T25 l0 x6_1).f1) ((rd_T25 l0 x6_1).f2) ((rd_T25 l0 x6_1).f3) true _ A6.out).mono ?_); rintro e w8 ⟨rfl, hb⟩; replace HB := Aside0.mk (below_step bA hb); (try clear hb); (try clear hb2); (try clear hk); (try clear hi); have p179 : 0 ≤ (x6_1 : Int) := dA; have q179 : x6_1 < (l0.length : Int) := dA; obtain ⟨ad179, e179, hx179_0, hx179_1, hx179_2, hx179_3⟩ := at_T25 HR0.out x6_1 p179 q179; obtain rfl : ad176 = ad179 := (by injection e179); replace hx179_0 := hC HB hx179_0; replace hx179_1 := hC HB hx179_1; replace hx179_2 := hC HB hx179_2; replace hx179_3 := hC HB hx179_3; replace p179 := eq_true p179; replace q179 := eq_true q179))
            go_ret2
            exact ⟨rA, bA⟩
          · replace c7 := Bool.eq_false_iff.mpr c7
            subst c7
            have H1 : (spec_l10Count.l0 k1 l0 a1 (wrap64 (x6_1 + 1))) = some (r1, r2) := by rw [if_neg (show ¬ (false = true) by decide)] at H; exact H
            clear H
            have H := H1
            clear H1
            have H' := Aside0.mk H
            clear H
            have p176 : 0 ≤ (x6_1 : Int) := dA
            have q176 : x6_1 < (l0.length : Int) := dA
            obtain ⟨ad176, e176, hx176_0, hx176_1, hx176_2, hx176_3⟩ := at_T25 HR0.out x6_1 p176 q176
            cases e176
            replace hx176_0 := hC HB hx176_0
            replace hx176_1 := hC HB hx176_1
            replace hx176_2 := hC HB hx176_2
            replace hx176_3 := hC HB hx176_3
            replace p176 := eq_true p176
            replace q176 := eq_true q176
            have p177 : 0 ≤ (x6_1 : Int) := dA
            have q177 : x6_1 < (l0.length : Int) := dA
            obtain ⟨ad177, e177, hx177_0, hx177_1, hx177_2, hx177_3⟩ := at_T25 HR0.out x6_1 p177 q177
            obtain rfl : ad176 = ad177 := (by injection e177)
            replace hx177_0 := hC HB hx177_0
            replace hx177_1 := hC HB hx177_1
            replace hx177_2 := hC HB hx177_2
            replace hx177_3 := hC HB hx177_3
            replace p177 := eq_true p177
            replace q177 := eq_true q177
            go_wp2_with (first | (go_at_call 15; (with_reducible refine (spec_IsTrusted.calls ((rd_T25 l0 x6_1).f0) ((rd_T25 l0 x6_1).f1) ((rd_T25 l0 x6_1).f2) ((rd_T25 l0 x6_1).f3) false _ A6.out).mono ?_); rintro e w9 ⟨rfl, hb⟩; replace HB := Aside0.mk (below_step bA hb); (try clear hb); (try clear hb2); (try clear hk); (try clear hi)))
            go_roundg k1
            case measure => have := HK1.out; omega
            case rel => exact ⟨(wrap64 (x6_1 + 1)), rS, H', ⟨by have := HK1.out; omega⟩, ⟨bA⟩⟩
        · rw [if_neg c5] at H
          have c5b0 : (((rd_T25 l0 x6_1).f0) == a1) = false := beq_eq_false_iff_ne.mpr c5
          have c5b1 : (((rd_T25 l0 x6_1).f0) != a1) = true := bne_iff_ne.mpr c5
          have H' := Aside0.mk H
          clear H
          have p176 : 0 ≤ (x6_1 : Int) := dA
          have q176 : x6_1 < (l0.length : Int) := dA
          obtain ⟨ad176, e176, hx176_0, hx176_1, hx176_2, hx176_3⟩ := at_T25 HR0.out x6_1 p176 q176
          cases e176
          replace hx176_0 := hC HB hx176_0
          replace hx176_1 := hC HB hx176_1
          replace hx176_2 := hC HB hx176_2
          replace hx176_3 := hC HB hx176_3
          replace p176 := eq_true p176
          replace q176 := eq_true q176
          go_wp2
          go_roundg k1
          case measure => have := HK1.out; omega
          case rel => exact ⟨(wrap64 (x6_1 + 1)), rS, H', ⟨by have := HK1.out; omega⟩, ⟨bA⟩⟩
      · rw [if_neg c3] at H
        have c3b0 : decide (x6_1 < (l0.length : Int)) = false := decide_eq_false c3
        clear c3
        simp only [Option.some.injEq, Prod.mk.injEq] at H
        obtain ⟨rfl, rfl⟩ := H
        go_wp2
        go_ret2
        exact ⟨rA, bA⟩

/-! ### spec_LowDemand: function 30 -/
def spec_LowDemand.f (k : Nat) (l0 : List (S25)) (a1 : Int) : Option (Int) := (spec_l10Count.f k l0 a1).bind fun bt180 => (some bt180.1)
theorem spec_LowDemand.mono : ∀ a0 a1 k, LeO (spec_LowDemand.f k a0 a1) (spec_LowDemand.f (k + 1) a0 a1) := by
  intro a0 a1 k
  unfold spec_LowDemand.f
  repeat' first | (with_reducible first | exact LeO.refl _ | exact LeO.none _ | refine LeO.ite ?_ ?_ | refine LeO.bind ?_ (fun _ => ?_) | exact spec_l10Count.mono _ _ _) | exact LeO.none _ | refine LeO.ite ?_ ?_ | refine LeO.bind ?_ (fun _ => ?_) | exact spec_l10Count.mono _ _ _
set_option maxHeartbeats 8000000 in
set_option maxRecDepth 100000 in
theorem spec_LowDemand.calls (k : Nat) (A0 : Option Addr) (c0 : Nat) (l0 : List (S25)) (a1 : Int) (r : Int) (w : World) (hr0 : Kd.C k25 w A0 l0.length l0) (hc0 : l0.length ≤ c0) (h : spec_LowDemand.f k l0 a1 = some r) :
    Calls Try.prog 30 #[.slice A0 l0.length c0, .int .i64 a1] w fun e w' => e = .returned (.int .i64 r) ∧ Below w.heap.size w w' := by
  have HR0 := Aside0.mk hr0
  have HC0 := Aside0.mk hc0
  clear hr0 hc0
  have HB := Aside0.mk (Below.refl w.heap.size w)
  have H : ((spec_l10Count.f k l0 a1).bind fun bt180 => (some bt180.1)) = some r := h
  clear h
  obtain ⟨⟨t180, t181⟩, A3, H⟩ := bindE H
  try dsimp only at H
  obtain rfl := Option.some.inj H
  go_enter Try.func30, Try.ntmps30
  go_wp2_with (first | ((with_reducible refine gate_callee (f := 62) rfl ?_); refine gL (some 10) Try.func62 #[.slice A0 l0.length c0, .int .i64 a1] ?_; (with_reducible refine (spec_l10Count.calls k _ _ l0 a1 t180 t181 _ ?side1 ?side2 A3.out).mono ?_); (case side1 => exact cO HR0); (case side2 => exact HC0.out); rintro e w4 ⟨rfl, hb⟩; refine ⟨_, rfl, ?_⟩; replace HB := Aside0.mk (below_step bA hb); (try clear hb); (try clear hb2); (try clear hk); (try clear hi)))
  go_ret
  exact ⟨rA, bA⟩

/-! ### spec_HighDemand: function 34 -/
def spec_HighDemand.f (k : Nat) (l0 : List (S25)) (a1 : Int) : Option (Int) := (spec_l10Count.f k l0 a1).bind fun bt211 => (if bt211.2 = true then (some bt211.1) else (some 1000))
theorem spec_HighDemand.mono : ∀ a0 a1 k, LeO (spec_HighDemand.f k a0 a1) (spec_HighDemand.f (k + 1) a0 a1) := by
  intro a0 a1 k
  unfold spec_HighDemand.f
  repeat' first | (with_reducible first | exact LeO.refl _ | exact LeO.none _ | refine LeO.ite ?_ ?_ | refine LeO.bind ?_ (fun _ => ?_) | exact spec_l10Count.mono _ _ _) | exact LeO.none _ | refine LeO.ite ?_ ?_ | refine LeO.bind ?_ (fun _ => ?_) | exact spec_l10Count.mono _ _ _
set_option maxHeartbeats 8000000 in
set_option maxRecDepth 100000 in
theorem spec_HighDemand.calls (k : Nat) (A0 : Option Addr) (c0 : Nat) (l0 : List (S25)) (a1 : Int) (r : Int) (w : World) (hr0 : Kd.C k25 w A0 l0.length l0) (hc0 : l0.length ≤ c0) (h : spec_HighDemand.f k l0 a1 = some r) :
    Calls Try.prog 34 #[.slice A0 l0.length c0, .int .i64 a1] w fun e w' => e = .returned (.int .i64 r) ∧ Below w.heap.size w w' := by
  have HR0 := Aside0.mk hr0
  have HC0 := Aside0.mk hc0
  clear hr0 hc0
  have HB := Aside0.mk (Below.refl w.heap.size w)
  have H : ((spec_l10Count.f k l0 a1).bind fun bt211 => (if bt211.2 = true then (some bt211.1) else (some 1000))) = some r := h
  clear h
  obtain ⟨⟨t211, t212⟩, A3, H⟩ := bindE H
  try dsimp only at H
  by_cases c4 : t212 = true
  · subst c4
    have H1 : (some t211) = some r := by rw [if_pos rfl] at H; exact H
    clear H
    have H := H1
    clear H1
    obtain rfl := Option.some.inj H
    go_enter Try.func34, Try.ntmps34
    go_wp2_with (first | ((with_reducible refine gate_callee (f := 62) rfl ?_); refine gL (some 10) Try.func62 #[.slice A0 l0.length c0, .int .i64 a1] ?_; (with_reducible refine (spec_l10Count.calls k _ _ l0 a1 t211 true _ ?side1 ?side2 A3.out).mono ?_); (case side1 => exact cO HR0); (case side2 => exact HC0.out); rintro e w5 ⟨rfl, hb⟩; refine ⟨_, rfl, ?_⟩; replace HB := Aside0.mk (below_step bA hb); (try clear hb); (try clear hb2); (try clear hk); (try clear hi)))
    go_ret
    exact ⟨rA, bA⟩
  · replace c4 := Bool.eq_false_iff.mpr c4
    subst c4
    have H1 : (some 1000) = some r := by rw [if_neg (show ¬ (false = true) by decide)] at H; exact H
    clear H
    have H := H1
    clear H1
    obtain rfl := Option.some.inj H
    go_enter Try.func34, Try.ntmps34
    go_wp2_with (first | ((with_reducible refine gate_callee (f := 62) rfl ?_); refine gL (some 10) Try.func62 #[.slice A0 l0.length c0, .int .i64 a1] ?_; (with_reducible refine (spec_l10Count.calls k _ _ l0 a1 t211 false _ ?side1 ?side2 A3.out).mono ?_); (case side1 => exact cO HR0); (case side2 => exact HC0.out); rintro e w6 ⟨rfl, hb⟩; refine ⟨_, rfl, ?_⟩; replace HB := Aside0.mk (below_step bA hb); (try clear hb); (try clear hb2); (try clear hk); (try clear hi)))
    go_ret
    exact ⟨rA, bA⟩

/-! ### spec_StageDemand: function 56 -/
def spec_StageDemand.l0 : Nat → List (S25) → List Int → Int → Int → Option (Int)
  | 0, _, _, _, _ => none
  | k + 1, x0, x1, x5, x6 => if x6 < (x1.length : Int) then (if x6 = 0 then (if 0 ≤ x6 then ((spec_LowDemand.f k x0 (rd x1 x6)).bind fun t455 => (spec_StageDemand.l0 k x0 x1 t455 (wrap64 (x6 + 1)))) else (none)) else (if 0 ≤ x6 then ((spec_LowDemand.f k x0 (rd x1 x6)).bind fun t457 => (if t457 > x5 then ((spec_LowDemand.f k x0 (rd x1 x6)).bind fun t459 => (spec_StageDemand.l0 k x0 x1 t459 (wrap64 (x6 + 1)))) else (spec_StageDemand.l0 k x0 x1 x5 (wrap64 (x6 + 1))))) else (none))) else (some x5)
def spec_StageDemand.f (k : Nat) (l0 : List (S25)) (l1 : List Int) : Option (Int) := spec_StageDemand.l0 k l0 l1 0 0
theorem spec_StageDemand.mono_l : ∀ k, (∀ y0 y1 y2 y3, LeO (spec_StageDemand.l0 k y0 y1 y2 y3) (spec_StageDemand.l0 (k + 1) y0 y1 y2 y3))
  | 0 => fun _ _ _ _ r h => by simp [spec_StageDemand.l0] at h
  | k + 1 => by
    have ih0 := spec_StageDemand.mono_l k
    · intro y0 y1 y2 y3
      unfold spec_StageDemand.l0
      repeat' first | (with_reducible first | exact LeO.refl _ | exact LeO.none _ | refine LeO.ite ?_ ?_ | refine LeO.bind ?_ (fun _ => ?_) | exact ih0 _ _ _ _ | exact spec_LowDemand.mono _ _ _) | exact LeO.none _ | refine LeO.ite ?_ ?_ | refine LeO.bind ?_ (fun _ => ?_) | exact ih0 _ _ _ _ | exact spec_LowDemand.mono _ _ _
theorem spec_StageDemand.mono : ∀ a0 a1 k, LeO (spec_StageDemand.f k a0 a1) (spec_StageDemand.f (k + 1) a0 a1) := by
  intro a0 a1 k
  have ih0 := spec_StageDemand.mono_l k
  unfold spec_StageDemand.f
  repeat' first | (with_reducible first | exact LeO.refl _ | exact LeO.none _ | refine LeO.ite ?_ ?_ | refine LeO.bind ?_ (fun _ => ?_) | exact ih0 _ _ _ _ | exact spec_LowDemand.mono _ _ _) | exact LeO.none _ | refine LeO.ite ?_ ?_ | refine LeO.bind ?_ (fun _ => ?_) | exact ih0 _ _ _ _ | exact spec_LowDemand.mono _ _ _
set_option maxHeartbeats 8000000 in
set_option maxRecDepth 100000 in
theorem spec_StageDemand.calls (k : Nat) (A0 : Option Addr) (c0 : Nat) (l0 : List (S25)) (A1 : Option Addr) (c1 : Nat) (l1 : List Int) (r : Int) (w : World) (hr0 : Kd.C k25 w A0 l0.length l0) (hc0 : l0.length ≤ c0) (hr1 : Kd.C (Kd.int .i64) w A1 l1.length l1) (hc1 : l1.length ≤ c1) (h : spec_StageDemand.f k l0 l1 = some r) :
    Calls Try.prog 56 #[.slice A0 l0.length c0, .slice A1 l1.length c1] w fun e w' => e = .returned (.int .i64 r) ∧ Below w.heap.size w w' := by
  have HR0 := Aside0.mk hr0
  have HC0 := Aside0.mk hc0
  clear hr0 hc0
  have HR1 := Aside0.mk hr1
  have HC1 := Aside0.mk hc1
  clear hr1 hc1
  have HB := Aside0.mk (Below.refl w.heap.size w)
  have H : (spec_StageDemand.l0 k l0 l1 0 0) = some r := h
  clear h
  have H' := Aside0.mk H
  clear H
  go_enter Try.func56, Try.ntmps56
  go_wp2
  go_loopg [5, 6] k (fun kq v5 v6 w' => ∃ (x5_1 : Int) (x6_1 : Int), v5 = .int .i64 x5_1 ∧ v6 = .int .i64 x6_1 ∧ Aside0 (spec_StageDemand.l0 kq l0 l1 x5_1 x6_1 = some r) ∧ Aside0 (kq ≤ k) ∧ Aside0 (Below w.heap.size w w'))
  case atStart => exact ⟨(0), (0), rS, rS, H', ⟨Nat.le_refl _⟩, ⟨bA⟩⟩
  case round =>
    clear H'
    try clear c1
    try clear p2
    obtain ⟨x5_1, x6_1, rfl, rfl, HA, HK1, HB⟩ := hrel
    cases gk with
    | zero => exact absurd HA.out (by simp [spec_StageDemand.l0])
    | succ k1 =>
      have H := HA.out
      clear HA
      simp only [spec_StageDemand.l0] at H
      by_cases c3 : x6_1 < (l1.length : Int)
      · rw [if_pos c3] at H
        have c3b0 : decide (x6_1 < (l1.length : Int)) = true := decide_eq_true c3
        clear c3
        by_cases c4 : x6_1 = 0
        · rw [if_pos c4] at H
          have c4b0 : (x6_1 == 0) = true := beq_iff_eq.mpr c4
          have c4b1 : (x6_1 != 0) = false := bne_eq_false_iff_eq.mpr c4
          clear c4
          have c5 : 0 ≤ x6_1 := ifN H
          replace H := ifT H
          have c5b0 : decide (0 ≤ x6_1) = true := decide_eq_true c5
          clear c5
          obtain ⟨t455, A6, H⟩ := bindE H
          try dsimp only at H
          have H' := Aside0.mk H
          clear H
          have p454 : 0 ≤ (x6_1 : Int) := dA
          have q454 : x6_1 < (l1.length : Int) := dA
          obtain ⟨ad454, e454, hx454_0⟩ := Kd.at_int HR1.out x6_1 p454 q454
          cases e454
          replace hx454_0 := hC HB hx454_0
          replace p454 := eq_true p454
          replace q454 := eq_true q454
          go_wp2_with (first | ((with_reducible refine gate_callee (f := 30) rfl ?_); refine gL (some 30) Try.func30 #[.slice A0 l0.length c0, .int .i64 (rd l1 x6_1)] ?_; (with_reducible refine (spec_LowDemand.calls k1 _ _ l0 (rd l1 x6_1) t455 _ ?side1 ?side2 A6.out).mono ?_); (case side1 => exact cB HR0); (case side2 => exact HC0.out); rintro e w7 ⟨rfl, hb⟩; refine ⟨_, rfl, ?_⟩; replace HB := Aside0.mk (below_step bA hb); (try clear hb); (try clear hb2); (try clear hk); (try clear hi)))
          go_roundg k1
          case measure => have := HK1.out; omega
          case rel => exact ⟨(t455), (wrap64 (x6_1 + 1)), rS, rS, H', ⟨by have := HK1.out; omega⟩, ⟨bA⟩⟩
        · rw [if_neg c4] at H
          have c4b0 : (x6_1 == 0) = false := beq_eq_false_iff_ne.mpr c4
          have c4b1 : (x6_1 != 0) = true := bne_iff_ne.mpr c4
          have c8 : 0 ≤ x6_1 := ifN H
          replace H := ifT H
          have c8b0 : decide (0 ≤ x6_1) = true := decide_eq_true c8
          clear c8
          obtain ⟨t457, A9, H⟩ := bindE H
          try dsimp only at H
          by_cases c10 : t457 > x5_1
          · rw [if_pos c10] at H
            have c10b0 : decide (x5_1 < t457) = true := decide_eq_true c10
            clear c10
            obtain ⟨t459, A11, H⟩ := bindE H
            try dsimp only at H
            have H' := Aside0.mk H
            clear H
            have p456 : 0 ≤ (x6_1 : Int) := dA
            have q456 : x6_1 < (l1.length : Int) := dA
            obtain ⟨ad456, e456, hx456_0⟩ := Kd.at_int HR1.out x6_1 p456 q456
            cases e456
            replace hx456_0 := hC HB hx456_0
            replace p456 := eq_true p456
            replace q456 := eq_true q456
            go_wp2_with (first | (go_at_call 30; (with_reducible refine (spec_LowDemand.calls k1 _ _ l0 (rd l1 x6_1) t457 _ ?side1 ?side2 A9.out).mono ?_); (case side1 => exact cB HR0); (case side2 => exact HC0.out); rintro e w12 ⟨rfl, hb⟩; replace HB := Aside0.mk (below_step bA hb); (try clear hb); (try clear hb2); (try clear hk); (try clear hi); have p458 : 0 ≤ (x6_1 : Int) := dA; have q458 : x6_1 < (l1.length : Int) := dA; obtain ⟨ad458, e458, hx458_0⟩ := Kd.at_int HR1.out x6_1 p458 q458; obtain rfl : ad456 = ad458 := (by injection e458); replace hx458_0 := hC HB hx458_0; replace p458 := eq_true p458; replace q458 := eq_true q458) | ((with_reducible refine gate_callee (f := 30) rfl ?_); refine gL (some 30) Try.func30 #[.slice A0 l0.length c0, .int .i64 (rd l1 x6_1)] ?_; (with_reducible refine (spec_LowDemand.calls k1 _ _ l0 (rd l1 x6_1) t459 _ ?side1 ?side2 A11.out).mono ?_); (case side1 => exact cB HR0); (case side2 => exact HC0.out); rintro e w13 ⟨rfl, hb⟩; refine ⟨_, rfl, ?_⟩; replace HB := Aside0.mk (below_step bA hb); (try clear hb); (try clear hb2); (try clear hk); (try clear hi)))
            go_roundg k1
            case measure => have := HK1.out; omega
            case rel => exact ⟨(t459), (wrap64 (x6_1 + 1)), rS, rS, H', ⟨by have := HK1.out; omega⟩, ⟨bA⟩⟩
          · rw [if_neg c10] at H
            have c10b0 : decide (x5_1 < t457) = false := decide_eq_false c10
            clear c10
            have H' := Aside0.mk H
            clear H
            have p456 : 0 ≤ (x6_1 : Int) := dA
            have q456 : x6_1 < (l1.length : Int) := dA
            obtain ⟨ad456, e456, hx456_0⟩ := Kd.at_int HR1.out x6_1 p456 q456
            cases e456
            replace hx456_0 := hC HB hx456_0
            replace p456 := eq_true p456
            replace q456 := eq_true q456
            go_wp2_with (first | (go_at_call 30; (with_reducible refine (spec_LowDemand.calls k1 _ _ l0 (rd l1 x6_1) t457 _ ?side1 ?side2 A9.out).mono ?_); (case side1 => exact cB HR0); (case side2 => exact HC0.out); rintro e w14 ⟨rfl, hb⟩; replace HB := Aside0.mk (below_step bA hb); (try clear hb); (try clear hb2); (try clear hk); (try clear hi)))
            go_roundg k1
            case measure => have := HK1.out; omega
            case rel => exact ⟨(x5_1), (wrap64 (x6_1 + 1)), rS, rS, H', ⟨by have := HK1.out; omega⟩, ⟨bA⟩⟩
      · rw [if_neg c3] at H
        have c3b0 : decide (x6_1 < (l1.length : Int)) = false := decide_eq_false c3
        clear c3
        obtain rfl := Option.some.inj H
        go_wp2
        go_ret
        exact ⟨rA, bA⟩

end Go.Proofs.Ytdgeeokningcnaa.P
