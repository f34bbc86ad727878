/- Printed by myprint.py (wip/tools) over the kit's print: what Go's functions compute, and that they do. Lean checks it. -/
import Derived.Test.YtbpnbflfpgakmaaF0
import Derived.Test.YtbpnbflfpgakmaaFS01
import Derived.Test.YtbpnbflfpgakmaaFS05
import Derived.Test.YtbpnbflfpgakmaaFS06
import Derived.Test.YtbpnbflfpgakmaaFS07
import Derived.Test.YtbpnbflfpgakmaaFS08
namespace Go.Proofs.Ytbpnbflfpgakmaa.P
open Go.RowKit Go.Proofs.YtbpnbflfpgakmaaW.PrintWords Go.Proofs.YtbpnbflfpgakmaaW.PrintLast Go.Proofs.YtbpnbflfpgakmaaW.PrintMore Go.Proofs.Ytbpnbflfpgakmaa.Sq
attribute [local go_sem] max2_int min2_int max_two min_two max_three min_three max_four min_four
set_option linter.unusedVariables false
set_option linter.unusedSimpArgs false

/-! ### spec_PartAt: function 31 -/
mutual
def spec_PartAt.j0 : Nat → List (S58) → List (S51) → Int → Bool → Option (Int × Int)
  | 0, _, _, _, _ => none
  | k + 1, x0, x1, x2, x19 => if x19 = true then (some ((-1), 0)) else ((spec_Cycle.f k x0 x1).bind fun t507 => (if t507 = 0 then (none) else (spec_PartAt.l0 k x0 x1 (Int.tmod x2 t507) 0)))
def spec_PartAt.l0 : Nat → List (S58) → List (S51) → Int → Int → Option (Int × Int)
  | 0, _, _, _, _ => none
  | k + 1, x0, x1, x8, x9 => (spec_l8Long.f k x0 x1 x9).bind fun t508 => (if x8 < t508 then (some (x9, x8)) else (spec_PartAt.l0 k x0 x1 (wrap64 (x8 - t508)) (wrap64 (x9 + 1))))
end
def spec_PartAt.f (k : Nat) (l0 : List (S58)) (l1 : List (S51)) (a2 : Int) : Option (Int × Int) := (spec_IsPlan.f k l0 l1).bind fun t505 => (if t505 = true then ((spec_l1In.f a2 0 1000000).bind fun t506 => (spec_PartAt.j0 k l0 l1 a2 (!t506))) else (spec_PartAt.j0 k l0 l1 a2 true))
theorem spec_PartAt.mono_l : ∀ k, (∀ y0 y1 y2 y3, LeO (spec_PartAt.j0 k y0 y1 y2 y3) (spec_PartAt.j0 (k + 1) y0 y1 y2 y3)) ∧ (∀ y0 y1 y2 y3, LeO (spec_PartAt.l0 k y0 y1 y2 y3) (spec_PartAt.l0 (k + 1) y0 y1 y2 y3))
  | 0 => ⟨fun _ _ _ _ r h => by simp [spec_PartAt.j0] at h, fun _ _ _ _ r h => by simp [spec_PartAt.l0] at h⟩
  | k + 1 => by
    obtain ⟨ih0, ih1⟩ := spec_PartAt.mono_l k
    refine ⟨?_, ?_⟩
    · intro y0 y1 y2 y3
      unfold spec_PartAt.j0
      repeat' first | (with_reducible first | exact LeO.refl _ | exact LeO.none _ | refine LeO.ite ?_ ?_ | refine LeO.bind ?_ (fun _ => ?_) | exact ih0 _ _ _ _ | exact ih1 _ _ _ _ | exact spec_Cycle.mono _ _ _ | exact spec_IsPlan.mono _ _ _ | exact spec_l8Long.mono _ _ _ _) | exact LeO.none _ | refine LeO.ite ?_ ?_ | refine LeO.bind ?_ (fun _ => ?_) | exact ih0 _ _ _ _ | exact ih1 _ _ _ _ | exact spec_Cycle.mono _ _ _ | exact spec_IsPlan.mono _ _ _ | exact spec_l8Long.mono _ _ _ _
    · intro y0 y1 y2 y3
      unfold spec_PartAt.l0
      repeat' first | (with_reducible first | exact LeO.refl _ | exact LeO.none _ | refine LeO.ite ?_ ?_ | refine LeO.bind ?_ (fun _ => ?_) | exact ih0 _ _ _ _ | exact ih1 _ _ _ _ | exact spec_Cycle.mono _ _ _ | exact spec_IsPlan.mono _ _ _ | exact spec_l8Long.mono _ _ _ _) | exact LeO.none _ | refine LeO.ite ?_ ?_ | refine LeO.bind ?_ (fun _ => ?_) | exact ih0 _ _ _ _ | exact ih1 _ _ _ _ | exact spec_Cycle.mono _ _ _ | exact spec_IsPlan.mono _ _ _ | exact spec_l8Long.mono _ _ _ _
theorem spec_PartAt.mono : ∀ a0 a1 a2 k, LeO (spec_PartAt.f k a0 a1 a2) (spec_PartAt.f (k + 1) a0 a1 a2) := by
  intro a0 a1 a2 k
  obtain ⟨ih0, ih1⟩ := spec_PartAt.mono_l k
  unfold spec_PartAt.f
  repeat' first | (with_reducible first | exact LeO.refl _ | exact LeO.none _ | refine LeO.ite ?_ ?_ | refine LeO.bind ?_ (fun _ => ?_) | exact ih0 _ _ _ _ | exact ih1 _ _ _ _ | exact spec_Cycle.mono _ _ _ | exact spec_IsPlan.mono _ _ _ | exact spec_l8Long.mono _ _ _ _) | exact LeO.none _ | refine LeO.ite ?_ ?_ | refine LeO.bind ?_ (fun _ => ?_) | exact ih0 _ _ _ _ | exact ih1 _ _ _ _ | exact spec_Cycle.mono _ _ _ | exact spec_IsPlan.mono _ _ _ | exact spec_l8Long.mono _ _ _ _
set_option maxHeartbeats 8000000 in
set_option maxRecDepth 100000 in
theorem spec_PartAt.calls (k : Nat) (A0 : Option Addr) (c0 : Nat) (l0 : List (S58)) (A1 : Option Addr) (c1 : Nat) (l1 : List (S51)) (a2 : Int) (r1 : Int) (r2 : Int) (w : World) (hr0 : Kd.C k58 w A0 l0.length l0) (hc0 : l0.length ≤ c0) (hr1 : Kd.C k51 w A1 l1.length l1) (hc1 : l1.length ≤ c1) (h : spec_PartAt.f k l0 l1 a2 = some (r1, r2)) :
    Calls Try.prog 31 #[.slice A0 l0.length c0, .slice A1 l1.length c1, .int .i64 a2] w fun e w' => e = .returned (.tuple #[.int .i64 r1, .int .i64 r2]) ∧ Below w.heap.size w w' := by
  have HR0 := Aside0.mk hr0
  have HC0 := Aside0.mk hc0
  clear hr0 hc0
  have HR1 := Aside0.mk hr1
  have HC1 := Aside0.mk hc1
  clear hr1 hc1
  have HB := Aside0.mk (Below.refl w.heap.size w)
  have H : ((spec_IsPlan.f k l0 l1).bind fun t505 => (if t505 = true then ((spec_l1In.f a2 0 1000000).bind fun t506 => (spec_PartAt.j0 k l0 l1 a2 (!t506))) else (spec_PartAt.j0 k l0 l1 a2 true))) = some (r1, r2) := h
  clear h
  have HC4 := Aside0.mk H
  clear H
  go_enter Try.func31, Try.ntmps31
  go_upto_region 1 with (fail)
  go_cut [19] (fun v19 wc => ∃ (kq : Nat) (x19_3 : Bool), v19 = .bool x19_3 ∧ Aside0 (spec_PartAt.j0 kq l0 l1 a2 x19_3 = some (r1, r2)) ∧ Aside0 (kq ≤ k) ∧ Aside0 (Below w.heap.size w wc))
  case first =>
    have H := HC4.out
    clear HC4
    obtain ⟨t505, A5, H⟩ := bindE H
    try dsimp only at H
    by_cases c6 : t505 = true
    · subst c6
      have H1 : ((spec_l1In.f a2 0 1000000).bind fun t506 => (spec_PartAt.j0 k l0 l1 a2 (!t506))) = some (r1, r2) := by rw [if_pos rfl] at H; exact H
      clear H
      have H := H1
      clear H1
      obtain ⟨t506, A7, H⟩ := bindE H
      try dsimp only at H
      have H' := Aside0.mk H
      clear H
      go_wp2_with (first | ((with_reducible refine gate_callee (f := 17) rfl ?_); refine gL (some 13) Try.func17 #[.slice A0 l0.length c0, .slice A1 l1.length c1] ?_; (with_reducible refine (spec_IsPlan.calls k _ _ l0 _ _ l1 true _ ?side1 ?side2 ?side3 ?side4 A5.out).mono ?_); (case side1 => exact cB HR0); (case side2 => exact HC0.out); (case side3 => exact cB HR1); (case side4 => exact HC1.out); rintro e w8 ⟨rfl, hb⟩; refine ⟨_, rfl, ?_⟩; replace HB := Aside0.mk (below_step bA hb); (try clear hb); (try clear hb2); (try clear hk); (try clear hi)) | (go_at_call 51; (with_reducible refine (spec_l1In.calls a2 0 1000000 t506 _ A7.out).mono ?_); rintro e w' ⟨rfl, ⟨nd, rfl⟩⟩))
      go_meet
      case rel => exact ⟨_, (!t506), rS, H', ⟨by first | omega | exact Nat.le_refl _⟩, ⟨bA⟩⟩
    · replace c6 := Bool.eq_false_iff.mpr c6
      subst c6
      have H1 : (spec_PartAt.j0 k l0 l1 a2 true) = some (r1, r2) := by rw [if_neg (show ¬ (false = true) by decide)] at H; exact H
      clear H
      have H := H1
      clear H1
      have H' := Aside0.mk H
      clear H
      go_wp2_with (first | ((with_reducible refine gate_callee (f := 17) rfl ?_); refine gL (some 13) Try.func17 #[.slice A0 l0.length c0, .slice A1 l1.length c1] ?_; (with_reducible refine (spec_IsPlan.calls k _ _ l0 _ _ l1 false _ ?side1 ?side2 ?side3 ?side4 A5.out).mono ?_); (case side1 => exact cB HR0); (case side2 => exact HC0.out); (case side3 => exact cB HR1); (case side4 => exact HC1.out); rintro e w9 ⟨rfl, hb⟩; refine ⟨_, rfl, ?_⟩; replace HB := Aside0.mk (below_step bA hb); (try clear hb); (try clear hb2); (try clear hk); (try clear hi)))
      go_meet
      case rel => exact ⟨_, (true), rS, H', ⟨by first | omega | exact Nat.le_refl _⟩, ⟨bA⟩⟩
  case rest =>
    clear HC4
    try clear c1
    try clear p2
    try clear c3
    try clear c6
    obtain ⟨kq, x19_3, rfl, HA, HJ3, HB⟩ := hcut
    cases kq with
    | zero => exact absurd HA.out (by simp [spec_PartAt.j0])
    | succ kj3 =>
      have H := HA.out
      clear HA
      simp only [spec_PartAt.j0] at H
      by_cases c10 : x19_3 = true
      · subst c10
        have H1 : (some ((-1), 0)) = some (r1, r2) := by rw [if_pos rfl] at H; exact H
        clear H
        have H := H1
        clear H1
        simp only [Option.some.injEq, Prod.mk.injEq] at H
        obtain ⟨rfl, rfl⟩ := H
        go_wp2
        go_ret2
        exact ⟨rA, bA⟩
      · replace c10 := Bool.eq_false_iff.mpr c10
        subst c10
        have H1 : ((spec_Cycle.f kj3 l0 l1).bind fun t507 => (if t507 = 0 then (none) else (spec_PartAt.l0 kj3 l0 l1 (Int.tmod a2 t507) 0))) = some (r1, r2) := by rw [if_neg (show ¬ (false = true) by decide)] at H; exact H
        clear H
        have H := H1
        clear H1
        obtain ⟨t507, A11, H⟩ := bindE H
        try dsimp only at H
        have c12 : ¬ (t507 = 0) := ifN' H
        replace H := ifT' H
        have c12b0 : (t507 == 0) = false := beq_eq_false_iff_ne.mpr c12
        have c12b1 : (t507 != 0) = true := bne_iff_ne.mpr c12
        have H' := Aside0.mk H
        clear H
        go_wp2_with (first | ((with_reducible refine gate_callee (f := 23) rfl ?_); refine gL (some 23) Try.func23 #[.slice A0 l0.length c0, .slice A1 l1.length c1] ?_; (with_reducible refine (spec_Cycle.calls kj3 _ _ l0 _ _ l1 t507 _ ?side1 ?side2 ?side3 ?side4 A11.out).mono ?_); (case side1 => exact cB HR0); (case side2 => exact HC0.out); (case side3 => exact cB HR1); (case side4 => exact HC1.out); rintro e w13 ⟨rfl, hb⟩; refine ⟨_, rfl, ?_⟩; replace HB := Aside0.mk (below_step bA hb); (try clear hb); (try clear hb2); (try clear hk); (try clear hi)))
        go_loopg [8, 9] kj3 (fun kq v8 v9 w' => ∃ (x8_2 : Int) (x9_2 : Int), v8 = .int .i64 x8_2 ∧ v9 = .int .i64 x9_2 ∧ Aside0 (spec_PartAt.l0 kq l0 l1 x8_2 x9_2 = some (r1, r2)) ∧ Aside0 (kq ≤ kj3) ∧ Aside0 (Below w.heap.size w w'))
        case atStart => exact ⟨(Int.tmod a2 t507), (0), rS, rS, H', ⟨Nat.le_refl _⟩, ⟨bA⟩⟩
        case round =>
          clear H'
          try clear c1
          try clear c2
          try clear p2
          try clear c3
          try clear c6
          try clear c10
          try clear c12
          try clear c12b0
          try clear c12b1
          try clear p2
          obtain ⟨x8_2, x9_2, rfl, rfl, HA, HK2, HB⟩ := hrel
          cases gk with
          | zero => exact absurd HA.out (by simp [spec_PartAt.l0])
          | succ k2 =>
            have H := HA.out
            clear HA
            simp only [spec_PartAt.l0] at H
            obtain ⟨t508, A14, H⟩ := bindE H
            try dsimp only at H
            by_cases c15 : x8_2 < t508
            · rw [if_pos c15] at H
              have c15b0 : decide (x8_2 < t508) = true := decide_eq_true c15
              clear c15
              simp only [Option.some.injEq, Prod.mk.injEq] at H
              obtain ⟨rfl, rfl⟩ := H
              go_wp2_with (first | ((with_reducible refine gate_callee (f := 64) rfl ?_); refine gL (some 30) Try.func64 #[.slice A0 l0.length c0, .slice A1 l1.length c1, .int .i64 x9_2] ?_; (with_reducible refine (spec_l8Long.calls k2 _ _ l0 _ _ l1 x9_2 t508 _ ?side1 ?side2 ?side3 ?side4 A14.out).mono ?_); (case side1 => exact cB HR0); (case side2 => exact HC0.out); (case side3 => exact cB HR1); (case side4 => exact HC1.out); rintro e w16 ⟨rfl, hb⟩; refine ⟨_, rfl, ?_⟩; replace HB := Aside0.mk (below_step bA hb); (try clear hb); (try clear hb2); (try clear hk); (try clear hi)))
              go_ret2
              exact ⟨rA, bA⟩
            · rw [if_neg c15] at H
              have c15b0 : decide (x8_2 < t508) = false := decide_eq_false c15
              clear c15
              have H' := Aside0.mk H
              clear H
              go_wp2_with (first | ((with_reducible refine gate_callee (f := 64) rfl ?_); refine gL (some 30) Try.func64 #[.slice A0 l0.length c0, .slice A1 l1.length c1, .int .i64 x9_2] ?_; (with_reducible refine (spec_l8Long.calls k2 _ _ l0 _ _ l1 x9_2 t508 _ ?side1 ?side2 ?side3 ?side4 A14.out).mono ?_); (case side1 => exact cB HR0); (case side2 => exact HC0.out); (case side3 => exact cB HR1); (case side4 => exact HC1.out); rintro e w17 ⟨rfl, hb⟩; refine ⟨_, rfl, ?_⟩; replace HB := Aside0.mk (below_step bA hb); (try clear hb); (try clear hb2); (try clear hk); (try clear hi)))
              go_roundg k2
              case measure => have := HJ3.out; have := HK2.out; omega
              case rel => exact ⟨(wrap64 (x8_2 - t508)), (wrap64 (x9_2 + 1)), rS, rS, H', ⟨by have := HJ3.out; have := HK2.out; omega⟩, ⟨bA⟩⟩

/-! ### spec_l9Light: function 69 -/
def spec_l9Light.j0 : Nat → List (S58) → List (S51) → Int → Int → Int → Bool → Bool → Option (Int)
  | 0, _, _, _, _, _, _, _ => none
  | k + 1, x0, x1, x2, x3, x4, x12, x29 => if x29 = true then (some 1) else (if x12 = true then (if 0 ≤ x2 then (if x2 < (x1.length : Int) then ((spec_FindPath.f k x0 x4).bind fun t545 => (if 0 ≤ t545 then (if t545 < (x0.length : Int) then ((spec_ClearOf.f ((rd_T58 x0 t545).f0) ((rd_T58 x0 t545).f1) ((rd_T58 x0 t545).f2) ((rd_T58 x0 t545).f3)).bind fun t547 => (if x3 < (wrap64 (((rd_T51 x1 x2).f1) + t547)) then (some 2) else (some 0))) else (none)) else (none))) else (none)) else (none)) else (some 0))
def spec_l9Light.f (k : Nat) (l0 : List (S58)) (l1 : List (S51)) (a2 : Int) (a3 : Int) (a4 : Int) : Option (Int) := if (l1.length : Int) = 0 then (none) else (if 0 ≤ (Int.tmod (wrap64 (a2 + 1)) (l1.length : Int)) then (if (Int.tmod (wrap64 (a2 + 1)) (l1.length : Int)) < (l1.length : Int) then (if 0 ≤ a2 then (if a2 < (l1.length : Int) then ((spec_l6Has.f k ((rd_T51 l1 a2).f0) a4).bind fun t541 => (if t541 = true then (if a3 < ((rd_T51 l1 a2).f1) then (spec_l9Light.j0 k l0 l1 a2 a3 a4 t541 true) else ((spec_l6Has.f k ((rd_T51 l1 (Int.tmod (wrap64 (a2 + 1)) (l1.length : Int))).f0) a4).bind fun t543 => (spec_l9Light.j0 k l0 l1 a2 a3 a4 t541 t543))) else (spec_l9Light.j0 k l0 l1 a2 a3 a4 t541 false))) else (none)) else (none)) else (none)) else (none))
theorem spec_l9Light.mono_l : ∀ k, (∀ y0 y1 y2 y3 y4 y5 y6, LeO (spec_l9Light.j0 k y0 y1 y2 y3 y4 y5 y6) (spec_l9Light.j0 (k + 1) y0 y1 y2 y3 y4 y5 y6))
  | 0 => fun _ _ _ _ _ _ _ r h => by simp [spec_l9Light.j0] at h
  | k + 1 => by
    have ih0 := spec_l9Light.mono_l k
    · intro y0 y1 y2 y3 y4 y5 y6
      unfold spec_l9Light.j0
      repeat' first | (with_reducible first | exact LeO.refl _ | exact LeO.none _ | refine LeO.ite ?_ ?_ | refine LeO.bind ?_ (fun _ => ?_) | exact ih0 _ _ _ _ _ _ _ | exact spec_FindPath.mono _ _ _ | exact spec_l6Has.mono _ _ _) | exact LeO.none _ | refine LeO.ite ?_ ?_ | refine LeO.bind ?_ (fun _ => ?_) | exact ih0 _ _ _ _ _ _ _ | exact spec_FindPath.mono _ _ _ | exact spec_l6Has.mono _ _ _
theorem spec_l9Light.mono : ∀ a0 a1 a2 a3 a4 k, LeO (spec_l9Light.f k a0 a1 a2 a3 a4) (spec_l9Light.f (k + 1) a0 a1 a2 a3 a4) := by
  intro a0 a1 a2 a3 a4 k
  have ih0 := spec_l9Light.mono_l k
  unfold spec_l9Light.f
  repeat' first | (with_reducible first | exact LeO.refl _ | exact LeO.none _ | refine LeO.ite ?_ ?_ | refine LeO.bind ?_ (fun _ => ?_) | exact ih0 _ _ _ _ _ _ _ | exact spec_FindPath.mono _ _ _ | exact spec_l6Has.mono _ _ _) | exact LeO.none _ | refine LeO.ite ?_ ?_ | refine LeO.bind ?_ (fun _ => ?_) | exact ih0 _ _ _ _ _ _ _ | exact spec_FindPath.mono _ _ _ | exact spec_l6Has.mono _ _ _
def spec_l9Light.T5 : Bool × List (List Nat × List Nat) := (true, [([], []), ([0], [0]), ([1], [1]), ([1], [1]), ([1], [1]), ([3, 4, 1], [1, 3, 4]), ([5, 1], [1, 5]), ([6, 1], [1, 6]), ([1], [1]), ([1], [1]), ([1], [1]), ([9, 10, 1, 1], [1, 9, 10]), ([8, 11, 1], [1, 8, 11]), ([12, 1], [1, 12]), ([13, 11, 1], [1, 13]), ([7, 14, 1], [1, 7, 14]), ([2, 15, 1], [1, 2, 15]), ([1, 16], [1, 16]), ([17, 14], [17])])
def spec_l9Light.B5 : List Nat := [0, 1, 3, 3, 3, 27, 59, 123, 3, 3, 3, 1539, 3843, 7939, 16131, 32763, 65535, 131071, 262143]
theorem spec_l9Light.tab5 : rtab .any (opsOf Try.f69 5) = spec_l9Light.T5 := by kernel_rfl
theorem spec_l9Light.bits5 : waitsOk spec_l9Light.T5.2 spec_l9Light.B5 = true := by kernel_rfl
set_option maxHeartbeats 8000000 in
set_option maxRecDepth 100000 in
theorem spec_l9Light.calls (k : Nat) (A0 : Option Addr) (c0 : Nat) (l0 : List (S58)) (A1 : Option Addr) (c1 : Nat) (l1 : List (S51)) (a2 : Int) (a3 : Int) (a4 : Int) (r : Int) (w : World) (hr0 : Kd.C k58 w A0 l0.length l0) (hc0 : l0.length ≤ c0) (hr1 : Kd.C k51 w A1 l1.length l1) (hc1 : l1.length ≤ c1) (h : spec_l9Light.f k l0 l1 a2 a3 a4 = some r) :
    Calls Try.prog 69 #[.slice A0 l0.length c0, .slice A1 l1.length c1, .int .i64 a2, .int .i64 a3, .int .i64 a4] w fun e w' => e = .returned (.int .i64 r) ∧ Below w.heap.size w w' := by
  have hu58 := Try.underlying58
  have HR0 := Aside0.mk hr0
  have HC0 := Aside0.mk hc0
  clear hr0 hc0
  have HR1 := Aside0.mk hr1
  have HC1 := Aside0.mk hc1
  clear hr1 hc1
  have HB := Aside0.mk (Below.refl w.heap.size w)
  have H : (if (l1.length : Int) = 0 then (none) else (if 0 ≤ (Int.tmod (wrap64 (a2 + 1)) (l1.length : Int)) then (if (Int.tmod (wrap64 (a2 + 1)) (l1.length : Int)) < (l1.length : Int) then (if 0 ≤ a2 then (if a2 < (l1.length : Int) then ((spec_l6Has.f k ((rd_T51 l1 a2).f0) a4).bind fun t541 => (if t541 = true then (if a3 < ((rd_T51 l1 a2).f1) then (spec_l9Light.j0 k l0 l1 a2 a3 a4 t541 true) else ((spec_l6Has.f k ((rd_T51 l1 (Int.tmod (wrap64 (a2 + 1)) (l1.length : Int))).f0) a4).bind fun t543 => (spec_l9Light.j0 k l0 l1 a2 a3 a4 t541 t543))) else (spec_l9Light.j0 k l0 l1 a2 a3 a4 t541 false))) else (none)) else (none)) else (none)) else (none))) = some r := h
  clear h
  have c6 : ¬ ((l1.length : Int) = 0) := ifN' H
  replace H := ifT' H
  have c6b0 : ((l1.length : Int) == 0) = false := beq_eq_false_iff_ne.mpr c6
  have c6b1 : ((l1.length : Int) != 0) = true := bne_iff_ne.mpr c6
  have c6b2 : ¬ (l1 = []) := fun h_ => c6 (by rw [h_]; rfl)
  obtain ⟨ji7, hji7⟩ : ∃ j_ : Int, (Int.tmod (wrap64 (a2 + 1)) (l1.length : Int)) = j_ := ⟨_, rfl⟩
  replace H : (if 0 ≤ (ji7) then (if (ji7) < (l1.length : Int) then (if 0 ≤ a2 then (if a2 < (l1.length : Int) then ((spec_l6Has.f k ((rd_T51 l1 a2).f0) a4).bind fun t541 => (if t541 = true then (if a3 < ((rd_T51 l1 a2).f1) then (spec_l9Light.j0 k l0 l1 a2 a3 a4 t541 true) else ((spec_l6Has.f k ((rd_T51 l1 (ji7)).f0) a4).bind fun t543 => (spec_l9Light.j0 k l0 l1 a2 a3 a4 t541 t543))) else (spec_l9Light.j0 k l0 l1 a2 a3 a4 t541 false))) else (none)) else (none)) else (none)) else (none)) = some r := by first | (rw [hji7] at H; exact H) | (simp only [hji7] at H ⊢; exact H)
  have c8 : 0 ≤ (ji7) := ifN H
  replace H := ifT H
  have c8b0 : decide (0 ≤ (ji7)) = true := decide_eq_true c8
  clear c8
  have c9 : (ji7) < (l1.length : Int) := ifN H
  replace H := ifT H
  have c9b0 : decide ((ji7) < (l1.length : Int)) = true := decide_eq_true c9
  clear c9
  have c10 : 0 ≤ a2 := ifN H
  replace H := ifT H
  have c10b0 : decide (0 ≤ a2) = true := decide_eq_true c10
  clear c10
  have c11 : a2 < (l1.length : Int) := ifN H
  replace H := ifT H
  have c11b0 : decide (a2 < (l1.length : Int)) = true := decide_eq_true c11
  clear c11
  obtain ⟨t541, A12, H⟩ := bindE H
  try dsimp only at H
  have HC13 := Aside0.mk H
  clear H
  have p539 : 0 ≤ ((ji7) : Int) := dA
  have q539 : (ji7) < (l1.length : Int) := dA
  obtain ⟨ad539, A539_0, c539_0, e539, hx539_0, hx539_1, hl539_0, hi539_0⟩ := at_T51 HR1.out (ji7) p539 q539
  cases e539
  have HR539_0 := Aside0.mk hi539_0
  have HC539_0 := Aside0.mk hl539_0
  clear hi539_0 hl539_0
  replace p539 := eq_true p539
  replace q539 := eq_true q539
  have p540 : 0 ≤ (a2 : Int) := dA
  have q540 : a2 < (l1.length : Int) := dA
  obtain ⟨ad540, A540_0, c540_0, e540, hx540_0, hx540_1, hl540_0, hi540_0⟩ := at_T51 HR1.out a2 p540 q540
  obtain rfl : ad539 = ad540 := (by injection e540)
  have HR540_0 := Aside0.mk hi540_0
  have HC540_0 := Aside0.mk hl540_0
  clear hi540_0 hl540_0
  replace p540 := eq_true p540
  replace q540 := eq_true q540
  go_enter Try.func69, Try.ntmps69
  go_upto_region 3 with (first | ((with_reducible refine gate_callee (f := 78) rfl ?_); refine gL (some 28) Try.func78 #[.slice A540_0 ((rd_T51 l1 a2).f0).length c540_0, .int .i64 a4] ?_; (with_reducible refine (spec_l6Has.calls k _ _ ((rd_T51 l1 a2).f0) a4 t541 _ ?side1 ?side2 A12.out).mono ?_); (case side1 => exact cO HR540_0); (case side2 => exact HC540_0.out); rintro e w' ⟨rfl, ⟨nd, rfl⟩⟩; refine ⟨_, rfl, ?_⟩))
  (try simp only [Act.put, List.setIfInBounds_toArray, List.set_cons_zero, List.set_cons_succ])
  go_cut [29] (fun v29 wc => ∃ (kq : Nat) (x29_12 : Bool), v29 = .bool x29_12 ∧ Aside0 (spec_l9Light.j0 kq l0 l1 a2 a3 a4 t541 x29_12 = some r) ∧ Aside0 (kq ≤ k) ∧ Aside0 (Below w.heap.size w wc))
  case first =>
    have H := HC13.out
    clear HC13
    by_cases c14 : t541 = true
    · subst c14
      have H1 : (if a3 < ((rd_T51 l1 a2).f1) then (spec_l9Light.j0 k l0 l1 a2 a3 a4 true true) else ((spec_l6Has.f k ((rd_T51 l1 (ji7)).f0) a4).bind fun t543 => (spec_l9Light.j0 k l0 l1 a2 a3 a4 true t543))) = some r := by rw [if_pos rfl] at H; exact H
      clear H
      have H := H1
      clear H1
      by_cases c15 : a3 < ((rd_T51 l1 a2).f1)
      · rw [if_pos c15] at H
        have c15b0 : decide (a3 < ((rd_T51 l1 a2).f1)) = true := decide_eq_true c15
        clear c15
        (first | rw [c15b0] | (simp only [i64_w, i32_w]; rw [c15b0]) | skip)
        have H' := Aside0.mk H
        clear H
        have p542 : 0 ≤ (a2 : Int) := dA
        have q542 : a2 < (l1.length : Int) := dA
        obtain ⟨ad542, A542_0, c542_0, e542, hx542_0, hx542_1, hl542_0, hi542_0⟩ := at_T51 HR1.out a2 p542 q542
        obtain rfl : ad539 = ad542 := (by injection e542)
        replace hx542_0 := hC HB hx542_0
        replace hx542_1 := hC HB hx542_1
        have HR542_0 := Aside0.mk hi542_0
        have HC542_0 := Aside0.mk hl542_0
        clear hi542_0 hl542_0
        replace p542 := eq_true p542
        replace q542 := eq_true q542
        go_wp2
        go_meet
        case rel => exact ⟨_, (true), rS, H', ⟨by first | omega | exact Nat.le_refl _⟩, ⟨bA⟩⟩
      · rw [if_neg c15] at H
        have c15b0 : decide (a3 < ((rd_T51 l1 a2).f1)) = false := decide_eq_false c15
        clear c15
        (first | rw [c15b0] | (simp only [i64_w, i32_w]; rw [c15b0]) | skip)
        obtain ⟨t543, A16, H⟩ := bindE H
        try dsimp only at H
        have H' := Aside0.mk H
        clear H
        have p542 : 0 ≤ (a2 : Int) := dA
        have q542 : a2 < (l1.length : Int) := dA
        obtain ⟨ad542, A542_0, c542_0, e542, hx542_0, hx542_1, hl542_0, hi542_0⟩ := at_T51 HR1.out a2 p542 q542
        obtain rfl : ad539 = ad542 := (by injection e542)
        replace hx542_0 := hC HB hx542_0
        replace hx542_1 := hC HB hx542_1
        have HR542_0 := Aside0.mk hi542_0
        have HC542_0 := Aside0.mk hl542_0
        clear hi542_0 hl542_0
        replace p542 := eq_true p542
        replace q542 := eq_true q542
        go_wp2_with (first | (go_at_call 78; (with_reducible refine (spec_l6Has.calls k _ _ ((rd_T51 l1 (ji7)).f0) a4 t543 _ ?side1 ?side2 A16.out).mono ?_); (case side1 => exact cB HR539_0); (case side2 => exact HC539_0.out); rintro e w' ⟨rfl, ⟨nd, rfl⟩⟩))
        go_meet
        case rel => exact ⟨_, (t543), rS, H', ⟨by first | omega | exact Nat.le_refl _⟩, ⟨bA⟩⟩
    · replace c14 := Bool.eq_false_iff.mpr c14
      subst c14
      have H1 : (spec_l9Light.j0 k l0 l1 a2 a3 a4 false false) = some r := by rw [if_neg (show ¬ (false = true) by decide)] at H; exact H
      clear H
      have H := H1
      clear H1
      have H' := Aside0.mk H
      clear H
      go_wp2
      go_meet
      case rel => exact ⟨_, (false), rS, H', ⟨by first | omega | exact Nat.le_refl _⟩, ⟨bA⟩⟩
  case rest =>
    clear HC13
    try clear c1
    try clear p2
    try clear c5
    try clear p5
    try clear q5
    try clear hx5
    try clear c6
    try clear c6b0
    try clear c6b1
    try clear c6b2
    try clear p6
    try clear c7
    try clear c8
    try clear c8b0
    try clear c9
    try clear c9b0
    try clear c10
    try clear c10b0
    try clear c11
    try clear c11b0
    try clear c14
    try clear c15
    try clear c15b0
    try clear hx539_0
    try clear hx539_1
    try clear hx540_0
    try clear hx540_1
    try clear hx542_0
    try clear hx542_1
    try clear p539
    try clear p540
    try clear p542
    try clear q539
    try clear q540
    try clear q542
    obtain ⟨kq, x29_12, rfl, HA, HJ12, HB⟩ := hcut
    cases kq with
    | zero => exact absurd HA.out (by simp [spec_l9Light.j0])
    | succ kj12 =>
      have H := HA.out
      clear HA
      simp only [spec_l9Light.j0] at H
      by_cases c17 : x29_12 = true
      · subst c17
        have H1 : (some 1) = some r := by rw [if_pos rfl] at H; exact H
        clear H
        have H := H1
        clear H1
        obtain rfl := Option.some.inj H
        go_wp2
        go_ret
        exact ⟨by first | rfl | (simp [errW_none, errW_some] <;> rfl) | (simp only [← hji7]; first | rfl | (simp [errW_none, errW_some] <;> rfl)) | (simp [*, errW_none, errW_some] <;> rfl), bA⟩
      · replace c17 := Bool.eq_false_iff.mpr c17
        subst c17
        have H1 : (if t541 = true then (if 0 ≤ a2 then (if a2 < (l1.length : Int) then ((spec_FindPath.f kj12 l0 a4).bind fun t545 => (if 0 ≤ t545 then (if t545 < (l0.length : Int) then ((spec_ClearOf.f ((rd_T58 l0 t545).f0) ((rd_T58 l0 t545).f1) ((rd_T58 l0 t545).f2) ((rd_T58 l0 t545).f3)).bind fun t547 => (if a3 < (wrap64 (((rd_T51 l1 a2).f1) + t547)) then (some 2) else (some 0))) else (none)) else (none))) else (none)) else (none)) else (some 0)) = some r := by rw [if_neg (show ¬ (false = true) by decide)] at H; exact H
        clear H
        have H := H1
        clear H1
        by_cases c18 : t541 = true
        · subst c18
          have H1 : (if 0 ≤ a2 then (if a2 < (l1.length : Int) then ((spec_FindPath.f kj12 l0 a4).bind fun t545 => (if 0 ≤ t545 then (if t545 < (l0.length : Int) then ((spec_ClearOf.f ((rd_T58 l0 t545).f0) ((rd_T58 l0 t545).f1) ((rd_T58 l0 t545).f2) ((rd_T58 l0 t545).f3)).bind fun t547 => (if a3 < (wrap64 (((rd_T51 l1 a2).f1) + t547)) then (some 2) else (some 0))) else (none)) else (none))) else (none)) else (none)) = some r := by rw [if_pos rfl] at H; exact H
          clear H
          have H := H1
          clear H1
          have c19 : 0 ≤ a2 := ifN H
          replace H := ifT H
          have c19b0 : decide (0 ≤ a2) = true := decide_eq_true c19
          clear c19
          have c20 : a2 < (l1.length : Int) := ifN H
          replace H := ifT H
          have c20b0 : decide (a2 < (l1.length : Int)) = true := decide_eq_true c20
          clear c20
          obtain ⟨t545, A21, H⟩ := bindE H
          try dsimp only at H
          have c22 : 0 ≤ t545 := ifN H
          replace H := ifT H
          have c22b0 : decide (0 ≤ t545) = true := decide_eq_true c22
          clear c22
          have c23 : t545 < (l0.length : Int) := ifN H
          replace H := ifT H
          have c23b0 : decide (t545 < (l0.length : Int)) = true := decide_eq_true c23
          clear c23
          obtain ⟨t547, A24, H⟩ := bindE H
          try dsimp only at H
          by_cases c25 : a3 < (wrap64 (((rd_T51 l1 a2).f1) + t547))
          · rw [if_pos c25] at H
            have c25b0 : decide (a3 < (wrap64 (((rd_T51 l1 a2).f1) + t547))) = true := decide_eq_true c25
            clear c25
            obtain rfl := Option.some.inj H
            try go_wp2
            have HBo := HB
            replace HB := Aside0.mk (below_drew1 HB.out)
            have p544 : 0 ≤ (a2 : Int) := dA
            have q544 : a2 < (l1.length : Int) := dA
            obtain ⟨ad544, A544_0, c544_0, e544, hx544_0, hx544_1, hl544_0, hi544_0⟩ := at_T51 HR1.out a2 p544 q544
            have hw544_1 := hx544_1
            have hw544_0 := hx544_0
            obtain rfl : ad539 = ad544 := (by injection e544)
            replace hx544_0 := hC HB hx544_0
            replace hx544_1 := hC HB hx544_1
            have HR544_0 := Aside0.mk hi544_0
            have HC544_0 := Aside0.mk hl544_0
            clear hi544_0 hl544_0
            replace p544 := eq_true p544
            replace q544 := eq_true q544
            have p546 : 0 ≤ (t545 : Int) := dA
            have q546 : t545 < (l0.length : Int) := dA
            obtain ⟨ad546, e546, hx546_0, hx546_1, hx546_2, hx546_3⟩ := at_T58 HR0.out t545 p546 q546
            have hw546_3 := hx546_3
            have hw546_2 := hx546_2
            have hw546_1 := hx546_1
            have hw546_0 := hx546_0
            cases e546
            replace hx546_0 := hC HB hx546_0
            replace hx546_1 := hC HB hx546_1
            replace hx546_2 := hC HB hx546_2
            replace hx546_3 := hC HB hx546_3
            replace p546 := eq_true p546
            replace q546 := eq_true q546
            refine start_ (n := 19) (S := fun w' => w'.cell? (ad539.add ((a2).toNat * 2)) = some (.slice A544_0 ((rd_T51 l1 a2).f0).length c544_0) ∧ w'.cell? ⟨(ad539.add ((a2).toNat * 2)).block, (ad539.add ((a2).toNat * 2)).off + 1, none⟩ = some (.int .i64 ((rd_T51 l1 a2).f1)) ∧ w'.cell? (ad546.add ((t545).toNat * 4)) = some (.int .i64 ((rd_T58 l0 t545).f0)) ∧ w'.cell? ⟨(ad546.add ((t545).toNat * 4)).block, (ad546.add ((t545).toNat * 4)).off + 1, none⟩ = some (.int .i64 ((rd_T58 l0 t545).f1)) ∧ w'.cell? ⟨(ad546.add ((t545).toNat * 4)).block, (ad546.add ((t545).toNat * 4)).off + 2, none⟩ = some (.int .i64 ((rd_T58 l0 t545).f2)) ∧ w'.cell? ⟨(ad546.add ((t545).toNat * 4)).block, (ad546.add ((t545).toNat * 4)).off + 3, none⟩ = some (.int .i64 ((rd_T58 l0 t545).f3))) (ds := []) (mb 19 0) (by kernel_rfl) rfl rfl ⟨(hC HB hw544_0), (hC HB hw544_1), (hC HB hw546_0), (hC HB hw546_1), (hC HB hw546_2), (hC HB hw546_3)⟩ (fun hHeld => ?_); refine with_tabW spec_l9Light.tab5 spec_l9Light.bits5 (fun HT_ HW_ => ?_)
            generalize wc.drew = w26 at HB HR544_0 hx544_0 hx544_1 hx546_0 hx546_1 hx546_2 hx546_3 hHeld ⊢
            refine pA (i := 0) (N := some 46) (mb 19 1) HT_ ?_
            refine pA (i := 1) (N := some 47) (mb 19 3) HT_ ?_
            refine pA (i := 2) (N := some 48) (mb 19 7) HT_ ?_
            refine pA (i := 3) (N := some 49) (mb 19 15) HT_ ?_
            refine pA (i := 4) (N := some 50) (mb 19 31) HT_ ?_
            refine pA (i := 5) (N := some 51) (mb 19 63) HT_ ?_
            refine pA (i := 6) (N := some 52) (mb 19 127) HT_ ?_
            refine pA (i := 8) (N := some 54) (mb 19 383) HT_ ?_
            refine pA (i := 9) (N := some 55) (mb 19 895) HT_ ?_
            refine pA (i := 10) (N := some 56) (mb 19 1919) HT_ ?_
            refine tA6 (i := 7) (N := some 53) (mb 19 2047) HT_ HW_ hHeld ?_
            refine oA (i := 11) (N := some 57) (mb 19 4095) HT_ (fun K hK => ?_)
            refine gA Try.func68 #[.slice (some ad546) l0.length c0, .int .i64 a4] ?_
            with_reducible refine (spec_FindPath.calls kj12 _ _ l0 a4 t545 _ ?side1 ?side2 A21.out).mono ?_
            (case side1 => exact cB HR0)
            (case side2 => exact HC0.out)
            rintro e w' ⟨rfl, ⟨nd, rfl⟩⟩
            refine ⟨_, rfl, ?_⟩
            refine hK.out _ _ ⟨(hC HB hw544_0), (hC HB hw544_1), (hC HB hw546_0), (hC HB hw546_1), (hC HB hw546_2), (hC HB hw546_3)⟩ (fun hHeld => ?_)
            clear hK K
            refine nA ?_
            refine pA (i := 12) (N := some 58) (mb 19 8191) HT_ ?_
            refine tA6 (i := 13) (N := some 59) (mb 19 16383) HT_ HW_ hHeld ?_
            refine oA (i := 14) (N := some 60) (mb 19 32767) HT_ (fun K hK => ?_)
            refine gA Try.func86 #[.agg #[.int .i64 ((rd_T58 l0 t545).f0), .int .i64 ((rd_T58 l0 t545).f1), .int .i64 ((rd_T58 l0 t545).f2), .int .i64 ((rd_T58 l0 t545).f3)]] ?_
            with_reducible refine (spec_ClearOf.calls ((rd_T58 l0 t545).f0) ((rd_T58 l0 t545).f1) ((rd_T58 l0 t545).f2) ((rd_T58 l0 t545).f3) t547 _ A24.out).mono ?_
            rintro e w27 ⟨rfl, hb⟩
            refine ⟨_, rfl, ?_⟩
            replace HB := Aside0.mk (below_step bA hb)
            (try clear hb)
            (try clear hb2)
            (try clear hk)
            (try clear hi)
            refine hK.out _ _ ⟨(hC HB hw544_0), (hC HB hw544_1), (hC HB hw546_0), (hC HB hw546_1), (hC HB hw546_2), (hC HB hw546_3)⟩ (fun hHeld => ?_)
            clear hK K
            refine nA ?_
            refine pA (i := 15) (N := some 61) (mb 19 65535) HT_ ?_
            refine pA (i := 16) (N := some 62) (mb 19 131071) HT_ ?_
            refine pA (i := 17) (N := some 63) (mb 19 262143) HT_ ?_
            refine pA (i := 18) (N := some 45) (mb 19 524287) HT_ ?_
            refine eA HT_ ?_
            try go_wp2
            go_ret
            exact ⟨by first | rfl | (simp [errW_none, errW_some] <;> rfl) | (simp only [← hji7]; first | rfl | (simp [errW_none, errW_some] <;> rfl)) | (simp [*, errW_none, errW_some] <;> rfl), bA⟩
          · rw [if_neg c25] at H
            have c25b0 : decide (a3 < (wrap64 (((rd_T51 l1 a2).f1) + t547))) = false := decide_eq_false c25
            clear c25
            obtain rfl := Option.some.inj H
            try go_wp2
            have HBo := HB
            replace HB := Aside0.mk (below_drew1 HB.out)
            have p544 : 0 ≤ (a2 : Int) := dA
            have q544 : a2 < (l1.length : Int) := dA
            obtain ⟨ad544, A544_0, c544_0, e544, hx544_0, hx544_1, hl544_0, hi544_0⟩ := at_T51 HR1.out a2 p544 q544
            have hw544_1 := hx544_1
            have hw544_0 := hx544_0
            obtain rfl : ad539 = ad544 := (by injection e544)
            replace hx544_0 := hC HB hx544_0
            replace hx544_1 := hC HB hx544_1
            have HR544_0 := Aside0.mk hi544_0
            have HC544_0 := Aside0.mk hl544_0
            clear hi544_0 hl544_0
            replace p544 := eq_true p544
            replace q544 := eq_true q544
            have p546 : 0 ≤ (t545 : Int) := dA
            have q546 : t545 < (l0.length : Int) := dA
            obtain ⟨ad546, e546, hx546_0, hx546_1, hx546_2, hx546_3⟩ := at_T58 HR0.out t545 p546 q546
            have hw546_3 := hx546_3
            have hw546_2 := hx546_2
            have hw546_1 := hx546_1
            have hw546_0 := hx546_0
            cases e546
            replace hx546_0 := hC HB hx546_0
            replace hx546_1 := hC HB hx546_1
            replace hx546_2 := hC HB hx546_2
            replace hx546_3 := hC HB hx546_3
            replace p546 := eq_true p546
            replace q546 := eq_true q546
            refine start_ (n := 19) (S := fun w' => w'.cell? (ad539.add ((a2).toNat * 2)) = some (.slice A544_0 ((rd_T51 l1 a2).f0).length c544_0) ∧ w'.cell? ⟨(ad539.add ((a2).toNat * 2)).block, (ad539.add ((a2).toNat * 2)).off + 1, none⟩ = some (.int .i64 ((rd_T51 l1 a2).f1)) ∧ w'.cell? (ad546.add ((t545).toNat * 4)) = some (.int .i64 ((rd_T58 l0 t545).f0)) ∧ w'.cell? ⟨(ad546.add ((t545).toNat * 4)).block, (ad546.add ((t545).toNat * 4)).off + 1, none⟩ = some (.int .i64 ((rd_T58 l0 t545).f1)) ∧ w'.cell? ⟨(ad546.add ((t545).toNat * 4)).block, (ad546.add ((t545).toNat * 4)).off + 2, none⟩ = some (.int .i64 ((rd_T58 l0 t545).f2)) ∧ w'.cell? ⟨(ad546.add ((t545).toNat * 4)).block, (ad546.add ((t545).toNat * 4)).off + 3, none⟩ = some (.int .i64 ((rd_T58 l0 t545).f3))) (ds := []) (mb 19 0) (by kernel_rfl) rfl rfl ⟨(hC HB hw544_0), (hC HB hw544_1), (hC HB hw546_0), (hC HB hw546_1), (hC HB hw546_2), (hC HB hw546_3)⟩ (fun hHeld => ?_); refine with_tabW spec_l9Light.tab5 spec_l9Light.bits5 (fun HT_ HW_ => ?_)
            generalize wc.drew = w28 at HB HR544_0 hx544_0 hx544_1 hx546_0 hx546_1 hx546_2 hx546_3 hHeld ⊢
            refine pA (i := 0) (N := some 46) (mb 19 1) HT_ ?_
            refine pA (i := 1) (N := some 47) (mb 19 3) HT_ ?_
            refine pA (i := 2) (N := some 48) (mb 19 7) HT_ ?_
            refine pA (i := 3) (N := some 49) (mb 19 15) HT_ ?_
            refine pA (i := 4) (N := some 50) (mb 19 31) HT_ ?_
            refine pA (i := 5) (N := some 51) (mb 19 63) HT_ ?_
            refine pA (i := 6) (N := some 52) (mb 19 127) HT_ ?_
            refine pA (i := 8) (N := some 54) (mb 19 383) HT_ ?_
            refine pA (i := 9) (N := some 55) (mb 19 895) HT_ ?_
            refine pA (i := 10) (N := some 56) (mb 19 1919) HT_ ?_
            refine tA6 (i := 7) (N := some 53) (mb 19 2047) HT_ HW_ hHeld ?_
            refine oA (i := 11) (N := some 57) (mb 19 4095) HT_ (fun K hK => ?_)
            refine gA Try.func68 #[.slice (some ad546) l0.length c0, .int .i64 a4] ?_
            with_reducible refine (spec_FindPath.calls kj12 _ _ l0 a4 t545 _ ?side1 ?side2 A21.out).mono ?_
            (case side1 => exact cB HR0)
            (case side2 => exact HC0.out)
            rintro e w' ⟨rfl, ⟨nd, rfl⟩⟩
            refine ⟨_, rfl, ?_⟩
            refine hK.out _ _ ⟨(hC HB hw544_0), (hC HB hw544_1), (hC HB hw546_0), (hC HB hw546_1), (hC HB hw546_2), (hC HB hw546_3)⟩ (fun hHeld => ?_)
            clear hK K
            refine nA ?_
            refine pA (i := 12) (N := some 58) (mb 19 8191) HT_ ?_
            refine tA6 (i := 13) (N := some 59) (mb 19 16383) HT_ HW_ hHeld ?_
            refine oA (i := 14) (N := some 60) (mb 19 32767) HT_ (fun K hK => ?_)
            refine gA Try.func86 #[.agg #[.int .i64 ((rd_T58 l0 t545).f0), .int .i64 ((rd_T58 l0 t545).f1), .int .i64 ((rd_T58 l0 t545).f2), .int .i64 ((rd_T58 l0 t545).f3)]] ?_
            with_reducible refine (spec_ClearOf.calls ((rd_T58 l0 t545).f0) ((rd_T58 l0 t545).f1) ((rd_T58 l0 t545).f2) ((rd_T58 l0 t545).f3) t547 _ A24.out).mono ?_
            rintro e w29 ⟨rfl, hb⟩
            refine ⟨_, rfl, ?_⟩
            replace HB := Aside0.mk (below_step bA hb)
            (try clear hb)
            (try clear hb2)
            (try clear hk)
            (try clear hi)
            refine hK.out _ _ ⟨(hC HB hw544_0), (hC HB hw544_1), (hC HB hw546_0), (hC HB hw546_1), (hC HB hw546_2), (hC HB hw546_3)⟩ (fun hHeld => ?_)
            clear hK K
            refine nA ?_
            refine pA (i := 15) (N := some 61) (mb 19 65535) HT_ ?_
            refine pA (i := 16) (N := some 62) (mb 19 131071) HT_ ?_
            refine pA (i := 17) (N := some 63) (mb 19 262143) HT_ ?_
            refine pA (i := 18) (N := some 45) (mb 19 524287) HT_ ?_
            refine eA HT_ ?_
            try go_wp2
            go_ret
            exact ⟨by first | rfl | (simp [errW_none, errW_some] <;> rfl) | (simp only [← hji7]; first | rfl | (simp [errW_none, errW_some] <;> rfl)) | (simp [*, errW_none, errW_some] <;> rfl), bA⟩
        · replace c18 := Bool.eq_false_iff.mpr c18
          subst c18
          have H1 : (some 0) = some r := by rw [if_neg (show ¬ (false = true) by decide)] at H; exact H
          clear H
          have H := H1
          clear H1
          obtain rfl := Option.some.inj H
          try go_wp2
          have HBo := HB
          replace HB := Aside0.mk (below_drew1 HB.out)
          refine start_ (n := 19) (S := fun w' => True) (ds := []) (mb 19 0) (by kernel_rfl) rfl rfl trivial (fun hHeld => ?_); refine with_tabW spec_l9Light.tab5 spec_l9Light.bits5 (fun HT_ HW_ => ?_)
          generalize wc.drew = w30 at HB hHeld ⊢
          refine pA (i := 0) (N := some 46) (mb 19 1) HT_ ?_
          refine pA (i := 1) (N := some 47) (mb 19 3) HT_ ?_
          refine pU (i := 2) (N := some 48) (mb 19 7) HT_ ?_
          refine pU (i := 3) (N := some 49) (mb 19 15) HT_ ?_
          refine pU (i := 4) (N := some 50) (mb 19 31) HT_ ?_
          refine pU (i := 5) (N := some 51) (mb 19 63) HT_ ?_
          refine pU (i := 6) (N := some 52) (mb 19 127) HT_ ?_
          refine pU (i := 7) (N := some 53) (mb 19 255) HT_ ?_
          refine pU (i := 8) (N := some 54) (mb 19 511) HT_ ?_
          refine pU (i := 9) (N := some 55) (mb 19 1023) HT_ ?_
          refine pU (i := 10) (N := some 56) (mb 19 2047) HT_ ?_
          refine pU (i := 11) (N := some 57) (mb 19 4095) HT_ ?_
          refine pU (i := 12) (N := some 58) (mb 19 8191) HT_ ?_
          refine pU (i := 13) (N := some 59) (mb 19 16383) HT_ ?_
          refine pU (i := 14) (N := some 60) (mb 19 32767) HT_ ?_
          refine pU (i := 15) (N := some 61) (mb 19 65535) HT_ ?_
          refine pU (i := 16) (N := some 62) (mb 19 131071) HT_ ?_
          refine pA (i := 17) (N := some 63) (mb 19 262143) HT_ ?_
          refine pA (i := 18) (N := some 45) (mb 19 524287) HT_ ?_
          refine eA HT_ ?_
          try go_wp2
          go_ret
          exact ⟨by first | rfl | (simp [errW_none, errW_some] <;> rfl) | (simp only [← hji7]; first | rfl | (simp [errW_none, errW_some] <;> rfl)) | (simp [*, errW_none, errW_some] <;> rfl), bA⟩

/-! ### spec_LightAt: function 33 -/
def spec_LightAt.f (k : Nat) (l0 : List (S58)) (l1 : List (S51)) (a2 : Int) (a3 : Int) : Option (Int) := (spec_PartAt.f k l0 l1 a2).bind fun bt548 => (if bt548.1 < 0 then (some 0) else ((spec_FindPath.f k l0 a3).bind fun t550 => (if t550 < 0 then (some 0) else ((spec_l9Light.f k l0 l1 bt548.1 bt548.2 a3).bind fun t551 => (some t551)))))
theorem spec_LightAt.mono : ∀ a0 a1 a2 a3 k, LeO (spec_LightAt.f k a0 a1 a2 a3) (spec_LightAt.f (k + 1) a0 a1 a2 a3) := by
  intro a0 a1 a2 a3 k
  unfold spec_LightAt.f
  repeat' first | (with_reducible first | exact LeO.refl _ | exact LeO.none _ | refine LeO.ite ?_ ?_ | refine LeO.bind ?_ (fun _ => ?_) | exact spec_FindPath.mono _ _ _ | exact spec_PartAt.mono _ _ _ _ | exact spec_l9Light.mono _ _ _ _ _ _) | exact LeO.none _ | refine LeO.ite ?_ ?_ | refine LeO.bind ?_ (fun _ => ?_) | exact spec_FindPath.mono _ _ _ | exact spec_PartAt.mono _ _ _ _ | exact spec_l9Light.mono _ _ _ _ _ _
set_option maxHeartbeats 8000000 in
set_option maxRecDepth 100000 in
theorem spec_LightAt.calls (k : Nat) (A0 : Option Addr) (c0 : Nat) (l0 : List (S58)) (A1 : Option Addr) (c1 : Nat) (l1 : List (S51)) (a2 : Int) (a3 : Int) (r : Int) (w : World) (hr0 : Kd.C k58 w A0 l0.length l0) (hc0 : l0.length ≤ c0) (hr1 : Kd.C k51 w A1 l1.length l1) (hc1 : l1.length ≤ c1) (h : spec_LightAt.f k l0 l1 a2 a3 = some r) :
    Calls Try.prog 33 #[.slice A0 l0.length c0, .slice A1 l1.length c1, .int .i64 a2, .int .i64 a3] w fun e w' => e = .returned (.int .i64 r) ∧ Below w.heap.size w w' := by
  have HR0 := Aside0.mk hr0
  have HC0 := Aside0.mk hc0
  clear hr0 hc0
  have HR1 := Aside0.mk hr1
  have HC1 := Aside0.mk hc1
  clear hr1 hc1
  have HB := Aside0.mk (Below.refl w.heap.size w)
  have H : ((spec_PartAt.f k l0 l1 a2).bind fun bt548 => (if bt548.1 < 0 then (some 0) else ((spec_FindPath.f k l0 a3).bind fun t550 => (if t550 < 0 then (some 0) else ((spec_l9Light.f k l0 l1 bt548.1 bt548.2 a3).bind fun t551 => (some t551)))))) = some r := h
  clear h
  obtain ⟨⟨t548, t549⟩, A5, H⟩ := bindE H
  try dsimp only at H
  by_cases c6 : t548 < 0
  · rw [if_pos c6] at H
    have c6b0 : decide (t548 < 0) = true := decide_eq_true c6
    clear c6
    obtain rfl := Option.some.inj H
    go_enter Try.func33, Try.ntmps33
    go_wp2_with (first | ((with_reducible refine gate_callee (f := 31) rfl ?_); refine gL (some 15) Try.func31 #[.slice A0 l0.length c0, .slice A1 l1.length c1, .int .i64 a2] ?_; (with_reducible refine (spec_PartAt.calls k _ _ l0 _ _ l1 a2 t548 t549 _ ?side1 ?side2 ?side3 ?side4 A5.out).mono ?_); (case side1 => exact cO HR0); (case side2 => exact HC0.out); (case side3 => exact cO HR1); (case side4 => exact HC1.out); rintro e w7 ⟨rfl, hb⟩; refine ⟨_, rfl, ?_⟩; replace HB := Aside0.mk (below_step bA hb); (try clear hb); (try clear hb2); (try clear hk); (try clear hi)))
    go_ret
    exact ⟨rA, bA⟩
  · rw [if_neg c6] at H
    have c6b0 : decide (t548 < 0) = false := decide_eq_false c6
    clear c6
    obtain ⟨t550, A8, H⟩ := bindE H
    try dsimp only at H
    by_cases c9 : t550 < 0
    · rw [if_pos c9] at H
      have c9b0 : decide (t550 < 0) = true := decide_eq_true c9
      clear c9
      obtain rfl := Option.some.inj H
      go_enter Try.func33, Try.ntmps33
      go_wp2_with (first | ((with_reducible refine gate_callee (f := 31) rfl ?_); refine gL (some 15) Try.func31 #[.slice A0 l0.length c0, .slice A1 l1.length c1, .int .i64 a2] ?_; (with_reducible refine (spec_PartAt.calls k _ _ l0 _ _ l1 a2 t548 t549 _ ?side1 ?side2 ?side3 ?side4 A5.out).mono ?_); (case side1 => exact cO HR0); (case side2 => exact HC0.out); (case side3 => exact cO HR1); (case side4 => exact HC1.out); rintro e w10 ⟨rfl, hb⟩; refine ⟨_, rfl, ?_⟩; replace HB := Aside0.mk (below_step bA hb); (try clear hb); (try clear hb2); (try clear hk); (try clear hi)) | (go_at_call 68; (with_reducible refine (spec_FindPath.calls k _ _ l0 a3 t550 _ ?side1 ?side2 A8.out).mono ?_); (case side1 => exact cB HR0); (case side2 => exact HC0.out); rintro e w' ⟨rfl, ⟨nd, rfl⟩⟩))
      go_ret
      exact ⟨rA, bA⟩
    · rw [if_neg c9] at H
      have c9b0 : decide (t550 < 0) = false := decide_eq_false c9
      clear c9
      obtain ⟨t551, A11, H⟩ := bindE H
      try dsimp only at H
      obtain rfl := Option.some.inj H
      go_enter Try.func33, Try.ntmps33
      go_wp2_with (first | ((with_reducible refine gate_callee (f := 31) rfl ?_); refine gL (some 15) Try.func31 #[.slice A0 l0.length c0, .slice A1 l1.length c1, .int .i64 a2] ?_; (with_reducible refine (spec_PartAt.calls k _ _ l0 _ _ l1 a2 t548 t549 _ ?side1 ?side2 ?side3 ?side4 A5.out).mono ?_); (case side1 => exact cO HR0); (case side2 => exact HC0.out); (case side3 => exact cO HR1); (case side4 => exact HC1.out); rintro e w12 ⟨rfl, hb⟩; refine ⟨_, rfl, ?_⟩; replace HB := Aside0.mk (below_step bA hb); (try clear hb); (try clear hb2); (try clear hk); (try clear hi)) | (go_at_call 68; (with_reducible refine (spec_FindPath.calls k _ _ l0 a3 t550 _ ?side1 ?side2 A8.out).mono ?_); (case side1 => exact cB HR0); (case side2 => exact HC0.out); rintro e w' ⟨rfl, ⟨nd, rfl⟩⟩) | ((with_reducible refine gate_callee (f := 69) rfl ?_); refine gL (some 31) Try.func69 #[.slice A0 l0.length c0, .slice A1 l1.length c1, .int .i64 t548, .int .i64 t549, .int .i64 a3] ?_; (with_reducible refine (spec_l9Light.calls k _ _ l0 _ _ l1 t548 t549 a3 t551 _ ?side1 ?side2 ?side3 ?side4 A11.out).mono ?_); (case side1 => exact cG HR0); (case side2 => exact HC0.out); (case side3 => exact cG HR1); (case side4 => exact HC1.out); rintro e w13 ⟨rfl, hb⟩; refine ⟨_, rfl, ?_⟩; replace HB := Aside0.mk (below_step bA hb); (try clear hb); (try clear hb2); (try clear hk); (try clear hi)))
      go_ret
      exact ⟨rA, bA⟩

/-! ### spec_LightsAt: function 35 -/
def spec_LightsAt.l0 : Nat → List (S58) → List (S51) → Int → List Int → Int → Option (List Int)
  | 0, _, _, _, _, _ => none
  | k + 1, x0, x1, x2, x7, x8 => if x8 < (x0.length : Int) then (if 0 ≤ x8 then ((spec_LightAt.f k x0 x1 x2 ((rd_T58 x0 x8).f0)).bind fun t595 => (if x7.length < 17592186044416 then (spec_LightsAt.l0 k x0 x1 x2 (x7 ++ [t595]) (wrap64 (x8 + 1))) else (none))) else (none)) else (some x7)
def spec_LightsAt.f (k : Nat) (l0 : List (S58)) (l1 : List (S51)) (a2 : Int) : Option (List Int) := spec_LightsAt.l0 k l0 l1 a2 (([] : List Int)) 0
theorem spec_LightsAt.mono_l : ∀ k, (∀ y0 y1 y2 y3 y4, LeO (spec_LightsAt.l0 k y0 y1 y2 y3 y4) (spec_LightsAt.l0 (k + 1) y0 y1 y2 y3 y4))
  | 0 => fun _ _ _ _ _ r h => by simp [spec_LightsAt.l0] at h
  | k + 1 => by
    have ih0 := spec_LightsAt.mono_l k
    · intro y0 y1 y2 y3 y4
      unfold spec_LightsAt.l0
      repeat' first | (with_reducible first | exact LeO.refl _ | exact LeO.none _ | refine LeO.ite ?_ ?_ | refine LeO.bind ?_ (fun _ => ?_) | exact ih0 _ _ _ _ _ | exact spec_LightAt.mono _ _ _ _ _) | exact LeO.none _ | refine LeO.ite ?_ ?_ | refine LeO.bind ?_ (fun _ => ?_) | exact ih0 _ _ _ _ _ | exact spec_LightAt.mono _ _ _ _ _
theorem spec_LightsAt.mono : ∀ a0 a1 a2 k, LeO (spec_LightsAt.f k a0 a1 a2) (spec_LightsAt.f (k + 1) a0 a1 a2) := by
  intro a0 a1 a2 k
  have ih0 := spec_LightsAt.mono_l k
  unfold spec_LightsAt.f
  repeat' first | (with_reducible first | exact LeO.refl _ | exact LeO.none _ | refine LeO.ite ?_ ?_ | refine LeO.bind ?_ (fun _ => ?_) | exact ih0 _ _ _ _ _ | exact spec_LightAt.mono _ _ _ _ _) | exact LeO.none _ | refine LeO.ite ?_ ?_ | refine LeO.bind ?_ (fun _ => ?_) | exact ih0 _ _ _ _ _ | exact spec_LightAt.mono _ _ _ _ _
set_option maxHeartbeats 8000000 in
set_option maxRecDepth 100000 in
theorem spec_LightsAt.calls (k : Nat) (A0 : Option Addr) (c0 : Nat) (l0 : List (S58)) (A1 : Option Addr) (c1 : Nat) (l1 : List (S51)) (a2 : Int) (r : List Int) (w : World) (hr0 : Kd.C k58 w A0 l0.length l0) (hc0 : l0.length ≤ c0) (hr1 : Kd.C k51 w A1 l1.length l1) (hc1 : l1.length ≤ c1) (h : spec_LightsAt.f k l0 l1 a2 = some r) :
    Calls Try.prog 35 #[.slice A0 l0.length c0, .slice A1 l1.length c1, .int .i64 a2] w fun e w' => ∃ v0_ : Value, e = .returned (v0_) ∧ Kd.R (Kd.int .i64) 3 w' w.heap.size (fun _ => True) v0_ r ∧ Below w.heap.size w w' := by
  have HR0 := Aside0.mk hr0
  have HC0 := Aside0.mk hc0
  clear hr0 hc0
  have HR1 := Aside0.mk hr1
  have HC1 := Aside0.mk hc1
  clear hr1 hc1
  have HB := Aside0.mk (Below.refl w.heap.size w)
  have H : (spec_LightsAt.l0 k l0 l1 a2 (([] : List Int)) 0) = some r := h
  clear h
  obtain ⟨y591, hy591⟩ : ∃ y_ : List Int, y_ = (([] : List Int)) := ⟨_, rfl⟩
  replace H : (spec_LightsAt.l0 k l0 l1 a2 y591 0) = some r := by first | (rw [hy591]; with_reducible exact H) | (have H2_ := (Option.bind_some _ _).symm.trans H; rw [hy591]; with_reducible exact H2_) | (have H2_ := (Option.bind_some _ _).symm.trans H; with_reducible exact H2_) | with_reducible exact H | (rw [hy591]; exact H) | exact H
  have Ny591 := Aside0.mk hy591
  clear hy591
  have H' := Aside0.mk H
  clear H
  go_enter Try.func35, Try.ntmps35
  go_wp2_with (first | ((with_reducible refine gate_dst (N := 9) rfl ?_); refine Kd.R_lit (Kd.int .i64) _ 3 ?hg (N := 9) ?hd (xs := ([] : List Int)) (inner := []) (ok := fun _ => True) (okp := fun _ => True) ?hr ?hp (fun _ hk => hk) trivial (Below.refl _ _) (Nat.le_refl _) (by simp) ?_; (case hd => rfl); (case hg => rfl); (case hr => first | (go_simp; done) | (go_simp; rfl)); (case hp => exact (Reps.none _ _)); intro v592 w4 ho5 hb hg_ hnew_; clear hg_ hnew_; (first | rw [← Ny591.out] at ho5 | (simp only [Int.reduceToNat] at ho5; rw [← Ny591.out] at ho5)); have HO593 := Aside0.mk (Kd.R_lower ho5 (below_size bA)); replace HB := Aside0.mk (below_step bA hb); clear hb ho5))
  go_loopg [7, 8] k (fun kq v7 v8 w' => ∃ (x7_1 : List Int) (x8_1 : Int), v8 = .int .i64 x8_1 ∧ Aside0 (spec_LightsAt.l0 kq l0 l1 a2 x7_1 x8_1 = some r) ∧ Aside0 (kq ≤ k) ∧ Aside0 (Kd.R (Kd.int .i64) 3 w' w.heap.size (fun _ => True) v7 x7_1) ∧ Aside0 (Below w.heap.size w w'))
  case atStart => exact ⟨(y591), (0), rS, H', ⟨Nat.le_refl _⟩, ⟨rK HO593⟩, ⟨bA⟩⟩
  case round =>
    clear H'
    try clear c1
    try clear p2
    try clear c3
    obtain ⟨x7_1, x8_1, rfl, HA, HK1, HO_7, HB⟩ := hrel
    cases gk with
    | zero => exact absurd HA.out (by simp [spec_LightsAt.l0])
    | succ k1 =>
      have H := HA.out
      clear HA
      simp only [spec_LightsAt.l0] at H
      by_cases c6 : x8_1 < (l0.length : Int)
      · rw [if_pos c6] at H
        have c6b0 : decide (x8_1 < (l0.length : Int)) = true := decide_eq_true c6
        clear c6
        have c7 : 0 ≤ x8_1 := ifN H
        replace H := ifT H
        have c7b0 : decide (0 ≤ x8_1) = true := decide_eq_true c7
        clear c7
        obtain ⟨t595, A8, H⟩ := bindE H
        try dsimp only at H
        have c9 : x7_1.length < 17592186044416 := ifN H
        replace H := ifT H
        have LMc9 := Aside0.mk c9
        clear c9
        obtain ⟨y596, hy596⟩ : ∃ y_ : List Int, y_ = (x7_1 ++ [t595]) := ⟨_, rfl⟩
        replace H : (spec_LightsAt.l0 k1 l0 l1 a2 y596 (wrap64 (x8_1 + 1))) = some r := by first | (rw [hy596]; with_reducible exact H) | (have H2_ := (Option.bind_some _ _).symm.trans H; rw [hy596]; with_reducible exact H2_) | (have H2_ := (Option.bind_some _ _).symm.trans H; with_reducible exact H2_) | with_reducible exact H | (rw [hy596]; exact H) | exact H
        have Ny596 := Aside0.mk hy596
        clear hy596
        have H' := Aside0.mk H
        clear H
        have p594 : 0 ≤ (x8_1 : Int) := dA
        have q594 : x8_1 < (l0.length : Int) := dA
        obtain ⟨ad594, e594, hx594_0, hx594_1, hx594_2, hx594_3⟩ := at_T58 HR0.out x8_1 p594 q594
        cases e594
        replace hx594_0 := hC HB hx594_0
        replace hx594_1 := hC HB hx594_1
        replace hx594_2 := hC HB hx594_2
        replace hx594_3 := hC HB hx594_3
        replace p594 := eq_true p594
        replace q594 := eq_true q594
        go_wp2_with (first | ((with_reducible refine gate_callee (f := 33) rfl ?_); refine gL (some 25) Try.func33 #[.slice (some ad594) l0.length c0, .slice A1 l1.length c1, .int .i64 a2, .int .i64 ((rd_T58 l0 x8_1).f0)] ?_; (with_reducible refine (spec_LightAt.calls k1 _ _ l0 _ _ l1 a2 ((rd_T58 l0 x8_1).f0) t595 _ ?side1 ?side2 ?side3 ?side4 A8.out).mono ?_); (case side1 => exact cB HR0); (case side2 => exact HC0.out); (case side3 => exact cB HR1); (case side4 => exact HC1.out); rintro e w10 ⟨rfl, hb⟩; refine ⟨_, rfl, ?_⟩; replace HO_7 := Aside0.mk (Kd.R_below (rK HO_7) hb); replace HB := Aside0.mk (below_step bA hb); (try clear hb); (try clear hb2); (try clear hk); (try clear hi)) | ((with_reducible refine gate_builtin (b := .append) (xs := #[.tmp 16, .tmp 26]) rfl ?_); at_builtin; refine Kd.R_append (Kd.int .i64) (w0 := w) w.heap.size rfl (.tmp 16) (.tmp 26) 41 3 (.int .i64 0) 8 rfl Try.underlying41 info3 rfl (by decide) (by omega) u7 x7_1 t595 [.int .i64 t595] (fun _ => True) (fun _ => False) rfl rfl ?aP (fun _ hk => hk.elim) ?aF ?aO ?aB ?aS ?aL ?_; (case aP => exact rfl); (case aB => exact bA); (case aF => exact (fun _ _ => trivial)); (case aO => exact (rK HO_7)); (case aS => exact (below_size bA)); (case aL => have := LMc9.out; omega); intro v597 w11 ho hb hg hat; rw [← Ny596.out] at ho; have n0_ := Aside0.mk (hb); have n1_ := Aside0.mk (ho); clear HB; clear HO_7; have HB := n0_; have HO598 := n1_; clear n0_ n1_; clear ho hb hg hat))
        go_roundg k1
        case measure => have := HK1.out; omega
        case rel => exact ⟨(y596), (wrap64 (x8_1 + 1)), rS, H', ⟨by have := HK1.out; omega⟩, ⟨rK HO598⟩, ⟨bA⟩⟩
      · rw [if_neg c6] at H
        have c6b0 : decide (x8_1 < (l0.length : Int)) = false := decide_eq_false c6
        clear c6
        obtain rfl := Option.some.inj H
        go_wp2
        go_ret
        exact ⟨_, by first | rfl | (simp [errW_none, errW_some] <;> rfl) | (simp [*, errW_none, errW_some] <;> rfl), by (with_reducible repeat (first | apply Kd.R_alloc | apply Kd.R_drewN | apply Kd.R_drew)); exact HO_7.out, bA⟩

/-! ### spec_l9Row: function 72 -/
mutual
def spec_l9Row.j0 : Nat → List (S58) → List (S51) → Int → List Int → Bool → Option (List Int)
  | 0, _, _, _, _, _ => none
  | k + 1, x0, x1, x2, x7, x20 => if x20 = true then (some x7) else (spec_l9Row.l0 k x0 x1 x2 x7 0)
def spec_l9Row.l0 : Nat → List (S58) → List (S51) → Int → List Int → Int → Option (List Int)
  | 0, _, _, _, _, _ => none
  | k + 1, x0, x1, x2, x7, x8 => if x8 < (x1.length : Int) then (spec_l9Row.l1 k x0 x1 x2 x7 x8 0) else (some x7)
def spec_l9Row.l1 : Nat → List (S58) → List (S51) → Int → List Int → Int → Int → Option (List Int)
  | 0, _, _, _, _, _, _ => none
  | k + 1, x0, x1, x2, x7, x8, x9 => (spec_l8Long.f k x0 x1 x8).bind fun t651 => (if x9 < t651 then ((spec_l9Light.f k x0 x1 x8 x9 x2).bind fun t652 => (if x7.length < 17592186044416 then (spec_l9Row.l1 k x0 x1 x2 (x7 ++ [t652]) x8 (wrap64 (x9 + 1))) else (none))) else (spec_l9Row.l0 k x0 x1 x2 x7 (wrap64 (x8 + 1))))
end
def spec_l9Row.f (k : Nat) (l0 : List (S58)) (l1 : List (S51)) (a2 : Int) : Option (List Int) := (some (([] : List Int) : List Int)).bind fun y646 => ((spec_IsPlan.f k l0 l1).bind fun t649 => (if t649 = true then ((spec_FindPath.f k l0 a2).bind fun t650 => (spec_l9Row.j0 k l0 l1 a2 y646 (decide (t650 < 0)))) else (spec_l9Row.j0 k l0 l1 a2 y646 true)))
theorem spec_l9Row.mono_l : ∀ k, (∀ y0 y1 y2 y3 y4, LeO (spec_l9Row.j0 k y0 y1 y2 y3 y4) (spec_l9Row.j0 (k + 1) y0 y1 y2 y3 y4)) ∧ (∀ y0 y1 y2 y3 y4, LeO (spec_l9Row.l0 k y0 y1 y2 y3 y4) (spec_l9Row.l0 (k + 1) y0 y1 y2 y3 y4)) ∧ (∀ y0 y1 y2 y3 y4 y5, LeO (spec_l9Row.l1 k y0 y1 y2 y3 y4 y5) (spec_l9Row.l1 (k + 1) y0 y1 y2 y3 y4 y5))
  | 0 => ⟨fun _ _ _ _ _ r h => by simp [spec_l9Row.j0] at h, fun _ _ _ _ _ r h => by simp [spec_l9Row.l0] at h, fun _ _ _ _ _ _ r h => by simp [spec_l9Row.l1] at h⟩
  | k + 1 => by
    obtain ⟨ih0, ih1, ih2⟩ := spec_l9Row.mono_l k
    refine ⟨?_, ?_, ?_⟩
    · intro y0 y1 y2 y3 y4
      unfold spec_l9Row.j0
      repeat' first | (with_reducible first | exact LeO.refl _ | exact LeO.none _ | refine LeO.ite ?_ ?_ | refine LeO.bind ?_ (fun _ => ?_) | exact ih0 _ _ _ _ _ | exact ih1 _ _ _ _ _ | exact ih2 _ _ _ _ _ _ | exact spec_FindPath.mono _ _ _ | exact spec_IsPlan.mono _ _ _ | exact spec_l8Long.mono _ _ _ _ | exact spec_l9Light.mono _ _ _ _ _ _) | exact LeO.none _ | refine LeO.ite ?_ ?_ | refine LeO.bind ?_ (fun _ => ?_) | exact ih0 _ _ _ _ _ | exact ih1 _ _ _ _ _ | exact ih2 _ _ _ _ _ _ | exact spec_FindPath.mono _ _ _ | exact spec_IsPlan.mono _ _ _ | exact spec_l8Long.mono _ _ _ _ | exact spec_l9Light.mono _ _ _ _ _ _
    · intro y0 y1 y2 y3 y4
      unfold spec_l9Row.l0
      repeat' first | (with_reducible first | exact LeO.refl _ | exact LeO.none _ | refine LeO.ite ?_ ?_ | refine LeO.bind ?_ (fun _ => ?_) | exact ih0 _ _ _ _ _ | exact ih1 _ _ _ _ _ | exact ih2 _ _ _ _ _ _ | exact spec_FindPath.mono _ _ _ | exact spec_IsPlan.mono _ _ _ | exact spec_l8Long.mono _ _ _ _ | exact spec_l9Light.mono _ _ _ _ _ _) | exact LeO.none _ | refine LeO.ite ?_ ?_ | refine LeO.bind ?_ (fun _ => ?_) | exact ih0 _ _ _ _ _ | exact ih1 _ _ _ _ _ | exact ih2 _ _ _ _ _ _ | exact spec_FindPath.mono _ _ _ | exact spec_IsPlan.mono _ _ _ | exact spec_l8Long.mono _ _ _ _ | exact spec_l9Light.mono _ _ _ _ _ _
    · intro y0 y1 y2 y3 y4 y5
      unfold spec_l9Row.l1
      repeat' first | (with_reducible first | exact LeO.refl _ | exact LeO.none _ | refine LeO.ite ?_ ?_ | refine LeO.bind ?_ (fun _ => ?_) | exact ih0 _ _ _ _ _ | exact ih1 _ _ _ _ _ | exact ih2 _ _ _ _ _ _ | exact spec_FindPath.mono _ _ _ | exact spec_IsPlan.mono _ _ _ | exact spec_l8Long.mono _ _ _ _ | exact spec_l9Light.mono _ _ _ _ _ _) | exact LeO.none _ | refine LeO.ite ?_ ?_ | refine LeO.bind ?_ (fun _ => ?_) | exact ih0 _ _ _ _ _ | exact ih1 _ _ _ _ _ | exact ih2 _ _ _ _ _ _ | exact spec_FindPath.mono _ _ _ | exact spec_IsPlan.mono _ _ _ | exact spec_l8Long.mono _ _ _ _ | exact spec_l9Light.mono _ _ _ _ _ _
theorem spec_l9Row.mono : ∀ a0 a1 a2 k, LeO (spec_l9Row.f k a0 a1 a2) (spec_l9Row.f (k + 1) a0 a1 a2) := by
  intro a0 a1 a2 k
  obtain ⟨ih0, ih1, ih2⟩ := spec_l9Row.mono_l k
  unfold spec_l9Row.f
  repeat' first | (with_reducible first | exact LeO.refl _ | exact LeO.none _ | refine LeO.ite ?_ ?_ | refine LeO.bind ?_ (fun _ => ?_) | exact ih0 _ _ _ _ _ | exact ih1 _ _ _ _ _ | exact ih2 _ _ _ _ _ _ | exact spec_FindPath.mono _ _ _ | exact spec_IsPlan.mono _ _ _ | exact spec_l8Long.mono _ _ _ _ | exact spec_l9Light.mono _ _ _ _ _ _) | exact LeO.none _ | refine LeO.ite ?_ ?_ | refine LeO.bind ?_ (fun _ => ?_) | exact ih0 _ _ _ _ _ | exact ih1 _ _ _ _ _ | exact ih2 _ _ _ _ _ _ | exact spec_FindPath.mono _ _ _ | exact spec_IsPlan.mono _ _ _ | exact spec_l8Long.mono _ _ _ _ | exact spec_l9Light.mono _ _ _ _ _ _
set_option maxHeartbeats 8000000 in
set_option maxRecDepth 100000 in
theorem spec_l9Row.calls (k : Nat) (A0 : Option Addr) (c0 : Nat) (l0 : List (S58)) (A1 : Option Addr) (c1 : Nat) (l1 : List (S51)) (a2 : Int) (r : List Int) (w : World) (hr0 : Kd.C k58 w A0 l0.length l0) (hc0 : l0.length ≤ c0) (hr1 : Kd.C k51 w A1 l1.length l1) (hc1 : l1.length ≤ c1) (h : spec_l9Row.f k l0 l1 a2 = some r) :
    Calls Try.prog 72 #[.slice A0 l0.length c0, .slice A1 l1.length c1, .int .i64 a2] w fun e w' => ∃ v0_ : Value, e = .returned (v0_) ∧ Kd.R (Kd.int .i64) 3 w' w.heap.size (fun _ => True) v0_ r ∧ Below w.heap.size w w' := by
  have HR0 := Aside0.mk hr0
  have HC0 := Aside0.mk hc0
  clear hr0 hc0
  have HR1 := Aside0.mk hr1
  have HC1 := Aside0.mk hc1
  clear hr1 hc1
  have HB := Aside0.mk (Below.refl w.heap.size w)
  have H : ((some (([] : List Int) : List Int)).bind fun y646 => ((spec_IsPlan.f k l0 l1).bind fun t649 => (if t649 = true then ((spec_FindPath.f k l0 a2).bind fun t650 => (spec_l9Row.j0 k l0 l1 a2 y646 (decide (t650 < 0)))) else (spec_l9Row.j0 k l0 l1 a2 y646 true)))) = some r := h
  clear h
  obtain ⟨y646, hy646⟩ : ∃ y_ : List Int, y_ = (([] : List Int)) := ⟨_, rfl⟩
  replace H : ((spec_IsPlan.f k l0 l1).bind fun t649 => (if t649 = true then ((spec_FindPath.f k l0 a2).bind fun t650 => (spec_l9Row.j0 k l0 l1 a2 y646 (decide (t650 < 0)))) else (spec_l9Row.j0 k l0 l1 a2 y646 true))) = some r := by first | (rw [hy646]; with_reducible exact H) | (have H2_ := (Option.bind_some _ _).symm.trans H; rw [hy646]; with_reducible exact H2_) | (have H2_ := (Option.bind_some _ _).symm.trans H; with_reducible exact H2_) | with_reducible exact H | (rw [hy646]; exact H) | exact H
  have Ny646 := Aside0.mk hy646
  clear hy646
  have HC4 := Aside0.mk H
  clear H
  go_enter Try.func72, Try.ntmps72
  go_upto_region 2 with (first | ((with_reducible refine gate_dst (N := 10) rfl ?_); refine Kd.R_lit (Kd.int .i64) _ 3 ?hg (N := 10) ?hd (xs := ([] : List Int)) (inner := []) (ok := fun _ => True) (okp := fun _ => True) ?hr ?hp (fun _ hk => hk) trivial (Below.refl _ _) (Nat.le_refl _) (by simp) ?_; (case hd => rfl); (case hg => rfl); (case hr => first | (go_simp; done) | (go_simp; rfl)); (case hp => exact (Reps.none _ _)); intro v647 w5 ho6 hb hg_ hnew_; clear hg_ hnew_; (first | rw [← Ny646.out] at ho6 | (simp only [Int.reduceToNat] at ho6; rw [← Ny646.out] at ho6)); have HO648 := Aside0.mk (Kd.R_lower ho6 (below_size bA)); replace HB := Aside0.mk (below_step bA hb); clear hb ho6))
  (try simp only [Act.put, List.setIfInBounds_toArray, List.set_cons_zero, List.set_cons_succ])
  go_cut [20] (fun v20 wc => ∃ (kq : Nat) (x20_3 : Bool), v20 = .bool x20_3 ∧ Aside0 (spec_l9Row.j0 kq l0 l1 a2 y646 x20_3 = some r) ∧ Aside0 (kq ≤ k) ∧ Aside0 (Kd.R (Kd.int .i64) 3 wc w.heap.size (fun _ => True) v647 y646) ∧ Aside0 (Below w.heap.size w wc))
  case first =>
    have H := HC4.out
    clear HC4
    obtain ⟨t649, A7, H⟩ := bindE H
    try dsimp only at H
    by_cases c8 : t649 = true
    · subst c8
      have H1 : ((spec_FindPath.f k l0 a2).bind fun t650 => (spec_l9Row.j0 k l0 l1 a2 y646 (decide (t650 < 0)))) = some r := by rw [if_pos rfl] at H; exact H
      clear H
      have H := H1
      clear H1
      obtain ⟨t650, A9, H⟩ := bindE H
      try dsimp only at H
      have H' := Aside0.mk H
      clear H
      go_wp2_with (first | ((with_reducible refine gate_callee (f := 17) rfl ?_); refine gL (some 13) Try.func17 #[.slice A0 l0.length c0, .slice A1 l1.length c1] ?_; (with_reducible refine (spec_IsPlan.calls k _ _ l0 _ _ l1 true _ ?side1 ?side2 ?side3 ?side4 A7.out).mono ?_); (case side1 => exact cB HR0); (case side2 => exact HC0.out); (case side3 => exact cB HR1); (case side4 => exact HC1.out); rintro e w10 ⟨rfl, hb⟩; refine ⟨_, rfl, ?_⟩; replace HO648 := Aside0.mk (Kd.R_below (rK HO648) hb); replace HB := Aside0.mk (below_step bA hb); (try clear hb); (try clear hb2); (try clear hk); (try clear hi)) | (go_at_call 68; (with_reducible refine (spec_FindPath.calls k _ _ l0 a2 t650 _ ?side1 ?side2 A9.out).mono ?_); (case side1 => exact cB HR0); (case side2 => exact HC0.out); rintro e w' ⟨rfl, ⟨nd, rfl⟩⟩))
      go_meet
      case rel => exact ⟨_, (decide (t650 < 0)), rS, H', ⟨by first | omega | exact Nat.le_refl _⟩, ⟨rK HO648⟩, ⟨bA⟩⟩
    · replace c8 := Bool.eq_false_iff.mpr c8
      subst c8
      have H1 : (spec_l9Row.j0 k l0 l1 a2 y646 true) = some r := by rw [if_neg (show ¬ (false = true) by decide)] at H; exact H
      clear H
      have H := H1
      clear H1
      have H' := Aside0.mk H
      clear H
      go_wp2_with (first | ((with_reducible refine gate_callee (f := 17) rfl ?_); refine gL (some 13) Try.func17 #[.slice A0 l0.length c0, .slice A1 l1.length c1] ?_; (with_reducible refine (spec_IsPlan.calls k _ _ l0 _ _ l1 false _ ?side1 ?side2 ?side3 ?side4 A7.out).mono ?_); (case side1 => exact cB HR0); (case side2 => exact HC0.out); (case side3 => exact cB HR1); (case side4 => exact HC1.out); rintro e w11 ⟨rfl, hb⟩; refine ⟨_, rfl, ?_⟩; replace HO648 := Aside0.mk (Kd.R_below (rK HO648) hb); replace HB := Aside0.mk (below_step bA hb); (try clear hb); (try clear hb2); (try clear hk); (try clear hi)))
      go_meet
      case rel => exact ⟨_, (true), rS, H', ⟨by first | omega | exact Nat.le_refl _⟩, ⟨rK HO648⟩, ⟨bA⟩⟩
  case rest =>
    clear HC4
    try clear c1
    try clear p2
    try clear c7
    try clear c8
    obtain ⟨kq, x20_3, rfl, HA, HJ3, HO_7, HB⟩ := hcut
    cases kq with
    | zero => exact absurd HA.out (by simp [spec_l9Row.j0])
    | succ kj3 =>
      have H := HA.out
      clear HA
      simp only [spec_l9Row.j0] at H
      by_cases c12 : x20_3 = true
      · subst c12
        have H1 : (some y646) = some r := by rw [if_pos rfl] at H; exact H
        clear H
        have H := H1
        clear H1
        obtain rfl := Option.some.inj H
        go_wp2
        go_ret
        exact ⟨_, by first | rfl | (simp [errW_none, errW_some] <;> rfl) | (simp [*, errW_none, errW_some] <;> rfl), by (with_reducible repeat (first | apply Kd.R_alloc | apply Kd.R_drewN | apply Kd.R_drew)); exact HO_7.out, bA⟩
      · replace c12 := Bool.eq_false_iff.mpr c12
        subst c12
        have H1 : (spec_l9Row.l0 kj3 l0 l1 a2 y646 0) = some r := by rw [if_neg (show ¬ (false = true) by decide)] at H; exact H
        clear H
        have H := H1
        clear H1
        have H' := Aside0.mk H
        clear H
        go_wp2
        go_loopg [7, 8] kj3 (fun kq v7 v8 w' => ∃ (x7_2 : List Int) (x8_2 : Int), v8 = .int .i64 x8_2 ∧ Aside0 (spec_l9Row.l0 kq l0 l1 a2 x7_2 x8_2 = some r) ∧ Aside0 (kq ≤ kj3) ∧ Aside0 (Kd.R (Kd.int .i64) 3 w' w.heap.size (fun _ => True) v7 x7_2) ∧ Aside0 (Below w.heap.size w w'))
        case atStart => exact ⟨(y646), (0), rS, H', ⟨Nat.le_refl _⟩, ⟨rK HO_7⟩, ⟨bA⟩⟩
        case round =>
          clear H'
          try clear c1
          try clear p2
          try clear c7
          try clear c8
          try clear c12
          try clear p2
          obtain ⟨x7_2, x8_2, rfl, HA, HK2, HO_7, HB⟩ := hrel
          cases gk with
          | zero => exact absurd HA.out (by simp [spec_l9Row.l0])
          | succ k2 =>
            have H := HA.out
            clear HA
            simp only [spec_l9Row.l0] at H
            by_cases c13 : x8_2 < (l1.length : Int)
            · rw [if_pos c13] at H
              have c13b0 : decide (x8_2 < (l1.length : Int)) = true := decide_eq_true c13
              clear c13
              have H' := Aside0.mk H
              clear H
              go_wp2
              go_loopg [7, 9] k2 (fun kq v7 v9 w' => ∃ (x7_3 : List Int) (x9_3 : Int), v9 = .int .i64 x9_3 ∧ Aside0 (spec_l9Row.l1 kq l0 l1 a2 x7_3 x8_2 x9_3 = some r) ∧ Aside0 (kq ≤ k2) ∧ Aside0 (Kd.R (Kd.int .i64) 3 w' w.heap.size (fun _ => True) v7 x7_3) ∧ Aside0 (Below w.heap.size w w'))
              case atStart => exact ⟨(x7_2), (0), rS, H', ⟨Nat.le_refl _⟩, ⟨rK HO_7⟩, ⟨bA⟩⟩
              case round =>
                clear H'
                try clear c1
                try clear p2
                try clear c7
                try clear c8
                try clear c12
                try clear c13
                try clear c13b0
                try clear p2
                obtain ⟨x7_3, x9_3, rfl, HA, HK3, HO_7, HB⟩ := hrel
                cases gk with
                | zero => exact absurd HA.out (by simp [spec_l9Row.l1])
                | succ k3 =>
                  have H := HA.out
                  clear HA
                  simp only [spec_l9Row.l1] at H
                  obtain ⟨t651, A14, H⟩ := bindE H
                  try dsimp only at H
                  by_cases c15 : x9_3 < t651
                  · rw [if_pos c15] at H
                    have c15b0 : decide (x9_3 < t651) = true := decide_eq_true c15
                    clear c15
                    obtain ⟨t652, A16, H⟩ := bindE H
                    try dsimp only at H
                    have c17 : x7_3.length < 17592186044416 := ifN H
                    replace H := ifT H
                    have LMc17 := Aside0.mk c17
                    clear c17
                    obtain ⟨y653, hy653⟩ : ∃ y_ : List Int, y_ = (x7_3 ++ [t652]) := ⟨_, rfl⟩
                    replace H : (spec_l9Row.l1 k3 l0 l1 a2 y653 x8_2 (wrap64 (x9_3 + 1))) = some r := by first | (rw [hy653]; with_reducible exact H) | (have H2_ := (Option.bind_some _ _).symm.trans H; rw [hy653]; with_reducible exact H2_) | (have H2_ := (Option.bind_some _ _).symm.trans H; with_reducible exact H2_) | with_reducible exact H | (rw [hy653]; exact H) | exact H
                    have Ny653 := Aside0.mk hy653
                    clear hy653
                    have H' := Aside0.mk H
                    clear H
                    go_wp2_with (first | ((with_reducible refine gate_callee (f := 64) rfl ?_); refine gL (some 32) Try.func64 #[.slice A0 l0.length c0, .slice A1 l1.length c1, .int .i64 x8_2] ?_; (with_reducible refine (spec_l8Long.calls k3 _ _ l0 _ _ l1 x8_2 t651 _ ?side1 ?side2 ?side3 ?side4 A14.out).mono ?_); (case side1 => exact cB HR0); (case side2 => exact HC0.out); (case side3 => exact cB HR1); (case side4 => exact HC1.out); rintro e w18 ⟨rfl, hb⟩; refine ⟨_, rfl, ?_⟩; replace HO_7 := Aside0.mk (Kd.R_below (rK HO_7) hb); replace HB := Aside0.mk (below_step bA hb); (try clear hb); (try clear hb2); (try clear hk); (try clear hi)) | ((with_reducible refine gate_callee (f := 69) rfl ?_); refine gL (some 42) Try.func69 #[.slice A0 l0.length c0, .slice A1 l1.length c1, .int .i64 x8_2, .int .i64 x9_3, .int .i64 a2] ?_; (with_reducible refine (spec_l9Light.calls k3 _ _ l0 _ _ l1 x8_2 x9_3 a2 t652 _ ?side1 ?side2 ?side3 ?side4 A16.out).mono ?_); (case side1 => exact cB HR0); (case side2 => exact HC0.out); (case side3 => exact cB HR1); (case side4 => exact HC1.out); rintro e w19 ⟨rfl, hb⟩; refine ⟨_, rfl, ?_⟩; replace HO_7 := Aside0.mk (Kd.R_below (rK HO_7) hb); replace HB := Aside0.mk (below_step bA hb); (try clear hb); (try clear hb2); (try clear hk); (try clear hi)) | ((with_reducible refine gate_builtin (b := .append) (xs := #[.tmp 36, .tmp 43]) rfl ?_); at_builtin; refine Kd.R_append (Kd.int .i64) (w0 := w) w.heap.size rfl (.tmp 36) (.tmp 43) 41 3 (.int .i64 0) 8 rfl Try.underlying41 info3 rfl (by decide) (by omega) u7 x7_3 t652 [.int .i64 t652] (fun _ => True) (fun _ => False) rfl rfl ?aP (fun _ hk => hk.elim) ?aF ?aO ?aB ?aS ?aL ?_; (case aP => exact rfl); (case aB => exact bA); (case aF => exact (fun _ _ => trivial)); (case aO => exact (rK HO_7)); (case aS => exact (below_size bA)); (case aL => have := LMc17.out; omega); intro v654 w20 ho hb hg hat; rw [← Ny653.out] at ho; have n0_ := Aside0.mk (hb); have n1_ := Aside0.mk (ho); clear HB; clear HO_7; have HB := n0_; have HO655 := n1_; clear n0_ n1_; clear ho hb hg hat))
                    go_roundg k3
                    case measure => have := HJ3.out; have := HK2.out; have := HK3.out; omega
                    case rel => exact ⟨(y653), (wrap64 (x9_3 + 1)), rS, H', ⟨by have := HJ3.out; have := HK2.out; have := HK3.out; omega⟩, ⟨rK HO655⟩, ⟨bA⟩⟩
                  · rw [if_neg c15] at H
                    have c15b0 : decide (x9_3 < t651) = false := decide_eq_false c15
                    clear c15
                    have H' := Aside0.mk H
                    clear H
                    go_wp2_with (first | ((with_reducible refine gate_callee (f := 64) rfl ?_); refine gL (some 32) Try.func64 #[.slice A0 l0.length c0, .slice A1 l1.length c1, .int .i64 x8_2] ?_; (with_reducible refine (spec_l8Long.calls k3 _ _ l0 _ _ l1 x8_2 t651 _ ?side1 ?side2 ?side3 ?side4 A14.out).mono ?_); (case side1 => exact cB HR0); (case side2 => exact HC0.out); (case side3 => exact cB HR1); (case side4 => exact HC1.out); rintro e w21 ⟨rfl, hb⟩; refine ⟨_, rfl, ?_⟩; replace HO_7 := Aside0.mk (Kd.R_below (rK HO_7) hb); replace HB := Aside0.mk (below_step bA hb); (try clear hb); (try clear hb2); (try clear hk); (try clear hi)))
                    go_roundg k3
                    case measure => have := HJ3.out; have := HK2.out; have := HK3.out; omega
                    case rel => exact ⟨(x7_3), (wrap64 (x8_2 + 1)), rS, H', ⟨by have := HJ3.out; have := HK2.out; have := HK3.out; omega⟩, ⟨rK HO_7⟩, ⟨bA⟩⟩
            · rw [if_neg c13] at H
              have c13b0 : decide (x8_2 < (l1.length : Int)) = false := decide_eq_false c13
              clear c13
              obtain rfl := Option.some.inj H
              go_wp2
              go_ret
              exact ⟨_, by first | rfl | (simp [errW_none, errW_some] <;> rfl) | (simp [*, errW_none, errW_some] <;> rfl), by (with_reducible repeat (first | apply Kd.R_alloc | apply Kd.R_drewN | apply Kd.R_drew)); exact HO_7.out, bA⟩

/-! ### spec_GreenOf: function 42 -/
def spec_GreenOf.l0 : Nat → Int → List Int → Int → Option (Int)
  | 0, _, _, _ => none
  | k + 1, x7, x8, x9 => if x9 < (x8.length : Int) then (if 0 ≤ x9 then (if (rd x8 x9) = 1 then (spec_GreenOf.l0 k (wrap64 (x7 + 1)) x8 (wrap64 (x9 + 1))) else (spec_GreenOf.l0 k x7 x8 (wrap64 (x9 + 1)))) else (none)) else (some x7)
def spec_GreenOf.f (k : Nat) (l0 : List (S58)) (l1 : List (S51)) (a2 : Int) : Option (Int) := (spec_l9Row.f k l0 l1 a2).bind fun t656 => (spec_GreenOf.l0 k 0 t656 0)
theorem spec_GreenOf.mono_l : ∀ k, (∀ y0 y1 y2, LeO (spec_GreenOf.l0 k y0 y1 y2) (spec_GreenOf.l0 (k + 1) y0 y1 y2))
  | 0 => fun _ _ _ r h => by simp [spec_GreenOf.l0] at h
  | k + 1 => by
    have ih0 := spec_GreenOf.mono_l k
    · intro y0 y1 y2
      unfold spec_GreenOf.l0
      repeat' first | (with_reducible first | exact LeO.refl _ | exact LeO.none _ | refine LeO.ite ?_ ?_ | refine LeO.bind ?_ (fun _ => ?_) | exact ih0 _ _ _ | exact spec_l9Row.mono _ _ _ _) | exact LeO.none _ | refine LeO.ite ?_ ?_ | refine LeO.bind ?_ (fun _ => ?_) | exact ih0 _ _ _ | exact spec_l9Row.mono _ _ _ _
theorem spec_GreenOf.mono : ∀ a0 a1 a2 k, LeO (spec_GreenOf.f k a0 a1 a2) (spec_GreenOf.f (k + 1) a0 a1 a2) := by
  intro a0 a1 a2 k
  have ih0 := spec_GreenOf.mono_l k
  unfold spec_GreenOf.f
  repeat' first | (with_reducible first | exact LeO.refl _ | exact LeO.none _ | refine LeO.ite ?_ ?_ | refine LeO.bind ?_ (fun _ => ?_) | exact ih0 _ _ _ | exact spec_l9Row.mono _ _ _ _) | exact LeO.none _ | refine LeO.ite ?_ ?_ | refine LeO.bind ?_ (fun _ => ?_) | exact ih0 _ _ _ | exact spec_l9Row.mono _ _ _ _
set_option maxHeartbeats 8000000 in
set_option maxRecDepth 100000 in
theorem spec_GreenOf.calls (k : Nat) (A0 : Option Addr) (c0 : Nat) (l0 : List (S58)) (A1 : Option Addr) (c1 : Nat) (l1 : List (S51)) (a2 : Int) (r : Int) (w : World) (hr0 : Kd.C k58 w A0 l0.length l0) (hc0 : l0.length ≤ c0) (hr1 : Kd.C k51 w A1 l1.length l1) (hc1 : l1.length ≤ c1) (h : spec_GreenOf.f k l0 l1 a2 = some r) :
    Calls Try.prog 42 #[.slice A0 l0.length c0, .slice A1 l1.length c1, .int .i64 a2] w fun e w' => e = .returned (.int .i64 r) ∧ Below w.heap.size w w' := by
  have HR0 := Aside0.mk hr0
  have HC0 := Aside0.mk hc0
  clear hr0 hc0
  have HR1 := Aside0.mk hr1
  have HC1 := Aside0.mk hc1
  clear hr1 hc1
  have HB := Aside0.mk (Below.refl w.heap.size w)
  have H : ((spec_l9Row.f k l0 l1 a2).bind fun t656 => (spec_GreenOf.l0 k 0 t656 0)) = some r := h
  clear h
  obtain ⟨t656, A4, H⟩ := bindE H
  try dsimp only at H
  have H' := Aside0.mk H
  clear H
  go_enter Try.func42, Try.ntmps42
  go_wp2_with (first | ((with_reducible refine gate_callee (f := 72) rfl ?_); refine gL (some 13) Try.func72 #[.slice A0 l0.length c0, .slice A1 l1.length c1, .int .i64 a2] ?_; (with_reducible refine (spec_l9Row.calls k _ _ l0 _ _ l1 a2 t656 _ ?side1 ?side2 ?side3 ?side4 A4.out).mono ?_); (case side1 => exact cO HR0); (case side2 => exact HC0.out); (case side3 => exact cO HR1); (case side4 => exact HC1.out); rintro e w5 ⟨v657, rfl, ho0, hb⟩; refine ⟨_, rfl, ?_⟩; have HO658 := Aside0.mk (Kd.R_lower ho0 (below_size bA)); replace HB := Aside0.mk (below_step bA hb); (try clear hb); (try clear hb2); (try clear hk); (try clear hi); (try clear ho0)))
  go_loopg [7, 9] k (fun kq v7 v9 w' => ∃ (x7_1 : Int) (x9_1 : Int), v7 = .int .i64 x7_1 ∧ v9 = .int .i64 x9_1 ∧ Aside0 (spec_GreenOf.l0 kq x7_1 t656 x9_1 = some r) ∧ Aside0 (kq ≤ k) ∧ Aside0 (Kd.R (Kd.int .i64) 3 w' w.heap.size (fun _ => True) v657 t656) ∧ Aside0 (Below w.heap.size w w'))
  case atStart => exact ⟨(0), (0), rS, rS, H', ⟨Nat.le_refl _⟩, ⟨rK HO658⟩, ⟨bA⟩⟩
  case round =>
    clear H'
    try clear c1
    try clear p2
    try clear c4
    obtain ⟨x7_1, x9_1, rfl, rfl, HA, HK1, HO_8, HB⟩ := hrel
    cases gk with
    | zero => exact absurd HA.out (by simp [spec_GreenOf.l0])
    | succ k1 =>
      have H := HA.out
      clear HA
      simp only [spec_GreenOf.l0] at H
      by_cases c6 : x9_1 < (t656.length : Int)
      · rw [if_pos c6] at H
        have c6b0 : decide (x9_1 < (t656.length : Int)) = true := decide_eq_true c6
        clear c6
        have c7 : 0 ≤ x9_1 := ifN H
        replace H := ifT H
        have c7b0 : decide (0 ≤ x9_1) = true := decide_eq_true c7
        clear c7
        by_cases c8 : (rd t656 x9_1) = 1
        · rw [if_pos c8] at H
          have c8b0 : ((rd t656 x9_1) == 1) = true := beq_iff_eq.mpr c8
          have c8b1 : ((rd t656 x9_1) != 1) = false := bne_eq_false_iff_eq.mpr c8
          clear c8
          have H' := Aside0.mk H
          clear H
          obtain ⟨Ao9, co9, eo9⟩ := Kd.R_slice HO_8.out
          subst eo9
          have p659 : 0 ≤ (x9_1 : Int) := dA
          have q659 : x9_1 < (t656.length : Int) := dA
          obtain ⟨ad659, e659, hx659_0⟩ := Kd.at_int (Kd.R_reads' HO_8.out).2.2 x9_1 p659 q659
          cases e659
          replace p659 := eq_true p659
          replace q659 := eq_true q659
          go_wp2
          go_roundg k1
          case measure => have := HK1.out; omega
          case rel => exact ⟨(wrap64 (x7_1 + 1)), (wrap64 (x9_1 + 1)), rS, rS, H', ⟨by have := HK1.out; omega⟩, ⟨rK HO_8⟩, ⟨bA⟩⟩
        · rw [if_neg c8] at H
          have c8b0 : ((rd t656 x9_1) == 1) = false := beq_eq_false_iff_ne.mpr c8
          have c8b1 : ((rd t656 x9_1) != 1) = true := bne_iff_ne.mpr c8
          have H' := Aside0.mk H
          clear H
          obtain ⟨Ao10, co10, eo10⟩ := Kd.R_slice HO_8.out
          subst eo10
          have p659 : 0 ≤ (x9_1 : Int) := dA
          have q659 : x9_1 < (t656.length : Int) := dA
          obtain ⟨ad659, e659, hx659_0⟩ := Kd.at_int (Kd.R_reads' HO_8.out).2.2 x9_1 p659 q659
          cases e659
          replace p659 := eq_true p659
          replace q659 := eq_true q659
          go_wp2
          go_roundg k1
          case measure => have := HK1.out; omega
          case rel => exact ⟨(x7_1), (wrap64 (x9_1 + 1)), rS, rS, H', ⟨by have := HK1.out; omega⟩, ⟨rK HO_8⟩, ⟨bA⟩⟩
      · rw [if_neg c6] at H
        have c6b0 : decide (x9_1 < (t656.length : Int)) = false := decide_eq_false c6
        clear c6
        obtain rfl := Option.some.inj H
        obtain ⟨Ao11, co11, eo11⟩ := Kd.R_slice HO_8.out
        subst eo11
        go_wp2
        go_ret
        exact ⟨rA, bA⟩

/-! ### spec_WaitOf: function 44 -/
def spec_WaitOf.l0 : Nat → List Int → Int → Int → Int → Option (Int)
  | 0, _, _, _, _ => none
  | k + 1, x7, x8, x9, x10 => if x10 < (wrap64 (2 * (x7.length : Int))) then (if (x7.length : Int) = 0 then (none) else (if 0 ≤ (Int.tmod x10 (x7.length : Int)) then (if (Int.tmod x10 (x7.length : Int)) < (x7.length : Int) then (if (rd x7 (Int.tmod x10 (x7.length : Int))) = 1 then ((spec_Max.f x8 0).bind fun t699 => (spec_WaitOf.l0 k x7 t699 0 (wrap64 (x10 + 1)))) else ((spec_Max.f x8 (wrap64 (x9 + 1))).bind fun t700 => (spec_WaitOf.l0 k x7 t700 (wrap64 (x9 + 1)) (wrap64 (x10 + 1))))) else (none)) else (none))) else ((spec_Min.f x8 (x7.length : Int)).bind fun t701 => (some t701))
def spec_WaitOf.f (k : Nat) (l0 : List (S58)) (l1 : List (S51)) (a2 : Int) : Option (Int) := (spec_l9Row.f k l0 l1 a2).bind fun t695 => (spec_WaitOf.l0 k t695 0 0 0)
theorem spec_WaitOf.mono_l : ∀ k, (∀ y0 y1 y2 y3, LeO (spec_WaitOf.l0 k y0 y1 y2 y3) (spec_WaitOf.l0 (k + 1) y0 y1 y2 y3))
  | 0 => fun _ _ _ _ r h => by simp [spec_WaitOf.l0] at h
  | k + 1 => by
    have ih0 := spec_WaitOf.mono_l k
    · intro y0 y1 y2 y3
      unfold spec_WaitOf.l0
      repeat' first | (with_reducible first | exact LeO.refl _ | exact LeO.none _ | refine LeO.ite ?_ ?_ | refine LeO.bind ?_ (fun _ => ?_) | exact ih0 _ _ _ _ | exact spec_l9Row.mono _ _ _ _) | exact LeO.none _ | refine LeO.ite ?_ ?_ | refine LeO.bind ?_ (fun _ => ?_) | exact ih0 _ _ _ _ | exact spec_l9Row.mono _ _ _ _
theorem spec_WaitOf.mono : ∀ a0 a1 a2 k, LeO (spec_WaitOf.f k a0 a1 a2) (spec_WaitOf.f (k + 1) a0 a1 a2) := by
  intro a0 a1 a2 k
  have ih0 := spec_WaitOf.mono_l k
  unfold spec_WaitOf.f
  repeat' first | (with_reducible first | exact LeO.refl _ | exact LeO.none _ | refine LeO.ite ?_ ?_ | refine LeO.bind ?_ (fun _ => ?_) | exact ih0 _ _ _ _ | exact spec_l9Row.mono _ _ _ _) | exact LeO.none _ | refine LeO.ite ?_ ?_ | refine LeO.bind ?_ (fun _ => ?_) | exact ih0 _ _ _ _ | exact spec_l9Row.mono _ _ _ _
set_option maxHeartbeats 8000000 in
set_option maxRecDepth 100000 in
theorem spec_WaitOf.calls (k : Nat) (A0 : Option Addr) (c0 : Nat) (l0 : List (S58)) (A1 : Option Addr) (c1 : Nat) (l1 : List (S51)) (a2 : Int) (r : Int) (w : World) (hr0 : Kd.C k58 w A0 l0.length l0) (hc0 : l0.length ≤ c0) (hr1 : Kd.C k51 w A1 l1.length l1) (hc1 : l1.length ≤ c1) (h : spec_WaitOf.f k l0 l1 a2 = some r) :
    Calls Try.prog 44 #[.slice A0 l0.length c0, .slice A1 l1.length c1, .int .i64 a2] w fun e w' => e = .returned (.int .i64 r) ∧ Below w.heap.size w w' := by
  have HR0 := Aside0.mk hr0
  have HC0 := Aside0.mk hc0
  clear hr0 hc0
  have HR1 := Aside0.mk hr1
  have HC1 := Aside0.mk hc1
  clear hr1 hc1
  have HB := Aside0.mk (Below.refl w.heap.size w)
  have H : ((spec_l9Row.f k l0 l1 a2).bind fun t695 => (spec_WaitOf.l0 k t695 0 0 0)) = some r := h
  clear h
  obtain ⟨t695, A4, H⟩ := bindE H
  try dsimp only at H
  have H' := Aside0.mk H
  clear H
  go_enter Try.func44, Try.ntmps44
  go_wp2_with (first | ((with_reducible refine gate_callee (f := 72) rfl ?_); refine gL (some 14) Try.func72 #[.slice A0 l0.length c0, .slice A1 l1.length c1, .int .i64 a2] ?_; (with_reducible refine (spec_l9Row.calls k _ _ l0 _ _ l1 a2 t695 _ ?side1 ?side2 ?side3 ?side4 A4.out).mono ?_); (case side1 => exact cO HR0); (case side2 => exact HC0.out); (case side3 => exact cO HR1); (case side4 => exact HC1.out); rintro e w5 ⟨v696, rfl, ho0, hb⟩; refine ⟨_, rfl, ?_⟩; have HO697 := Aside0.mk (Kd.R_lower ho0 (below_size bA)); replace HB := Aside0.mk (below_step bA hb); (try clear hb); (try clear hb2); (try clear hk); (try clear hi); (try clear ho0)))
  go_loopg [8, 9, 10] k (fun kq v8 v9 v10 w' => ∃ (x8_1 : Int) (x9_1 : Int) (x10_1 : Int), v8 = .int .i64 x8_1 ∧ v9 = .int .i64 x9_1 ∧ v10 = .int .i64 x10_1 ∧ Aside0 (spec_WaitOf.l0 kq t695 x8_1 x9_1 x10_1 = some r) ∧ Aside0 (kq ≤ k) ∧ Aside0 (Kd.R (Kd.int .i64) 3 w' w.heap.size (fun _ => True) v696 t695) ∧ Aside0 (Below w.heap.size w w'))
  case atStart => exact ⟨(0), (0), (0), rS, rS, rS, H', ⟨Nat.le_refl _⟩, ⟨rK HO697⟩, ⟨bA⟩⟩
  case round =>
    clear H'
    try clear c1
    try clear p2
    try clear c4
    obtain ⟨x8_1, x9_1, x10_1, rfl, rfl, rfl, HA, HK1, HO_7, HB⟩ := hrel
    cases gk with
    | zero => exact absurd HA.out (by simp [spec_WaitOf.l0])
    | succ k1 =>
      have H := HA.out
      clear HA
      simp only [spec_WaitOf.l0] at H
      by_cases c6 : x10_1 < (wrap64 (2 * (t695.length : Int)))
      · rw [if_pos c6] at H
        have c6b0 : decide (x10_1 < (wrap64 (2 * (t695.length : Int)))) = true := decide_eq_true c6
        clear c6
        have c7 : ¬ ((t695.length : Int) = 0) := ifN' H
        replace H := ifT' H
        have c7b0 : ((t695.length : Int) == 0) = false := beq_eq_false_iff_ne.mpr c7
        have c7b1 : ((t695.length : Int) != 0) = true := bne_iff_ne.mpr c7
        have c7b2 : ¬ (t695 = []) := fun h_ => c7 (by rw [h_]; rfl)
        obtain ⟨ji8, hji8⟩ : ∃ j_ : Int, (Int.tmod x10_1 (t695.length : Int)) = j_ := ⟨_, rfl⟩
        replace H : (if 0 ≤ (ji8) then (if (ji8) < (t695.length : Int) then (if (rd t695 (ji8)) = 1 then ((spec_Max.f x8_1 0).bind fun t699 => (spec_WaitOf.l0 k1 t695 t699 0 (wrap64 (x10_1 + 1)))) else ((spec_Max.f x8_1 (wrap64 (x9_1 + 1))).bind fun t700 => (spec_WaitOf.l0 k1 t695 t700 (wrap64 (x9_1 + 1)) (wrap64 (x10_1 + 1))))) else (none)) else (none)) = some r := by first | (rw [hji8] at H; exact H) | (simp only [hji8] at H ⊢; exact H)
        have c9 : 0 ≤ (ji8) := ifN H
        replace H := ifT H
        have c9b0 : decide (0 ≤ (ji8)) = true := decide_eq_true c9
        clear c9
        have c10 : (ji8) < (t695.length : Int) := ifN H
        replace H := ifT H
        have c10b0 : decide ((ji8) < (t695.length : Int)) = true := decide_eq_true c10
        clear c10
        by_cases c11 : (rd t695 (ji8)) = 1
        · rw [if_pos c11] at H
          have c11b0 : ((rd t695 (ji8)) == 1) = true := beq_iff_eq.mpr c11
          have c11b1 : ((rd t695 (ji8)) != 1) = false := bne_eq_false_iff_eq.mpr c11
          clear c11
          obtain ⟨t699, A12, H⟩ := bindE H
          try dsimp only at H
          have H' := Aside0.mk H
          clear H
          obtain ⟨Ao13, co13, eo13⟩ := Kd.R_slice HO_7.out
          subst eo13
          have p698 : 0 ≤ ((ji8) : Int) := dA
          have q698 : (ji8) < (t695.length : Int) := dA
          obtain ⟨ad698, e698, hx698_0⟩ := Kd.at_int (Kd.R_reads' HO_7.out).2.2 (ji8) p698 q698
          cases e698
          replace p698 := eq_true p698
          replace q698 := eq_true q698
          go_wp2_with (first | ((with_reducible refine gate_callee (f := 67) rfl ?_); refine gL (some 34) Try.func67 #[.int .i64 x8_1, .int .i64 0] ?_; (with_reducible refine (spec_Max.calls x8_1 0 t699 _ A12.out).mono ?_); rintro e w' ⟨rfl, ⟨nd, rfl⟩⟩; refine ⟨_, rfl, ?_⟩))
          go_roundg k1
          case measure => have := HK1.out; omega
          case rel => exact ⟨(t699), (0), (wrap64 (x10_1 + 1)), rS, rS, rS, H', ⟨by have := HK1.out; omega⟩, ⟨rK HO_7⟩, ⟨bA⟩⟩
        · rw [if_neg c11] at H
          have c11b0 : ((rd t695 (ji8)) == 1) = false := beq_eq_false_iff_ne.mpr c11
          have c11b1 : ((rd t695 (ji8)) != 1) = true := bne_iff_ne.mpr c11
          obtain ⟨t700, A14, H⟩ := bindE H
          try dsimp only at H
          have H' := Aside0.mk H
          clear H
          obtain ⟨Ao15, co15, eo15⟩ := Kd.R_slice HO_7.out
          subst eo15
          have p698 : 0 ≤ ((ji8) : Int) := dA
          have q698 : (ji8) < (t695.length : Int) := dA
          obtain ⟨ad698, e698, hx698_0⟩ := Kd.at_int (Kd.R_reads' HO_7.out).2.2 (ji8) p698 q698
          cases e698
          replace p698 := eq_true p698
          replace q698 := eq_true q698
          go_wp2_with (first | ((with_reducible refine gate_callee (f := 67) rfl ?_); refine gL (some 34) Try.func67 #[.int .i64 x8_1, .int .i64 (wrap64 (x9_1 + 1))] ?_; (with_reducible refine (spec_Max.calls x8_1 (wrap64 (x9_1 + 1)) t700 _ A14.out).mono ?_); rintro e w' ⟨rfl, ⟨nd, rfl⟩⟩; refine ⟨_, rfl, ?_⟩))
          go_roundg k1
          case measure => have := HK1.out; omega
          case rel => exact ⟨(t700), (wrap64 (x9_1 + 1)), (wrap64 (x10_1 + 1)), rS, rS, rS, H', ⟨by have := HK1.out; omega⟩, ⟨rK HO_7⟩, ⟨bA⟩⟩
      · rw [if_neg c6] at H
        have c6b0 : decide (x10_1 < (wrap64 (2 * (t695.length : Int)))) = false := decide_eq_false c6
        clear c6
        obtain ⟨t701, A16, H⟩ := bindE H
        try dsimp only at H
        obtain rfl := Option.some.inj H
        obtain ⟨Ao17, co17, eo17⟩ := Kd.R_slice HO_7.out
        subst eo17
        go_wp2_with (first | ((with_reducible refine gate_callee (f := 74) rfl ?_); refine gL (some 38) Try.func74 #[.int .i64 x8_1, .int .i64 (t695.length : Int)] ?_; (with_reducible refine (spec_Min.calls x8_1 (t695.length : Int) t701 _ A16.out).mono ?_); rintro e w' ⟨rfl, ⟨nd, rfl⟩⟩; refine ⟨_, rfl, ?_⟩))
        go_ret
        exact ⟨rA, bA⟩

end Go.Proofs.Ytbpnbflfpgakmaa.P
