/- Printed by myprint.py (wip/tools) over the kit's print: what Go's functions compute, and that they do. Lean checks it. -/
import Derived.Test.YtimmadeghcghoaaF0
import Derived.Test.YtimmadeghcghoaaFI01
import Derived.Test.YtimmadeghcghoaaFI05
namespace Go.Proofs.Ytimmadeghcghoaa.P
open Go.RowKit Go.Proofs.YtimmadeghcghoaaW.PrintWords Go.Proofs.YtimmadeghcghoaaW.PrintLast Go.Proofs.YtimmadeghcghoaaW.PrintMore Go.Proofs.Ytimmadeghcghoaa.Sq
attribute [local go_sem] max2_int min2_int max_two min_two max_three min_three max_four min_four
set_option linter.unusedVariables false
set_option linter.unusedSimpArgs false

/-! ### impl_IsSafeLights: function 49 -/
mutual
def impl_IsSafeLights.j0 : Nat → List (S90) → List Int → Bool → Option (Bool)
  | 0, _, _, _ => none
  | k + 1, x0, x1, x18 => if x18 = true then (some false) else (impl_IsSafeLights.l0 k x0 x1 x0 (x0.length : Int) 0)
def impl_IsSafeLights.l0 : Nat → List (S90) → List Int → List (S90) → Int → Int → Option (Bool)
  | 0, _, _, _, _, _ => none
  | k + 1, x0, x1, x19, x20, x21 => if x21 < x20 then (if 0 ≤ x21 then (if x21 < (x19.length : Int) then (if x21 < (x1.length : Int) then ((impl_InRange.f (rd x1 x21) 0 2).bind fun t545 => (if t545 = true then (if x21 ≤ (x0.length : Int) then ((some (x0.take (x21 : Int).toNat : List (S90))).bind fun y546 => (impl_IsSafeLights.l1 k x0 x1 x21 x19 x20 x21 y546 (y546.length : Int) 0 ((rd_T90 x19 x21).f0) ((rd_T90 x19 x21).f1) ((rd_T90 x19 x21).f2) ((rd_T90 x19 x21).f3))) else (none)) else (some false))) else (none)) else (none)) else (none)) else (some true)
def impl_IsSafeLights.l1 : Nat → List (S90) → List Int → Int → List (S90) → Int → Int → List (S90) → Int → Int → Int → Int → Int → Int → Option (Bool)
  | 0, _, _, _, _, _, _, _, _, _, _, _, _, _ => none
  | k + 1, x0, x1, x5, x19, x20, x21, x34, x35, x36, x544000, x544001, x544002, x544003 => if x36 < x35 then (if 0 ≤ x36 then (if x36 < (x34.length : Int) then ((impl_Conflict.f k x544000 x544001 x544002 x544003 ((rd_T90 x34 x36).f0) ((rd_T90 x34 x36).f1) ((rd_T90 x34 x36).f2) ((rd_T90 x34 x36).f3)).bind fun t552 => (if t552 = true then (if 0 ≤ x5 then (if x5 < (x1.length : Int) then (if (rd x1 x5) = 0 then (impl_IsSafeLights.l1 k x0 x1 x5 x19 x20 x21 x34 x35 (wrap64 (x36 + 1)) x544000 x544001 x544002 x544003) else (if x36 < (x1.length : Int) then (if (rd x1 x36) = 0 then (impl_IsSafeLights.l1 k x0 x1 x5 x19 x20 x21 x34 x35 (wrap64 (x36 + 1)) x544000 x544001 x544002 x544003) else (some false)) else (none))) else (none)) else (none)) else (impl_IsSafeLights.l1 k x0 x1 x5 x19 x20 x21 x34 x35 (wrap64 (x36 + 1)) x544000 x544001 x544002 x544003))) else (none)) else (none)) else (impl_IsSafeLights.l0 k x0 x1 x19 x20 (wrap64 (x21 + 1)))
end
def impl_IsSafeLights.f (k : Nat) (l0 : List (S90)) (l1 : List Int) : Option (Bool) := (impl_ArePaths.f k l0).bind fun t541 => (if t541 = true then (impl_IsSafeLights.j0 k l0 l1 ((l1.length : Int) != (l0.length : Int))) else (impl_IsSafeLights.j0 k l0 l1 true))
theorem impl_IsSafeLights.mono_l : ∀ k, (∀ y0 y1 y2, LeO (impl_IsSafeLights.j0 k y0 y1 y2) (impl_IsSafeLights.j0 (k + 1) y0 y1 y2)) ∧ (∀ y0 y1 y2 y3 y4, LeO (impl_IsSafeLights.l0 k y0 y1 y2 y3 y4) (impl_IsSafeLights.l0 (k + 1) y0 y1 y2 y3 y4)) ∧ (∀ y0 y1 y2 y3 y4 y5 y6 y7 y8 y9 y10 y11 y12, LeO (impl_IsSafeLights.l1 k y0 y1 y2 y3 y4 y5 y6 y7 y8 y9 y10 y11 y12) (impl_IsSafeLights.l1 (k + 1) y0 y1 y2 y3 y4 y5 y6 y7 y8 y9 y10 y11 y12))
  | 0 => ⟨fun _ _ _ r h => by simp [impl_IsSafeLights.j0] at h, fun _ _ _ _ _ r h => by simp [impl_IsSafeLights.l0] at h, fun _ _ _ _ _ _ _ _ _ _ _ _ _ r h => by simp [impl_IsSafeLights.l1] at h⟩
  | k + 1 => by
    obtain ⟨ih0, ih1, ih2⟩ := impl_IsSafeLights.mono_l k
    refine ⟨?_, ?_, ?_⟩
    · intro y0 y1 y2
      unfold impl_IsSafeLights.j0
      repeat' first | (with_reducible first | exact LeO.refl _ | exact LeO.none _ | refine LeO.ite ?_ ?_ | refine LeO.bind ?_ (fun _ => ?_) | exact ih0 _ _ _ | exact ih1 _ _ _ _ _ | exact ih2 _ _ _ _ _ _ _ _ _ _ _ _ _ | exact impl_ArePaths.mono _ _ | exact impl_Conflict.mono _ _ _ _ _ _ _ _ _) | exact LeO.none _ | refine LeO.ite ?_ ?_ | refine LeO.bind ?_ (fun _ => ?_) | exact ih0 _ _ _ | exact ih1 _ _ _ _ _ | exact ih2 _ _ _ _ _ _ _ _ _ _ _ _ _ | exact impl_ArePaths.mono _ _ | exact impl_Conflict.mono _ _ _ _ _ _ _ _ _
    · intro y0 y1 y2 y3 y4
      unfold impl_IsSafeLights.l0
      repeat' first | (with_reducible first | exact LeO.refl _ | exact LeO.none _ | refine LeO.ite ?_ ?_ | refine LeO.bind ?_ (fun _ => ?_) | exact ih0 _ _ _ | exact ih1 _ _ _ _ _ | exact ih2 _ _ _ _ _ _ _ _ _ _ _ _ _ | exact impl_ArePaths.mono _ _ | exact impl_Conflict.mono _ _ _ _ _ _ _ _ _) | exact LeO.none _ | refine LeO.ite ?_ ?_ | refine LeO.bind ?_ (fun _ => ?_) | exact ih0 _ _ _ | exact ih1 _ _ _ _ _ | exact ih2 _ _ _ _ _ _ _ _ _ _ _ _ _ | exact impl_ArePaths.mono _ _ | exact impl_Conflict.mono _ _ _ _ _ _ _ _ _
    · intro y0 y1 y2 y3 y4 y5 y6 y7 y8 y9 y10 y11 y12
      unfold impl_IsSafeLights.l1
      repeat' first | (with_reducible first | exact LeO.refl _ | exact LeO.none _ | refine LeO.ite ?_ ?_ | refine LeO.bind ?_ (fun _ => ?_) | exact ih0 _ _ _ | exact ih1 _ _ _ _ _ | exact ih2 _ _ _ _ _ _ _ _ _ _ _ _ _ | exact impl_ArePaths.mono _ _ | exact impl_Conflict.mono _ _ _ _ _ _ _ _ _) | exact LeO.none _ | refine LeO.ite ?_ ?_ | refine LeO.bind ?_ (fun _ => ?_) | exact ih0 _ _ _ | exact ih1 _ _ _ _ _ | exact ih2 _ _ _ _ _ _ _ _ _ _ _ _ _ | exact impl_ArePaths.mono _ _ | exact impl_Conflict.mono _ _ _ _ _ _ _ _ _
theorem impl_IsSafeLights.mono : ∀ a0 a1 k, LeO (impl_IsSafeLights.f k a0 a1) (impl_IsSafeLights.f (k + 1) a0 a1) := by
  intro a0 a1 k
  obtain ⟨ih0, ih1, ih2⟩ := impl_IsSafeLights.mono_l k
  unfold impl_IsSafeLights.f
  repeat' first | (with_reducible first | exact LeO.refl _ | exact LeO.none _ | refine LeO.ite ?_ ?_ | refine LeO.bind ?_ (fun _ => ?_) | exact ih0 _ _ _ | exact ih1 _ _ _ _ _ | exact ih2 _ _ _ _ _ _ _ _ _ _ _ _ _ | exact impl_ArePaths.mono _ _ | exact impl_Conflict.mono _ _ _ _ _ _ _ _ _) | exact LeO.none _ | refine LeO.ite ?_ ?_ | refine LeO.bind ?_ (fun _ => ?_) | exact ih0 _ _ _ | exact ih1 _ _ _ _ _ | exact ih2 _ _ _ _ _ _ _ _ _ _ _ _ _ | exact impl_ArePaths.mono _ _ | exact impl_Conflict.mono _ _ _ _ _ _ _ _ _
set_option maxHeartbeats 8000000 in
set_option maxRecDepth 100000 in
theorem impl_IsSafeLights.calls (k : Nat) (A0 : Option Addr) (c0 : Nat) (l0 : List (S90)) (A1 : Option Addr) (c1 : Nat) (l1 : List Int) (r : Bool) (w : World) (hr0 : Kd.C k90 w A0 l0.length l0) (hc0 : l0.length ≤ c0) (hr1 : Kd.C (Kd.int .i64) w A1 l1.length l1) (hc1 : l1.length ≤ c1) (h : impl_IsSafeLights.f k l0 l1 = some r) :
    Calls Try.prog 49 #[.slice A0 l0.length c0, .slice A1 l1.length c1] w fun e w' => e = .returned (.bool r) ∧ Below w.heap.size w w' := by
  have hu90 := Try.underlying90
  have HR0 := Aside0.mk hr0
  have HC0 := Aside0.mk hc0
  clear hr0 hc0
  have HR1 := Aside0.mk hr1
  have HC1 := Aside0.mk hc1
  clear hr1 hc1
  have HB := Aside0.mk (Below.refl w.heap.size w)
  have H : ((impl_ArePaths.f k l0).bind fun t541 => (if t541 = true then (impl_IsSafeLights.j0 k l0 l1 ((l1.length : Int) != (l0.length : Int))) else (impl_IsSafeLights.j0 k l0 l1 true))) = some r := h
  clear h
  have HC3 := Aside0.mk H
  clear H
  go_enter Try.func49, Try.ntmps49
  go_upto_region 1 with (fail)
  go_cut [18] (fun v18 wc => ∃ (kq : Nat) (x18_2 : Bool), v18 = .bool x18_2 ∧ Aside0 (impl_IsSafeLights.j0 kq l0 l1 x18_2 = some r) ∧ Aside0 (kq ≤ k) ∧ Aside0 (Below w.heap.size w wc))
  case first =>
    have H := HC3.out
    clear HC3
    obtain ⟨t541, A4, H⟩ := bindE H
    try dsimp only at H
    by_cases c5 : t541 = true
    · subst c5
      have H1 : (impl_IsSafeLights.j0 k l0 l1 ((l1.length : Int) != (l0.length : Int))) = some r := by rw [if_pos rfl] at H; exact H
      clear H
      have H := H1
      clear H1
      have H' := Aside0.mk H
      clear H
      go_wp2_with (first | ((with_reducible refine gate_callee (f := 83) rfl ?_); refine gL (some 10) Try.func83 #[.slice A0 l0.length c0] ?_; (with_reducible refine (impl_ArePaths.calls k _ _ l0 true _ ?side1 ?side2 A4.out).mono ?_); (case side1 => exact cB HR0); (case side2 => exact HC0.out); rintro e w6 ⟨rfl, hb⟩; refine ⟨_, rfl, ?_⟩; replace HB := Aside0.mk (below_step bA hb); (try clear hb); (try clear hb2); (try clear hk); (try clear hi)))
      go_meet
      case rel => exact ⟨_, (((l1.length : Int) != (l0.length : Int))), rS, H', ⟨by first | omega | exact Nat.le_refl _⟩, ⟨bA⟩⟩
    · replace c5 := Bool.eq_false_iff.mpr c5
      subst c5
      have H1 : (impl_IsSafeLights.j0 k l0 l1 true) = some r := by rw [if_neg (show ¬ (false = true) by decide)] at H; exact H
      clear H
      have H := H1
      clear H1
      have H' := Aside0.mk H
      clear H
      go_wp2_with (first | ((with_reducible refine gate_callee (f := 83) rfl ?_); refine gL (some 10) Try.func83 #[.slice A0 l0.length c0] ?_; (with_reducible refine (impl_ArePaths.calls k _ _ l0 false _ ?side1 ?side2 A4.out).mono ?_); (case side1 => exact cB HR0); (case side2 => exact HC0.out); rintro e w7 ⟨rfl, hb⟩; refine ⟨_, rfl, ?_⟩; replace HB := Aside0.mk (below_step bA hb); (try clear hb); (try clear hb2); (try clear hk); (try clear hi)))
      go_meet
      case rel => exact ⟨_, (true), rS, H', ⟨by first | omega | exact Nat.le_refl _⟩, ⟨bA⟩⟩
  case rest =>
    clear HC3
    try clear c1
    try clear p2
    try clear c4
    try clear c5
    obtain ⟨kq, x18_2, rfl, HA, HJ2, HB⟩ := hcut
    cases kq with
    | zero => exact absurd HA.out (by simp [impl_IsSafeLights.j0])
    | succ kj2 =>
      have H := HA.out
      clear HA
      simp only [impl_IsSafeLights.j0] at H
      by_cases c8 : x18_2 = true
      · subst c8
        have H1 : (some false) = some r := by rw [if_pos rfl] at H; exact H
        clear H
        have H := H1
        clear H1
        obtain rfl := Option.some.inj H
        go_wp2
        go_ret
        exact ⟨rA, bA⟩
      · replace c8 := Bool.eq_false_iff.mpr c8
        subst c8
        have H1 : (impl_IsSafeLights.l0 kj2 l0 l1 l0 (l0.length : Int) 0) = some r := by rw [if_neg (show ¬ (false = true) by decide)] at H; exact H
        clear H
        have H := H1
        clear H1
        have H' := Aside0.mk H
        clear H
        go_wp2
        go_loopg [21] kj2 (fun kq v21 w' => ∃ (x21_2 : Int), v21 = .int .i64 x21_2 ∧ Aside0 (impl_IsSafeLights.l0 kq l0 l1 l0 (l0.length : Int) x21_2 = some r) ∧ Aside0 (kq ≤ kj2) ∧ Aside0 (Below w.heap.size w w'))
        case atStart => exact ⟨(0), rS, H', ⟨Nat.le_refl _⟩, ⟨bA⟩⟩
        case round =>
          clear H'
          try clear c1
          try clear p2
          try clear c4
          try clear c5
          try clear c8
          try clear p2
          obtain ⟨x21_2, rfl, HA, HK2, HB⟩ := hrel
          cases gk with
          | zero => exact absurd HA.out (by simp [impl_IsSafeLights.l0])
          | succ k2 =>
            have H := HA.out
            clear HA
            simp only [impl_IsSafeLights.l0] at H
            by_cases c9 : x21_2 < (l0.length : Int)
            · rw [if_pos c9] at H
              have c9b0 : decide (x21_2 < (l0.length : Int)) = true := decide_eq_true c9
              clear c9
              have c10 : 0 ≤ x21_2 := ifN H
              replace H := ifT H
              have c10b0 : decide (0 ≤ x21_2) = true := decide_eq_true c10
              clear c10
              have c11 : x21_2 < (l0.length : Int) := ifN H
              replace H := ifT H
              have c11b0 : decide (x21_2 < (l0.length : Int)) = true := decide_eq_true c11
              clear c11
              have c12 : x21_2 < (l1.length : Int) := ifN H
              replace H := ifT H
              have c12b0 : decide (x21_2 < (l1.length : Int)) = true := decide_eq_true c12
              clear c12
              obtain ⟨t545, A13, H⟩ := bindE H
              try dsimp only at H
              by_cases c14 : t545 = true
              · subst c14
                have H1 : (if x21_2 ≤ (l0.length : Int) then ((some (l0.take (x21_2 : Int).toNat : List (S90))).bind fun y546 => (impl_IsSafeLights.l1 k2 l0 l1 x21_2 l0 (l0.length : Int) x21_2 y546 (y546.length : Int) 0 ((rd_T90 l0 x21_2).f0) ((rd_T90 l0 x21_2).f1) ((rd_T90 l0 x21_2).f2) ((rd_T90 l0 x21_2).f3))) else (none)) = some r := by rw [if_pos rfl] at H; exact H
                clear H
                have H := H1
                clear H1
                have c15b0 := eq_true (dA : 0 ≤ x21_2)
                have c16 : x21_2 ≤ (l0.length : Int) := ifN H
                replace H := ifT H
                have c16b0 := eq_true c16
                have c16b1 : decide (x21_2 ≤ (l0.length : Int)) = true := decide_eq_true c16
                clear c16
                obtain ⟨y546, hy546⟩ : ∃ y_ : List (S90), y_ = (l0.take (x21_2 : Int).toNat) := ⟨_, rfl⟩
                replace H : (impl_IsSafeLights.l1 k2 l0 l1 x21_2 l0 (l0.length : Int) x21_2 y546 (y546.length : Int) 0 ((rd_T90 l0 x21_2).f0) ((rd_T90 l0 x21_2).f1) ((rd_T90 l0 x21_2).f2) ((rd_T90 l0 x21_2).f3)) = some r := by first | (rw [hy546]; with_reducible exact H) | (have H2_ := (Option.bind_some _ _).symm.trans H; rw [hy546]; with_reducible exact H2_) | (have H2_ := (Option.bind_some _ _).symm.trans H; with_reducible exact H2_) | with_reducible exact H | (rw [hy546]; exact H) | exact H
                have Ny546 := Aside0.mk hy546
                clear hy546
                have H' := Aside0.mk H
                clear H
                have p542 : 0 ≤ (x21_2 : Int) := dA
                have q542 : x21_2 < (l0.length : Int) := dA
                obtain ⟨ad542, e542, hx542_0, hx542_1, hx542_2, hx542_3⟩ := at_T90 HR0.out x21_2 p542 q542
                cases e542
                replace hx542_0 := hC HB hx542_0
                replace hx542_1 := hC HB hx542_1
                replace hx542_2 := hC HB hx542_2
                replace hx542_3 := hC HB hx542_3
                replace p542 := eq_true p542
                replace q542 := eq_true q542
                go_wp2_with (first | ((with_reducible refine gate_dst (N := 6) rfl ?_); (try (refine gate_guard (by rfl) ?_; dsimp only)); refine bE (N := 6) (cs := #[.int .i64 0, .int .i64 0, .int .i64 0, .int .i64 0]) (t := 90) ?_; intro gb543 hg w17 hbox hb; have n0_ := Aside0.mk (below_step bA hb); have n1_ := Aside0.mk (hbox); have n2_ := Aside0.mk ((by rw [hg]; exact (below_size bA) : w.heap.size ≤ gb543)); have n3_ := Aside0.mk ((by rw [hg]; exact (below_size bA) : w.heap.size ≤ gb543)); clear HB; have HB := n0_; have BK543 := n1_; have GW543 := n2_; have GE543 := n3_; clear n0_ n1_ n2_ n3_; clear hb hbox hg; have hcz18_0 : w17.cell? ⟨gb543, 0, none⟩ = some (.int .i64 0) := (blk_cell BK543.out 0).trans rfl; have hcz18_1 : w17.cell? ⟨gb543, 1, none⟩ = some (.int .i64 0) := (blk_cell BK543.out 1).trans rfl; have hcz18_2 : w17.cell? ⟨gb543, 2, none⟩ = some (.int .i64 0) := (blk_cell BK543.out 2).trans rfl; have hcz18_3 : w17.cell? ⟨gb543, 3, none⟩ = some (.int .i64 0) := (blk_cell BK543.out 3).trans rfl; have hfz18_0 := blk_frozen BK543.out 0; have hfz18_1 := blk_frozen BK543.out 1; have hfz18_2 := blk_frozen BK543.out 2; have hfz18_3 := blk_frozen BK543.out 3) | ((with_reducible refine gate_store (t := 90) (p := 6) rfl ?_); refine store_event (t := 90) (p := 6) (v := ?vo_w19) (w1 := ((((w17.setCell ⟨gb543, 0, none⟩ (.int .i64 ((rd_T90 l0 x21_2).f0))).setCell ⟨gb543, 1, none⟩ (.int .i64 ((rd_T90 l0 x21_2).f1))).setCell ⟨gb543, 2, none⟩ (.int .i64 ((rd_T90 l0 x21_2).f2))).setCell ⟨gb543, 3, none⟩ (.int .i64 ((rd_T90 l0 x21_2).f3)))) ?hg ?ho ?hn ?hr ?_; (case ho => rfl); (case hg => rfl); (case hn => rfl); (case hr => first | (go_simp; done) | (go_simp; rfl)); intro w19 hw; have n0_ : Aside0 (w19.heap[gb543]? = some (.cells #[.int .i64 ((rd_T90 l0 x21_2).f0), .int .i64 ((rd_T90 l0 x21_2).f1), .int .i64 ((rd_T90 l0 x21_2).f2), .int .i64 ((rd_T90 l0 x21_2).f3)] 90 (0, 0))) := ⟨(by rw [hw]; exact (by (with_reducible repeat (first | refine blk_drewN ?_ _ | refine blk_drew ?_ | refine blk_alloc ?_ _)); refine blk_put (cs := #[.int .i64 ((rd_T90 l0 x21_2).f0), .int .i64 ((rd_T90 l0 x21_2).f1), .int .i64 ((rd_T90 l0 x21_2).f2), .int .i64 0]) ?_ 3 _ rfl; (with_reducible repeat (first | refine blk_drewN ?_ _ | refine blk_drew ?_ | refine blk_alloc ?_ _)); refine blk_put (cs := #[.int .i64 ((rd_T90 l0 x21_2).f0), .int .i64 ((rd_T90 l0 x21_2).f1), .int .i64 0, .int .i64 0]) ?_ 2 _ rfl; (with_reducible repeat (first | refine blk_drewN ?_ _ | refine blk_drew ?_ | refine blk_alloc ?_ _)); refine blk_put (cs := #[.int .i64 ((rd_T90 l0 x21_2).f0), .int .i64 0, .int .i64 0, .int .i64 0]) ?_ 1 _ rfl; (with_reducible repeat (first | refine blk_drewN ?_ _ | refine blk_drew ?_ | refine blk_alloc ?_ _)); refine blk_put (cs := #[.int .i64 0, .int .i64 0, .int .i64 0, .int .i64 0]) ?_ 0 _ rfl; (with_reducible repeat (first | refine blk_drewN ?_ _ | refine blk_drew ?_ | refine blk_alloc ?_ _)); exact BK543.out))⟩; have n1_ : Aside0 (Below w.heap.size w w19) := ⟨(by rw [hw]; exact bG)⟩; clear hw; clear BK543; clear HB; have BK543 := n0_; have HB := n1_; clear n0_ n1_; have p544 : 0 ≤ (x21_2 : Int) := dA; have q544 : x21_2 < (l1.length : Int) := dA; obtain ⟨ad544, e544, hx544_0⟩ := Kd.at_int HR1.out x21_2 p544 q544; cases e544; replace hx544_0 := hC HB hx544_0; replace p544 := eq_true p544; replace q544 := eq_true q544) | ((with_reducible refine gate_callee (f := 69) rfl ?_); refine gL (some 30) Try.func69 #[.int .i64 (rd l1 x21_2), .int .i64 0, .int .i64 2] ?_; (with_reducible refine (impl_InRange.calls (rd l1 x21_2) 0 2 true _ A13.out).mono ?_); rintro e w' ⟨rfl, ⟨nd, rfl⟩⟩; refine ⟨_, rfl, ?_⟩; have q20 : (x21_2 : Int) ≤ ((l0.length : Int) : Int) := dA; obtain ⟨i020, hi020, _, hsz20, _⟩ := info_parts info90; have hroom20 : l0.length ≤ c0 := HC0.out; have hC20 : Kd.C k90 _ (some ad542) l0.length l0 := HR0.out; have hcut20 := cut_to (P := Try.prog) 43 90 .i64 Try.underlying43 hi020 (some ad542) l0.length c0 x21_2 (dA) q20 hroom20; have hr20 := Kd.C_take (m := (x21_2 : Int).toNat) hC20 (by omega); have hy20 : y546.length = (x21_2 : Int).toNat := (by rw [Ny546.out, List.length_take]; omega); rw [← Ny546.out] at hr20; rw [← hy20] at hcut20; have HR549 := Aside0.mk hr20; have HC549 := Aside0.mk (show y546.length ≤ c0 from by omega); clear hr20 hC20 hroom20 hi020 hsz20; have KY20 := Aside0.mk hy20; clear hy20; replace q20 := eq_true q20))
                go_loopg [36] k2 (fun kq v36 w' => ∃ (x36_3 : Int), v36 = .int .i64 x36_3 ∧ Aside0 (impl_IsSafeLights.l1 kq l0 l1 x21_2 l0 (l0.length : Int) x21_2 y546 (y546.length : Int) x36_3 ((rd_T90 l0 x21_2).f0) ((rd_T90 l0 x21_2).f1) ((rd_T90 l0 x21_2).f2) ((rd_T90 l0 x21_2).f3) = some r) ∧ Aside0 (kq ≤ k2) ∧ Aside0 (w'.heap[gb543]? = some (.cells #[.int .i64 ((rd_T90 l0 x21_2).f0), .int .i64 ((rd_T90 l0 x21_2).f1), .int .i64 ((rd_T90 l0 x21_2).f2), .int .i64 ((rd_T90 l0 x21_2).f3)] 90 (0, 0))) ∧ Aside0 (Below w.heap.size w w'))
                case atStart => exact ⟨(0), rS, H', ⟨Nat.le_refl _⟩, ⟨bK BK543⟩, ⟨bG⟩⟩
                case round =>
                  clear H'
                  try clear c1
                  try clear p2
                  try clear q2
                  try clear c4
                  try clear c5
                  try clear p5
                  try clear q5
                  try clear hx5
                  try clear c6
                  try clear c8
                  try clear c9
                  try clear c9b0
                  try clear c10
                  try clear c10b0
                  try clear c11
                  try clear c11b0
                  try clear c12
                  try clear c12b0
                  try clear c14
                  try clear c15
                  try clear c15b0
                  try clear c16
                  try clear c16b0
                  try clear c16b1
                  try clear q20
                  try clear hcz18_0
                  try clear hcz18_1
                  try clear hcz18_2
                  try clear hcz18_3
                  try clear hfz18_0
                  try clear hfz18_1
                  try clear hfz18_2
                  try clear hfz18_3
                  try clear hx542_0
                  try clear hx542_1
                  try clear hx542_2
                  try clear hx542_3
                  try clear hx544_0
                  try clear p2
                  try clear p542
                  try clear p544
                  try clear q20
                  try clear q542
                  try clear q544
                  obtain ⟨x36_3, rfl, HA, HK3, BK543, HB⟩ := hrel
                  cases gk with
                  | zero => exact absurd HA.out (by simp [impl_IsSafeLights.l1])
                  | succ k3 =>
                    have H := HA.out
                    clear HA
                    simp only [impl_IsSafeLights.l1] at H
                    by_cases c21 : x36_3 < (y546.length : Int)
                    · rw [if_pos c21] at H
                      have c21b0 : decide (x36_3 < (y546.length : Int)) = true := decide_eq_true c21
                      clear c21
                      have c22 : 0 ≤ x36_3 := ifN H
                      replace H := ifT H
                      have c22b0 : decide (0 ≤ x36_3) = true := decide_eq_true c22
                      clear c22
                      have c23 : x36_3 < (y546.length : Int) := ifN H
                      replace H := ifT H
                      have c23b0 : decide (x36_3 < (y546.length : Int)) = true := decide_eq_true c23
                      clear c23
                      obtain ⟨t552, A24, H⟩ := bindE H
                      try dsimp only at H
                      by_cases c25 : t552 = true
                      · subst c25
                        have H1 : (if 0 ≤ x21_2 then (if x21_2 < (l1.length : Int) then (if (rd l1 x21_2) = 0 then (impl_IsSafeLights.l1 k3 l0 l1 x21_2 l0 (l0.length : Int) x21_2 y546 (y546.length : Int) (wrap64 (x36_3 + 1)) ((rd_T90 l0 x21_2).f0) ((rd_T90 l0 x21_2).f1) ((rd_T90 l0 x21_2).f2) ((rd_T90 l0 x21_2).f3)) else (if x36_3 < (l1.length : Int) then (if (rd l1 x36_3) = 0 then (impl_IsSafeLights.l1 k3 l0 l1 x21_2 l0 (l0.length : Int) x21_2 y546 (y546.length : Int) (wrap64 (x36_3 + 1)) ((rd_T90 l0 x21_2).f0) ((rd_T90 l0 x21_2).f1) ((rd_T90 l0 x21_2).f2) ((rd_T90 l0 x21_2).f3)) else (some false)) else (none))) else (none)) else (none)) = some r := by rw [if_pos rfl] at H; exact H
                        clear H
                        have H := H1
                        clear H1
                        have c26 : 0 ≤ x21_2 := ifN H
                        replace H := ifT H
                        have c26b0 : decide (0 ≤ x21_2) = true := decide_eq_true c26
                        clear c26
                        have c27 : x21_2 < (l1.length : Int) := ifN H
                        replace H := ifT H
                        have c27b0 : decide (x21_2 < (l1.length : Int)) = true := decide_eq_true c27
                        clear c27
                        by_cases c28 : (rd l1 x21_2) = 0
                        · rw [if_pos c28] at H
                          have c28b0 : ((rd l1 x21_2) == 0) = true := beq_iff_eq.mpr c28
                          have c28b1 : ((rd l1 x21_2) != 0) = false := bne_eq_false_iff_eq.mpr c28
                          clear c28
                          have H' := Aside0.mk H
                          clear H
                          have p550 : 0 ≤ (x36_3 : Int) := dA
                          have q550 : x36_3 < (y546.length : Int) := dA
                          obtain ⟨ad550, e550, hx550_0, hx550_1, hx550_2, hx550_3⟩ := at_T90 HR549.out x36_3 p550 q550
                          obtain rfl : ad542 = ad550 := (by injection e550)
                          replace hx550_0 := hC HB hx550_0
                          replace hx550_1 := hC HB hx550_1
                          replace hx550_2 := hC HB hx550_2
                          replace hx550_3 := hC HB hx550_3
                          replace p550 := eq_true p550
                          replace q550 := eq_true q550
                          go_wp2_with (first | ((with_reducible refine gate_dst (N := 8) rfl ?_); (try (refine gate_guard (by rfl) ?_; dsimp only)); refine bE (N := 8) (cs := #[.int .i64 0, .int .i64 0, .int .i64 0, .int .i64 0]) (t := 90) ?_; intro gb551 hg w29 hbox hb; have n0_ := Aside0.mk (blk_below (g := gb543) (bK BK543) hb); have n1_ := Aside0.mk (below_step bG hb); have n2_ := Aside0.mk (hbox); have n3_ := Aside0.mk ((by rw [hg]; exact (below_size bG) : w.heap.size ≤ gb551)); have n4_ := Aside0.mk ((by rw [hg]; exact (below_size bG) : w.heap.size ≤ gb551)); have n5_ := Aside0.mk ((by rw [hg]; exact Nat.ne_of_lt (blk_lt (g := gb543) (o := .cells #[.int .i64 ((rd_T90 l0 x21_2).f0), .int .i64 ((rd_T90 l0 x21_2).f1), .int .i64 ((rd_T90 l0 x21_2).f2), .int .i64 ((rd_T90 l0 x21_2).f3)] 90 (0, 0)) (bK BK543)) : gb543 ≠ gb551)); have n6_ := Aside0.mk ((by rw [hg]; exact Nat.ne_of_gt (blk_lt (g := gb543) (o := .cells #[.int .i64 ((rd_T90 l0 x21_2).f0), .int .i64 ((rd_T90 l0 x21_2).f1), .int .i64 ((rd_T90 l0 x21_2).f2), .int .i64 ((rd_T90 l0 x21_2).f3)] 90 (0, 0)) (bK BK543)) : gb551 ≠ gb543)); clear BK543; clear HB; have BK543 := n0_; have HB := n1_; have BK551 := n2_; have GW551 := n3_; have GE551 := n4_; have NB543_551 := n5_; have NB551_543 := n6_; clear n0_ n1_ n2_ n3_ n4_ n5_ n6_; clear hb hbox hg; have hnb30 := NB551_543.out; have hnc30 := NB543_551.out; obtain ⟨hcz31_0, hcz31_1, hcz31_2, hcz31_3, hfz31_0, hfz31_1, hfz31_2, hfz31_3⟩ := blkc4 BK551; have hcz32_0 : w29.cell? ⟨gb543, 0, none⟩ = some (.int .i64 ((rd_T90 l0 x21_2).f0)) := (blk_cell BK543.out 0).trans rfl; have hcz32_1 : w29.cell? ⟨gb543, 1, none⟩ = some (.int .i64 ((rd_T90 l0 x21_2).f1)) := (blk_cell BK543.out 1).trans rfl; have hcz32_2 : w29.cell? ⟨gb543, 2, none⟩ = some (.int .i64 ((rd_T90 l0 x21_2).f2)) := (blk_cell BK543.out 2).trans rfl; have hcz32_3 : w29.cell? ⟨gb543, 3, none⟩ = some (.int .i64 ((rd_T90 l0 x21_2).f3)) := (blk_cell BK543.out 3).trans rfl; have hfz32_0 := blk_frozen BK543.out 0; have hfz32_1 := blk_frozen BK543.out 1; have hfz32_2 := blk_frozen BK543.out 2; have hfz32_3 := blk_frozen BK543.out 3) | ((with_reducible refine gate_callee (f := 92) rfl ?_); refine gL (some 43) Try.func92 #[.agg #[.int .i64 ((rd_T90 l0 x21_2).f0), .int .i64 ((rd_T90 l0 x21_2).f1), .int .i64 ((rd_T90 l0 x21_2).f2), .int .i64 ((rd_T90 l0 x21_2).f3)], .agg #[.int .i64 ((rd_T90 y546 x36_3).f0), .int .i64 ((rd_T90 y546 x36_3).f1), .int .i64 ((rd_T90 y546 x36_3).f2), .int .i64 ((rd_T90 y546 x36_3).f3)]] ?_; (with_reducible refine (impl_Conflict.calls k3 ((rd_T90 l0 x21_2).f0) ((rd_T90 l0 x21_2).f1) ((rd_T90 l0 x21_2).f2) ((rd_T90 l0 x21_2).f3) ((rd_T90 y546 x36_3).f0) ((rd_T90 y546 x36_3).f1) ((rd_T90 y546 x36_3).f2) ((rd_T90 y546 x36_3).f3) true _ A24.out).mono ?_); rintro e w33 ⟨rfl, hb⟩; refine ⟨_, rfl, ?_⟩; have n0_ := Aside0.mk (blk_below (g := gb543) (o := .cells #[.int .i64 ((rd_T90 l0 x21_2).f0), .int .i64 ((rd_T90 l0 x21_2).f1), .int .i64 ((rd_T90 l0 x21_2).f2), .int .i64 ((rd_T90 l0 x21_2).f3)] 90 (0, 0)) (by (with_reducible repeat (first | refine blk_drewN ?_ _ | refine blk_drew ?_ | refine blk_alloc ?_ _)); refine blk_far ?_ NB543_551.out _; (with_reducible repeat (first | refine blk_drewN ?_ _ | refine blk_drew ?_ | refine blk_alloc ?_ _)); refine blk_far ?_ NB543_551.out _; (with_reducible repeat (first | refine blk_drewN ?_ _ | refine blk_drew ?_ | refine blk_alloc ?_ _)); refine blk_far ?_ NB543_551.out _; (with_reducible repeat (first | refine blk_drewN ?_ _ | refine blk_drew ?_ | refine blk_alloc ?_ _)); refine blk_far ?_ NB543_551.out _; (with_reducible repeat (first | refine blk_drewN ?_ _ | refine blk_drew ?_ | refine blk_alloc ?_ _)); exact BK543.out) hb); have n1_ := Aside0.mk (blk_below (g := gb551) (o := .cells #[.int .i64 ((rd_T90 y546 x36_3).f0), .int .i64 ((rd_T90 y546 x36_3).f1), .int .i64 ((rd_T90 y546 x36_3).f2), .int .i64 ((rd_T90 y546 x36_3).f3)] 90 (0, 0)) (by (with_reducible repeat (first | refine blk_drewN ?_ _ | refine blk_drew ?_ | refine blk_alloc ?_ _)); refine blk_put (cs := #[.int .i64 ((rd_T90 y546 x36_3).f0), .int .i64 ((rd_T90 y546 x36_3).f1), .int .i64 ((rd_T90 y546 x36_3).f2), .int .i64 0]) ?_ 3 _ rfl; (with_reducible repeat (first | refine blk_drewN ?_ _ | refine blk_drew ?_ | refine blk_alloc ?_ _)); refine blk_put (cs := #[.int .i64 ((rd_T90 y546 x36_3).f0), .int .i64 ((rd_T90 y546 x36_3).f1), .int .i64 0, .int .i64 0]) ?_ 2 _ rfl; (with_reducible repeat (first | refine blk_drewN ?_ _ | refine blk_drew ?_ | refine blk_alloc ?_ _)); refine blk_put (cs := #[.int .i64 ((rd_T90 y546 x36_3).f0), .int .i64 0, .int .i64 0, .int .i64 0]) ?_ 1 _ rfl; (with_reducible repeat (first | refine blk_drewN ?_ _ | refine blk_drew ?_ | refine blk_alloc ?_ _)); refine blk_put (cs := #[.int .i64 0, .int .i64 0, .int .i64 0, .int .i64 0]) ?_ 0 _ rfl; (with_reducible repeat (first | refine blk_drewN ?_ _ | refine blk_drew ?_ | refine blk_alloc ?_ _)); exact BK551.out) hb); have n2_ := Aside0.mk (below_step bG hb); clear BK543; clear BK551; clear HB; have BK543 := n0_; have BK551 := n1_; have HB := n2_; clear n0_ n1_ n2_; (try clear hb); (try clear hb2); (try clear hk); (try clear hi); have p553 : 0 ≤ (x21_2 : Int) := dA; have q553 : x21_2 < (l1.length : Int) := dA; obtain ⟨ad553, e553, hx553_0⟩ := Kd.at_int HR1.out x21_2 p553 q553; obtain rfl : ad544 = ad553 := (by injection e553); replace hx553_0 := hC HB hx553_0; replace p553 := eq_true p553; replace q553 := eq_true q553))
                          go_roundg k3
                          case measure => have := HJ2.out; have := HK2.out; have := HK3.out; omega
                          case rel => exact ⟨(wrap64 (x36_3 + 1)), rS, H', ⟨by have := HJ2.out; have := HK2.out; have := HK3.out; omega⟩, ⟨bK BK543⟩, ⟨bG⟩⟩
                        · rw [if_neg c28] at H
                          have c28b0 : ((rd l1 x21_2) == 0) = false := beq_eq_false_iff_ne.mpr c28
                          have c28b1 : ((rd l1 x21_2) != 0) = true := bne_iff_ne.mpr c28
                          have c34 : x36_3 < (l1.length : Int) := ifN H
                          replace H := ifT H
                          have c34b0 : decide (x36_3 < (l1.length : Int)) = true := decide_eq_true c34
                          clear c34
                          by_cases c35 : (rd l1 x36_3) = 0
                          · rw [if_pos c35] at H
                            have c35b0 : ((rd l1 x36_3) == 0) = true := beq_iff_eq.mpr c35
                            have c35b1 : ((rd l1 x36_3) != 0) = false := bne_eq_false_iff_eq.mpr c35
                            clear c35
                            have H' := Aside0.mk H
                            clear H
                            have p550 : 0 ≤ (x36_3 : Int) := dA
                            have q550 : x36_3 < (y546.length : Int) := dA
                            obtain ⟨ad550, e550, hx550_0, hx550_1, hx550_2, hx550_3⟩ := at_T90 HR549.out x36_3 p550 q550
                            obtain rfl : ad542 = ad550 := (by injection e550)
                            replace hx550_0 := hC HB hx550_0
                            replace hx550_1 := hC HB hx550_1
                            replace hx550_2 := hC HB hx550_2
                            replace hx550_3 := hC HB hx550_3
                            replace p550 := eq_true p550
                            replace q550 := eq_true q550
                            go_wp2_with (first | ((with_reducible refine gate_dst (N := 8) rfl ?_); (try (refine gate_guard (by rfl) ?_; dsimp only)); refine bE (N := 8) (cs := #[.int .i64 0, .int .i64 0, .int .i64 0, .int .i64 0]) (t := 90) ?_; intro gb551 hg w36 hbox hb; have n0_ := Aside0.mk (blk_below (g := gb543) (bK BK543) hb); have n1_ := Aside0.mk (below_step bG hb); have n2_ := Aside0.mk (hbox); have n3_ := Aside0.mk ((by rw [hg]; exact (below_size bG) : w.heap.size ≤ gb551)); have n4_ := Aside0.mk ((by rw [hg]; exact (below_size bG) : w.heap.size ≤ gb551)); have n5_ := Aside0.mk ((by rw [hg]; exact Nat.ne_of_lt (blk_lt (g := gb543) (o := .cells #[.int .i64 ((rd_T90 l0 x21_2).f0), .int .i64 ((rd_T90 l0 x21_2).f1), .int .i64 ((rd_T90 l0 x21_2).f2), .int .i64 ((rd_T90 l0 x21_2).f3)] 90 (0, 0)) (bK BK543)) : gb543 ≠ gb551)); have n6_ := Aside0.mk ((by rw [hg]; exact Nat.ne_of_gt (blk_lt (g := gb543) (o := .cells #[.int .i64 ((rd_T90 l0 x21_2).f0), .int .i64 ((rd_T90 l0 x21_2).f1), .int .i64 ((rd_T90 l0 x21_2).f2), .int .i64 ((rd_T90 l0 x21_2).f3)] 90 (0, 0)) (bK BK543)) : gb551 ≠ gb543)); clear BK543; clear HB; have BK543 := n0_; have HB := n1_; have BK551 := n2_; have GW551 := n3_; have GE551 := n4_; have NB543_551 := n5_; have NB551_543 := n6_; clear n0_ n1_ n2_ n3_ n4_ n5_ n6_; clear hb hbox hg; have hnb37 := NB551_543.out; have hnc37 := NB543_551.out; obtain ⟨hcz38_0, hcz38_1, hcz38_2, hcz38_3, hfz38_0, hfz38_1, hfz38_2, hfz38_3⟩ := blkc4 BK551; have hcz39_0 : w36.cell? ⟨gb543, 0, none⟩ = some (.int .i64 ((rd_T90 l0 x21_2).f0)) := (blk_cell BK543.out 0).trans rfl; have hcz39_1 : w36.cell? ⟨gb543, 1, none⟩ = some (.int .i64 ((rd_T90 l0 x21_2).f1)) := (blk_cell BK543.out 1).trans rfl; have hcz39_2 : w36.cell? ⟨gb543, 2, none⟩ = some (.int .i64 ((rd_T90 l0 x21_2).f2)) := (blk_cell BK543.out 2).trans rfl; have hcz39_3 : w36.cell? ⟨gb543, 3, none⟩ = some (.int .i64 ((rd_T90 l0 x21_2).f3)) := (blk_cell BK543.out 3).trans rfl; have hfz39_0 := blk_frozen BK543.out 0; have hfz39_1 := blk_frozen BK543.out 1; have hfz39_2 := blk_frozen BK543.out 2; have hfz39_3 := blk_frozen BK543.out 3) | ((with_reducible refine gate_callee (f := 92) rfl ?_); refine gL (some 43) Try.func92 #[.agg #[.int .i64 ((rd_T90 l0 x21_2).f0), .int .i64 ((rd_T90 l0 x21_2).f1), .int .i64 ((rd_T90 l0 x21_2).f2), .int .i64 ((rd_T90 l0 x21_2).f3)], .agg #[.int .i64 ((rd_T90 y546 x36_3).f0), .int .i64 ((rd_T90 y546 x36_3).f1), .int .i64 ((rd_T90 y546 x36_3).f2), .int .i64 ((rd_T90 y546 x36_3).f3)]] ?_; (with_reducible refine (impl_Conflict.calls k3 ((rd_T90 l0 x21_2).f0) ((rd_T90 l0 x21_2).f1) ((rd_T90 l0 x21_2).f2) ((rd_T90 l0 x21_2).f3) ((rd_T90 y546 x36_3).f0) ((rd_T90 y546 x36_3).f1) ((rd_T90 y546 x36_3).f2) ((rd_T90 y546 x36_3).f3) true _ A24.out).mono ?_); rintro e w40 ⟨rfl, hb⟩; refine ⟨_, rfl, ?_⟩; have n0_ := Aside0.mk (blk_below (g := gb543) (o := .cells #[.int .i64 ((rd_T90 l0 x21_2).f0), .int .i64 ((rd_T90 l0 x21_2).f1), .int .i64 ((rd_T90 l0 x21_2).f2), .int .i64 ((rd_T90 l0 x21_2).f3)] 90 (0, 0)) (by (with_reducible repeat (first | refine blk_drewN ?_ _ | refine blk_drew ?_ | refine blk_alloc ?_ _)); refine blk_far ?_ NB543_551.out _; (with_reducible repeat (first | refine blk_drewN ?_ _ | refine blk_drew ?_ | refine blk_alloc ?_ _)); refine blk_far ?_ NB543_551.out _; (with_reducible repeat (first | refine blk_drewN ?_ _ | refine blk_drew ?_ | refine blk_alloc ?_ _)); refine blk_far ?_ NB543_551.out _; (with_reducible repeat (first | refine blk_drewN ?_ _ | refine blk_drew ?_ | refine blk_alloc ?_ _)); refine blk_far ?_ NB543_551.out _; (with_reducible repeat (first | refine blk_drewN ?_ _ | refine blk_drew ?_ | refine blk_alloc ?_ _)); exact BK543.out) hb); have n1_ := Aside0.mk (blk_below (g := gb551) (o := .cells #[.int .i64 ((rd_T90 y546 x36_3).f0), .int .i64 ((rd_T90 y546 x36_3).f1), .int .i64 ((rd_T90 y546 x36_3).f2), .int .i64 ((rd_T90 y546 x36_3).f3)] 90 (0, 0)) (by (with_reducible repeat (first | refine blk_drewN ?_ _ | refine blk_drew ?_ | refine blk_alloc ?_ _)); refine blk_put (cs := #[.int .i64 ((rd_T90 y546 x36_3).f0), .int .i64 ((rd_T90 y546 x36_3).f1), .int .i64 ((rd_T90 y546 x36_3).f2), .int .i64 0]) ?_ 3 _ rfl; (with_reducible repeat (first | refine blk_drewN ?_ _ | refine blk_drew ?_ | refine blk_alloc ?_ _)); refine blk_put (cs := #[.int .i64 ((rd_T90 y546 x36_3).f0), .int .i64 ((rd_T90 y546 x36_3).f1), .int .i64 0, .int .i64 0]) ?_ 2 _ rfl; (with_reducible repeat (first | refine blk_drewN ?_ _ | refine blk_drew ?_ | refine blk_alloc ?_ _)); refine blk_put (cs := #[.int .i64 ((rd_T90 y546 x36_3).f0), .int .i64 0, .int .i64 0, .int .i64 0]) ?_ 1 _ rfl; (with_reducible repeat (first | refine blk_drewN ?_ _ | refine blk_drew ?_ | refine blk_alloc ?_ _)); refine blk_put (cs := #[.int .i64 0, .int .i64 0, .int .i64 0, .int .i64 0]) ?_ 0 _ rfl; (with_reducible repeat (first | refine blk_drewN ?_ _ | refine blk_drew ?_ | refine blk_alloc ?_ _)); exact BK551.out) hb); have n2_ := Aside0.mk (below_step bG hb); clear BK543; clear BK551; clear HB; have BK543 := n0_; have BK551 := n1_; have HB := n2_; clear n0_ n1_ n2_; (try clear hb); (try clear hb2); (try clear hk); (try clear hi); have p553 : 0 ≤ (x21_2 : Int) := dA; have q553 : x21_2 < (l1.length : Int) := dA; obtain ⟨ad553, e553, hx553_0⟩ := Kd.at_int HR1.out x21_2 p553 q553; obtain rfl : ad544 = ad553 := (by injection e553); replace hx553_0 := hC HB hx553_0; replace p553 := eq_true p553; replace q553 := eq_true q553; have p554 : 0 ≤ (x36_3 : Int) := dA; have q554 : x36_3 < (l1.length : Int) := dA; obtain ⟨ad554, e554, hx554_0⟩ := Kd.at_int HR1.out x36_3 p554 q554; obtain rfl : ad544 = ad554 := (by injection e554); replace hx554_0 := hC HB hx554_0; replace p554 := eq_true p554; replace q554 := eq_true q554))
                            go_roundg k3
                            case measure => have := HJ2.out; have := HK2.out; have := HK3.out; omega
                            case rel => exact ⟨(wrap64 (x36_3 + 1)), rS, H', ⟨by have := HJ2.out; have := HK2.out; have := HK3.out; omega⟩, ⟨bK BK543⟩, ⟨bG⟩⟩
                          · rw [if_neg c35] at H
                            have c35b0 : ((rd l1 x36_3) == 0) = false := beq_eq_false_iff_ne.mpr c35
                            have c35b1 : ((rd l1 x36_3) != 0) = true := bne_iff_ne.mpr c35
                            obtain rfl := Option.some.inj H
                            have p550 : 0 ≤ (x36_3 : Int) := dA
                            have q550 : x36_3 < (y546.length : Int) := dA
                            obtain ⟨ad550, e550, hx550_0, hx550_1, hx550_2, hx550_3⟩ := at_T90 HR549.out x36_3 p550 q550
                            obtain rfl : ad542 = ad550 := (by injection e550)
                            replace hx550_0 := hC HB hx550_0
                            replace hx550_1 := hC HB hx550_1
                            replace hx550_2 := hC HB hx550_2
                            replace hx550_3 := hC HB hx550_3
                            replace p550 := eq_true p550
                            replace q550 := eq_true q550
                            go_wp2_with (first | ((with_reducible refine gate_dst (N := 8) rfl ?_); (try (refine gate_guard (by rfl) ?_; dsimp only)); refine bE (N := 8) (cs := #[.int .i64 0, .int .i64 0, .int .i64 0, .int .i64 0]) (t := 90) ?_; intro gb551 hg w41 hbox hb; have n0_ := Aside0.mk (blk_below (g := gb543) (bK BK543) hb); have n1_ := Aside0.mk (below_step bG hb); have n2_ := Aside0.mk (hbox); have n3_ := Aside0.mk ((by rw [hg]; exact (below_size bG) : w.heap.size ≤ gb551)); have n4_ := Aside0.mk ((by rw [hg]; exact (below_size bG) : w.heap.size ≤ gb551)); have n5_ := Aside0.mk ((by rw [hg]; exact Nat.ne_of_lt (blk_lt (g := gb543) (o := .cells #[.int .i64 ((rd_T90 l0 x21_2).f0), .int .i64 ((rd_T90 l0 x21_2).f1), .int .i64 ((rd_T90 l0 x21_2).f2), .int .i64 ((rd_T90 l0 x21_2).f3)] 90 (0, 0)) (bK BK543)) : gb543 ≠ gb551)); have n6_ := Aside0.mk ((by rw [hg]; exact Nat.ne_of_gt (blk_lt (g := gb543) (o := .cells #[.int .i64 ((rd_T90 l0 x21_2).f0), .int .i64 ((rd_T90 l0 x21_2).f1), .int .i64 ((rd_T90 l0 x21_2).f2), .int .i64 ((rd_T90 l0 x21_2).f3)] 90 (0, 0)) (bK BK543)) : gb551 ≠ gb543)); clear BK543; clear HB; have BK543 := n0_; have HB := n1_; have BK551 := n2_; have GW551 := n3_; have GE551 := n4_; have NB543_551 := n5_; have NB551_543 := n6_; clear n0_ n1_ n2_ n3_ n4_ n5_ n6_; clear hb hbox hg; have hnb42 := NB551_543.out; have hnc42 := NB543_551.out; obtain ⟨hcz43_0, hcz43_1, hcz43_2, hcz43_3, hfz43_0, hfz43_1, hfz43_2, hfz43_3⟩ := blkc4 BK551; have hcz44_0 : w41.cell? ⟨gb543, 0, none⟩ = some (.int .i64 ((rd_T90 l0 x21_2).f0)) := (blk_cell BK543.out 0).trans rfl; have hcz44_1 : w41.cell? ⟨gb543, 1, none⟩ = some (.int .i64 ((rd_T90 l0 x21_2).f1)) := (blk_cell BK543.out 1).trans rfl; have hcz44_2 : w41.cell? ⟨gb543, 2, none⟩ = some (.int .i64 ((rd_T90 l0 x21_2).f2)) := (blk_cell BK543.out 2).trans rfl; have hcz44_3 : w41.cell? ⟨gb543, 3, none⟩ = some (.int .i64 ((rd_T90 l0 x21_2).f3)) := (blk_cell BK543.out 3).trans rfl; have hfz44_0 := blk_frozen BK543.out 0; have hfz44_1 := blk_frozen BK543.out 1; have hfz44_2 := blk_frozen BK543.out 2; have hfz44_3 := blk_frozen BK543.out 3) | ((with_reducible refine gate_callee (f := 92) rfl ?_); refine gL (some 43) Try.func92 #[.agg #[.int .i64 ((rd_T90 l0 x21_2).f0), .int .i64 ((rd_T90 l0 x21_2).f1), .int .i64 ((rd_T90 l0 x21_2).f2), .int .i64 ((rd_T90 l0 x21_2).f3)], .agg #[.int .i64 ((rd_T90 y546 x36_3).f0), .int .i64 ((rd_T90 y546 x36_3).f1), .int .i64 ((rd_T90 y546 x36_3).f2), .int .i64 ((rd_T90 y546 x36_3).f3)]] ?_; (with_reducible refine (impl_Conflict.calls k3 ((rd_T90 l0 x21_2).f0) ((rd_T90 l0 x21_2).f1) ((rd_T90 l0 x21_2).f2) ((rd_T90 l0 x21_2).f3) ((rd_T90 y546 x36_3).f0) ((rd_T90 y546 x36_3).f1) ((rd_T90 y546 x36_3).f2) ((rd_T90 y546 x36_3).f3) true _ A24.out).mono ?_); rintro e w45 ⟨rfl, hb⟩; refine ⟨_, rfl, ?_⟩; have n0_ := Aside0.mk (blk_below (g := gb543) (o := .cells #[.int .i64 ((rd_T90 l0 x21_2).f0), .int .i64 ((rd_T90 l0 x21_2).f1), .int .i64 ((rd_T90 l0 x21_2).f2), .int .i64 ((rd_T90 l0 x21_2).f3)] 90 (0, 0)) (by (with_reducible repeat (first | refine blk_drewN ?_ _ | refine blk_drew ?_ | refine blk_alloc ?_ _)); refine blk_far ?_ NB543_551.out _; (with_reducible repeat (first | refine blk_drewN ?_ _ | refine blk_drew ?_ | refine blk_alloc ?_ _)); refine blk_far ?_ NB543_551.out _; (with_reducible repeat (first | refine blk_drewN ?_ _ | refine blk_drew ?_ | refine blk_alloc ?_ _)); refine blk_far ?_ NB543_551.out _; (with_reducible repeat (first | refine blk_drewN ?_ _ | refine blk_drew ?_ | refine blk_alloc ?_ _)); refine blk_far ?_ NB543_551.out _; (with_reducible repeat (first | refine blk_drewN ?_ _ | refine blk_drew ?_ | refine blk_alloc ?_ _)); exact BK543.out) hb); have n1_ := Aside0.mk (blk_below (g := gb551) (o := .cells #[.int .i64 ((rd_T90 y546 x36_3).f0), .int .i64 ((rd_T90 y546 x36_3).f1), .int .i64 ((rd_T90 y546 x36_3).f2), .int .i64 ((rd_T90 y546 x36_3).f3)] 90 (0, 0)) (by (with_reducible repeat (first | refine blk_drewN ?_ _ | refine blk_drew ?_ | refine blk_alloc ?_ _)); refine blk_put (cs := #[.int .i64 ((rd_T90 y546 x36_3).f0), .int .i64 ((rd_T90 y546 x36_3).f1), .int .i64 ((rd_T90 y546 x36_3).f2), .int .i64 0]) ?_ 3 _ rfl; (with_reducible repeat (first | refine blk_drewN ?_ _ | refine blk_drew ?_ | refine blk_alloc ?_ _)); refine blk_put (cs := #[.int .i64 ((rd_T90 y546 x36_3).f0), .int .i64 ((rd_T90 y546 x36_3).f1), .int .i64 0, .int .i64 0]) ?_ 2 _ rfl; (with_reducible repeat (first | refine blk_drewN ?_ _ | refine blk_drew ?_ | refine blk_alloc ?_ _)); refine blk_put (cs := #[.int .i64 ((rd_T90 y546 x36_3).f0), .int .i64 0, .int .i64 0, .int .i64 0]) ?_ 1 _ rfl; (with_reducible repeat (first | refine blk_drewN ?_ _ | refine blk_drew ?_ | refine blk_alloc ?_ _)); refine blk_put (cs := #[.int .i64 0, .int .i64 0, .int .i64 0, .int .i64 0]) ?_ 0 _ rfl; (with_reducible repeat (first | refine blk_drewN ?_ _ | refine blk_drew ?_ | refine blk_alloc ?_ _)); exact BK551.out) hb); have n2_ := Aside0.mk (below_step bG hb); clear BK543; clear BK551; clear HB; have BK543 := n0_; have BK551 := n1_; have HB := n2_; clear n0_ n1_ n2_; (try clear hb); (try clear hb2); (try clear hk); (try clear hi); have p553 : 0 ≤ (x21_2 : Int) := dA; have q553 : x21_2 < (l1.length : Int) := dA; obtain ⟨ad553, e553, hx553_0⟩ := Kd.at_int HR1.out x21_2 p553 q553; obtain rfl : ad544 = ad553 := (by injection e553); replace hx553_0 := hC HB hx553_0; replace p553 := eq_true p553; replace q553 := eq_true q553; have p554 : 0 ≤ (x36_3 : Int) := dA; have q554 : x36_3 < (l1.length : Int) := dA; obtain ⟨ad554, e554, hx554_0⟩ := Kd.at_int HR1.out x36_3 p554 q554; obtain rfl : ad544 = ad554 := (by injection e554); replace hx554_0 := hC HB hx554_0; replace p554 := eq_true p554; replace q554 := eq_true q554))
                            go_ret
                            exact ⟨rA, bG⟩
                      · replace c25 := Bool.eq_false_iff.mpr c25
                        subst c25
                        have H1 : (impl_IsSafeLights.l1 k3 l0 l1 x21_2 l0 (l0.length : Int) x21_2 y546 (y546.length : Int) (wrap64 (x36_3 + 1)) ((rd_T90 l0 x21_2).f0) ((rd_T90 l0 x21_2).f1) ((rd_T90 l0 x21_2).f2) ((rd_T90 l0 x21_2).f3)) = some r := by rw [if_neg (show ¬ (false = true) by decide)] at H; exact H
                        clear H
                        have H := H1
                        clear H1
                        have H' := Aside0.mk H
                        clear H
                        have p550 : 0 ≤ (x36_3 : Int) := dA
                        have q550 : x36_3 < (y546.length : Int) := dA
                        obtain ⟨ad550, e550, hx550_0, hx550_1, hx550_2, hx550_3⟩ := at_T90 HR549.out x36_3 p550 q550
                        obtain rfl : ad542 = ad550 := (by injection e550)
                        replace hx550_0 := hC HB hx550_0
                        replace hx550_1 := hC HB hx550_1
                        replace hx550_2 := hC HB hx550_2
                        replace hx550_3 := hC HB hx550_3
                        replace p550 := eq_true p550
                        replace q550 := eq_true q550
                        go_wp2_with (first | ((with_reducible refine gate_dst (N := 8) rfl ?_); (try (refine gate_guard (by rfl) ?_; dsimp only)); refine bE (N := 8) (cs := #[.int .i64 0, .int .i64 0, .int .i64 0, .int .i64 0]) (t := 90) ?_; intro gb551 hg w46 hbox hb; have n0_ := Aside0.mk (blk_below (g := gb543) (bK BK543) hb); have n1_ := Aside0.mk (below_step bG hb); have n2_ := Aside0.mk (hbox); have n3_ := Aside0.mk ((by rw [hg]; exact (below_size bG) : w.heap.size ≤ gb551)); have n4_ := Aside0.mk ((by rw [hg]; exact (below_size bG) : w.heap.size ≤ gb551)); have n5_ := Aside0.mk ((by rw [hg]; exact Nat.ne_of_lt (blk_lt (g := gb543) (o := .cells #[.int .i64 ((rd_T90 l0 x21_2).f0), .int .i64 ((rd_T90 l0 x21_2).f1), .int .i64 ((rd_T90 l0 x21_2).f2), .int .i64 ((rd_T90 l0 x21_2).f3)] 90 (0, 0)) (bK BK543)) : gb543 ≠ gb551)); have n6_ := Aside0.mk ((by rw [hg]; exact Nat.ne_of_gt (blk_lt (g := gb543) (o := .cells #[.int .i64 ((rd_T90 l0 x21_2).f0), .int .i64 ((rd_T90 l0 x21_2).f1), .int .i64 ((rd_T90 l0 x21_2).f2), .int .i64 ((rd_T90 l0 x21_2).f3)] 90 (0, 0)) (bK BK543)) : gb551 ≠ gb543)); clear BK543; clear HB; have BK543 := n0_; have HB := n1_; have BK551 := n2_; have GW551 := n3_; have GE551 := n4_; have NB543_551 := n5_; have NB551_543 := n6_; clear n0_ n1_ n2_ n3_ n4_ n5_ n6_; clear hb hbox hg; have hnb47 := NB551_543.out; have hnc47 := NB543_551.out; obtain ⟨hcz48_0, hcz48_1, hcz48_2, hcz48_3, hfz48_0, hfz48_1, hfz48_2, hfz48_3⟩ := blkc4 BK551; have hcz49_0 : w46.cell? ⟨gb543, 0, none⟩ = some (.int .i64 ((rd_T90 l0 x21_2).f0)) := (blk_cell BK543.out 0).trans rfl; have hcz49_1 : w46.cell? ⟨gb543, 1, none⟩ = some (.int .i64 ((rd_T90 l0 x21_2).f1)) := (blk_cell BK543.out 1).trans rfl; have hcz49_2 : w46.cell? ⟨gb543, 2, none⟩ = some (.int .i64 ((rd_T90 l0 x21_2).f2)) := (blk_cell BK543.out 2).trans rfl; have hcz49_3 : w46.cell? ⟨gb543, 3, none⟩ = some (.int .i64 ((rd_T90 l0 x21_2).f3)) := (blk_cell BK543.out 3).trans rfl; have hfz49_0 := blk_frozen BK543.out 0; have hfz49_1 := blk_frozen BK543.out 1; have hfz49_2 := blk_frozen BK543.out 2; have hfz49_3 := blk_frozen BK543.out 3) | ((with_reducible refine gate_callee (f := 92) rfl ?_); refine gL (some 43) Try.func92 #[.agg #[.int .i64 ((rd_T90 l0 x21_2).f0), .int .i64 ((rd_T90 l0 x21_2).f1), .int .i64 ((rd_T90 l0 x21_2).f2), .int .i64 ((rd_T90 l0 x21_2).f3)], .agg #[.int .i64 ((rd_T90 y546 x36_3).f0), .int .i64 ((rd_T90 y546 x36_3).f1), .int .i64 ((rd_T90 y546 x36_3).f2), .int .i64 ((rd_T90 y546 x36_3).f3)]] ?_; (with_reducible refine (impl_Conflict.calls k3 ((rd_T90 l0 x21_2).f0) ((rd_T90 l0 x21_2).f1) ((rd_T90 l0 x21_2).f2) ((rd_T90 l0 x21_2).f3) ((rd_T90 y546 x36_3).f0) ((rd_T90 y546 x36_3).f1) ((rd_T90 y546 x36_3).f2) ((rd_T90 y546 x36_3).f3) false _ A24.out).mono ?_); rintro e w50 ⟨rfl, hb⟩; refine ⟨_, rfl, ?_⟩; have n0_ := Aside0.mk (blk_below (g := gb543) (o := .cells #[.int .i64 ((rd_T90 l0 x21_2).f0), .int .i64 ((rd_T90 l0 x21_2).f1), .int .i64 ((rd_T90 l0 x21_2).f2), .int .i64 ((rd_T90 l0 x21_2).f3)] 90 (0, 0)) (by (with_reducible repeat (first | refine blk_drewN ?_ _ | refine blk_drew ?_ | refine blk_alloc ?_ _)); refine blk_far ?_ NB543_551.out _; (with_reducible repeat (first | refine blk_drewN ?_ _ | refine blk_drew ?_ | refine blk_alloc ?_ _)); refine blk_far ?_ NB543_551.out _; (with_reducible repeat (first | refine blk_drewN ?_ _ | refine blk_drew ?_ | refine blk_alloc ?_ _)); refine blk_far ?_ NB543_551.out _; (with_reducible repeat (first | refine blk_drewN ?_ _ | refine blk_drew ?_ | refine blk_alloc ?_ _)); refine blk_far ?_ NB543_551.out _; (with_reducible repeat (first | refine blk_drewN ?_ _ | refine blk_drew ?_ | refine blk_alloc ?_ _)); exact BK543.out) hb); have n1_ := Aside0.mk (blk_below (g := gb551) (o := .cells #[.int .i64 ((rd_T90 y546 x36_3).f0), .int .i64 ((rd_T90 y546 x36_3).f1), .int .i64 ((rd_T90 y546 x36_3).f2), .int .i64 ((rd_T90 y546 x36_3).f3)] 90 (0, 0)) (by (with_reducible repeat (first | refine blk_drewN ?_ _ | refine blk_drew ?_ | refine blk_alloc ?_ _)); refine blk_put (cs := #[.int .i64 ((rd_T90 y546 x36_3).f0), .int .i64 ((rd_T90 y546 x36_3).f1), .int .i64 ((rd_T90 y546 x36_3).f2), .int .i64 0]) ?_ 3 _ rfl; (with_reducible repeat (first | refine blk_drewN ?_ _ | refine blk_drew ?_ | refine blk_alloc ?_ _)); refine blk_put (cs := #[.int .i64 ((rd_T90 y546 x36_3).f0), .int .i64 ((rd_T90 y546 x36_3).f1), .int .i64 0, .int .i64 0]) ?_ 2 _ rfl; (with_reducible repeat (first | refine blk_drewN ?_ _ | refine blk_drew ?_ | refine blk_alloc ?_ _)); refine blk_put (cs := #[.int .i64 ((rd_T90 y546 x36_3).f0), .int .i64 0, .int .i64 0, .int .i64 0]) ?_ 1 _ rfl; (with_reducible repeat (first | refine blk_drewN ?_ _ | refine blk_drew ?_ | refine blk_alloc ?_ _)); refine blk_put (cs := #[.int .i64 0, .int .i64 0, .int .i64 0, .int .i64 0]) ?_ 0 _ rfl; (with_reducible repeat (first | refine blk_drewN ?_ _ | refine blk_drew ?_ | refine blk_alloc ?_ _)); exact BK551.out) hb); have n2_ := Aside0.mk (below_step bG hb); clear BK543; clear BK551; clear HB; have BK543 := n0_; have BK551 := n1_; have HB := n2_; clear n0_ n1_ n2_; (try clear hb); (try clear hb2); (try clear hk); (try clear hi)))
                        go_roundg k3
                        case measure => have := HJ2.out; have := HK2.out; have := HK3.out; omega
                        case rel => exact ⟨(wrap64 (x36_3 + 1)), rS, H', ⟨by have := HJ2.out; have := HK2.out; have := HK3.out; omega⟩, ⟨bK BK543⟩, ⟨bG⟩⟩
                    · rw [if_neg c21] at H
                      have c21b0 : decide (x36_3 < (y546.length : Int)) = false := decide_eq_false c21
                      clear c21
                      have H' := Aside0.mk H
                      clear H
                      go_wp2
                      go_roundg k3
                      case measure => have := HJ2.out; have := HK2.out; have := HK3.out; omega
                      case rel => exact ⟨(wrap64 (x21_2 + 1)), rS, H', ⟨by have := HJ2.out; have := HK2.out; have := HK3.out; omega⟩, ⟨bG⟩⟩
              · replace c14 := Bool.eq_false_iff.mpr c14
                subst c14
                have H1 : (some false) = some r := by rw [if_neg (show ¬ (false = true) by decide)] at H; exact H
                clear H
                have H := H1
                clear H1
                obtain rfl := Option.some.inj H
                have p542 : 0 ≤ (x21_2 : Int) := dA
                have q542 : x21_2 < (l0.length : Int) := dA
                obtain ⟨ad542, e542, hx542_0, hx542_1, hx542_2, hx542_3⟩ := at_T90 HR0.out x21_2 p542 q542
                cases e542
                replace hx542_0 := hC HB hx542_0
                replace hx542_1 := hC HB hx542_1
                replace hx542_2 := hC HB hx542_2
                replace hx542_3 := hC HB hx542_3
                replace p542 := eq_true p542
                replace q542 := eq_true q542
                go_wp2_with (first | ((with_reducible refine gate_dst (N := 6) rfl ?_); (try (refine gate_guard (by rfl) ?_; dsimp only)); refine bE (N := 6) (cs := #[.int .i64 0, .int .i64 0, .int .i64 0, .int .i64 0]) (t := 90) ?_; intro gb543 hg w51 hbox hb; have n0_ := Aside0.mk (below_step bA hb); have n1_ := Aside0.mk (hbox); have n2_ := Aside0.mk ((by rw [hg]; exact (below_size bA) : w.heap.size ≤ gb543)); have n3_ := Aside0.mk ((by rw [hg]; exact (below_size bA) : w.heap.size ≤ gb543)); clear HB; have HB := n0_; have BK543 := n1_; have GW543 := n2_; have GE543 := n3_; clear n0_ n1_ n2_ n3_; clear hb hbox hg; obtain ⟨hcz52_0, hcz52_1, hcz52_2, hcz52_3, hfz52_0, hfz52_1, hfz52_2, hfz52_3⟩ := blkc4 BK543; have p544 : 0 ≤ (x21_2 : Int) := dA; have q544 : x21_2 < (l1.length : Int) := dA; obtain ⟨ad544, e544, hx544_0⟩ := Kd.at_int HR1.out x21_2 p544 q544; cases e544; have hn544_0 : ad544.block ≠ gb543 := Nat.ne_of_lt (Nat.lt_of_lt_of_le (by have := World.block_lt_of_cell? _ _ hx544_0; first | rwa [add_block] at this | exact this) GW543.out); have hn544_1 : ad544.block ≠ gb543 := Nat.ne_of_lt (Nat.lt_of_lt_of_le (by have := World.block_lt_of_cell? _ _ hx544_0; first | rwa [add_block] at this | exact this) GW543.out); have hn544_2 : ad544.block ≠ gb543 := Nat.ne_of_lt (Nat.lt_of_lt_of_le (by have := World.block_lt_of_cell? _ _ hx544_0; first | rwa [add_block] at this | exact this) GW543.out); have hn544_3 : ad544.block ≠ gb543 := Nat.ne_of_lt (Nat.lt_of_lt_of_le (by have := World.block_lt_of_cell? _ _ hx544_0; first | rwa [add_block] at this | exact this) GW543.out); replace hx544_0 := hC HB hx544_0; replace hx544_0 := (cell_far (p := ⟨gb543, 0, none⟩) (by first | (rw [add_block]; exact hn544_0) | (show (Addr.add _ _).block ≠ _; rw [add_block]; exact hn544_0) | exact hn544_0) (.int .i64 ((rd_T90 l0 x21_2).f0))).trans hx544_0; replace hx544_0 := (cell_far (p := ⟨gb543, 1, none⟩) (by first | (rw [add_block]; exact hn544_1) | (show (Addr.add _ _).block ≠ _; rw [add_block]; exact hn544_1) | exact hn544_1) (.int .i64 ((rd_T90 l0 x21_2).f1))).trans hx544_0; replace hx544_0 := (cell_far (p := ⟨gb543, 2, none⟩) (by first | (rw [add_block]; exact hn544_2) | (show (Addr.add _ _).block ≠ _; rw [add_block]; exact hn544_2) | exact hn544_2) (.int .i64 ((rd_T90 l0 x21_2).f2))).trans hx544_0; replace hx544_0 := (cell_far (p := ⟨gb543, 3, none⟩) (by first | (rw [add_block]; exact hn544_3) | (show (Addr.add _ _).block ≠ _; rw [add_block]; exact hn544_3) | exact hn544_3) (.int .i64 ((rd_T90 l0 x21_2).f3))).trans hx544_0; clear hn544_0; clear hn544_1; clear hn544_2; clear hn544_3; replace p544 := eq_true p544; replace q544 := eq_true q544) | ((with_reducible refine gate_callee (f := 69) rfl ?_); refine gL (some 30) Try.func69 #[.int .i64 (rd l1 x21_2), .int .i64 0, .int .i64 2] ?_; (with_reducible refine (impl_InRange.calls (rd l1 x21_2) 0 2 false _ A13.out).mono ?_); rintro e w' ⟨rfl, ⟨nd, rfl⟩⟩; refine ⟨_, rfl, ?_⟩))
                go_ret
                exact ⟨rA, bG⟩
            · rw [if_neg c9] at H
              have c9b0 : decide (x21_2 < (l0.length : Int)) = false := decide_eq_false c9
              clear c9
              obtain rfl := Option.some.inj H
              go_wp2
              go_ret
              exact ⟨rA, bA⟩

end Go.Proofs.Ytimmadeghcghoaa.P
