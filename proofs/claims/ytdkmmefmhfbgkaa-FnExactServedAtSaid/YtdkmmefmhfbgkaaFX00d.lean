/- Printed by myprint.py (wip/tools) over the kit's print: what Go's functions compute, and that they do. Lean checks it. -/
import Derived.Test.YtdkmmefmhfbgkaaF0
import Derived.Test.YtdkmmefmhfbgkaaFX00b
import Derived.Test.YtdkmmefmhfbgkaaFX00c
namespace Go.Proofs.Ytdkmmefmhfbgkaa.P
open Go.RowKit Go.Proofs.YtdkmmefmhfbgkaaW.PrintWords Go.Proofs.YtdkmmefmhfbgkaaW.PrintLast Go.Proofs.YtdkmmefmhfbgkaaW.PrintMore Go.Proofs.Ytdkmmefmhfbgkaa.Sq
attribute [local go_sem] max2_int min2_int max_two min_two max_three min_three max_four min_four
set_option linter.unusedVariables false
set_option linter.unusedSimpArgs false

/-! ### impl_PartAt: function 161 -/
mutual
def impl_PartAt.j0 : Nat → List (S89) → List (S92) → Int → Int → Bool → Option (Int × Int)
 | 0, _, _, _, _, _ => none
 | k + 1, x0, x1, x2, x8, x20 => if x20 = true then (some ((-1), 0)) else (if x8 = 0 then (none) else (impl_PartAt.l0 k x0 x1 (Int.tmod x2 x8) 0))
def impl_PartAt.l0 : Nat → List (S89) → List (S92) → Int → Int → Option (Int × Int)
 | 0, _, _, _, _ => none
 | k + 1, x0, x1, x9, x10 => (impl_longOf.f k x0 x1 x10).bind fun t377 => (if x9 ≥ t377 then ((impl_longOf.f k x0 x1 x10).bind fun t378 => (impl_PartAt.l0 k x0 x1 (wrap64 (x9 - t378)) (wrap64 (x10 + 1)))) else (some (x10, x9)))
end
def impl_PartAt.f (k : Nat) (l0 : List (S89)) (l1 : List (S92)) (a2 : Int) : Option (Int × Int) := (impl_Cycle.f k l0 l1).bind fun t375 => (if t375 = 0 then (impl_PartAt.j0 k l0 l1 a2 t375 true) else ((impl_InRange.f a2 0 1000000).bind fun t376 => (impl_PartAt.j0 k l0 l1 a2 t375 (!t376))))
theorem impl_PartAt.mono_l : ∀ k, (∀ y0 y1 y2 y3 y4, LeO (impl_PartAt.j0 k y0 y1 y2 y3 y4) (impl_PartAt.j0 (k + 1) y0 y1 y2 y3 y4)) ∧ (∀ y0 y1 y2 y3, LeO (impl_PartAt.l0 k y0 y1 y2 y3) (impl_PartAt.l0 (k + 1) y0 y1 y2 y3))
 | 0 => ⟨fun _ _ _ _ _ r h => by simp [impl_PartAt.j0] at h, fun _ _ _ _ r h => by simp [impl_PartAt.l0] at h⟩
 | k + 1 => by
  obtain ⟨ih0, ih1⟩ := impl_PartAt.mono_l k
  refine ⟨?_, ?_⟩
  ·
   intro y0 y1 y2 y3 y4
   unfold impl_PartAt.j0
   repeat' first | (with_reducible first | exact LeO.refl _ | exact LeO.none _ | refine LeO.ite ?_ ?_ | refine LeO.bind ?_ (fun _ => ?_) | exact ih0 _ _ _ _ _ | exact ih1 _ _ _ _ | exact impl_Cycle.mono _ _ _ | exact impl_longOf.mono _ _ _ _)
  ·
   intro y0 y1 y2 y3
   unfold impl_PartAt.l0
   repeat' first | (with_reducible first | exact LeO.refl _ | exact LeO.none _ | refine LeO.ite ?_ ?_ | refine LeO.bind ?_ (fun _ => ?_) | exact ih0 _ _ _ _ _ | exact ih1 _ _ _ _ | exact impl_Cycle.mono _ _ _ | exact impl_longOf.mono _ _ _ _)
theorem impl_PartAt.mono : ∀ a0 a1 a2 k, LeO (impl_PartAt.f k a0 a1 a2) (impl_PartAt.f (k + 1) a0 a1 a2) := by
 intro a0 a1 a2 k
 obtain ⟨ih0, ih1⟩ := impl_PartAt.mono_l k
 unfold impl_PartAt.f
 repeat' first | (with_reducible first | exact LeO.refl _ | exact LeO.none _ | refine LeO.ite ?_ ?_ | refine LeO.bind ?_ (fun _ => ?_) | exact ih0 _ _ _ _ _ | exact ih1 _ _ _ _ | exact impl_Cycle.mono _ _ _ | exact impl_longOf.mono _ _ _ _)
set_option maxHeartbeats 8000000 in
set_option maxRecDepth 100000 in
theorem impl_PartAt.calls (k : Nat) (A0 : Option Addr) (c0 : Nat) (l0 : List (S89)) (A1 : Option Addr) (c1 : Nat) (l1 : List (S92)) (a2 : Int) (r1 : Int) (r2 : Int) (w : World) (hr0 : Kd.C k89 w A0 l0.length l0) (hc0 : l0.length ≤ c0) (hr1 : Kd.C k92 w A1 l1.length l1) (hc1 : l1.length ≤ c1) (h : impl_PartAt.f k l0 l1 a2 = some (r1, r2)) :
  Calls Try.prog 161 #[.slice A0 l0.length c0, .slice A1 l1.length c1, .int .i64 a2] w fun e w' => e = .returned (.tuple #[.int .i64 r1, .int .i64 r2]) ∧ Below w.heap.size w w' := by
 have HR0 := Aside0.mk hr0
 have HC0 := Aside0.mk hc0
 clear hr0 hc0
 have HR1 := Aside0.mk hr1
 have HC1 := Aside0.mk hc1
 clear hr1 hc1
 have HB := Aside0.mk (Below.refl w.heap.size w)
 have H : ((impl_Cycle.f k l0 l1).bind fun t375 => (if t375 = 0 then (impl_PartAt.j0 k l0 l1 a2 t375 true) else ((impl_InRange.f a2 0 1000000).bind fun t376 => (impl_PartAt.j0 k l0 l1 a2 t375 (!t376))))) = some (r1, r2) := h
 clear h
 obtain ⟨t375, A4, H⟩ := bindE H
 try dsimp only at H
 have HC5 := Aside0.mk H
 clear H
 go_enter Try.func161, Try.ntmps161
 go_upto_region 2 with (first | ((with_reducible refine gate_callee (f := 120) rfl ?_); refine gL (some 13) Try.func120 #[.slice A0 l0.length c0, .slice A1 l1.length c1] ?_; (with_reducible refine (impl_Cycle.calls k _ _ l0 _ _ l1 t375 _ ?side1 ?side2 ?side3 ?side4 A4.out).mono ?_); (case side1 => exact cO HR0); (case side2 => exact HC0.out); (case side3 => exact cO HR1); (case side4 => exact HC1.out); rintro e w6 ⟨rfl, hb⟩; refine ⟨_, rfl, ?_⟩; replace HB := Aside0.mk (below_step bA hb); (try clear hb)))
 (try simp only [Act.put, List.setIfInBounds_toArray, List.set_cons_zero, List.set_cons_succ])
 go_cut [20] (fun v20 wc => ∃ (kq : Nat) (x20_4 : Bool), v20 = .bool x20_4 ∧ Aside0 (impl_PartAt.j0 kq l0 l1 a2 t375 x20_4 = some (r1, r2)) ∧ Aside0 (kq ≤ k) ∧ Aside0 (Below w.heap.size w wc))
 case first =>
  have H := HC5.out
  clear HC5
  by_cases c7 : t375 = 0
  ·
   rw [if_pos c7] at H
   have c7b0 : (t375 == 0) = true := beq_iff_eq.mpr c7
   have c7b1 : (t375 != 0) = false := bne_eq_false_iff_eq.mpr c7
   clear c7
   (first | rw [c7b0] | (simp only [i64_w, i32_w]; rw [c7b0]) | skip)
   have H' := Aside0.mk H
   clear H
   go_wp2
   go_meet
   case rel => exact ⟨_, (true), rS, H', ⟨by first | omega | exact Nat.le_refl _⟩, ⟨bA⟩⟩
  ·
   rw [if_neg c7] at H
   have c7b0 : (t375 == 0) = false := beq_eq_false_iff_ne.mpr c7
   have c7b1 : (t375 != 0) = true := bne_iff_ne.mpr c7
   (first | rw [c7b0] | (simp only [i64_w, i32_w]; rw [c7b0]) | skip)
   obtain ⟨t376, A8, H⟩ := bindE H
   try dsimp only at H
   have H' := Aside0.mk H
   clear H
   go_wp2_with (first | (go_at_call 66; (with_reducible refine (impl_InRange.calls a2 0 1000000 t376 _ A8.out).mono ?_); rintro e w' ⟨rfl, ⟨nd, rfl⟩⟩))
   go_meet
   case rel => exact ⟨_, (!t376), rS, H', ⟨by first | omega | exact Nat.le_refl _⟩, ⟨bA⟩⟩
 case rest =>
  clear HC5
  try clear c1
  try clear p2
  try clear c7
  try clear c7b0
  try clear c7b1
  obtain ⟨kq, x20_4, rfl, HA, HJ4, HB⟩ := hcut
  cases kq with
  | zero => exact absurd HA.out (by simp [impl_PartAt.j0])
  | succ kj4 =>
   have H := HA.out
   clear HA
   simp only [impl_PartAt.j0] at H
   by_cases c9 : x20_4 = true
   ·
    subst c9
    have H1 : (some ((-1), 0)) = some (r1, r2) := by rw [if_pos rfl] at H; exact H
    clear H
    have H := H1
    clear H1
    simp only [Option.some.injEq, Prod.mk.injEq] at H
    obtain ⟨rfl, rfl⟩ := H
    go_wp2
    go_ret2
    exact ⟨rA, bA⟩
   ·
    replace c9 := Bool.eq_false_iff.mpr c9
    subst c9
    have H1 : (if t375 = 0 then (none) else (impl_PartAt.l0 kj4 l0 l1 (Int.tmod a2 t375) 0)) = some (r1, r2) := by rw [if_neg (show ¬ (false = true) by decide)] at H; exact H
    clear H
    have H := H1
    clear H1
    have c10 : ¬ (t375 = 0) := ifN' H
    replace H := ifT' H
    have c10b0 : (t375 == 0) = false := beq_eq_false_iff_ne.mpr c10
    have c10b1 : (t375 != 0) = true := bne_iff_ne.mpr c10
    have H' := Aside0.mk H
    clear H
    go_wp2
    go_loopg [9, 10] kj4 (fun kq v9 v10 w' => ∃ (x9_2 : Int) (x10_2 : Int), v9 = .int .i64 x9_2 ∧ v10 = .int .i64 x10_2 ∧ Aside0 (impl_PartAt.l0 kq l0 l1 x9_2 x10_2 = some (r1, r2)) ∧ Aside0 (kq ≤ kj4) ∧ Aside0 (Below w.heap.size w w'))
    case atStart => exact ⟨(Int.tmod a2 t375), (0), rS, rS, H', ⟨Nat.le_refl _⟩, ⟨bA⟩⟩
    case round =>
     clear H'
     try clear c1
     try clear p2
     try clear c7
     try clear c7b0
     try clear c7b1
     try clear c9
     try clear c10
     try clear c10b0
     try clear c10b1
     try clear p2
     obtain ⟨x9_2, x10_2, rfl, rfl, HA, HK2, HB⟩ := hrel
     cases gk with
     | zero => exact absurd HA.out (by simp [impl_PartAt.l0])
     | succ k2 =>
      have H := HA.out
      clear HA
      simp only [impl_PartAt.l0] at H
      obtain ⟨t377, A11, H⟩ := bindE H
      try dsimp only at H
      by_cases c12 : x9_2 ≥ t377
      ·
       rw [if_pos c12] at H
       have c12b0 := decide_eq_true c12
       clear c12
       obtain ⟨t378, A13, H⟩ := bindE H
       try dsimp only at H
       have H' := Aside0.mk H
       clear H
       go_wp2_with (first | ((with_reducible refine gate_callee (f := 140) rfl ?_); refine gL (some 28) Try.func140 #[.slice A0 l0.length c0, .slice A1 l1.length c1, .int .i64 x10_2] ?_; (with_reducible refine (impl_longOf.calls k2 _ _ l0 _ _ l1 x10_2 t377 _ ?side1 ?side2 ?side3 ?side4 A11.out).mono ?_); (case side1 => exact cB HR0); (case side2 => exact HC0.out); (case side3 => exact cB HR1); (case side4 => exact HC1.out); rintro e w14 ⟨rfl, hb⟩; refine ⟨_, rfl, ?_⟩; replace HB := Aside0.mk (below_step bA hb); (try clear hb)) | ((with_reducible refine gate_callee (f := 140) rfl ?_); refine gL (some 34) Try.func140 #[.slice A0 l0.length c0, .slice A1 l1.length c1, .int .i64 x10_2] ?_; (with_reducible refine (impl_longOf.calls k2 _ _ l0 _ _ l1 x10_2 t378 _ ?side1 ?side2 ?side3 ?side4 A13.out).mono ?_); (case side1 => exact cB HR0); (case side2 => exact HC0.out); (case side3 => exact cB HR1); (case side4 => exact HC1.out); rintro e w15 ⟨rfl, hb⟩; refine ⟨_, rfl, ?_⟩; replace HB := Aside0.mk (below_step bA hb); (try clear hb)))
       go_roundg k2
       case measure => have := HJ4.out; have := HK2.out; omega
       case rel => exact ⟨(wrap64 (x9_2 - t378)), (wrap64 (x10_2 + 1)), rS, rS, H', ⟨by have := HJ4.out; have := HK2.out; omega⟩, ⟨bA⟩⟩
      ·
       rw [if_neg c12] at H
       have c12b0 := decide_eq_false c12
       clear c12
       simp only [Option.some.injEq, Prod.mk.injEq] at H
       obtain ⟨rfl, rfl⟩ := H
       go_wp2_with (first | ((with_reducible refine gate_callee (f := 140) rfl ?_); refine gL (some 28) Try.func140 #[.slice A0 l0.length c0, .slice A1 l1.length c1, .int .i64 x10_2] ?_; (with_reducible refine (impl_longOf.calls k2 _ _ l0 _ _ l1 x10_2 t377 _ ?side1 ?side2 ?side3 ?side4 A11.out).mono ?_); (case side1 => exact cB HR0); (case side2 => exact HC0.out); (case side3 => exact cB HR1); (case side4 => exact HC1.out); rintro e w16 ⟨rfl, hb⟩; refine ⟨_, rfl, ?_⟩; replace HB := Aside0.mk (below_step bA hb); (try clear hb)))
       go_ret2
       exact ⟨rA, bA⟩

/-! ### impl_shown: function 144 -/
mutual
def impl_shown.j0 : Nat → List (S92) → Int → Int → Bool → Int → Int → Int → Int → Option (Int)
 | 0, _, _, _, _, _, _, _, _ => none
 | k + 1, x1, x9, x10, x30, x380000, x380001, x380002, x380003 => if x30 = true then (some 0) else (if 0 ≤ x9 then (if x9 < (x1.length : Int) then (if x10 < ((rd_T92 x1 x9).f1) then (impl_shown.j1 k x1 x9 x10 true x380000 x380001 x380002 x380003) else ((impl_nextStage.f x1 x9).bind fun t385 => ((slices_Contains_int_int.f k t385 x380000).bind fun t388 => (impl_shown.j1 k x1 x9 x10 t388 x380000 x380001 x380002 x380003)))) else (none)) else (none))
def impl_shown.j1 : Nat → List (S92) → Int → Int → Bool → Int → Int → Int → Int → Option (Int)
 | 0, _, _, _, _, _, _, _, _ => none
 | k + 1, x1, x9, x10, x31, x380000, x380001, x380002, x380003 => if x31 = true then (some 1) else (if 0 ≤ x9 then (if x9 < (x1.length : Int) then ((impl_ClearOf.f x380000 x380001 x380002 x380003).bind fun t390 => (if x10 < (wrap64 (((rd_T92 x1 x9).f1) + t390)) then (some 2) else (some 0))) else (none)) else (none))
end
def impl_shown.f (k : Nat) (l0 : List (S89)) (l1 : List (S92)) (a2 : Int) (a3_0 : Int) (a3_1 : Int) (a3_2 : Int) (a3_3 : Int) : Option (Int) := (impl_PartAt.f k l0 l1 a2).bind fun bt380 => (if bt380.1 < 0 then (impl_shown.j0 k l1 bt380.1 bt380.2 true a3_0 a3_1 a3_2 a3_3) else (if 0 ≤ bt380.1 then (if bt380.1 < (l1.length : Int) then ((slices_Contains_int_int.f k ((rd_T92 l1 bt380.1).f0) a3_0).bind fun t383 => (impl_shown.j0 k l1 bt380.1 bt380.2 (!t383) a3_0 a3_1 a3_2 a3_3)) else (none)) else (none)))
theorem impl_shown.mono_l : ∀ k, (∀ y0 y1 y2 y3 y4 y5 y6 y7, LeO (impl_shown.j0 k y0 y1 y2 y3 y4 y5 y6 y7) (impl_shown.j0 (k + 1) y0 y1 y2 y3 y4 y5 y6 y7)) ∧ (∀ y0 y1 y2 y3 y4 y5 y6 y7, LeO (impl_shown.j1 k y0 y1 y2 y3 y4 y5 y6 y7) (impl_shown.j1 (k + 1) y0 y1 y2 y3 y4 y5 y6 y7))
 | 0 => ⟨fun _ _ _ _ _ _ _ _ r h => by simp [impl_shown.j0] at h, fun _ _ _ _ _ _ _ _ r h => by simp [impl_shown.j1] at h⟩
 | k + 1 => by
  obtain ⟨ih0, ih1⟩ := impl_shown.mono_l k
  refine ⟨?_, ?_⟩
  ·
   intro y0 y1 y2 y3 y4 y5 y6 y7
   unfold impl_shown.j0
   repeat' first | (with_reducible first | exact LeO.refl _ | exact LeO.none _ | refine LeO.ite ?_ ?_ | refine LeO.bind ?_ (fun _ => ?_) | exact ih0 _ _ _ _ _ _ _ _ | exact ih1 _ _ _ _ _ _ _ _ | exact impl_PartAt.mono _ _ _ _ | exact slices_Contains_int_int.mono _ _ _)
  ·
   intro y0 y1 y2 y3 y4 y5 y6 y7
   unfold impl_shown.j1
   repeat' first | (with_reducible first | exact LeO.refl _ | exact LeO.none _ | refine LeO.ite ?_ ?_ | refine LeO.bind ?_ (fun _ => ?_) | exact ih0 _ _ _ _ _ _ _ _ | exact ih1 _ _ _ _ _ _ _ _ | exact impl_PartAt.mono _ _ _ _ | exact slices_Contains_int_int.mono _ _ _)
theorem impl_shown.mono : ∀ a0 a1 a2 a3 a4 a5 a6 k, LeO (impl_shown.f k a0 a1 a2 a3 a4 a5 a6) (impl_shown.f (k + 1) a0 a1 a2 a3 a4 a5 a6) := by
 intro a0 a1 a2 a3 a4 a5 a6 k
 obtain ⟨ih0, ih1⟩ := impl_shown.mono_l k
 unfold impl_shown.f
 repeat' first | (with_reducible first | exact LeO.refl _ | exact LeO.none _ | refine LeO.ite ?_ ?_ | refine LeO.bind ?_ (fun _ => ?_) | exact ih0 _ _ _ _ _ _ _ _ | exact ih1 _ _ _ _ _ _ _ _ | exact impl_PartAt.mono _ _ _ _ | exact slices_Contains_int_int.mono _ _ _)
def impl_shown.T2 : Bool × List (List Nat × List Nat) := (true, [([], []), ([0], [0]), ([1], [1]), ([2], [2]), ([2], [2]), ([3, 4, 2], [2, 3, 4]), ([5, 2], [2, 5]), ([6, 2], [2, 6]), ([2], [2]), ([8, 2], [2, 8]), ([7, 9, 2, 2], [2, 7, 9]), ([10, 2], [2, 10]), ([2, 11], [2, 11])])
def impl_shown.B2 : List Nat := [0, 1, 3, 7, 7, 31, 63, 127, 7, 263, 1023, 2047, 4095]
theorem impl_shown.tab2 : rtab .any (opsOf Try.f144 2) = impl_shown.T2 := by kernel_rfl
theorem impl_shown.bits2 : waitsOk impl_shown.T2.2 impl_shown.B2 = true := by kernel_rfl
def impl_shown.T4 : Bool × List (List Nat × List Nat) := (true, [([], []), ([], []), ([], []), ([1, 2], [1, 2]), ([3], [3]), ([4], [4]), ([0, 5], [0, 5]), ([6], [6]), ([7], [7]), ([7], [7]), ([8, 9, 7, 7], [7, 8, 9]), ([7], [7]), ([11, 7], [7, 11]), ([10, 12, 10, 7], [7, 10, 12]), ([7, 13], [7, 13]), ([14, 13], [14])])
def impl_shown.B4 : List Nat := [0, 0, 0, 6, 14, 30, 63, 127, 255, 255, 1023, 255, 2303, 8191, 16383, 32767]
theorem impl_shown.tab4 : rtab .any (opsOf Try.f144 4) = impl_shown.T4 := by kernel_rfl
theorem impl_shown.bits4 : waitsOk impl_shown.T4.2 impl_shown.B4 = true := by kernel_rfl
def impl_shown.T6 : Bool × List (List Nat × List Nat) := (true, [([], []), ([], []), ([], []), ([1, 2], [1, 2]), ([3], [3]), ([4], [4]), ([], []), ([6], [6]), ([5, 7], [5, 7]), ([0, 8], [0, 8]), ([9, 7], [9])])
def impl_shown.B6 : List Nat := [0, 0, 0, 6, 14, 30, 0, 64, 254, 511, 1023]
theorem impl_shown.tab6 : rtab .any (opsOf Try.f144 6) = impl_shown.T6 := by kernel_rfl
theorem impl_shown.bits6 : waitsOk impl_shown.T6.2 impl_shown.B6 = true := by kernel_rfl
set_option maxHeartbeats 8000000 in
set_option maxRecDepth 100000 in
theorem impl_shown.calls (k : Nat) (A0 : Option Addr) (c0 : Nat) (l0 : List (S89)) (A1 : Option Addr) (c1 : Nat) (l1 : List (S92)) (a2 : Int) (a3_0 : Int) (a3_1 : Int) (a3_2 : Int) (a3_3 : Int) (r : Int) (w : World) (hr0 : Kd.C k89 w A0 l0.length l0) (hc0 : l0.length ≤ c0) (hr1 : Kd.C k92 w A1 l1.length l1) (hc1 : l1.length ≤ c1) (h : impl_shown.f k l0 l1 a2 a3_0 a3_1 a3_2 a3_3 = some r) :
  Calls Try.prog 144 #[.slice A0 l0.length c0, .slice A1 l1.length c1, .int .i64 a2, .agg #[.int .i64 a3_0, .int .i64 a3_1, .int .i64 a3_2, .int .i64 a3_3]] w fun e w' => e = .returned (.int .i64 r) ∧ Below w.heap.size w w' := by
 have hu89 := Try.underlying89
 have HR0 := Aside0.mk hr0
 have HC0 := Aside0.mk hc0
 clear hr0 hc0
 have HR1 := Aside0.mk hr1
 have HC1 := Aside0.mk hc1
 clear hr1 hc1
 have HB := Aside0.mk (Below.refl w.heap.size w)
 have H : ((impl_PartAt.f k l0 l1 a2).bind fun bt380 => (if bt380.1 < 0 then (impl_shown.j0 k l1 bt380.1 bt380.2 true a3_0 a3_1 a3_2 a3_3) else (if 0 ≤ bt380.1 then (if bt380.1 < (l1.length : Int) then ((slices_Contains_int_int.f k ((rd_T92 l1 bt380.1).f0) a3_0).bind fun t383 => (impl_shown.j0 k l1 bt380.1 bt380.2 (!t383) a3_0 a3_1 a3_2 a3_3)) else (none)) else (none)))) = some r := h
 clear h
 obtain ⟨⟨t380, t381⟩, A5, H⟩ := bindE H
 try dsimp only at H
 have HC6 := Aside0.mk H
 clear H
 go_enter Try.func144, Try.ntmps144
 go_upto_region 2 with (first | ((with_reducible refine gate_dst (N := 7) rfl ?_); refine bE (N := 7) (cs := #[.int .i64 a3_0, .int .i64 a3_1, .int .i64 a3_2, .int .i64 a3_3]) (t := 89) ?_; intro gb379 hg w7 hbox hb; have n0_ := Aside0.mk (below_step bA hb); have n1_ := Aside0.mk (hbox); have n2_ := Aside0.mk ((by rw [hg]; exact (below_size bA) : w.heap.size ≤ gb379)); have n3_ := Aside0.mk ((by rw [hg]; exact (below_size bA) : w.heap.size ≤ gb379)); clear HB; have HB := n0_; have BK379 := n1_; have GW379 := n2_; have GE379 := n3_; clear n0_ n1_ n2_ n3_; clear hb hbox hg) | ((with_reducible refine gate_callee (f := 161) rfl ?_); refine gL (some 15) Try.func161 #[.slice A0 l0.length c0, .slice A1 l1.length c1, .int .i64 a2] ?_; (with_reducible refine (impl_PartAt.calls k _ _ l0 _ _ l1 a2 t380 t381 _ ?side1 ?side2 ?side3 ?side4 A5.out).mono ?_); (case side1 => exact cB HR0); (case side2 => exact HC0.out); (case side3 => exact cB HR1); (case side4 => exact HC1.out); rintro e w8 ⟨rfl, hb⟩; refine ⟨_, rfl, ?_⟩; replace BK379 := Aside0.mk (blk_below (g := gb379) (bK BK379) hb); replace HB := Aside0.mk (below_step bG hb); (try clear hb)))
 (try simp only [Act.put, List.setIfInBounds_toArray, List.set_cons_zero, List.set_cons_succ])
 go_cut [30] (fun v30 wc => ∃ (kq : Nat) (x30_5 : Bool), v30 = .bool x30_5 ∧ Aside0 (impl_shown.j0 kq l1 t380 t381 x30_5 a3_0 a3_1 a3_2 a3_3 = some r) ∧ Aside0 (kq ≤ k) ∧ Aside0 (wc.heap[gb379]? = some (.cells #[.int .i64 a3_0, .int .i64 a3_1, .int .i64 a3_2, .int .i64 a3_3] 89 (0, 0))) ∧ Aside0 (Below w.heap.size w wc))
 case first =>
  have H := HC6.out
  clear HC6
  by_cases c9 : t380 < 0
  ·
   rw [if_pos c9] at H
   have c9b0 := decide_eq_true c9
   clear c9
   (first | rw [c9b0] | (simp only [i64_w, i32_w]; rw [c9b0]) | skip)
   have H' := Aside0.mk H
   clear H
   try go_wp2
   replace BK379 := Aside0.mk (blk_drew BK379.out)
   have HBo := HB
   replace HB := Aside0.mk (below_drew1 HB.out)
   refine start_ (n := 13) (S := fun w' => True) (ds := []) (mb 13 0) (by kernel_rfl) rfl rfl trivial (fun hHeld => ?_); refine with_tabW impl_shown.tab2 impl_shown.bits2 (fun HT_ HW_ => ?_)
   generalize w8.drew = w10 at BK379 HB hHeld ⊢
   refine pA (i := 0) (N := some 18) (mb 13 1) HT_ ?_
   refine pA (i := 1) (N := some 19) (mb 13 3) HT_ ?_
   refine pA (i := 2) (N := some 20) (mb 13 7) HT_ ?_
   refine pU (i := 3) (N := some 21) (mb 13 15) HT_ ?_
   refine pU (i := 4) (N := some 22) (mb 13 31) HT_ ?_
   refine pU (i := 5) (N := some 23) (mb 13 63) HT_ ?_
   refine pU (i := 6) (N := some 24) (mb 13 127) HT_ ?_
   refine pU (i := 7) (N := some 25) (mb 13 255) HT_ ?_
   refine pU (i := 8) (N := some 26) (mb 13 511) HT_ ?_
   refine pU (i := 9) (N := some 27) (mb 13 1023) HT_ ?_
   refine pU (i := 10) (N := some 28) (mb 13 2047) HT_ ?_
   refine pU (i := 11) (N := some 29) (mb 13 4095) HT_ ?_
   refine pA (i := 12) (N := some 30) (mb 13 8191) HT_ ?_
   refine eA HT_ ?_
   try go_wp2
   go_meet
   case rel => exact ⟨_, (true), rS, H', ⟨by first | omega | exact Nat.le_refl _⟩, ⟨bK BK379⟩, ⟨bG⟩⟩
  ·
   rw [if_neg c9] at H
   have c9b0 := decide_eq_false c9
   clear c9
   (first | rw [c9b0] | (simp only [i64_w, i32_w]; rw [c9b0]) | skip)
   have c11 : 0 ≤ t380 := ifN H
   replace H := ifT H
   have c11b0 := decide_eq_true c11
   clear c11
   have c12 : t380 < (l1.length : Int) := ifN H
   replace H := ifT H
   have c12b0 := decide_eq_true c12
   clear c12
   obtain ⟨t383, A13, H⟩ := bindE H
   try dsimp only at H
   have H' := Aside0.mk H
   clear H
   try go_wp2
   replace BK379 := Aside0.mk (blk_drew BK379.out)
   have HBo := HB
   replace HB := Aside0.mk (below_drew1 HB.out)
   have p382 : 0 ≤ (t380 : Int) := dA
   have q382 : t380 < (l1.length : Int) := dA
   obtain ⟨ad382, A382_0, c382_0, e382, hx382_0, hx382_1, hl382_0, hi382_0⟩ := at_T92 HR1.out t380 p382 q382
   have hw382_1 := hx382_1
   have hw382_0 := hx382_0
   cases e382
   replace hx382_0 := hC HB hx382_0
   replace hx382_1 := hC HB hx382_1
   have HR382_0 := Aside0.mk hi382_0
   have HC382_0 := Aside0.mk hl382_0
   clear hi382_0 hl382_0
   replace p382 := eq_true p382
   replace q382 := eq_true q382
   refine start_ (n := 13) (S := fun w' => w'.cell? ⟨gb379, 0, none⟩ = some (.int .i64 a3_0) ∧ w'.cell? ⟨gb379, 1, none⟩ = some (.int .i64 a3_1) ∧ w'.cell? ⟨gb379, 2, none⟩ = some (.int .i64 a3_2) ∧ w'.cell? ⟨gb379, 3, none⟩ = some (.int .i64 a3_3) ∧ w'.cell? (ad382.add ((t380).toNat * 2)) = some (.slice A382_0 ((rd_T92 l1 t380).f0).length c382_0) ∧ w'.cell? ⟨(ad382.add ((t380).toNat * 2)).block, (ad382.add ((t380).toNat * 2)).off + 1, none⟩ = some (.int .i64 ((rd_T92 l1 t380).f1))) (ds := []) (mb 13 0) (by kernel_rfl) rfl rfl ⟨bC BK379 0, bC BK379 1, bC BK379 2, bC BK379 3, (hC HB hw382_0), (hC HB hw382_1)⟩ (fun hHeld => ?_); refine with_tabW impl_shown.tab2 impl_shown.bits2 (fun HT_ HW_ => ?_)
   generalize w8.drew = w14 at BK379 HB HR382_0 hx382_0 hx382_1 hHeld ⊢
   refine pA (i := 0) (N := some 18) (mb 13 1) HT_ ?_
   refine pA (i := 1) (N := some 19) (mb 13 3) HT_ ?_
   refine pA (i := 2) (N := some 20) (mb 13 7) HT_ ?_
   refine pA (i := 3) (N := some 21) (mb 13 15) HT_ ?_
   refine pA (i := 4) (N := some 22) (mb 13 31) HT_ ?_
   refine pA (i := 5) (N := some 23) (mb 13 63) HT_ ?_
   refine pA (i := 6) (N := some 24) (mb 13 127) HT_ ?_
   refine pA (i := 8) (N := some 26) (mb 13 383) HT_ ?_
   refine tA6 (i := 7) (N := some 25) (mb 13 511) HT_ HW_ hHeld ?_
   refine tA6 (i := 9) (N := some 27) (mb 13 1023) HT_ HW_ hHeld ?_
   refine oA (i := 10) (N := some 28) (mb 13 2047) HT_ (fun K hK => ?_)
   refine gA Try.func104 #[.slice A382_0 ((rd_T92 l1 t380).f0).length c382_0, .int .i64 a3_0] ?_
   with_reducible refine (slices_Contains_int_int.calls k _ _ ((rd_T92 l1 t380).f0) a3_0 t383 _ ?side1 ?side2 A13.out).mono ?_
   (case side1 => exact cB HR382_0)
   (case side2 => exact HC382_0.out)
   rintro e w' ⟨rfl, ⟨nd, rfl⟩⟩
   refine ⟨_, rfl, ?_⟩
   refine hK.out _ _ ⟨bC BK379 0, bC BK379 1, bC BK379 2, bC BK379 3, (hC HB hw382_0), (hC HB hw382_1)⟩ (fun hHeld => ?_)
   clear hK K
   refine nB ?_
   refine pA (i := 11) (N := some 29) (mb 13 4095) HT_ ?_
   refine pA (i := 12) (N := some 30) (mb 13 8191) HT_ ?_
   refine eA HT_ ?_
   try go_wp2
   go_meet
   case rel => exact ⟨_, (!t383), rS, H', ⟨by first | omega | exact Nat.le_refl _⟩, ⟨bK BK379⟩, ⟨bG⟩⟩
 case rest =>
  clear HC6
  try clear c1
  try clear p2
  try clear c3
  try clear p3
  try clear q3
  try clear hx3
  try clear c9
  try clear c9b0
  try clear c10
  try clear c11
  try clear c11b0
  try clear c12
  try clear c12b0
  try clear c14
  try clear hx382_0
  try clear hx382_1
  try clear p382
  try clear q382
  obtain ⟨kq, x30_5, rfl, HA, HJ5, BK379, HB⟩ := hcut
  cases kq with
  | zero => exact absurd HA.out (by simp [impl_shown.j0])
  | succ kj5 =>
   have H := HA.out
   clear HA
   simp only [impl_shown.j0] at H
   by_cases c15 : x30_5 = true
   ·
    subst c15
    have H1 : (some 0) = some r := by rw [if_pos rfl] at H; exact H
    clear H
    have H := H1
    clear H1
    obtain rfl := Option.some.inj H
    go_wp2
    go_ret
    exact ⟨rA, bG⟩
   ·
    replace c15 := Bool.eq_false_iff.mpr c15
    subst c15
    have H1 : (if 0 ≤ t380 then (if t380 < (l1.length : Int) then (if t381 < ((rd_T92 l1 t380).f1) then (impl_shown.j1 kj5 l1 t380 t381 true a3_0 a3_1 a3_2 a3_3) else ((impl_nextStage.f l1 t380).bind fun t385 => ((slices_Contains_int_int.f kj5 t385 a3_0).bind fun t388 => (impl_shown.j1 kj5 l1 t380 t381 t388 a3_0 a3_1 a3_2 a3_3)))) else (none)) else (none)) = some r := by rw [if_neg (show ¬ (false = true) by decide)] at H; exact H
    clear H
    have H := H1
    clear H1
    have HC16 := Aside0.mk H
    clear H
    go_upto_region 4 with (fail)
    go_cut [31] (fun v31 wc => ∃ (kq : Nat) (x31_15 : Bool), v31 = .bool x31_15 ∧ Aside0 (impl_shown.j1 kq l1 t380 t381 x31_15 a3_0 a3_1 a3_2 a3_3 = some r) ∧ Aside0 (kq ≤ kj5) ∧ Aside0 (wc.heap[gb379]? = some (.cells #[.int .i64 a3_0, .int .i64 a3_1, .int .i64 a3_2, .int .i64 a3_3] 89 (0, 0))) ∧ Aside0 (Below w.heap.size w wc))
    case first =>
     have H := HC16.out
     clear HC16
     have c17 : 0 ≤ t380 := ifN H
     replace H := ifT H
     have c17b0 := decide_eq_true c17
     clear c17
     (first | rw [c17b0] | (simp only [i64_w, i32_w]; rw [c17b0]) | skip)
     have c18 : t380 < (l1.length : Int) := ifN H
     replace H := ifT H
     have c18b0 := decide_eq_true c18
     clear c18
     by_cases c19 : t381 < ((rd_T92 l1 t380).f1)
     ·
      rw [if_pos c19] at H
      have c19b0 := decide_eq_true c19
      clear c19
      have H' := Aside0.mk H
      clear H
      try go_wp2
      replace BK379 := Aside0.mk (blk_drew BK379.out)
      have HBo := HB
      replace HB := Aside0.mk (below_drew1 HB.out)
      have p384 : 0 ≤ (t380 : Int) := dA
      have q384 : t380 < (l1.length : Int) := dA
      obtain ⟨ad384, A384_0, c384_0, e384, hx384_0, hx384_1, hl384_0, hi384_0⟩ := at_T92 HR1.out t380 p384 q384
      have hw384_1 := hx384_1
      have hw384_0 := hx384_0
      cases e384
      replace hx384_0 := hC HB hx384_0
      replace hx384_1 := hC HB hx384_1
      have HR384_0 := Aside0.mk hi384_0
      have HC384_0 := Aside0.mk hl384_0
      clear hi384_0 hl384_0
      replace p384 := eq_true p384
      replace q384 := eq_true q384
      refine start_ (n := 16) (S := fun w' => w'.cell? (ad384.add ((t380).toNat * 2)) = some (.slice A384_0 ((rd_T92 l1 t380).f0).length c384_0) ∧ w'.cell? ⟨(ad384.add ((t380).toNat * 2)).block, (ad384.add ((t380).toNat * 2)).off + 1, none⟩ = some (.int .i64 ((rd_T92 l1 t380).f1))) (ds := []) (mb 16 0) (by kernel_rfl) rfl rfl ⟨(hC HB hw384_0), (hC HB hw384_1)⟩ (fun hHeld => ?_); refine with_tabW impl_shown.tab4 impl_shown.bits4 (fun HT_ HW_ => ?_)
      generalize wc.drew = w20 at BK379 HB HR384_0 hx384_0 hx384_1 hHeld ⊢
      refine pA (i := 0) (N := some 32) (mb 16 1) HT_ ?_
      refine pA (i := 1) (N := some 33) (mb 16 3) HT_ ?_
      refine pA (i := 2) (N := some 34) (mb 16 7) HT_ ?_
      refine pA (i := 3) (N := some 35) (mb 16 15) HT_ ?_
      refine pA (i := 4) (N := some 36) (mb 16 31) HT_ ?_
      refine tA2 (i := 5) (N := some 37) (mb 16 63) HT_ HW_ hHeld ?_
      refine pA (i := 6) (N := some 38) (mb 16 127) HT_ ?_
      refine pA (i := 7) (N := some 39) (mb 16 255) HT_ ?_
      refine pU (i := 8) (N := some 40) (mb 16 511) HT_ ?_
      refine pU (i := 9) (N := some 41) (mb 16 1023) HT_ ?_
      refine pU (i := 10) (N := some 42) (mb 16 2047) HT_ ?_
      refine pU (i := 11) (N := some 43) (mb 16 4095) HT_ ?_
      refine pU (i := 12) (N := some 44) (mb 16 8191) HT_ ?_
      refine pU (i := 13) (N := some 45) (mb 16 16383) HT_ ?_
      refine pA (i := 14) (N := some 46) (mb 16 32767) HT_ ?_
      refine pA (i := 15) (N := some 31) (mb 16 65535) HT_ ?_
      refine eA HT_ ?_
      try go_wp2
      go_meet
      case rel => exact ⟨_, (true), rS, H', ⟨by have := HJ5.out; first | omega | exact Nat.le_refl _⟩, ⟨bK BK379⟩, ⟨bG⟩⟩
     ·
      rw [if_neg c19] at H
      have c19b0 := decide_eq_false c19
      clear c19
      obtain ⟨t385, A21, H⟩ := bindE H
      try dsimp only at H
      obtain ⟨t388, A22, H⟩ := bindE H
      try dsimp only at H
      have H' := Aside0.mk H
      clear H
      try go_wp2
      replace BK379 := Aside0.mk (blk_drew BK379.out)
      have HBo := HB
      replace HB := Aside0.mk (below_drew1 HB.out)
      have p384 : 0 ≤ (t380 : Int) := dA
      have q384 : t380 < (l1.length : Int) := dA
      obtain ⟨ad384, A384_0, c384_0, e384, hx384_0, hx384_1, hl384_0, hi384_0⟩ := at_T92 HR1.out t380 p384 q384
      have hw384_1 := hx384_1
      have hw384_0 := hx384_0
      cases e384
      replace hx384_0 := hC HB hx384_0
      replace hx384_1 := hC HB hx384_1
      have HR384_0 := Aside0.mk hi384_0
      have HC384_0 := Aside0.mk hl384_0
      clear hi384_0 hl384_0
      replace p384 := eq_true p384
      replace q384 := eq_true q384
      refine start_ (n := 16) (S := fun w' => w'.cell? ⟨gb379, 0, none⟩ = some (.int .i64 a3_0) ∧ w'.cell? ⟨gb379, 1, none⟩ = some (.int .i64 a3_1) ∧ w'.cell? ⟨gb379, 2, none⟩ = some (.int .i64 a3_2) ∧ w'.cell? ⟨gb379, 3, none⟩ = some (.int .i64 a3_3) ∧ w'.cell? (ad384.add ((t380).toNat * 2)) = some (.slice A384_0 ((rd_T92 l1 t380).f0).length c384_0) ∧ w'.cell? ⟨(ad384.add ((t380).toNat * 2)).block, (ad384.add ((t380).toNat * 2)).off + 1, none⟩ = some (.int .i64 ((rd_T92 l1 t380).f1))) (ds := []) (mb 16 0) (by kernel_rfl) rfl rfl ⟨bC BK379 0, bC BK379 1, bC BK379 2, bC BK379 3, (hC HB hw384_0), (hC HB hw384_1)⟩ (fun hHeld => ?_); refine with_tabW impl_shown.tab4 impl_shown.bits4 (fun HT_ HW_ => ?_)
      generalize wc.drew = w23 at BK379 HB HR384_0 hx384_0 hx384_1 hHeld ⊢
      refine pA (i := 0) (N := some 32) (mb 16 1) HT_ ?_
      refine pA (i := 1) (N := some 33) (mb 16 3) HT_ ?_
      refine pA (i := 2) (N := some 34) (mb 16 7) HT_ ?_
      refine pA (i := 3) (N := some 35) (mb 16 15) HT_ ?_
      refine pA (i := 4) (N := some 36) (mb 16 31) HT_ ?_
      refine tA6 (i := 5) (N := some 37) (mb 16 63) HT_ HW_ hHeld ?_
      refine pA (i := 6) (N := some 38) (mb 16 127) HT_ ?_
      refine pA (i := 7) (N := some 39) (mb 16 255) HT_ ?_
      refine pA (i := 8) (N := some 40) (mb 16 511) HT_ ?_
      refine pA (i := 9) (N := some 41) (mb 16 1023) HT_ ?_
      refine pA (i := 11) (N := some 43) (mb 16 3071) HT_ ?_
      refine tA6 (i := 12) (N := some 44) (mb 16 7167) HT_ HW_ hHeld ?_
      refine oA (i := 10) (N := some 42) (mb 16 8191) HT_ (fun K hK => ?_)
      refine gA Try.func159 #[.slice (some ad384) l1.length c1, .int .i64 t380] ?_
      with_reducible refine (impl_nextStage.calls (fun k_ => k_ < w.heap.size) _ _ l1 t380 t385 _ ?side1 A21.out).mono ?_
      (case side1 => exact Kd.V_mk HC1.out (Kd.F_below (Kd.C_F k92_heap HR1.out) bG))
      rintro e w24 ⟨v386, rfl, ho0, hb⟩
      refine ⟨_, rfl, ?_⟩
      have HO387 := Aside0.mk (Kd.V_lower (Kd.V_mono (ok' := fun k_ => k_ ≠ gb379) ho0 (fun k_ hk_ => Or.elim hk_ (fun hs_ => fun e_ => Nat.not_le.2 hs_ (by rw [e_]; exact GW379.out)) (fun hn_ => (Kd.freshB (g := gb379) (o := .cells #[.int .i64 a3_0, .int .i64 a3_1, .int .i64 a3_2, .int .i64 a3_3] 89 (0, 0)) (bK BK379) k_ hn_)))) (below_size bG))
      replace BK379 := Aside0.mk (blk_below (g := gb379) (bK BK379) hb)
      replace HB := Aside0.mk (below_step bG hb)
      (try clear hb)
      (try clear hb2)
      (try clear hk)
      (try clear hi)
      (try clear ho0)
      obtain ⟨Ao25, co25, eo25⟩ := Kd.V_slice HO387.out
      (first | subst eo25 | (injection eo25 with f1_ f2_ f3_; have f4_ := f1_.symm; have f5_ := f3_.symm; clear f1_ f2_ f3_; subst f4_; subst f5_))
      refine hK.out _ _ ⟨bC BK379 0, bC BK379 1, bC BK379 2, bC BK379 3, (hC HB hw384_0), (hC HB hw384_1)⟩ (fun hHeld => ?_)
      clear hK K
      refine nB ?_
      refine oA (i := 13) (N := some 45) (mb 16 16383) HT_ (fun K hK => ?_)
      refine gA Try.func104 #[.slice Ao25 t385.length co25, .int .i64 a3_0] ?_
      with_reducible refine (slices_Contains_int_int.calls kj5 _ _ t385 a3_0 t388 _ ?side1 ?side2 A22.out).mono ?_
      (case side1 => repeat (first | exact (Kd.V_reads' HO387.out).2.2 | (with_reducible refine Kd.C_alloc ?_ _) | (with_reducible refine Kd.C_drewN ?_ _) | (with_reducible refine Kd.C_drew ?_)))
      (case side2 => exact (Kd.V_reads' HO387.out).2.1)
      rintro e w' ⟨rfl, ⟨nd, rfl⟩⟩
      refine ⟨_, rfl, ?_⟩
      refine hK.out _ _ ⟨bC BK379 0, bC BK379 1, bC BK379 2, bC BK379 3, (hC HB hw384_0), (hC HB hw384_1)⟩ (fun hHeld => ?_)
      clear hK K
      refine nB ?_
      refine pA (i := 14) (N := some 46) (mb 16 32767) HT_ ?_
      refine pA (i := 15) (N := some 31) (mb 16 65535) HT_ ?_
      refine eA HT_ ?_
      try go_wp2
      go_meet
      case rel => exact ⟨_, (t388), rS, H', ⟨by have := HJ5.out; first | omega | exact Nat.le_refl _⟩, ⟨bK BK379⟩, ⟨bG⟩⟩
    case rest =>
     clear HC16
     try clear c1
     try clear p2
     try clear c3
     try clear p3
     try clear q3
     try clear hx3
     try clear c9
     try clear c9b0
     try clear c10
     try clear c11
     try clear c11b0
     try clear c12
     try clear c12b0
     try clear c14
     try clear c15
     try clear c17
     try clear c17b0
     try clear c18
     try clear c18b0
     try clear c19
     try clear c19b0
     try clear hx382_0
     try clear hx382_1
     try clear hx384_0
     try clear hx384_1
     try clear p2
     try clear p3
     try clear p382
     try clear p384
     try clear q3
     try clear q382
     try clear q384
     obtain ⟨kq, x31_15, rfl, HA, HJ15, BK379, HB⟩ := hcut
     cases kq with
     | zero => exact absurd HA.out (by simp [impl_shown.j1])
     | succ kj15 =>
      have H := HA.out
      clear HA
      simp only [impl_shown.j1] at H
      by_cases c26 : x31_15 = true
      ·
       subst c26
       have H1 : (some 1) = some r := by rw [if_pos rfl] at H; exact H
       clear H
       have H := H1
       clear H1
       obtain rfl := Option.some.inj H
       go_wp2
       go_ret
       exact ⟨rA, bG⟩
      ·
       replace c26 := Bool.eq_false_iff.mpr c26
       subst c26
       have H1 : (if 0 ≤ t380 then (if t380 < (l1.length : Int) then ((impl_ClearOf.f a3_0 a3_1 a3_2 a3_3).bind fun t390 => (if t381 < (wrap64 (((rd_T92 l1 t380).f1) + t390)) then (some 2) else (some 0))) else (none)) else (none)) = some r := by rw [if_neg (show ¬ (false = true) by decide)] at H; exact H
       clear H
       have H := H1
       clear H1
       have c27 : 0 ≤ t380 := ifN H
       replace H := ifT H
       have c27b0 := decide_eq_true c27
       clear c27
       have c28 : t380 < (l1.length : Int) := ifN H
       replace H := ifT H
       have c28b0 := decide_eq_true c28
       clear c28
       obtain ⟨t390, A29, H⟩ := bindE H
       try dsimp only at H
       by_cases c30 : t381 < (wrap64 (((rd_T92 l1 t380).f1) + t390))
       ·
        rw [if_pos c30] at H
        have c30b0 := decide_eq_true c30
        clear c30
        obtain rfl := Option.some.inj H
        try go_wp2
        replace BK379 := Aside0.mk (blk_drew BK379.out)
        have HBo := HB
        replace HB := Aside0.mk (below_drew1 HB.out)
        have p389 : 0 ≤ (t380 : Int) := dA
        have q389 : t380 < (l1.length : Int) := dA
        obtain ⟨ad389, A389_0, c389_0, e389, hx389_0, hx389_1, hl389_0, hi389_0⟩ := at_T92 HR1.out t380 p389 q389
        have hw389_1 := hx389_1
        have hw389_0 := hx389_0
        cases e389
        replace hx389_0 := hC HB hx389_0
        replace hx389_1 := hC HB hx389_1
        have HR389_0 := Aside0.mk hi389_0
        have HC389_0 := Aside0.mk hl389_0
        clear hi389_0 hl389_0
        replace p389 := eq_true p389
        replace q389 := eq_true q389
        refine start_ (n := 11) (S := fun w' => w'.cell? ⟨gb379, 0, none⟩ = some (.int .i64 a3_0) ∧ w'.cell? ⟨gb379, 1, none⟩ = some (.int .i64 a3_1) ∧ w'.cell? ⟨gb379, 2, none⟩ = some (.int .i64 a3_2) ∧ w'.cell? ⟨gb379, 3, none⟩ = some (.int .i64 a3_3) ∧ w'.cell? (ad389.add ((t380).toNat * 2)) = some (.slice A389_0 ((rd_T92 l1 t380).f0).length c389_0) ∧ w'.cell? ⟨(ad389.add ((t380).toNat * 2)).block, (ad389.add ((t380).toNat * 2)).off + 1, none⟩ = some (.int .i64 ((rd_T92 l1 t380).f1))) (ds := []) (mb 11 0) (by kernel_rfl) rfl rfl ⟨bC BK379 0, bC BK379 1, bC BK379 2, bC BK379 3, (hC HB hw389_0), (hC HB hw389_1)⟩ (fun hHeld => ?_); refine with_tabW impl_shown.tab6 impl_shown.bits6 (fun HT_ HW_ => ?_)
        generalize wc.drew = w31 at BK379 HB HR389_0 hx389_0 hx389_1 hHeld ⊢
        refine pA (i := 0) (N := some 48) (mb 11 1) HT_ ?_
        refine pA (i := 1) (N := some 49) (mb 11 3) HT_ ?_
        refine pA (i := 2) (N := some 50) (mb 11 7) HT_ ?_
        refine pA (i := 3) (N := some 51) (mb 11 15) HT_ ?_
        refine pA (i := 4) (N := some 52) (mb 11 31) HT_ ?_
        refine tA6 (i := 5) (N := some 53) (mb 11 63) HT_ HW_ hHeld ?_
        refine tA6 (i := 6) (N := some 54) (mb 11 127) HT_ HW_ hHeld ?_
        refine oA (i := 7) (N := some 55) (mb 11 255) HT_ (fun K hK => ?_)
        refine gA Try.func135 #[.agg #[.int .i64 a3_0, .int .i64 a3_1, .int .i64 a3_2, .int .i64 a3_3]] ?_
        with_reducible refine (impl_ClearOf.calls a3_0 a3_1 a3_2 a3_3 t390 _ A29.out).mono ?_
        rintro e w32 ⟨rfl, hb⟩
        refine ⟨_, rfl, ?_⟩
        replace BK379 := Aside0.mk (blk_below (g := gb379) (bK BK379) hb)
        replace HB := Aside0.mk (below_step bG hb)
        (try clear hb)
        (try clear hb2)
        (try clear hk)
        (try clear hi)
        refine hK.out _ _ ⟨bC BK379 0, bC BK379 1, bC BK379 2, bC BK379 3, (hC HB hw389_0), (hC HB hw389_1)⟩ (fun hHeld => ?_)
        clear hK K
        refine nB ?_
        refine pA (i := 8) (N := some 56) (mb 11 511) HT_ ?_
        refine pA (i := 9) (N := some 57) (mb 11 1023) HT_ ?_
        refine pA (i := 10) (N := some 47) (mb 11 2047) HT_ ?_
        refine eA HT_ ?_
        try go_wp2
        go_ret
        exact ⟨rA, bG⟩
       ·
        rw [if_neg c30] at H
        have c30b0 := decide_eq_false c30
        clear c30
        obtain rfl := Option.some.inj H
        try go_wp2
        replace BK379 := Aside0.mk (blk_drew BK379.out)
        have HBo := HB
        replace HB := Aside0.mk (below_drew1 HB.out)
        have p389 : 0 ≤ (t380 : Int) := dA
        have q389 : t380 < (l1.length : Int) := dA
        obtain ⟨ad389, A389_0, c389_0, e389, hx389_0, hx389_1, hl389_0, hi389_0⟩ := at_T92 HR1.out t380 p389 q389
        have hw389_1 := hx389_1
        have hw389_0 := hx389_0
        cases e389
        replace hx389_0 := hC HB hx389_0
        replace hx389_1 := hC HB hx389_1
        have HR389_0 := Aside0.mk hi389_0
        have HC389_0 := Aside0.mk hl389_0
        clear hi389_0 hl389_0
        replace p389 := eq_true p389
        replace q389 := eq_true q389
        refine start_ (n := 11) (S := fun w' => w'.cell? ⟨gb379, 0, none⟩ = some (.int .i64 a3_0) ∧ w'.cell? ⟨gb379, 1, none⟩ = some (.int .i64 a3_1) ∧ w'.cell? ⟨gb379, 2, none⟩ = some (.int .i64 a3_2) ∧ w'.cell? ⟨gb379, 3, none⟩ = some (.int .i64 a3_3) ∧ w'.cell? (ad389.add ((t380).toNat * 2)) = some (.slice A389_0 ((rd_T92 l1 t380).f0).length c389_0) ∧ w'.cell? ⟨(ad389.add ((t380).toNat * 2)).block, (ad389.add ((t380).toNat * 2)).off + 1, none⟩ = some (.int .i64 ((rd_T92 l1 t380).f1))) (ds := []) (mb 11 0) (by kernel_rfl) rfl rfl ⟨bC BK379 0, bC BK379 1, bC BK379 2, bC BK379 3, (hC HB hw389_0), (hC HB hw389_1)⟩ (fun hHeld => ?_); refine with_tabW impl_shown.tab6 impl_shown.bits6 (fun HT_ HW_ => ?_)
        generalize wc.drew = w33 at BK379 HB HR389_0 hx389_0 hx389_1 hHeld ⊢
        refine pA (i := 0) (N := some 48) (mb 11 1) HT_ ?_
        refine pA (i := 1) (N := some 49) (mb 11 3) HT_ ?_
        refine pA (i := 2) (N := some 50) (mb 11 7) HT_ ?_
        refine pA (i := 3) (N := some 51) (mb 11 15) HT_ ?_
        refine pA (i := 4) (N := some 52) (mb 11 31) HT_ ?_
        refine tA6 (i := 5) (N := some 53) (mb 11 63) HT_ HW_ hHeld ?_
        refine tA6 (i := 6) (N := some 54) (mb 11 127) HT_ HW_ hHeld ?_
        refine oA (i := 7) (N := some 55) (mb 11 255) HT_ (fun K hK => ?_)
        refine gA Try.func135 #[.agg #[.int .i64 a3_0, .int .i64 a3_1, .int .i64 a3_2, .int .i64 a3_3]] ?_
        with_reducible refine (impl_ClearOf.calls a3_0 a3_1 a3_2 a3_3 t390 _ A29.out).mono ?_
        rintro e w34 ⟨rfl, hb⟩
        refine ⟨_, rfl, ?_⟩
        replace BK379 := Aside0.mk (blk_below (g := gb379) (bK BK379) hb)
        replace HB := Aside0.mk (below_step bG hb)
        (try clear hb)
        (try clear hb2)
        (try clear hk)
        (try clear hi)
        refine hK.out _ _ ⟨bC BK379 0, bC BK379 1, bC BK379 2, bC BK379 3, (hC HB hw389_0), (hC HB hw389_1)⟩ (fun hHeld => ?_)
        clear hK K
        refine nB ?_
        refine pA (i := 8) (N := some 56) (mb 11 511) HT_ ?_
        refine pA (i := 9) (N := some 57) (mb 11 1023) HT_ ?_
        refine pA (i := 10) (N := some 47) (mb 11 2047) HT_ ?_
        refine eA HT_ ?_
        try go_wp2
        go_ret
        exact ⟨rA, bG⟩

/-! ### impl_LightAt: function 121 -/
def impl_LightAt.f (k : Nat) (l0 : List (S89)) (l1 : List (S92)) (a2 : Int) (a3 : Int) : Option (Int) := (impl_FindPath.f l0 a3).bind fun t391 => (if t391 < 0 then (some 0) else (if 0 ≤ t391 then (if t391 < (l0.length : Int) then ((impl_shown.f k l0 l1 a2 ((rd_T89 l0 t391).f0) ((rd_T89 l0 t391).f1) ((rd_T89 l0 t391).f2) ((rd_T89 l0 t391).f3)).bind fun t393 => (some t393)) else (none)) else (none)))
theorem impl_LightAt.mono : ∀ a0 a1 a2 a3 k, LeO (impl_LightAt.f k a0 a1 a2 a3) (impl_LightAt.f (k + 1) a0 a1 a2 a3) := by
 intro a0 a1 a2 a3 k
 unfold impl_LightAt.f
 repeat' first | (with_reducible first | exact LeO.refl _ | exact LeO.none _ | refine LeO.ite ?_ ?_ | refine LeO.bind ?_ (fun _ => ?_) | exact impl_shown.mono _ _ _ _ _ _ _ _)
set_option maxHeartbeats 8000000 in
set_option maxRecDepth 100000 in
theorem impl_LightAt.calls (k : Nat) (A0 : Option Addr) (c0 : Nat) (l0 : List (S89)) (A1 : Option Addr) (c1 : Nat) (l1 : List (S92)) (a2 : Int) (a3 : Int) (r : Int) (w : World) (hr0 : Kd.C k89 w A0 l0.length l0) (hc0 : l0.length ≤ c0) (hr1 : Kd.C k92 w A1 l1.length l1) (hc1 : l1.length ≤ c1) (h : impl_LightAt.f k l0 l1 a2 a3 = some r) :
  Calls Try.prog 121 #[.slice A0 l0.length c0, .slice A1 l1.length c1, .int .i64 a2, .int .i64 a3] w fun e w' => e = .returned (.int .i64 r) ∧ Below w.heap.size w w' := by
 have hu89 := Try.underlying89
 have HR0 := Aside0.mk hr0
 have HC0 := Aside0.mk hc0
 clear hr0 hc0
 have HR1 := Aside0.mk hr1
 have HC1 := Aside0.mk hc1
 clear hr1 hc1
 have HB := Aside0.mk (Below.refl w.heap.size w)
 have H : ((impl_FindPath.f l0 a3).bind fun t391 => (if t391 < 0 then (some 0) else (if 0 ≤ t391 then (if t391 < (l0.length : Int) then ((impl_shown.f k l0 l1 a2 ((rd_T89 l0 t391).f0) ((rd_T89 l0 t391).f1) ((rd_T89 l0 t391).f2) ((rd_T89 l0 t391).f3)).bind fun t393 => (some t393)) else (none)) else (none)))) = some r := h
 clear h
 obtain ⟨t391, A5, H⟩ := bindE H
 try dsimp only at H
 by_cases c6 : t391 < 0
 ·
  rw [if_pos c6] at H
  have c6b0 := decide_eq_true c6
  clear c6
  obtain rfl := Option.some.inj H
  go_enter Try.func121, Try.ntmps121
  go_wp2_with (first | ((with_reducible refine gate_callee (f := 119) rfl ?_); refine gL (some 12) Try.func119 #[.slice A0 l0.length c0, .int .i64 a3] ?_; (with_reducible refine (impl_FindPath.calls _ _ l0 a3 t391 _ ?side1 ?side2 A5.out).mono ?_); (case side1 => exact cO HR0); (case side2 => exact HC0.out); rintro e w7 ⟨rfl, hb⟩; refine ⟨_, rfl, ?_⟩; replace HB := Aside0.mk (below_step bA hb); (try clear hb)))
  go_ret
  exact ⟨rA, bA⟩
 ·
  rw [if_neg c6] at H
  have c6b0 := decide_eq_false c6
  clear c6
  have c8 : 0 ≤ t391 := ifN H
  replace H := ifT H
  have c8b0 := decide_eq_true c8
  clear c8
  have c9 : t391 < (l0.length : Int) := ifN H
  replace H := ifT H
  have c9b0 := decide_eq_true c9
  clear c9
  obtain ⟨t393, A10, H⟩ := bindE H
  try dsimp only at H
  obtain rfl := Option.some.inj H
  go_enter Try.func121, Try.ntmps121
  go_wp2_with (first | ((with_reducible refine gate_callee (f := 119) rfl ?_); refine gL (some 12) Try.func119 #[.slice A0 l0.length c0, .int .i64 a3] ?_; (with_reducible refine (impl_FindPath.calls _ _ l0 a3 t391 _ ?side1 ?side2 A5.out).mono ?_); (case side1 => exact cO HR0); (case side2 => exact HC0.out); rintro e w11 ⟨rfl, hb⟩; refine ⟨_, rfl, ?_⟩; replace HB := Aside0.mk (below_step bA hb); (try clear hb); have p392 : 0 ≤ (t391 : Int) := dA; have q392 : t391 < (l0.length : Int) := dA; obtain ⟨ad392, e392, hx392_0, hx392_1, hx392_2, hx392_3⟩ := at_T89 HR0.out t391 p392 q392; cases e392; replace hx392_0 := hC HB hx392_0; replace hx392_1 := hC HB hx392_1; replace hx392_2 := hC HB hx392_2; replace hx392_3 := hC HB hx392_3; replace p392 := eq_true p392; replace q392 := eq_true q392) | ((with_reducible refine gate_callee (f := 144) rfl ?_); refine gL (some 22) Try.func144 #[.slice (some ad392) l0.length c0, .slice A1 l1.length c1, .int .i64 a2, .agg #[.int .i64 ((rd_T89 l0 t391).f0), .int .i64 ((rd_T89 l0 t391).f1), .int .i64 ((rd_T89 l0 t391).f2), .int .i64 ((rd_T89 l0 t391).f3)]] ?_; (with_reducible refine (impl_shown.calls k _ _ l0 _ _ l1 a2 ((rd_T89 l0 t391).f0) ((rd_T89 l0 t391).f1) ((rd_T89 l0 t391).f2) ((rd_T89 l0 t391).f3) t393 _ ?side1 ?side2 ?side3 ?side4 A10.out).mono ?_); (case side1 => exact cB HR0); (case side2 => exact HC0.out); (case side3 => exact cB HR1); (case side4 => exact HC1.out); rintro e w12 ⟨rfl, hb⟩; refine ⟨_, rfl, ?_⟩; replace HB := Aside0.mk (below_step bA hb); (try clear hb)))
  go_ret
  exact ⟨rA, bA⟩

/-! ### impl_greens: function 65 -/
def impl_greens.l0 : Nat → List (S89) → List (S92) → Int → List Bool → Int → Int → Option (List Bool)
 | 0, _, _, _, _, _, _ => none
 | k + 1, x0, x1, x2, x7, x18, x19 => if x19 < x18 then ((impl_LightAt.f k x0 x1 x19 x2).bind fun t399 => (if 0 ≤ x19 then (if x19 < (x7.length : Int) then (impl_greens.l0 k x0 x1 x2 (x7.set (x19 : Int).toNat (t399 == 1)) x18 (wrap64 (x19 + 1))) else (none)) else (none))) else (some x7)
def impl_greens.f (k : Nat) (l0 : List (S89)) (l1 : List (S92)) (a2 : Int) : Option (List Bool) := (impl_FindPath.f l0 a2).bind fun t394 => (if t394 < 0 then (some ([] : List Bool)) else ((impl_Cycle.f k l0 l1).bind fun t395 => (if 0 ≤ t395 then (if (t395 : Int).toNat ≤ 281474976710656 then ((some (List.replicate (t395 : Int).toNat false : List Bool)).bind fun y396 => (impl_greens.l0 k l0 l1 a2 y396 (y396.length : Int) 0)) else (none)) else (none))))
theorem impl_greens.mono_l : ∀ k, (∀ y0 y1 y2 y3 y4 y5, LeO (impl_greens.l0 k y0 y1 y2 y3 y4 y5) (impl_greens.l0 (k + 1) y0 y1 y2 y3 y4 y5))
 | 0 => fun _ _ _ _ _ _ r h => by simp [impl_greens.l0] at h
 | k + 1 => by
  have ih0 := impl_greens.mono_l k
  ·
   intro y0 y1 y2 y3 y4 y5
   unfold impl_greens.l0
   repeat' first | (with_reducible first | exact LeO.refl _ | exact LeO.none _ | refine LeO.ite ?_ ?_ | refine LeO.bind ?_ (fun _ => ?_) | exact ih0 _ _ _ _ _ _ | exact impl_Cycle.mono _ _ _ | exact impl_LightAt.mono _ _ _ _ _)
theorem impl_greens.mono : ∀ a0 a1 a2 k, LeO (impl_greens.f k a0 a1 a2) (impl_greens.f (k + 1) a0 a1 a2) := by
 intro a0 a1 a2 k
 have ih0 := impl_greens.mono_l k
 unfold impl_greens.f
 repeat' first | (with_reducible first | exact LeO.refl _ | exact LeO.none _ | refine LeO.ite ?_ ?_ | refine LeO.bind ?_ (fun _ => ?_) | exact ih0 _ _ _ _ _ _ | exact impl_Cycle.mono _ _ _ | exact impl_LightAt.mono _ _ _ _ _)
set_option maxHeartbeats 8000000 in
set_option maxRecDepth 100000 in
theorem impl_greens.calls (k : Nat) (A0 : Option Addr) (c0 : Nat) (l0 : List (S89)) (A1 : Option Addr) (c1 : Nat) (l1 : List (S92)) (a2 : Int) (r : List Bool) (w : World) (hr0 : Kd.C k89 w A0 l0.length l0) (hc0 : l0.length ≤ c0) (hr1 : Kd.C k92 w A1 l1.length l1) (hc1 : l1.length ≤ c1) (h : impl_greens.f k l0 l1 a2 = some r) :
  Calls Try.prog 65 #[.slice A0 l0.length c0, .slice A1 l1.length c1, .int .i64 a2] w fun e w' => ∃ v0_ : Value, e = .returned (v0_) ∧ Kd.R Kd.bool 4 w' w.heap.size (fun _ => True) v0_ r ∧ Below w.heap.size w w' := by
 have HR0 := Aside0.mk hr0
 have HC0 := Aside0.mk hc0
 clear hr0 hc0
 have HR1 := Aside0.mk hr1
 have HC1 := Aside0.mk hc1
 clear hr1 hc1
 have HB := Aside0.mk (Below.refl w.heap.size w)
 have H : ((impl_FindPath.f l0 a2).bind fun t394 => (if t394 < 0 then (some ([] : List Bool)) else ((impl_Cycle.f k l0 l1).bind fun t395 => (if 0 ≤ t395 then (if (t395 : Int).toNat ≤ 281474976710656 then ((some (List.replicate (t395 : Int).toNat false : List Bool)).bind fun y396 => (impl_greens.l0 k l0 l1 a2 y396 (y396.length : Int) 0)) else (none)) else (none))))) = some r := h
 clear h
 obtain ⟨t394, A4, H⟩ := bindE H
 try dsimp only at H
 by_cases c5 : t394 < 0
 ·
  rw [if_pos c5] at H
  have c5b0 := decide_eq_true c5
  clear c5
  obtain rfl := Option.some.inj H
  go_enter Try.func65, Try.ntmps65
  go_wp2_with (first | ((with_reducible refine gate_callee (f := 119) rfl ?_); refine gL (some 11) Try.func119 #[.slice A0 l0.length c0, .int .i64 a2] ?_; (with_reducible refine (impl_FindPath.calls _ _ l0 a2 t394 _ ?side1 ?side2 A4.out).mono ?_); (case side1 => exact cO HR0); (case side2 => exact HC0.out); rintro e w6 ⟨rfl, hb⟩; refine ⟨_, rfl, ?_⟩; replace HB := Aside0.mk (below_step bA hb); (try clear hb)))
  go_ret
  exact ⟨_, by first | rfl | (simp [errW_none, errW_some] <;> rfl) | (simp [*, errW_none, errW_some] <;> rfl), by first | exact Kd.R_nil _ _ _ _ _ | exact Kd.N_nil _ _ _ _ _ | exact Kd.V_nil _ _ _ _ _ | exact Kd.Q_nil _ _ _ _ _ | exact Kd.S_nil _ _ _ _ _, bA⟩
 ·
  rw [if_neg c5] at H
  have c5b0 := decide_eq_false c5
  clear c5
  obtain ⟨t395, A7, H⟩ := bindE H
  try dsimp only at H
  have c8 : 0 ≤ t395 := ifN H
  replace H := ifT H
  have c8b0 := eq_true c8
  have c8b1 := decide_eq_true c8
  clear c8
  have c9 : (t395 : Int).toNat ≤ 281474976710656 := ifN H
  replace H := ifT H
  have c9b0 := eq_true c9
  have c9b1 := decide_eq_true c9
  clear c9
  obtain ⟨y396, hy396⟩ : ∃ y_ : List Bool, y_ = (List.replicate (t395 : Int).toNat false) := ⟨_, rfl⟩
  replace H : (impl_greens.l0 k l0 l1 a2 y396 (y396.length : Int) 0) = some r := by first | (rw [hy396]; with_reducible exact H) | (have H2_ := (Option.bind_some _ _).symm.trans H; rw [hy396]; with_reducible exact H2_) | (have H2_ := (Option.bind_some _ _).symm.trans H; with_reducible exact H2_) | with_reducible exact H | (rw [hy396]; exact H) | exact H
  have Ny396 := Aside0.mk hy396
  clear hy396
  have H' := Aside0.mk H
  clear H
  go_enter Try.func65, Try.ntmps65
  go_wp2_with (first | ((with_reducible refine gate_callee (f := 119) rfl ?_); refine gL (some 11) Try.func119 #[.slice A0 l0.length c0, .int .i64 a2] ?_; (with_reducible refine (impl_FindPath.calls _ _ l0 a2 t394 _ ?side1 ?side2 A4.out).mono ?_); (case side1 => exact cO HR0); (case side2 => exact HC0.out); rintro e w10 ⟨rfl, hb⟩; refine ⟨_, rfl, ?_⟩; replace HB := Aside0.mk (below_step bA hb); (try clear hb)) | ((with_reducible refine gate_callee (f := 120) rfl ?_); refine gL (some 15) Try.func120 #[.slice A0 l0.length c0, .slice A1 l1.length c1] ?_; (with_reducible refine (impl_Cycle.calls k _ _ l0 _ _ l1 t395 _ ?side1 ?side2 ?side3 ?side4 A7.out).mono ?_); (case side1 => exact cB HR0); (case side2 => exact HC0.out); (case side3 => exact cB HR1); (case side4 => exact HC1.out); rintro e w11 ⟨rfl, hb⟩; refine ⟨_, rfl, ?_⟩; replace HB := Aside0.mk (below_step bA hb); (try clear hb)) | ((with_reducible refine gate_dst (N := 16) rfl ?_); refine Kd.R_make Kd.bool _ 4 rfl (N := 16) rfl 26 _ _ rfl t395 rfl rfl Try.underlying26 (.bool false) 1 info4 rfl (by decide) (by omega) false (ok := fun _ => True) (okp := fun _ => True) rfl (fun _ hk => hk) trivial (dA) (Nat.le_trans (Nat.mul_le_mul_right _ (dA : t395.toNat ≤ 281474976710656)) (by omega)) (Below.refl _ _) (Nat.le_refl _) ?_; intro v397 w12 ho13 hb hg_ hnew_; clear hg_ hnew_; (first | rw [← Ny396.out] at ho13 | (simp only [Int.reduceToNat] at ho13; rw [← Ny396.out] at ho13)); have HO398 := Aside0.mk (Kd.R_lower ho13 (below_size bA)); replace HB := Aside0.mk (below_step bA hb); clear hb ho13; obtain ⟨Ao14, co14, eo14⟩ := Kd.R_slice HO398.out; subst eo14))
  go_loopg [19] k (fun kq v19 w' => ∃ (x7_1 : List Bool) (x19_1 : Int), v19 = .int .i64 x19_1 ∧ Aside0 (impl_greens.l0 kq l0 l1 a2 x7_1 (y396.length : Int) x19_1 = some r) ∧ Aside0 (kq ≤ k) ∧ Aside0 (Kd.R Kd.bool 4 w' w.heap.size (fun _ => True) (.slice Ao14 y396.length co14) x7_1) ∧ Aside0 (Below w.heap.size w w'))
  case atStart => exact ⟨(y396), (0), rS, H', ⟨Nat.le_refl _⟩, ⟨rK HO398⟩, ⟨bA⟩⟩
  case round =>
   clear H'
   try clear c1
   try clear p2
   try clear c5
   try clear c5b0
   try clear c6
   try clear c8
   try clear c8b0
   try clear c8b1
   try clear c9
   try clear c9b0
   try clear c9b1
   try clear c11
   try clear c12
   obtain ⟨x7_1, x19_1, rfl, HA, HK1, HO_7, HB⟩ := hrel
   have hl7_1 := (Kd.R_reads' HO_7.out).1
   rw [hl7_1] at HO_7
   (try simp only [hl7_1])
   cases gk with
   | zero => exact absurd HA.out (by simp [impl_greens.l0])
   | succ k1 =>
    have H := HA.out
    clear HA
    simp only [impl_greens.l0] at H
    by_cases c15 : x19_1 < (y396.length : Int)
    ·
     rw [if_pos c15] at H
     have c15b0 := decide_eq_true c15
     (try have c15b0x : decide (x19_1 < (x7_1.length : Int)) = true := (by rw [← hl7_1]; exact c15b0))
     clear c15
     obtain ⟨t399, A16, H⟩ := bindE H
     try dsimp only at H
     have c17 : 0 ≤ x19_1 := ifN H
     replace H := ifT H
     have c17b0 := decide_eq_true c17
     clear c17
     have c18 : x19_1 < (x7_1.length : Int) := ifN H
     replace H := ifT H
     have c18b0 := decide_eq_true c18
     clear c18
     obtain ⟨y400, hy400⟩ : ∃ y_ : List Bool, y_ = (x7_1.set (x19_1 : Int).toNat (t399 == 1)) := ⟨_, rfl⟩
     replace H : (impl_greens.l0 k1 l0 l1 a2 y400 (y396.length : Int) (wrap64 (x19_1 + 1))) = some r := by first | (rw [hy400]; with_reducible exact H) | (have H2_ := (Option.bind_some _ _).symm.trans H; rw [hy400]; with_reducible exact H2_) | (have H2_ := (Option.bind_some _ _).symm.trans H; with_reducible exact H2_) | with_reducible exact H | (rw [hy400]; exact H) | exact H
     have Ny400 := Aside0.mk hy400
     clear hy400
     have H' := Aside0.mk H
     clear H
     go_wp2_with (first | ((with_reducible refine gate_callee (f := 121) rfl ?_); refine gL (some 28) Try.func121 #[.slice A0 l0.length c0, .slice A1 l1.length c1, .int .i64 x19_1, .int .i64 a2] ?_; (with_reducible refine (impl_LightAt.calls k1 _ _ l0 _ _ l1 x19_1 a2 t399 _ ?side1 ?side2 ?side3 ?side4 A16.out).mono ?_); (case side1 => exact cB HR0); (case side2 => exact HC0.out); (case side3 => exact cB HR1); (case side4 => exact HC1.out); rintro e w20 ⟨rfl, hb⟩; refine ⟨_, rfl, ?_⟩; replace HO_7 := Aside0.mk (Kd.R_below (rK HO_7) hb); replace HB := Aside0.mk (below_step bA hb); (try clear hb); have p19 : 0 ≤ (x19_1 : Int) := dA; have q19 : (x19_1 : Int) < ((x7_1.length : Int) : Int) := dA; obtain ⟨go19, co19, eo19, gb19, gl19, cl19, HG19⟩ := Kd.R_form HO_7.out (by omega); (first | cases eo19 | (injection eo19 with ea_ en_ ec_; (first | subst ea_ | (injection ea_ with ea_; subst ea_)); subst ec_; clear en_)); have GB19 := Aside0.mk gb19; have GG19 := Aside0.mk HG19; clear gb19 gl19 HG19; obtain ⟨hx19_0, hf19_0⟩ := Kd.R_celln false HO_7.out (x19_1 : Int) p19 q19; replace p19 := eq_true p19; replace q19 := eq_true q19; obtain ⟨hy21_, hz21_⟩ := Kd.R_celln false HO_7.out (x19_1 : Int) (dA) (dA); have HP21 := Kd.R_putg HO_7.out (x19_1 : Int) (t399 == 1)) | ((with_reducible refine gate_store (t := 4) (p := 30) rfl ?_); refine store_event (t := 4) (p := 30) (v := ?vo_w22) (w1 := (w20.setCell ⟨go19, (x19_1 : Int).toNat, none⟩ (.bool (t399 == 1)))) ?hg ?ho ?hn ?hr ?_; (case ho => rfl); (case hg => rfl); (case hn => rfl); (case hr => first | (go_simp; done) | (go_simp; rfl)); intro w22 hw; have hg : w20.grownBy w22 (some go19) := (by rw [hw]; exact HP21.2); have hp_ : Kd.R Kd.bool 4 w22 w.heap.size (fun _ => True) (.slice (some ⟨go19, 0, none⟩) x7_1.length co14) y400 := (by rw [hw, Ny400.out]; exact HP21.1); clear HP21; have n0_ := Aside0.mk (hp_); have n1_ := Aside0.mk ((by rw [hw]; exact below_set (HB.out) GB19.out : Below w.heap.size w w22)); clear HO_7; clear HB; have HO_7 := n0_; have HB := n1_; clear n0_ n1_; clear hg hw hp_))
     (try simp only [← hl7_1])
     go_roundg k1
     case measure => have := HK1.out; omega
     case rel => exact ⟨(y400), (wrap64 (x19_1 + 1)), rS, H', ⟨by have := HK1.out; omega⟩, ⟨by (try simp only [hl7_1]); (with_reducible repeat (first | apply Kd.R_alloc | apply Kd.R_drewN | apply Kd.R_drew)); exact HO_7.out⟩, ⟨bA⟩⟩
    ·
     rw [if_neg c15] at H
     have c15b0 := decide_eq_false c15
     (try have c15b0x : decide (x19_1 < (x7_1.length : Int)) = false := (by rw [← hl7_1]; exact c15b0))
     clear c15
     obtain rfl := Option.some.inj H
     go_wp2
     go_ret
     exact ⟨_, by first | rfl | (simp [errW_none, errW_some] <;> rfl) | (simp [*, errW_none, errW_some] <;> rfl), by (with_reducible repeat (first | apply Kd.R_alloc | apply Kd.R_drewN | apply Kd.R_drew)); exact HO_7.out, bA⟩

/-! ### laws_eqPath: function 67 -/
def laws_eqPath.f (a0_0 : Int) (a0_1 : Int) (a0_2 : Int) (a0_3 : Int) (a1_0 : Int) (a1_1 : Int) (a1_2 : Int) (a1_3 : Int) : Option (Bool) := if a0_0 = a1_0 then (if a0_1 = a1_1 then (if a0_2 = a1_2 then (if a0_3 = a1_3 then (some true) else (some false)) else (some false)) else (some false)) else (some false)
set_option maxHeartbeats 8000000 in
set_option maxRecDepth 100000 in
theorem laws_eqPath.calls (a0_0 : Int) (a0_1 : Int) (a0_2 : Int) (a0_3 : Int) (a1_0 : Int) (a1_1 : Int) (a1_2 : Int) (a1_3 : Int) (r : Bool) (w : World) (h : laws_eqPath.f a0_0 a0_1 a0_2 a0_3 a1_0 a1_1 a1_2 a1_3 = some r) :
  Calls Try.prog 67 #[.agg #[.int .i64 a0_0, .int .i64 a0_1, .int .i64 a0_2, .int .i64 a0_3], .agg #[.int .i64 a1_0, .int .i64 a1_1, .int .i64 a1_2, .int .i64 a1_3]] w fun e w' => e = .returned (.bool r) ∧ Below w.heap.size w w' := by
 have hu89 := Try.underlying89
 have HB := Aside0.mk (Below.refl w.heap.size w)
 have H : (if a0_0 = a1_0 then (if a0_1 = a1_1 then (if a0_2 = a1_2 then (if a0_3 = a1_3 then (some true) else (some false)) else (some false)) else (some false)) else (some false)) = some r := h
 clear h
 by_cases c3 : a0_0 = a1_0
 ·
  rw [if_pos c3] at H
  have c3b0 : (a0_0 == a1_0) = true := beq_iff_eq.mpr c3
  have c3b1 : (a0_0 != a1_0) = false := bne_eq_false_iff_eq.mpr c3
  clear c3
  by_cases c4 : a0_1 = a1_1
  ·
   rw [if_pos c4] at H
   have c4b0 : (a0_1 == a1_1) = true := beq_iff_eq.mpr c4
   have c4b1 : (a0_1 != a1_1) = false := bne_eq_false_iff_eq.mpr c4
   clear c4
   by_cases c5 : a0_2 = a1_2
   ·
    rw [if_pos c5] at H
    have c5b0 : (a0_2 == a1_2) = true := beq_iff_eq.mpr c5
    have c5b1 : (a0_2 != a1_2) = false := bne_eq_false_iff_eq.mpr c5
    clear c5
    by_cases c6 : a0_3 = a1_3
    ·
     rw [if_pos c6] at H
     have c6b0 : (a0_3 == a1_3) = true := beq_iff_eq.mpr c6
     have c6b1 : (a0_3 != a1_3) = false := bne_eq_false_iff_eq.mpr c6
     clear c6
     obtain rfl := Option.some.inj H
     go_enter Try.func67, Try.ntmps67
     go_wp2_with (first | ((with_reducible refine gate_dst (N := 2) rfl ?_); refine bE (N := 2) (cs := #[.int .i64 a0_0, .int .i64 a0_1, .int .i64 a0_2, .int .i64 a0_3]) (t := 89) ?_; intro gb415 hg w7 hbox hb; have n0_ := Aside0.mk (below_step bA hb); have n1_ := Aside0.mk (hbox); have n2_ := Aside0.mk ((by rw [hg]; exact (below_size bA) : w.heap.size ≤ gb415)); have n3_ := Aside0.mk ((by rw [hg]; exact (below_size bA) : w.heap.size ≤ gb415)); clear HB; have HB := n0_; have BK415 := n1_; have GW415 := n2_; have GE415 := n3_; clear n0_ n1_ n2_ n3_; clear hb hbox hg) | ((with_reducible refine gate_dst (N := 3) rfl ?_); refine bE (N := 3) (cs := #[.int .i64 a1_0, .int .i64 a1_1, .int .i64 a1_2, .int .i64 a1_3]) (t := 89) ?_; intro gb416 hg w8 hbox hb; have n0_ := Aside0.mk (blk_below (g := gb415) (bK BK415) hb); have n1_ := Aside0.mk (below_step bG hb); have n2_ := Aside0.mk (hbox); have n3_ := Aside0.mk ((by rw [hg]; exact (below_size bG) : w.heap.size ≤ gb416)); have n4_ := Aside0.mk ((by rw [hg]; exact (below_size bG) : w.heap.size ≤ gb416)); have n5_ := Aside0.mk ((by rw [hg]; exact Nat.ne_of_lt (blk_lt (g := gb415) (o := .cells #[.int .i64 a0_0, .int .i64 a0_1, .int .i64 a0_2, .int .i64 a0_3] 89 (0, 0)) (bK BK415)) : gb415 ≠ gb416)); have n6_ := Aside0.mk ((by rw [hg]; exact Nat.ne_of_gt (blk_lt (g := gb415) (o := .cells #[.int .i64 a0_0, .int .i64 a0_1, .int .i64 a0_2, .int .i64 a0_3] 89 (0, 0)) (bK BK415)) : gb416 ≠ gb415)); clear BK415; clear HB; have BK415 := n0_; have HB := n1_; have BK416 := n2_; have GW416 := n3_; have GE416 := n4_; have NB415_416 := n5_; have NB416_415 := n6_; clear n0_ n1_ n2_ n3_ n4_ n5_ n6_; clear hb hbox hg; have hnb9 := NB415_416.out; have hnc9 := NB416_415.out; obtain ⟨hcz10_0, hcz10_1, hcz10_2, hcz10_3, hfz10_0, hfz10_1, hfz10_2, hfz10_3⟩ := blkc4 BK415; obtain ⟨hcz11_0, hcz11_1, hcz11_2, hcz11_3, hfz11_0, hfz11_1, hfz11_2, hfz11_3⟩ := blkc4 BK416))
     go_ret
     exact ⟨rA, bG⟩
    ·
     rw [if_neg c6] at H
     have c6b0 : (a0_3 == a1_3) = false := beq_eq_false_iff_ne.mpr c6
     have c6b1 : (a0_3 != a1_3) = true := bne_iff_ne.mpr c6
     obtain rfl := Option.some.inj H
     go_enter Try.func67, Try.ntmps67
     go_wp2_with (first | ((with_reducible refine gate_dst (N := 2) rfl ?_); refine bE (N := 2) (cs := #[.int .i64 a0_0, .int .i64 a0_1, .int .i64 a0_2, .int .i64 a0_3]) (t := 89) ?_; intro gb415 hg w12 hbox hb; have n0_ := Aside0.mk (below_step bA hb); have n1_ := Aside0.mk (hbox); have n2_ := Aside0.mk ((by rw [hg]; exact (below_size bA) : w.heap.size ≤ gb415)); have n3_ := Aside0.mk ((by rw [hg]; exact (below_size bA) : w.heap.size ≤ gb415)); clear HB; have HB := n0_; have BK415 := n1_; have GW415 := n2_; have GE415 := n3_; clear n0_ n1_ n2_ n3_; clear hb hbox hg) | ((with_reducible refine gate_dst (N := 3) rfl ?_); refine bE (N := 3) (cs := #[.int .i64 a1_0, .int .i64 a1_1, .int .i64 a1_2, .int .i64 a1_3]) (t := 89) ?_; intro gb416 hg w13 hbox hb; have n0_ := Aside0.mk (blk_below (g := gb415) (bK BK415) hb); have n1_ := Aside0.mk (below_step bG hb); have n2_ := Aside0.mk (hbox); have n3_ := Aside0.mk ((by rw [hg]; exact (below_size bG) : w.heap.size ≤ gb416)); have n4_ := Aside0.mk ((by rw [hg]; exact (below_size bG) : w.heap.size ≤ gb416)); have n5_ := Aside0.mk ((by rw [hg]; exact Nat.ne_of_lt (blk_lt (g := gb415) (o := .cells #[.int .i64 a0_0, .int .i64 a0_1, .int .i64 a0_2, .int .i64 a0_3] 89 (0, 0)) (bK BK415)) : gb415 ≠ gb416)); have n6_ := Aside0.mk ((by rw [hg]; exact Nat.ne_of_gt (blk_lt (g := gb415) (o := .cells #[.int .i64 a0_0, .int .i64 a0_1, .int .i64 a0_2, .int .i64 a0_3] 89 (0, 0)) (bK BK415)) : gb416 ≠ gb415)); clear BK415; clear HB; have BK415 := n0_; have HB := n1_; have BK416 := n2_; have GW416 := n3_; have GE416 := n4_; have NB415_416 := n5_; have NB416_415 := n6_; clear n0_ n1_ n2_ n3_ n4_ n5_ n6_; clear hb hbox hg; have hnb14 := NB415_416.out; have hnc14 := NB416_415.out; obtain ⟨hcz15_0, hcz15_1, hcz15_2, hcz15_3, hfz15_0, hfz15_1, hfz15_2, hfz15_3⟩ := blkc4 BK415; obtain ⟨hcz16_0, hcz16_1, hcz16_2, hcz16_3, hfz16_0, hfz16_1, hfz16_2, hfz16_3⟩ := blkc4 BK416))
     go_ret
     exact ⟨rA, bG⟩
   ·
    rw [if_neg c5] at H
    have c5b0 : (a0_2 == a1_2) = false := beq_eq_false_iff_ne.mpr c5
    have c5b1 : (a0_2 != a1_2) = true := bne_iff_ne.mpr c5
    obtain rfl := Option.some.inj H
    go_enter Try.func67, Try.ntmps67
    go_wp2_with (first | ((with_reducible refine gate_dst (N := 2) rfl ?_); refine bE (N := 2) (cs := #[.int .i64 a0_0, .int .i64 a0_1, .int .i64 a0_2, .int .i64 a0_3]) (t := 89) ?_; intro gb415 hg w17 hbox hb; have n0_ := Aside0.mk (below_step bA hb); have n1_ := Aside0.mk (hbox); have n2_ := Aside0.mk ((by rw [hg]; exact (below_size bA) : w.heap.size ≤ gb415)); have n3_ := Aside0.mk ((by rw [hg]; exact (below_size bA) : w.heap.size ≤ gb415)); clear HB; have HB := n0_; have BK415 := n1_; have GW415 := n2_; have GE415 := n3_; clear n0_ n1_ n2_ n3_; clear hb hbox hg) | ((with_reducible refine gate_dst (N := 3) rfl ?_); refine bE (N := 3) (cs := #[.int .i64 a1_0, .int .i64 a1_1, .int .i64 a1_2, .int .i64 a1_3]) (t := 89) ?_; intro gb416 hg w18 hbox hb; have n0_ := Aside0.mk (blk_below (g := gb415) (bK BK415) hb); have n1_ := Aside0.mk (below_step bG hb); have n2_ := Aside0.mk (hbox); have n3_ := Aside0.mk ((by rw [hg]; exact (below_size bG) : w.heap.size ≤ gb416)); have n4_ := Aside0.mk ((by rw [hg]; exact (below_size bG) : w.heap.size ≤ gb416)); have n5_ := Aside0.mk ((by rw [hg]; exact Nat.ne_of_lt (blk_lt (g := gb415) (o := .cells #[.int .i64 a0_0, .int .i64 a0_1, .int .i64 a0_2, .int .i64 a0_3] 89 (0, 0)) (bK BK415)) : gb415 ≠ gb416)); have n6_ := Aside0.mk ((by rw [hg]; exact Nat.ne_of_gt (blk_lt (g := gb415) (o := .cells #[.int .i64 a0_0, .int .i64 a0_1, .int .i64 a0_2, .int .i64 a0_3] 89 (0, 0)) (bK BK415)) : gb416 ≠ gb415)); clear BK415; clear HB; have BK415 := n0_; have HB := n1_; have BK416 := n2_; have GW416 := n3_; have GE416 := n4_; have NB415_416 := n5_; have NB416_415 := n6_; clear n0_ n1_ n2_ n3_ n4_ n5_ n6_; clear hb hbox hg; have hnb19 := NB415_416.out; have hnc19 := NB416_415.out; obtain ⟨hcz20_0, hcz20_1, hcz20_2, hcz20_3, hfz20_0, hfz20_1, hfz20_2, hfz20_3⟩ := blkc4 BK415; obtain ⟨hcz21_0, hcz21_1, hcz21_2, hcz21_3, hfz21_0, hfz21_1, hfz21_2, hfz21_3⟩ := blkc4 BK416))
    go_ret
    exact ⟨rA, bG⟩
  ·
   rw [if_neg c4] at H
   have c4b0 : (a0_1 == a1_1) = false := beq_eq_false_iff_ne.mpr c4
   have c4b1 : (a0_1 != a1_1) = true := bne_iff_ne.mpr c4
   obtain rfl := Option.some.inj H
   go_enter Try.func67, Try.ntmps67
   go_wp2_with (first | ((with_reducible refine gate_dst (N := 2) rfl ?_); refine bE (N := 2) (cs := #[.int .i64 a0_0, .int .i64 a0_1, .int .i64 a0_2, .int .i64 a0_3]) (t := 89) ?_; intro gb415 hg w22 hbox hb; have n0_ := Aside0.mk (below_step bA hb); have n1_ := Aside0.mk (hbox); have n2_ := Aside0.mk ((by rw [hg]; exact (below_size bA) : w.heap.size ≤ gb415)); have n3_ := Aside0.mk ((by rw [hg]; exact (below_size bA) : w.heap.size ≤ gb415)); clear HB; have HB := n0_; have BK415 := n1_; have GW415 := n2_; have GE415 := n3_; clear n0_ n1_ n2_ n3_; clear hb hbox hg) | ((with_reducible refine gate_dst (N := 3) rfl ?_); refine bE (N := 3) (cs := #[.int .i64 a1_0, .int .i64 a1_1, .int .i64 a1_2, .int .i64 a1_3]) (t := 89) ?_; intro gb416 hg w23 hbox hb; have n0_ := Aside0.mk (blk_below (g := gb415) (bK BK415) hb); have n1_ := Aside0.mk (below_step bG hb); have n2_ := Aside0.mk (hbox); have n3_ := Aside0.mk ((by rw [hg]; exact (below_size bG) : w.heap.size ≤ gb416)); have n4_ := Aside0.mk ((by rw [hg]; exact (below_size bG) : w.heap.size ≤ gb416)); have n5_ := Aside0.mk ((by rw [hg]; exact Nat.ne_of_lt (blk_lt (g := gb415) (o := .cells #[.int .i64 a0_0, .int .i64 a0_1, .int .i64 a0_2, .int .i64 a0_3] 89 (0, 0)) (bK BK415)) : gb415 ≠ gb416)); have n6_ := Aside0.mk ((by rw [hg]; exact Nat.ne_of_gt (blk_lt (g := gb415) (o := .cells #[.int .i64 a0_0, .int .i64 a0_1, .int .i64 a0_2, .int .i64 a0_3] 89 (0, 0)) (bK BK415)) : gb416 ≠ gb415)); clear BK415; clear HB; have BK415 := n0_; have HB := n1_; have BK416 := n2_; have GW416 := n3_; have GE416 := n4_; have NB415_416 := n5_; have NB416_415 := n6_; clear n0_ n1_ n2_ n3_ n4_ n5_ n6_; clear hb hbox hg; have hnb24 := NB415_416.out; have hnc24 := NB416_415.out; obtain ⟨hcz25_0, hcz25_1, hcz25_2, hcz25_3, hfz25_0, hfz25_1, hfz25_2, hfz25_3⟩ := blkc4 BK415; obtain ⟨hcz26_0, hcz26_1, hcz26_2, hcz26_3, hfz26_0, hfz26_1, hfz26_2, hfz26_3⟩ := blkc4 BK416))
   go_ret
   exact ⟨rA, bG⟩
 ·
  rw [if_neg c3] at H
  have c3b0 : (a0_0 == a1_0) = false := beq_eq_false_iff_ne.mpr c3
  have c3b1 : (a0_0 != a1_0) = true := bne_iff_ne.mpr c3
  obtain rfl := Option.some.inj H
  go_enter Try.func67, Try.ntmps67
  go_wp2_with (first | ((with_reducible refine gate_dst (N := 2) rfl ?_); refine bE (N := 2) (cs := #[.int .i64 a0_0, .int .i64 a0_1, .int .i64 a0_2, .int .i64 a0_3]) (t := 89) ?_; intro gb415 hg w27 hbox hb; have n0_ := Aside0.mk (below_step bA hb); have n1_ := Aside0.mk (hbox); have n2_ := Aside0.mk ((by rw [hg]; exact (below_size bA) : w.heap.size ≤ gb415)); have n3_ := Aside0.mk ((by rw [hg]; exact (below_size bA) : w.heap.size ≤ gb415)); clear HB; have HB := n0_; have BK415 := n1_; have GW415 := n2_; have GE415 := n3_; clear n0_ n1_ n2_ n3_; clear hb hbox hg) | ((with_reducible refine gate_dst (N := 3) rfl ?_); refine bE (N := 3) (cs := #[.int .i64 a1_0, .int .i64 a1_1, .int .i64 a1_2, .int .i64 a1_3]) (t := 89) ?_; intro gb416 hg w28 hbox hb; have n0_ := Aside0.mk (blk_below (g := gb415) (bK BK415) hb); have n1_ := Aside0.mk (below_step bG hb); have n2_ := Aside0.mk (hbox); have n3_ := Aside0.mk ((by rw [hg]; exact (below_size bG) : w.heap.size ≤ gb416)); have n4_ := Aside0.mk ((by rw [hg]; exact (below_size bG) : w.heap.size ≤ gb416)); have n5_ := Aside0.mk ((by rw [hg]; exact Nat.ne_of_lt (blk_lt (g := gb415) (o := .cells #[.int .i64 a0_0, .int .i64 a0_1, .int .i64 a0_2, .int .i64 a0_3] 89 (0, 0)) (bK BK415)) : gb415 ≠ gb416)); have n6_ := Aside0.mk ((by rw [hg]; exact Nat.ne_of_gt (blk_lt (g := gb415) (o := .cells #[.int .i64 a0_0, .int .i64 a0_1, .int .i64 a0_2, .int .i64 a0_3] 89 (0, 0)) (bK BK415)) : gb416 ≠ gb415)); clear BK415; clear HB; have BK415 := n0_; have HB := n1_; have BK416 := n2_; have GW416 := n3_; have GE416 := n4_; have NB415_416 := n5_; have NB416_415 := n6_; clear n0_ n1_ n2_ n3_ n4_ n5_ n6_; clear hb hbox hg; have hnb29 := NB415_416.out; have hnc29 := NB416_415.out; obtain ⟨hcz30_0, hcz30_1, hcz30_2, hcz30_3, hfz30_0, hfz30_1, hfz30_2, hfz30_3⟩ := blkc4 BK415; obtain ⟨hcz31_0, hcz31_1, hcz31_2, hcz31_3, hfz31_0, hfz31_1, hfz31_2, hfz31_3⟩ := blkc4 BK416))
  go_ret
  exact ⟨rA, bG⟩

/-! ### laws_eqPathS: function 18 -/
def laws_eqPathS.l0 : Nat → List (S89) → List (S89) → Int → Option (Bool)
 | 0, _, _, _ => none
 | k + 1, x0, x1, x5 => if x5 < (x0.length : Int) then (if 0 ≤ x5 then (if x5 < (x1.length : Int) then ((laws_eqPath.f ((rd_T89 x0 x5).f0) ((rd_T89 x0 x5).f1) ((rd_T89 x0 x5).f2) ((rd_T89 x0 x5).f3) ((rd_T89 x1 x5).f0) ((rd_T89 x1 x5).f1) ((rd_T89 x1 x5).f2) ((rd_T89 x1 x5).f3)).bind fun t419 => (if t419 = true then (laws_eqPathS.l0 k x0 x1 (wrap64 (x5 + 1))) else (some false))) else (none)) else (none)) else (some true)
def laws_eqPathS.f (k : Nat) (l0 : List (S89)) (l1 : List (S89)) : Option (Bool) := if (l0.length : Int) = (l1.length : Int) then (laws_eqPathS.l0 k l0 l1 0) else (some false)
theorem laws_eqPathS.mono_l : ∀ k, (∀ y0 y1 y2, LeO (laws_eqPathS.l0 k y0 y1 y2) (laws_eqPathS.l0 (k + 1) y0 y1 y2))
 | 0 => fun _ _ _ r h => by simp [laws_eqPathS.l0] at h
 | k + 1 => by
  have ih0 := laws_eqPathS.mono_l k
  ·
   intro y0 y1 y2
   unfold laws_eqPathS.l0
   repeat' first | (with_reducible first | exact LeO.refl _ | exact LeO.none _ | refine LeO.ite ?_ ?_ | refine LeO.bind ?_ (fun _ => ?_) | exact ih0 _ _ _)
theorem laws_eqPathS.mono : ∀ a0 a1 k, LeO (laws_eqPathS.f k a0 a1) (laws_eqPathS.f (k + 1) a0 a1) := by
 intro a0 a1 k
 have ih0 := laws_eqPathS.mono_l k
 unfold laws_eqPathS.f
 repeat' first | (with_reducible first | exact LeO.refl _ | exact LeO.none _ | refine LeO.ite ?_ ?_ | refine LeO.bind ?_ (fun _ => ?_) | exact ih0 _ _ _)
def laws_eqPathS.T6 : Bool × List (List Nat × List Nat) := (true, [([], []), ([], []), ([0, 1], [0, 1]), ([2], [2]), ([], []), ([], []), ([4, 5], [4, 5]), ([6], [6]), ([3, 7], [3, 7]), ([8], [8])])
def laws_eqPathS.B6 : List Nat := [0, 0, 3, 7, 0, 0, 48, 112, 255, 511]
theorem laws_eqPathS.tab6 : rtab .any (opsOf Try.f18 6) = laws_eqPathS.T6 := by kernel_rfl
theorem laws_eqPathS.bits6 : waitsOk laws_eqPathS.T6.2 laws_eqPathS.B6 = true := by kernel_rfl
set_option maxHeartbeats 8000000 in
set_option maxRecDepth 100000 in
theorem laws_eqPathS.calls (k : Nat) (A0 : Option Addr) (c0 : Nat) (l0 : List (S89)) (A1 : Option Addr) (c1 : Nat) (l1 : List (S89)) (r : Bool) (w : World) (hr0 : Kd.C k89 w A0 l0.length l0) (hc0 : l0.length ≤ c0) (hr1 : Kd.C k89 w A1 l1.length l1) (hc1 : l1.length ≤ c1) (h : laws_eqPathS.f k l0 l1 = some r) :
  Calls Try.prog 18 #[.slice A0 l0.length c0, .slice A1 l1.length c1] w fun e w' => e = .returned (.bool r) ∧ Below w.heap.size w w' := by
 have hu89 := Try.underlying89
 have HR0 := Aside0.mk hr0
 have HC0 := Aside0.mk hc0
 clear hr0 hc0
 have HR1 := Aside0.mk hr1
 have HC1 := Aside0.mk hc1
 clear hr1 hc1
 have HB := Aside0.mk (Below.refl w.heap.size w)
 have H : (if (l0.length : Int) = (l1.length : Int) then (laws_eqPathS.l0 k l0 l1 0) else (some false)) = some r := h
 clear h
 by_cases c3 : (l0.length : Int) = (l1.length : Int)
 ·
  rw [if_pos c3] at H
  have c3b0 : ((l0.length : Int) == (l1.length : Int)) = true := beq_iff_eq.mpr c3
  have c3b1 : ((l0.length : Int) != (l1.length : Int)) = false := bne_eq_false_iff_eq.mpr c3
  have c3b2 : (l0.length == l1.length) = true := by first | simpa using c3 | (simp at c3 ⊢; omega)
  clear c3
  have H' := Aside0.mk H
  clear H
  go_enter Try.func18, Try.ntmps18
  go_wp2
  go_loopg [5] k (fun kq v5 w' => ∃ (x5_1 : Int), v5 = .int .i64 x5_1 ∧ Aside0 (laws_eqPathS.l0 kq l0 l1 x5_1 = some r) ∧ Aside0 (kq ≤ k) ∧ Aside0 (Below w.heap.size w w'))
  case atStart => exact ⟨(0), rS, H', ⟨Nat.le_refl _⟩, ⟨bA⟩⟩
  case round =>
   clear H'
   try clear c1
   try clear p2
   try clear c3
   try clear c3b0
   try clear c3b1
   try clear c3b2
   obtain ⟨x5_1, rfl, HA, HK1, HB⟩ := hrel
   cases gk with
   | zero => exact absurd HA.out (by simp [laws_eqPathS.l0])
   | succ k1 =>
    have H := HA.out
    clear HA
    simp only [laws_eqPathS.l0] at H
    by_cases c4 : x5_1 < (l0.length : Int)
    ·
     rw [if_pos c4] at H
     have c4b0 := decide_eq_true c4
     clear c4
     have c5 : 0 ≤ x5_1 := ifN H
     replace H := ifT H
     have c5b0 := decide_eq_true c5
     clear c5
     have c6 : x5_1 < (l1.length : Int) := ifN H
     replace H := ifT H
     have c6b0 := decide_eq_true c6
     clear c6
     obtain ⟨t419, A7, H⟩ := bindE H
     try dsimp only at H
     by_cases c8 : t419 = true
     ·
      subst c8
      have H1 : (laws_eqPathS.l0 k1 l0 l1 (wrap64 (x5_1 + 1))) = some r := by rw [if_pos rfl] at H; exact H
      clear H
      have H := H1
      clear H1
      have H' := Aside0.mk H
      clear H
      try go_wp2
      have HBo := HB
      replace HB := Aside0.mk (below_drew1 HB.out)
      have p417 : 0 ≤ (x5_1 : Int) := dA
      have q417 : x5_1 < (l0.length : Int) := dA
      obtain ⟨ad417, e417, hx417_0, hx417_1, hx417_2, hx417_3⟩ := at_T89 HR0.out x5_1 p417 q417
      have hw417_3 := hx417_3
      have hw417_2 := hx417_2
      have hw417_1 := hx417_1
      have hw417_0 := hx417_0
      cases e417
      replace hx417_0 := hC HB hx417_0
      replace hx417_1 := hC HB hx417_1
      replace hx417_2 := hC HB hx417_2
      replace hx417_3 := hC HB hx417_3
      replace p417 := eq_true p417
      replace q417 := eq_true q417
      have p418 : 0 ≤ (x5_1 : Int) := dA
      have q418 : x5_1 < (l1.length : Int) := dA
      obtain ⟨ad418, e418, hx418_0, hx418_1, hx418_2, hx418_3⟩ := at_T89 HR1.out x5_1 p418 q418
      have hw418_3 := hx418_3
      have hw418_2 := hx418_2
      have hw418_1 := hx418_1
      have hw418_0 := hx418_0
      cases e418
      replace hx418_0 := hC HB hx418_0
      replace hx418_1 := hC HB hx418_1
      replace hx418_2 := hC HB hx418_2
      replace hx418_3 := hC HB hx418_3
      replace p418 := eq_true p418
      replace q418 := eq_true q418
      refine start_ (n := 10) (S := fun w' => w'.cell? (ad417.add ((x5_1).toNat * 4)) = some (.int .i64 ((rd_T89 l0 x5_1).f0)) ∧ w'.cell? ⟨(ad417.add ((x5_1).toNat * 4)).block, (ad417.add ((x5_1).toNat * 4)).off + 1, none⟩ = some (.int .i64 ((rd_T89 l0 x5_1).f1)) ∧ w'.cell? ⟨(ad417.add ((x5_1).toNat * 4)).block, (ad417.add ((x5_1).toNat * 4)).off + 2, none⟩ = some (.int .i64 ((rd_T89 l0 x5_1).f2)) ∧ w'.cell? ⟨(ad417.add ((x5_1).toNat * 4)).block, (ad417.add ((x5_1).toNat * 4)).off + 3, none⟩ = some (.int .i64 ((rd_T89 l0 x5_1).f3)) ∧ w'.cell? (ad418.add ((x5_1).toNat * 4)) = some (.int .i64 ((rd_T89 l1 x5_1).f0)) ∧ w'.cell? ⟨(ad418.add ((x5_1).toNat * 4)).block, (ad418.add ((x5_1).toNat * 4)).off + 1, none⟩ = some (.int .i64 ((rd_T89 l1 x5_1).f1)) ∧ w'.cell? ⟨(ad418.add ((x5_1).toNat * 4)).block, (ad418.add ((x5_1).toNat * 4)).off + 2, none⟩ = some (.int .i64 ((rd_T89 l1 x5_1).f2)) ∧ w'.cell? ⟨(ad418.add ((x5_1).toNat * 4)).block, (ad418.add ((x5_1).toNat * 4)).off + 3, none⟩ = some (.int .i64 ((rd_T89 l1 x5_1).f3))) (ds := []) (mb 10 0) (by kernel_rfl) rfl rfl ⟨(hC HB hw417_0), (hC HB hw417_1), (hC HB hw417_2), (hC HB hw417_3), (hC HB hw418_0), (hC HB hw418_1), (hC HB hw418_2), (hC HB hw418_3)⟩ (fun hHeld => ?_); refine with_tabW laws_eqPathS.tab6 laws_eqPathS.bits6 (fun HT_ HW_ => ?_)
      generalize wr.drew = w9 at HB hx417_0 hx417_1 hx417_2 hx417_3 hx418_0 hx418_1 hx418_2 hx418_3 hHeld ⊢
      refine pA (i := 0) (N := some 17) (mb 10 1) HT_ ?_
      refine pA (i := 1) (N := some 18) (mb 10 3) HT_ ?_
      refine pA (i := 2) (N := some 19) (mb 10 7) HT_ ?_
      refine pA (i := 4) (N := some 21) (mb 10 23) HT_ ?_
      refine pA (i := 5) (N := some 22) (mb 10 55) HT_ ?_
      refine pA (i := 6) (N := some 23) (mb 10 119) HT_ ?_
      refine tA8 (i := 3) (N := some 20) (mb 10 127) HT_ HW_ hHeld ?_
      refine tA8 (i := 7) (N := some 24) (mb 10 255) HT_ HW_ hHeld ?_
      refine oA (i := 8) (N := some 25) (mb 10 511) HT_ (fun K hK => ?_)
      refine gA Try.func67 #[.agg #[.int .i64 ((rd_T89 l0 x5_1).f0), .int .i64 ((rd_T89 l0 x5_1).f1), .int .i64 ((rd_T89 l0 x5_1).f2), .int .i64 ((rd_T89 l0 x5_1).f3)], .agg #[.int .i64 ((rd_T89 l1 x5_1).f0), .int .i64 ((rd_T89 l1 x5_1).f1), .int .i64 ((rd_T89 l1 x5_1).f2), .int .i64 ((rd_T89 l1 x5_1).f3)]] ?_
      with_reducible refine (laws_eqPath.calls ((rd_T89 l0 x5_1).f0) ((rd_T89 l0 x5_1).f1) ((rd_T89 l0 x5_1).f2) ((rd_T89 l0 x5_1).f3) ((rd_T89 l1 x5_1).f0) ((rd_T89 l1 x5_1).f1) ((rd_T89 l1 x5_1).f2) ((rd_T89 l1 x5_1).f3) true _ A7.out).mono ?_
      rintro e w10 ⟨rfl, hb⟩
      refine ⟨_, rfl, ?_⟩
      replace HB := Aside0.mk (below_step bA hb)
      (try clear hb)
      (try clear hb2)
      (try clear hk)
      (try clear hi)
      refine hK.out _ _ ⟨(hC HB hw417_0), (hC HB hw417_1), (hC HB hw417_2), (hC HB hw417_3), (hC HB hw418_0), (hC HB hw418_1), (hC HB hw418_2), (hC HB hw418_3)⟩ (fun hHeld => ?_)
      clear hK K
      refine nB ?_
      refine pA (i := 9) (N := some 26) (mb 10 1023) HT_ ?_
      refine eA HT_ ?_
      try go_wp2
      go_roundg k1
      case measure => have := HK1.out; omega
      case rel => exact ⟨(wrap64 (x5_1 + 1)), rS, H', ⟨by have := HK1.out; omega⟩, ⟨bA⟩⟩
     ·
      replace c8 := Bool.eq_false_iff.mpr c8
      subst c8
      have H1 : (some false) = some r := by rw [if_neg (show ¬ (false = true) by decide)] at H; exact H
      clear H
      have H := H1
      clear H1
      obtain rfl := Option.some.inj H
      try go_wp2
      have HBo := HB
      replace HB := Aside0.mk (below_drew1 HB.out)
      have p417 : 0 ≤ (x5_1 : Int) := dA
      have q417 : x5_1 < (l0.length : Int) := dA
      obtain ⟨ad417, e417, hx417_0, hx417_1, hx417_2, hx417_3⟩ := at_T89 HR0.out x5_1 p417 q417
      have hw417_3 := hx417_3
      have hw417_2 := hx417_2
      have hw417_1 := hx417_1
      have hw417_0 := hx417_0
      cases e417
      replace hx417_0 := hC HB hx417_0
      replace hx417_1 := hC HB hx417_1
      replace hx417_2 := hC HB hx417_2
      replace hx417_3 := hC HB hx417_3
      replace p417 := eq_true p417
      replace q417 := eq_true q417
      have p418 : 0 ≤ (x5_1 : Int) := dA
      have q418 : x5_1 < (l1.length : Int) := dA
      obtain ⟨ad418, e418, hx418_0, hx418_1, hx418_2, hx418_3⟩ := at_T89 HR1.out x5_1 p418 q418
      have hw418_3 := hx418_3
      have hw418_2 := hx418_2
      have hw418_1 := hx418_1
      have hw418_0 := hx418_0
      cases e418
      replace hx418_0 := hC HB hx418_0
      replace hx418_1 := hC HB hx418_1
      replace hx418_2 := hC HB hx418_2
      replace hx418_3 := hC HB hx418_3
      replace p418 := eq_true p418
      replace q418 := eq_true q418
      refine start_ (n := 10) (S := fun w' => w'.cell? (ad417.add ((x5_1).toNat * 4)) = some (.int .i64 ((rd_T89 l0 x5_1).f0)) ∧ w'.cell? ⟨(ad417.add ((x5_1).toNat * 4)).block, (ad417.add ((x5_1).toNat * 4)).off + 1, none⟩ = some (.int .i64 ((rd_T89 l0 x5_1).f1)) ∧ w'.cell? ⟨(ad417.add ((x5_1).toNat * 4)).block, (ad417.add ((x5_1).toNat * 4)).off + 2, none⟩ = some (.int .i64 ((rd_T89 l0 x5_1).f2)) ∧ w'.cell? ⟨(ad417.add ((x5_1).toNat * 4)).block, (ad417.add ((x5_1).toNat * 4)).off + 3, none⟩ = some (.int .i64 ((rd_T89 l0 x5_1).f3)) ∧ w'.cell? (ad418.add ((x5_1).toNat * 4)) = some (.int .i64 ((rd_T89 l1 x5_1).f0)) ∧ w'.cell? ⟨(ad418.add ((x5_1).toNat * 4)).block, (ad418.add ((x5_1).toNat * 4)).off + 1, none⟩ = some (.int .i64 ((rd_T89 l1 x5_1).f1)) ∧ w'.cell? ⟨(ad418.add ((x5_1).toNat * 4)).block, (ad418.add ((x5_1).toNat * 4)).off + 2, none⟩ = some (.int .i64 ((rd_T89 l1 x5_1).f2)) ∧ w'.cell? ⟨(ad418.add ((x5_1).toNat * 4)).block, (ad418.add ((x5_1).toNat * 4)).off + 3, none⟩ = some (.int .i64 ((rd_T89 l1 x5_1).f3))) (ds := []) (mb 10 0) (by kernel_rfl) rfl rfl ⟨(hC HB hw417_0), (hC HB hw417_1), (hC HB hw417_2), (hC HB hw417_3), (hC HB hw418_0), (hC HB hw418_1), (hC HB hw418_2), (hC HB hw418_3)⟩ (fun hHeld => ?_); refine with_tabW laws_eqPathS.tab6 laws_eqPathS.bits6 (fun HT_ HW_ => ?_)
      generalize wr.drew = w11 at HB hx417_0 hx417_1 hx417_2 hx417_3 hx418_0 hx418_1 hx418_2 hx418_3 hHeld ⊢
      refine pA (i := 0) (N := some 17) (mb 10 1) HT_ ?_
      refine pA (i := 1) (N := some 18) (mb 10 3) HT_ ?_
      refine pA (i := 2) (N := some 19) (mb 10 7) HT_ ?_
      refine pA (i := 4) (N := some 21) (mb 10 23) HT_ ?_
      refine pA (i := 5) (N := some 22) (mb 10 55) HT_ ?_
      refine pA (i := 6) (N := some 23) (mb 10 119) HT_ ?_
      refine tA8 (i := 3) (N := some 20) (mb 10 127) HT_ HW_ hHeld ?_
      refine tA8 (i := 7) (N := some 24) (mb 10 255) HT_ HW_ hHeld ?_
      refine oA (i := 8) (N := some 25) (mb 10 511) HT_ (fun K hK => ?_)
      refine gA Try.func67 #[.agg #[.int .i64 ((rd_T89 l0 x5_1).f0), .int .i64 ((rd_T89 l0 x5_1).f1), .int .i64 ((rd_T89 l0 x5_1).f2), .int .i64 ((rd_T89 l0 x5_1).f3)], .agg #[.int .i64 ((rd_T89 l1 x5_1).f0), .int .i64 ((rd_T89 l1 x5_1).f1), .int .i64 ((rd_T89 l1 x5_1).f2), .int .i64 ((rd_T89 l1 x5_1).f3)]] ?_
      with_reducible refine (laws_eqPath.calls ((rd_T89 l0 x5_1).f0) ((rd_T89 l0 x5_1).f1) ((rd_T89 l0 x5_1).f2) ((rd_T89 l0 x5_1).f3) ((rd_T89 l1 x5_1).f0) ((rd_T89 l1 x5_1).f1) ((rd_T89 l1 x5_1).f2) ((rd_T89 l1 x5_1).f3) false _ A7.out).mono ?_
      rintro e w12 ⟨rfl, hb⟩
      refine ⟨_, rfl, ?_⟩
      replace HB := Aside0.mk (below_step bA hb)
      (try clear hb)
      (try clear hb2)
      (try clear hk)
      (try clear hi)
      refine hK.out _ _ ⟨(hC HB hw417_0), (hC HB hw417_1), (hC HB hw417_2), (hC HB hw417_3), (hC HB hw418_0), (hC HB hw418_1), (hC HB hw418_2), (hC HB hw418_3)⟩ (fun hHeld => ?_)
      clear hK K
      refine nB ?_
      refine pA (i := 9) (N := some 26) (mb 10 1023) HT_ ?_
      refine eA HT_ ?_
      try go_wp2
      go_ret
      exact ⟨rA, bA⟩
    ·
     rw [if_neg c4] at H
     have c4b0 := decide_eq_false c4
     clear c4
     obtain rfl := Option.some.inj H
     go_wp2
     go_ret
     exact ⟨rA, bA⟩
 ·
  rw [if_neg c3] at H
  have c3b0 : ((l0.length : Int) == (l1.length : Int)) = false := beq_eq_false_iff_ne.mpr c3
  have c3b1 : ((l0.length : Int) != (l1.length : Int)) = true := bne_iff_ne.mpr c3
  have c3b2 : (l0.length == l1.length) = false := by first | simpa using c3 | (simp at c3 ⊢; omega)
  obtain rfl := Option.some.inj H
  go_enter Try.func18, Try.ntmps18
  go_wp2
  go_ret
  exact ⟨rA, bA⟩

/-! ### laws_eqIntS: function 28 -/
def laws_eqIntS.l0 : Nat → List Int → List Int → Int → Option (Bool)
 | 0, _, _, _ => none
 | k + 1, x0, x1, x5 => if x5 < (x0.length : Int) then (if 0 ≤ x5 then (if x5 < (x1.length : Int) then (if (rd x0 x5) = (rd x1 x5) then (laws_eqIntS.l0 k x0 x1 (wrap64 (x5 + 1))) else (some false)) else (none)) else (none)) else (some true)
def laws_eqIntS.f (k : Nat) (l0 : List Int) (l1 : List Int) : Option (Bool) := if (l0.length : Int) = (l1.length : Int) then (laws_eqIntS.l0 k l0 l1 0) else (some false)
theorem laws_eqIntS.mono_l : ∀ k, (∀ y0 y1 y2, LeO (laws_eqIntS.l0 k y0 y1 y2) (laws_eqIntS.l0 (k + 1) y0 y1 y2))
 | 0 => fun _ _ _ r h => by simp [laws_eqIntS.l0] at h
 | k + 1 => by
  have ih0 := laws_eqIntS.mono_l k
  ·
   intro y0 y1 y2
   unfold laws_eqIntS.l0
   repeat' first | (with_reducible first | exact LeO.refl _ | exact LeO.none _ | refine LeO.ite ?_ ?_ | refine LeO.bind ?_ (fun _ => ?_) | exact ih0 _ _ _)
theorem laws_eqIntS.mono : ∀ a0 a1 k, LeO (laws_eqIntS.f k a0 a1) (laws_eqIntS.f (k + 1) a0 a1) := by
 intro a0 a1 k
 have ih0 := laws_eqIntS.mono_l k
 unfold laws_eqIntS.f
 repeat' first | (with_reducible first | exact LeO.refl _ | exact LeO.none _ | refine LeO.ite ?_ ?_ | refine LeO.bind ?_ (fun _ => ?_) | exact ih0 _ _ _)
set_option maxHeartbeats 8000000 in
set_option maxRecDepth 100000 in
theorem laws_eqIntS.calls (k : Nat) (A0 : Option Addr) (c0 : Nat) (l0 : List Int) (A1 : Option Addr) (c1 : Nat) (l1 : List Int) (r : Bool) (w : World) (hr0 : Kd.C (Kd.int .i64) w A0 l0.length l0) (hc0 : l0.length ≤ c0) (hr1 : Kd.C (Kd.int .i64) w A1 l1.length l1) (hc1 : l1.length ≤ c1) (h : laws_eqIntS.f k l0 l1 = some r) :
  Calls Try.prog 28 #[.slice A0 l0.length c0, .slice A1 l1.length c1] w fun e w' => e = .returned (.bool r) ∧ Drawn0 w w' := by
 have HR0 := Aside0.mk hr0
 have HC0 := Aside0.mk hc0
 clear hr0 hc0
 have HR1 := Aside0.mk hr1
 have HC1 := Aside0.mk hc1
 clear hr1 hc1
 have H : (if (l0.length : Int) = (l1.length : Int) then (laws_eqIntS.l0 k l0 l1 0) else (some false)) = some r := h
 clear h
 by_cases c3 : (l0.length : Int) = (l1.length : Int)
 ·
  rw [if_pos c3] at H
  have c3b0 : ((l0.length : Int) == (l1.length : Int)) = true := beq_iff_eq.mpr c3
  have c3b1 : ((l0.length : Int) != (l1.length : Int)) = false := bne_eq_false_iff_eq.mpr c3
  have c3b2 : (l0.length == l1.length) = true := by first | simpa using c3 | (simp at c3 ⊢; omega)
  clear c3
  have H' := Aside0.mk H
  clear H
  go_enter Try.func28, Try.ntmps28
  go_wp2
  repeat (go_quiet (fail); try go_wp2)
  go_loopg [5] k (fun kq v5 w' => ∃ (x5_1 : Int), v5 = .int .i64 x5_1 ∧ Aside0 (laws_eqIntS.l0 kq l0 l1 x5_1 = some r) ∧ Aside0 (kq ≤ k) ∧ Drawn0 w w')
  case atStart => exact ⟨(0), rS, H', ⟨Nat.le_refl _⟩, by repeat (first | exact Drawn0.refl _ | apply Drawn0.step)⟩
  case round =>
   clear H'
   try clear c1
   try clear c2
   try clear p2
   try clear c3
   try clear c3b0
   try clear c3b1
   try clear c3b2
   obtain ⟨x5_1, rfl, HA, HK1, ⟨m1, rfl⟩⟩ := hrel
   cases gk with
   | zero => exact absurd HA.out (by simp [laws_eqIntS.l0])
   | succ k1 =>
    have H := HA.out
    clear HA
    simp only [laws_eqIntS.l0] at H
    by_cases c4 : x5_1 < (l0.length : Int)
    ·
     rw [if_pos c4] at H
     have c4b0 := decide_eq_true c4
     clear c4
     have c5 : 0 ≤ x5_1 := ifN H
     replace H := ifT H
     have c5b0 := decide_eq_true c5
     clear c5
     have c6 : x5_1 < (l1.length : Int) := ifN H
     replace H := ifT H
     have c6b0 := decide_eq_true c6
     clear c6
     by_cases c7 : (rd l0 x5_1) = (rd l1 x5_1)
     ·
      rw [if_pos c7] at H
      have c7b0 : ((rd l0 x5_1) == (rd l1 x5_1)) = true := beq_iff_eq.mpr c7
      have c7b1 : ((rd l0 x5_1) != (rd l1 x5_1)) = false := bne_eq_false_iff_eq.mpr c7
      clear c7
      have H' := Aside0.mk H
      clear H
      have p420 : 0 ≤ (x5_1 : Int) := dA
      have q420 : x5_1 < (l0.length : Int) := dA
      obtain ⟨ad420, e420, hx420_0⟩ := Kd.at_int HR0.out x5_1 p420 q420
      cases e420
      replace p420 := eq_true p420
      replace q420 := eq_true q420
      have p421 : 0 ≤ (x5_1 : Int) := dA
      have q421 : x5_1 < (l1.length : Int) := dA
      obtain ⟨ad421, e421, hx421_0⟩ := Kd.at_int HR1.out x5_1 p421 q421
      cases e421
      replace p421 := eq_true p421
      replace q421 := eq_true q421
      go_wp2
      repeat (go_quiet (fail); try go_wp2)
      go_roundg k1
      case measure => have := HK1.out; omega
      case rel => exact ⟨(wrap64 (x5_1 + 1)), rS, H', ⟨by have := HK1.out; omega⟩, by repeat (first | exact Drawn0.refl _ | apply Drawn0.step)⟩
     ·
      rw [if_neg c7] at H
      have c7b0 : ((rd l0 x5_1) == (rd l1 x5_1)) = false := beq_eq_false_iff_ne.mpr c7
      have c7b1 : ((rd l0 x5_1) != (rd l1 x5_1)) = true := bne_iff_ne.mpr c7
      obtain rfl := Option.some.inj H
      have p420 : 0 ≤ (x5_1 : Int) := dA
      have q420 : x5_1 < (l0.length : Int) := dA
      obtain ⟨ad420, e420, hx420_0⟩ := Kd.at_int HR0.out x5_1 p420 q420
      cases e420
      replace p420 := eq_true p420
      replace q420 := eq_true q420
      have p421 : 0 ≤ (x5_1 : Int) := dA
      have q421 : x5_1 < (l1.length : Int) := dA
      obtain ⟨ad421, e421, hx421_0⟩ := Kd.at_int HR1.out x5_1 p421 q421
      cases e421
      replace p421 := eq_true p421
      replace q421 := eq_true q421
      go_wp2
      repeat (go_quiet (fail); try go_wp2)
      go_ret
      exact ⟨by first | rfl | (simp; done) | (simp [*]; done), by repeat (first | exact Drawn0.refl _ | apply Drawn0.step)⟩
    ·
     rw [if_neg c4] at H
     have c4b0 := decide_eq_false c4
     clear c4
     obtain rfl := Option.some.inj H
     go_wp2
     repeat (go_quiet (fail); try go_wp2)
     go_ret
     exact ⟨by first | rfl | (simp; done) | (simp [*]; done), by repeat (first | exact Drawn0.refl _ | apply Drawn0.step)⟩
 ·
  rw [if_neg c3] at H
  have c3b0 : ((l0.length : Int) == (l1.length : Int)) = false := beq_eq_false_iff_ne.mpr c3
  have c3b1 : ((l0.length : Int) != (l1.length : Int)) = true := bne_iff_ne.mpr c3
  have c3b2 : (l0.length == l1.length) = false := by first | simpa using c3 | (simp at c3 ⊢; omega)
  obtain rfl := Option.some.inj H
  go_enter Try.func28, Try.ntmps28
  go_wp2
  repeat (go_quiet (fail); try go_wp2)
  go_ret
  exact ⟨by first | rfl | (simp; done) | (simp [*]; done), by repeat (first | exact Drawn0.refl _ | apply Drawn0.step)⟩

/-! ### laws_eqPart: function 68 -/
def laws_eqPart.f (k : Nat) (l0_0 : List Int) (a0_1 : Int) (l1_0 : List Int) (a1_1 : Int) : Option (Bool) := (laws_eqIntS.f k l0_0 l1_0).bind fun t424 => (if t424 = true then (if a0_1 = a1_1 then (some true) else (some false)) else (some false))
theorem laws_eqPart.mono : ∀ a0 a1 a2 a3 k, LeO (laws_eqPart.f k a0 a1 a2 a3) (laws_eqPart.f (k + 1) a0 a1 a2 a3) := by
 intro a0 a1 a2 a3 k
 unfold laws_eqPart.f
 repeat' first | (with_reducible first | exact LeO.refl _ | exact LeO.none _ | refine LeO.ite ?_ ?_ | refine LeO.bind ?_ (fun _ => ?_) | exact laws_eqIntS.mono _ _ _)
set_option maxHeartbeats 8000000 in
set_option maxRecDepth 100000 in
theorem laws_eqPart.calls (k : Nat) (A0_0 : Option Addr) (c0_0 : Nat) (l0_0 : List Int) (a0_1 : Int) (A1_0 : Option Addr) (c1_0 : Nat) (l1_0 : List Int) (a1_1 : Int) (r : Bool) (w : World) (hr0_0 : Kd.C (Kd.int .i64) w A0_0 l0_0.length l0_0) (hc0_0 : l0_0.length ≤ c0_0) (hr1_0 : Kd.C (Kd.int .i64) w A1_0 l1_0.length l1_0) (hc1_0 : l1_0.length ≤ c1_0) (h : laws_eqPart.f k l0_0 a0_1 l1_0 a1_1 = some r) :
  Calls Try.prog 68 #[.agg #[.slice A0_0 l0_0.length c0_0, .int .i64 a0_1], .agg #[.slice A1_0 l1_0.length c1_0, .int .i64 a1_1]] w fun e w' => e = .returned (.bool r) ∧ Below w.heap.size w w' := by
 have hu92 := Try.underlying92
 have HR0_0 := Aside0.mk hr0_0
 have HC0_0 := Aside0.mk hc0_0
 clear hr0_0 hc0_0
 have HR1_0 := Aside0.mk hr1_0
 have HC1_0 := Aside0.mk hc1_0
 clear hr1_0 hc1_0
 have HB := Aside0.mk (Below.refl w.heap.size w)
 have H : ((laws_eqIntS.f k l0_0 l1_0).bind fun t424 => (if t424 = true then (if a0_1 = a1_1 then (some true) else (some false)) else (some false))) = some r := h
 clear h
 obtain ⟨t424, A3, H⟩ := bindE H
 try dsimp only at H
 by_cases c4 : t424 = true
 ·
  subst c4
  have H1 : (if a0_1 = a1_1 then (some true) else (some false)) = some r := by rw [if_pos rfl] at H; exact H
  clear H
  have H := H1
  clear H1
  by_cases c5 : a0_1 = a1_1
  ·
   rw [if_pos c5] at H
   have c5b0 : (a0_1 == a1_1) = true := beq_iff_eq.mpr c5
   have c5b1 : (a0_1 != a1_1) = false := bne_eq_false_iff_eq.mpr c5
   clear c5
   obtain rfl := Option.some.inj H
   go_enter Try.func68, Try.ntmps68
   go_wp2_with (first | ((with_reducible refine gate_dst (N := 2) rfl ?_); refine bE (N := 2) (cs := #[.slice A0_0 l0_0.length c0_0, .int .i64 a0_1]) (t := 92) ?_; intro gb422 hg w6 hbox hb; have n0_ := Aside0.mk (below_step bA hb); have n1_ := Aside0.mk (hbox); have n2_ := Aside0.mk ((by rw [hg]; exact (below_size bA) : w.heap.size ≤ gb422)); have n3_ := Aside0.mk ((by rw [hg]; exact (below_size bA) : w.heap.size ≤ gb422)); clear HB; have HB := n0_; have BK422 := n1_; have GW422 := n2_; have GE422 := n3_; clear n0_ n1_ n2_ n3_; clear hb hbox hg) | ((with_reducible refine gate_dst (N := 3) rfl ?_); refine bE (N := 3) (cs := #[.slice A1_0 l1_0.length c1_0, .int .i64 a1_1]) (t := 92) ?_; intro gb423 hg w7 hbox hb; have n0_ := Aside0.mk (blk_below (g := gb422) (bK BK422) hb); have n1_ := Aside0.mk (below_step bG hb); have n2_ := Aside0.mk (hbox); have n3_ := Aside0.mk ((by rw [hg]; exact (below_size bG) : w.heap.size ≤ gb423)); have n4_ := Aside0.mk ((by rw [hg]; exact (below_size bG) : w.heap.size ≤ gb423)); have n5_ := Aside0.mk ((by rw [hg]; exact Nat.ne_of_lt (blk_lt (g := gb422) (o := .cells #[.slice A0_0 l0_0.length c0_0, .int .i64 a0_1] 92 (0, 0)) (bK BK422)) : gb422 ≠ gb423)); have n6_ := Aside0.mk ((by rw [hg]; exact Nat.ne_of_gt (blk_lt (g := gb422) (o := .cells #[.slice A0_0 l0_0.length c0_0, .int .i64 a0_1] 92 (0, 0)) (bK BK422)) : gb423 ≠ gb422)); clear BK422; clear HB; have BK422 := n0_; have HB := n1_; have BK423 := n2_; have GW423 := n3_; have GE423 := n4_; have NB422_423 := n5_; have NB423_422 := n6_; clear n0_ n1_ n2_ n3_ n4_ n5_ n6_; clear hb hbox hg; have hnb8 := NB422_423.out; have hnc8 := NB423_422.out; obtain ⟨hcz9_0, hcz9_1, hfz9_0, hfz9_1⟩ := blkc2 BK422; have hcz10_0 : w7.cell? ⟨gb423, 0, none⟩ = some (.slice A1_0 l1_0.length c1_0) := bC BK423 0; have hcz10_1 : w7.cell? ⟨gb423, 1, none⟩ = some (.int .i64 a1_1) := bC BK423 1; have hfz10_0 := blk_frozen BK423.out 0; have hfz10_1 := blk_frozen BK423.out 1) | ((with_reducible refine gate_callee (f := 28) rfl ?_); refine gL (some 9) Try.func28 #[.slice A0_0 l0_0.length c0_0, .slice A1_0 l1_0.length c1_0] ?_; (with_reducible refine (laws_eqIntS.calls k _ _ l0_0 _ _ l1_0 true _ ?side1 ?side2 ?side3 ?side4 A3.out).mono ?_); (case side1 => exact cB HR0_0); (case side2 => exact HC0_0.out); (case side3 => exact cB HR1_0); (case side4 => exact HC1_0.out); rintro e w' ⟨rfl, ⟨nd, rfl⟩⟩; refine ⟨_, rfl, ?_⟩))
   go_ret
   exact ⟨rA, bG⟩
  ·
   rw [if_neg c5] at H
   have c5b0 : (a0_1 == a1_1) = false := beq_eq_false_iff_ne.mpr c5
   have c5b1 : (a0_1 != a1_1) = true := bne_iff_ne.mpr c5
   obtain rfl := Option.some.inj H
   go_enter Try.func68, Try.ntmps68
   go_wp2_with (first | ((with_reducible refine gate_dst (N := 2) rfl ?_); refine bE (N := 2) (cs := #[.slice A0_0 l0_0.length c0_0, .int .i64 a0_1]) (t := 92) ?_; intro gb422 hg w11 hbox hb; have n0_ := Aside0.mk (below_step bA hb); have n1_ := Aside0.mk (hbox); have n2_ := Aside0.mk ((by rw [hg]; exact (below_size bA) : w.heap.size ≤ gb422)); have n3_ := Aside0.mk ((by rw [hg]; exact (below_size bA) : w.heap.size ≤ gb422)); clear HB; have HB := n0_; have BK422 := n1_; have GW422 := n2_; have GE422 := n3_; clear n0_ n1_ n2_ n3_; clear hb hbox hg) | ((with_reducible refine gate_dst (N := 3) rfl ?_); refine bE (N := 3) (cs := #[.slice A1_0 l1_0.length c1_0, .int .i64 a1_1]) (t := 92) ?_; intro gb423 hg w12 hbox hb; have n0_ := Aside0.mk (blk_below (g := gb422) (bK BK422) hb); have n1_ := Aside0.mk (below_step bG hb); have n2_ := Aside0.mk (hbox); have n3_ := Aside0.mk ((by rw [hg]; exact (below_size bG) : w.heap.size ≤ gb423)); have n4_ := Aside0.mk ((by rw [hg]; exact (below_size bG) : w.heap.size ≤ gb423)); have n5_ := Aside0.mk ((by rw [hg]; exact Nat.ne_of_lt (blk_lt (g := gb422) (o := .cells #[.slice A0_0 l0_0.length c0_0, .int .i64 a0_1] 92 (0, 0)) (bK BK422)) : gb422 ≠ gb423)); have n6_ := Aside0.mk ((by rw [hg]; exact Nat.ne_of_gt (blk_lt (g := gb422) (o := .cells #[.slice A0_0 l0_0.length c0_0, .int .i64 a0_1] 92 (0, 0)) (bK BK422)) : gb423 ≠ gb422)); clear BK422; clear HB; have BK422 := n0_; have HB := n1_; have BK423 := n2_; have GW423 := n3_; have GE423 := n4_; have NB422_423 := n5_; have NB423_422 := n6_; clear n0_ n1_ n2_ n3_ n4_ n5_ n6_; clear hb hbox hg; have hnb13 := NB422_423.out; have hnc13 := NB423_422.out; obtain ⟨hcz14_0, hcz14_1, hfz14_0, hfz14_1⟩ := blkc2 BK422; have hcz15_0 : w12.cell? ⟨gb423, 0, none⟩ = some (.slice A1_0 l1_0.length c1_0) := bC BK423 0; have hcz15_1 : w12.cell? ⟨gb423, 1, none⟩ = some (.int .i64 a1_1) := bC BK423 1; have hfz15_0 := blk_frozen BK423.out 0; have hfz15_1 := blk_frozen BK423.out 1) | ((with_reducible refine gate_callee (f := 28) rfl ?_); refine gL (some 9) Try.func28 #[.slice A0_0 l0_0.length c0_0, .slice A1_0 l1_0.length c1_0] ?_; (with_reducible refine (laws_eqIntS.calls k _ _ l0_0 _ _ l1_0 true _ ?side1 ?side2 ?side3 ?side4 A3.out).mono ?_); (case side1 => exact cB HR0_0); (case side2 => exact HC0_0.out); (case side3 => exact cB HR1_0); (case side4 => exact HC1_0.out); rintro e w' ⟨rfl, ⟨nd, rfl⟩⟩; refine ⟨_, rfl, ?_⟩))
   go_ret
   exact ⟨rA, bG⟩
 ·
  replace c4 := Bool.eq_false_iff.mpr c4
  subst c4
  have H1 : (some false) = some r := by rw [if_neg (show ¬ (false = true) by decide)] at H; exact H
  clear H
  have H := H1
  clear H1
  obtain rfl := Option.some.inj H
  go_enter Try.func68, Try.ntmps68
  go_wp2_with (first | ((with_reducible refine gate_dst (N := 2) rfl ?_); refine bE (N := 2) (cs := #[.slice A0_0 l0_0.length c0_0, .int .i64 a0_1]) (t := 92) ?_; intro gb422 hg w16 hbox hb; have n0_ := Aside0.mk (below_step bA hb); have n1_ := Aside0.mk (hbox); have n2_ := Aside0.mk ((by rw [hg]; exact (below_size bA) : w.heap.size ≤ gb422)); have n3_ := Aside0.mk ((by rw [hg]; exact (below_size bA) : w.heap.size ≤ gb422)); clear HB; have HB := n0_; have BK422 := n1_; have GW422 := n2_; have GE422 := n3_; clear n0_ n1_ n2_ n3_; clear hb hbox hg) | ((with_reducible refine gate_dst (N := 3) rfl ?_); refine bE (N := 3) (cs := #[.slice A1_0 l1_0.length c1_0, .int .i64 a1_1]) (t := 92) ?_; intro gb423 hg w17 hbox hb; have n0_ := Aside0.mk (blk_below (g := gb422) (bK BK422) hb); have n1_ := Aside0.mk (below_step bG hb); have n2_ := Aside0.mk (hbox); have n3_ := Aside0.mk ((by rw [hg]; exact (below_size bG) : w.heap.size ≤ gb423)); have n4_ := Aside0.mk ((by rw [hg]; exact (below_size bG) : w.heap.size ≤ gb423)); have n5_ := Aside0.mk ((by rw [hg]; exact Nat.ne_of_lt (blk_lt (g := gb422) (o := .cells #[.slice A0_0 l0_0.length c0_0, .int .i64 a0_1] 92 (0, 0)) (bK BK422)) : gb422 ≠ gb423)); have n6_ := Aside0.mk ((by rw [hg]; exact Nat.ne_of_gt (blk_lt (g := gb422) (o := .cells #[.slice A0_0 l0_0.length c0_0, .int .i64 a0_1] 92 (0, 0)) (bK BK422)) : gb423 ≠ gb422)); clear BK422; clear HB; have BK422 := n0_; have HB := n1_; have BK423 := n2_; have GW423 := n3_; have GE423 := n4_; have NB422_423 := n5_; have NB423_422 := n6_; clear n0_ n1_ n2_ n3_ n4_ n5_ n6_; clear hb hbox hg; have hnb18 := NB422_423.out; have hnc18 := NB423_422.out; obtain ⟨hcz19_0, hcz19_1, hfz19_0, hfz19_1⟩ := blkc2 BK422; have hcz20_0 : w17.cell? ⟨gb423, 0, none⟩ = some (.slice A1_0 l1_0.length c1_0) := bC BK423 0; have hcz20_1 : w17.cell? ⟨gb423, 1, none⟩ = some (.int .i64 a1_1) := bC BK423 1; have hfz20_0 := blk_frozen BK423.out 0; have hfz20_1 := blk_frozen BK423.out 1) | ((with_reducible refine gate_callee (f := 28) rfl ?_); refine gL (some 9) Try.func28 #[.slice A0_0 l0_0.length c0_0, .slice A1_0 l1_0.length c1_0] ?_; (with_reducible refine (laws_eqIntS.calls k _ _ l0_0 _ _ l1_0 false _ ?side1 ?side2 ?side3 ?side4 A3.out).mono ?_); (case side1 => exact cB HR0_0); (case side2 => exact HC0_0.out); (case side3 => exact cB HR1_0); (case side4 => exact HC1_0.out); rintro e w' ⟨rfl, ⟨nd, rfl⟩⟩; refine ⟨_, rfl, ?_⟩))
  go_ret
  exact ⟨rA, bG⟩

/-! ### laws_eqPartS: function 19 -/
def laws_eqPartS.l0 : Nat → List (S92) → List (S92) → Int → Option (Bool)
 | 0, _, _, _ => none
 | k + 1, x0, x1, x5 => if x5 < (x0.length : Int) then (if 0 ≤ x5 then (if x5 < (x1.length : Int) then ((laws_eqPart.f k ((rd_T92 x0 x5).f0) ((rd_T92 x0 x5).f1) ((rd_T92 x1 x5).f0) ((rd_T92 x1 x5).f1)).bind fun t427 => (if t427 = true then (laws_eqPartS.l0 k x0 x1 (wrap64 (x5 + 1))) else (some false))) else (none)) else (none)) else (some true)
def laws_eqPartS.f (k : Nat) (l0 : List (S92)) (l1 : List (S92)) : Option (Bool) := if (l0.length : Int) = (l1.length : Int) then (laws_eqPartS.l0 k l0 l1 0) else (some false)
theorem laws_eqPartS.mono_l : ∀ k, (∀ y0 y1 y2, LeO (laws_eqPartS.l0 k y0 y1 y2) (laws_eqPartS.l0 (k + 1) y0 y1 y2))
 | 0 => fun _ _ _ r h => by simp [laws_eqPartS.l0] at h
 | k + 1 => by
  have ih0 := laws_eqPartS.mono_l k
  ·
   intro y0 y1 y2
   unfold laws_eqPartS.l0
   repeat' first | (with_reducible first | exact LeO.refl _ | exact LeO.none _ | refine LeO.ite ?_ ?_ | refine LeO.bind ?_ (fun _ => ?_) | exact ih0 _ _ _ | exact laws_eqPart.mono _ _ _ _ _)
theorem laws_eqPartS.mono : ∀ a0 a1 k, LeO (laws_eqPartS.f k a0 a1) (laws_eqPartS.f (k + 1) a0 a1) := by
 intro a0 a1 k
 have ih0 := laws_eqPartS.mono_l k
 unfold laws_eqPartS.f
 repeat' first | (with_reducible first | exact LeO.refl _ | exact LeO.none _ | refine LeO.ite ?_ ?_ | refine LeO.bind ?_ (fun _ => ?_) | exact ih0 _ _ _ | exact laws_eqPart.mono _ _ _ _ _)
def laws_eqPartS.T6 : Bool × List (List Nat × List Nat) := (true, [([], []), ([], []), ([0, 1], [0, 1]), ([2], [2]), ([], []), ([], []), ([4, 5], [4, 5]), ([6], [6]), ([3, 7], [3, 7]), ([8], [8])])
def laws_eqPartS.B6 : List Nat := [0, 0, 3, 7, 0, 0, 48, 112, 255, 511]
theorem laws_eqPartS.tab6 : rtab .any (opsOf Try.f19 6) = laws_eqPartS.T6 := by kernel_rfl
theorem laws_eqPartS.bits6 : waitsOk laws_eqPartS.T6.2 laws_eqPartS.B6 = true := by kernel_rfl
set_option maxHeartbeats 8000000 in
set_option maxRecDepth 100000 in
theorem laws_eqPartS.calls (k : Nat) (A0 : Option Addr) (c0 : Nat) (l0 : List (S92)) (A1 : Option Addr) (c1 : Nat) (l1 : List (S92)) (r : Bool) (w : World) (hr0 : Kd.C k92 w A0 l0.length l0) (hc0 : l0.length ≤ c0) (hr1 : Kd.C k92 w A1 l1.length l1) (hc1 : l1.length ≤ c1) (h : laws_eqPartS.f k l0 l1 = some r) :
  Calls Try.prog 19 #[.slice A0 l0.length c0, .slice A1 l1.length c1] w fun e w' => e = .returned (.bool r) ∧ Below w.heap.size w w' := by
 have hu92 := Try.underlying92
 have HR0 := Aside0.mk hr0
 have HC0 := Aside0.mk hc0
 clear hr0 hc0
 have HR1 := Aside0.mk hr1
 have HC1 := Aside0.mk hc1
 clear hr1 hc1
 have HB := Aside0.mk (Below.refl w.heap.size w)
 have H : (if (l0.length : Int) = (l1.length : Int) then (laws_eqPartS.l0 k l0 l1 0) else (some false)) = some r := h
 clear h
 by_cases c3 : (l0.length : Int) = (l1.length : Int)
 ·
  rw [if_pos c3] at H
  have c3b0 : ((l0.length : Int) == (l1.length : Int)) = true := beq_iff_eq.mpr c3
  have c3b1 : ((l0.length : Int) != (l1.length : Int)) = false := bne_eq_false_iff_eq.mpr c3
  have c3b2 : (l0.length == l1.length) = true := by first | simpa using c3 | (simp at c3 ⊢; omega)
  clear c3
  have H' := Aside0.mk H
  clear H
  go_enter Try.func19, Try.ntmps19
  go_wp2
  go_loopg [5] k (fun kq v5 w' => ∃ (x5_1 : Int), v5 = .int .i64 x5_1 ∧ Aside0 (laws_eqPartS.l0 kq l0 l1 x5_1 = some r) ∧ Aside0 (kq ≤ k) ∧ Aside0 (Below w.heap.size w w'))
  case atStart => exact ⟨(0), rS, H', ⟨Nat.le_refl _⟩, ⟨bA⟩⟩
  case round =>
   clear H'
   try clear c1
   try clear p2
   try clear c3
   try clear c3b0
   try clear c3b1
   try clear c3b2
   obtain ⟨x5_1, rfl, HA, HK1, HB⟩ := hrel
   cases gk with
   | zero => exact absurd HA.out (by simp [laws_eqPartS.l0])
   | succ k1 =>
    have H := HA.out
    clear HA
    simp only [laws_eqPartS.l0] at H
    by_cases c4 : x5_1 < (l0.length : Int)
    ·
     rw [if_pos c4] at H
     have c4b0 := decide_eq_true c4
     clear c4
     have c5 : 0 ≤ x5_1 := ifN H
     replace H := ifT H
     have c5b0 := decide_eq_true c5
     clear c5
     have c6 : x5_1 < (l1.length : Int) := ifN H
     replace H := ifT H
     have c6b0 := decide_eq_true c6
     clear c6
     obtain ⟨t427, A7, H⟩ := bindE H
     try dsimp only at H
     by_cases c8 : t427 = true
     ·
      subst c8
      have H1 : (laws_eqPartS.l0 k1 l0 l1 (wrap64 (x5_1 + 1))) = some r := by rw [if_pos rfl] at H; exact H
      clear H
      have H := H1
      clear H1
      have H' := Aside0.mk H
      clear H
      try go_wp2
      have HBo := HB
      replace HB := Aside0.mk (below_drew1 HB.out)
      have p425 : 0 ≤ (x5_1 : Int) := dA
      have q425 : x5_1 < (l0.length : Int) := dA
      obtain ⟨ad425, A425_0, c425_0, e425, hx425_0, hx425_1, hl425_0, hi425_0⟩ := at_T92 HR0.out x5_1 p425 q425
      have hw425_1 := hx425_1
      have hw425_0 := hx425_0
      cases e425
      replace hx425_0 := hC HB hx425_0
      replace hx425_1 := hC HB hx425_1
      have HR425_0 := Aside0.mk hi425_0
      have HC425_0 := Aside0.mk hl425_0
      clear hi425_0 hl425_0
      replace p425 := eq_true p425
      replace q425 := eq_true q425
      have p426 : 0 ≤ (x5_1 : Int) := dA
      have q426 : x5_1 < (l1.length : Int) := dA
      obtain ⟨ad426, A426_0, c426_0, e426, hx426_0, hx426_1, hl426_0, hi426_0⟩ := at_T92 HR1.out x5_1 p426 q426
      have hw426_1 := hx426_1
      have hw426_0 := hx426_0
      cases e426
      replace hx426_0 := hC HB hx426_0
      replace hx426_1 := hC HB hx426_1
      have HR426_0 := Aside0.mk hi426_0
      have HC426_0 := Aside0.mk hl426_0
      clear hi426_0 hl426_0
      replace p426 := eq_true p426
      replace q426 := eq_true q426
      refine start_ (n := 10) (S := fun w' => w'.cell? (ad425.add ((x5_1).toNat * 2)) = some (.slice A425_0 ((rd_T92 l0 x5_1).f0).length c425_0) ∧ w'.cell? ⟨(ad425.add ((x5_1).toNat * 2)).block, (ad425.add ((x5_1).toNat * 2)).off + 1, none⟩ = some (.int .i64 ((rd_T92 l0 x5_1).f1)) ∧ w'.cell? (ad426.add ((x5_1).toNat * 2)) = some (.slice A426_0 ((rd_T92 l1 x5_1).f0).length c426_0) ∧ w'.cell? ⟨(ad426.add ((x5_1).toNat * 2)).block, (ad426.add ((x5_1).toNat * 2)).off + 1, none⟩ = some (.int .i64 ((rd_T92 l1 x5_1).f1))) (ds := []) (mb 10 0) (by kernel_rfl) rfl rfl ⟨(hC HB hw425_0), (hC HB hw425_1), (hC HB hw426_0), (hC HB hw426_1)⟩ (fun hHeld => ?_); refine with_tabW laws_eqPartS.tab6 laws_eqPartS.bits6 (fun HT_ HW_ => ?_)
      generalize wr.drew = w9 at HB HR425_0 HR426_0 hx425_0 hx425_1 hx426_0 hx426_1 hHeld ⊢
      refine pA (i := 0) (N := some 17) (mb 10 1) HT_ ?_
      refine pA (i := 1) (N := some 18) (mb 10 3) HT_ ?_
      refine pA (i := 2) (N := some 19) (mb 10 7) HT_ ?_
      refine pA (i := 4) (N := some 21) (mb 10 23) HT_ ?_
      refine pA (i := 5) (N := some 22) (mb 10 55) HT_ ?_
      refine pA (i := 6) (N := some 23) (mb 10 119) HT_ ?_
      refine tA4 (i := 3) (N := some 20) (mb 10 127) HT_ HW_ hHeld ?_
      refine tA4 (i := 7) (N := some 24) (mb 10 255) HT_ HW_ hHeld ?_
      refine oA (i := 8) (N := some 25) (mb 10 511) HT_ (fun K hK => ?_)
      refine gA Try.func68 #[.agg #[.slice A425_0 ((rd_T92 l0 x5_1).f0).length c425_0, .int .i64 ((rd_T92 l0 x5_1).f1)], .agg #[.slice A426_0 ((rd_T92 l1 x5_1).f0).length c426_0, .int .i64 ((rd_T92 l1 x5_1).f1)]] ?_
      with_reducible refine (laws_eqPart.calls k1 _ _ ((rd_T92 l0 x5_1).f0) ((rd_T92 l0 x5_1).f1) _ _ ((rd_T92 l1 x5_1).f0) ((rd_T92 l1 x5_1).f1) true _ ?side1 ?side2 ?side3 ?side4 A7.out).mono ?_
      (case side1 => exact cB HR425_0)
      (case side2 => exact HC425_0.out)
      (case side3 => exact cB HR426_0)
      (case side4 => exact HC426_0.out)
      rintro e w10 ⟨rfl, hb⟩
      refine ⟨_, rfl, ?_⟩
      replace HB := Aside0.mk (below_step bA hb)
      (try clear hb)
      (try clear hb2)
      (try clear hk)
      (try clear hi)
      refine hK.out _ _ ⟨(hC HB hw425_0), (hC HB hw425_1), (hC HB hw426_0), (hC HB hw426_1)⟩ (fun hHeld => ?_)
      clear hK K
      refine nB ?_
      refine pA (i := 9) (N := some 26) (mb 10 1023) HT_ ?_
      refine eA HT_ ?_
      try go_wp2
      go_roundg k1
      case measure => have := HK1.out; omega
      case rel => exact ⟨(wrap64 (x5_1 + 1)), rS, H', ⟨by have := HK1.out; omega⟩, ⟨bA⟩⟩
     ·
      replace c8 := Bool.eq_false_iff.mpr c8
      subst c8
      have H1 : (some false) = some r := by rw [if_neg (show ¬ (false = true) by decide)] at H; exact H
      clear H
      have H := H1
      clear H1
      obtain rfl := Option.some.inj H
      try go_wp2
      have HBo := HB
      replace HB := Aside0.mk (below_drew1 HB.out)
      have p425 : 0 ≤ (x5_1 : Int) := dA
      have q425 : x5_1 < (l0.length : Int) := dA
      obtain ⟨ad425, A425_0, c425_0, e425, hx425_0, hx425_1, hl425_0, hi425_0⟩ := at_T92 HR0.out x5_1 p425 q425
      have hw425_1 := hx425_1
      have hw425_0 := hx425_0
      cases e425
      replace hx425_0 := hC HB hx425_0
      replace hx425_1 := hC HB hx425_1
      have HR425_0 := Aside0.mk hi425_0
      have HC425_0 := Aside0.mk hl425_0
      clear hi425_0 hl425_0
      replace p425 := eq_true p425
      replace q425 := eq_true q425
      have p426 : 0 ≤ (x5_1 : Int) := dA
      have q426 : x5_1 < (l1.length : Int) := dA
      obtain ⟨ad426, A426_0, c426_0, e426, hx426_0, hx426_1, hl426_0, hi426_0⟩ := at_T92 HR1.out x5_1 p426 q426
      have hw426_1 := hx426_1
      have hw426_0 := hx426_0
      cases e426
      replace hx426_0 := hC HB hx426_0
      replace hx426_1 := hC HB hx426_1
      have HR426_0 := Aside0.mk hi426_0
      have HC426_0 := Aside0.mk hl426_0
      clear hi426_0 hl426_0
      replace p426 := eq_true p426
      replace q426 := eq_true q426
      refine start_ (n := 10) (S := fun w' => w'.cell? (ad425.add ((x5_1).toNat * 2)) = some (.slice A425_0 ((rd_T92 l0 x5_1).f0).length c425_0) ∧ w'.cell? ⟨(ad425.add ((x5_1).toNat * 2)).block, (ad425.add ((x5_1).toNat * 2)).off + 1, none⟩ = some (.int .i64 ((rd_T92 l0 x5_1).f1)) ∧ w'.cell? (ad426.add ((x5_1).toNat * 2)) = some (.slice A426_0 ((rd_T92 l1 x5_1).f0).length c426_0) ∧ w'.cell? ⟨(ad426.add ((x5_1).toNat * 2)).block, (ad426.add ((x5_1).toNat * 2)).off + 1, none⟩ = some (.int .i64 ((rd_T92 l1 x5_1).f1))) (ds := []) (mb 10 0) (by kernel_rfl) rfl rfl ⟨(hC HB hw425_0), (hC HB hw425_1), (hC HB hw426_0), (hC HB hw426_1)⟩ (fun hHeld => ?_); refine with_tabW laws_eqPartS.tab6 laws_eqPartS.bits6 (fun HT_ HW_ => ?_)
      generalize wr.drew = w11 at HB HR425_0 HR426_0 hx425_0 hx425_1 hx426_0 hx426_1 hHeld ⊢
      refine pA (i := 0) (N := some 17) (mb 10 1) HT_ ?_
      refine pA (i := 1) (N := some 18) (mb 10 3) HT_ ?_
      refine pA (i := 2) (N := some 19) (mb 10 7) HT_ ?_
      refine pA (i := 4) (N := some 21) (mb 10 23) HT_ ?_
      refine pA (i := 5) (N := some 22) (mb 10 55) HT_ ?_
      refine pA (i := 6) (N := some 23) (mb 10 119) HT_ ?_
      refine tA4 (i := 3) (N := some 20) (mb 10 127) HT_ HW_ hHeld ?_
      refine tA4 (i := 7) (N := some 24) (mb 10 255) HT_ HW_ hHeld ?_
      refine oA (i := 8) (N := some 25) (mb 10 511) HT_ (fun K hK => ?_)
      refine gA Try.func68 #[.agg #[.slice A425_0 ((rd_T92 l0 x5_1).f0).length c425_0, .int .i64 ((rd_T92 l0 x5_1).f1)], .agg #[.slice A426_0 ((rd_T92 l1 x5_1).f0).length c426_0, .int .i64 ((rd_T92 l1 x5_1).f1)]] ?_
      with_reducible refine (laws_eqPart.calls k1 _ _ ((rd_T92 l0 x5_1).f0) ((rd_T92 l0 x5_1).f1) _ _ ((rd_T92 l1 x5_1).f0) ((rd_T92 l1 x5_1).f1) false _ ?side1 ?side2 ?side3 ?side4 A7.out).mono ?_
      (case side1 => exact cB HR425_0)
      (case side2 => exact HC425_0.out)
      (case side3 => exact cB HR426_0)
      (case side4 => exact HC426_0.out)
      rintro e w12 ⟨rfl, hb⟩
      refine ⟨_, rfl, ?_⟩
      replace HB := Aside0.mk (below_step bA hb)
      (try clear hb)
      (try clear hb2)
      (try clear hk)
      (try clear hi)
      refine hK.out _ _ ⟨(hC HB hw425_0), (hC HB hw425_1), (hC HB hw426_0), (hC HB hw426_1)⟩ (fun hHeld => ?_)
      clear hK K
      refine nB ?_
      refine pA (i := 9) (N := some 26) (mb 10 1023) HT_ ?_
      refine eA HT_ ?_
      try go_wp2
      go_ret
      exact ⟨rA, bA⟩
    ·
     rw [if_neg c4] at H
     have c4b0 := decide_eq_false c4
     clear c4
     obtain rfl := Option.some.inj H
     go_wp2
     go_ret
     exact ⟨rA, bA⟩
 ·
  rw [if_neg c3] at H
  have c3b0 : ((l0.length : Int) == (l1.length : Int)) = false := beq_eq_false_iff_ne.mpr c3
  have c3b1 : ((l0.length : Int) != (l1.length : Int)) = true := bne_iff_ne.mpr c3
  have c3b2 : (l0.length == l1.length) = false := by first | simpa using c3 | (simp at c3 ⊢; omega)
  obtain rfl := Option.some.inj H
  go_enter Try.func19, Try.ntmps19
  go_wp2
  go_ret
  exact ⟨rA, bA⟩

end Go.Proofs.Ytdkmmefmhfbgkaa.P
