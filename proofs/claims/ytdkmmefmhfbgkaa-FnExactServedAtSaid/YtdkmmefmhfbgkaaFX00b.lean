/- Printed by myprint.py (wip/tools) over the kit's print: what Go's functions compute, and that they do. Lean checks it. -/
import Derived.Test.YtdkmmefmhfbgkaaF0
import Derived.Test.YtdkmmefmhfbgkaaFX00
namespace Go.Proofs.Ytdkmmefmhfbgkaa.P
open Go.RowKit Go.Proofs.YtdkmmefmhfbgkaaW.PrintWords Go.Proofs.YtdkmmefmhfbgkaaW.PrintLast Go.Proofs.YtdkmmefmhfbgkaaW.PrintMore Go.Proofs.Ytdkmmefmhfbgkaa.Sq
attribute [local go_sem] max2_int min2_int max_two min_two max_three min_three max_four min_four
set_option linter.unusedVariables false
set_option linter.unusedSimpArgs false

/-! ### spec_ClearBetween: function 84 -/
mutual
def spec_ClearBetween.l0 : Nat → List (S89) → List Int → List Int → Int → List Int → List Int → Int → Option (Int)
 | 0, _, _, _, _, _, _, _ => none
 | k + 1, x0, x1, x2, x7, x8, x9, x10 => if x10 < (x8.length : Int) then ((spec_IsTogether.f k x0 x1).bind fun t193 => (if t193 = true then ((spec_IsTogether.f k x0 x2).bind fun t194 => (spec_ClearBetween.j1 k x0 x1 x2 x7 x8 x9 x10 t194)) else (spec_ClearBetween.j1 k x0 x1 x2 x7 x8 x9 x10 false))) else (spec_ClearBetween.j1 k x0 x1 x2 x7 x8 x9 x10 false)
def spec_ClearBetween.j1 : Nat → List (S89) → List Int → List Int → Int → List Int → List Int → Int → Bool → Option (Int)
 | 0, _, _, _, _, _, _, _, _ => none
 | k + 1, x0, x1, x2, x7, x8, x9, x10, x32 => if x32 = true then (spec_ClearBetween.l1 k x0 x1 x2 x7 x8 x9 x10 0) else (some x7)
def spec_ClearBetween.l1 : Nat → List (S89) → List Int → List Int → Int → List Int → List Int → Int → Int → Option (Int)
 | 0, _, _, _, _, _, _, _, _ => none
 | k + 1, x0, x1, x2, x7, x8, x9, x10, x11 => if x11 < (x9.length : Int) then (if 0 ≤ x10 then (if x10 < (x8.length : Int) then ((spec_FindPath.f k x0 (rd x8 x10)).bind fun t196 => (if 0 ≤ t196 then (if t196 < (x0.length : Int) then (if 0 ≤ x11 then ((spec_FindPath.f k x0 (rd x9 x11)).bind fun t200 => (if 0 ≤ t200 then (if t200 < (x0.length : Int) then ((spec_Conflict.f k ((rd_T89 x0 t196).f0) ((rd_T89 x0 t196).f1) ((rd_T89 x0 t196).f2) ((rd_T89 x0 t196).f3) ((rd_T89 x0 t200).f0) ((rd_T89 x0 t200).f1) ((rd_T89 x0 t200).f2) ((rd_T89 x0 t200).f3)).bind fun t202 => (if t202 = true then ((spec_ClearOf.f ((rd_T89 x0 t196).f0) ((rd_T89 x0 t196).f1) ((rd_T89 x0 t196).f2) ((rd_T89 x0 t196).f3)).bind fun t203 => ((spec_Max.f x7 t203).bind fun t204 => (spec_ClearBetween.l1 k x0 x1 x2 t204 x8 x9 x10 (wrap64 (x11 + 1))))) else (spec_ClearBetween.l1 k x0 x1 x2 x7 x8 x9 x10 (wrap64 (x11 + 1))))) else (none)) else (none))) else (none)) else (none)) else (none))) else (none)) else (none)) else (spec_ClearBetween.l0 k x0 x1 x2 x7 x8 x9 (wrap64 (x10 + 1)))
end
def spec_ClearBetween.f (k : Nat) (l0 : List (S89)) (l1 : List Int) (l2 : List Int) : Option (Int) := (spec_Closes.f k l1 l2).bind fun t187 => ((spec_Closes.f k l2 l1).bind fun t190 => (spec_ClearBetween.l0 k l0 l1 l2 0 t187 t190 0))
theorem spec_ClearBetween.mono_l : ∀ k, (∀ y0 y1 y2 y3 y4 y5 y6, LeO (spec_ClearBetween.l0 k y0 y1 y2 y3 y4 y5 y6) (spec_ClearBetween.l0 (k + 1) y0 y1 y2 y3 y4 y5 y6)) ∧ (∀ y0 y1 y2 y3 y4 y5 y6 y7, LeO (spec_ClearBetween.j1 k y0 y1 y2 y3 y4 y5 y6 y7) (spec_ClearBetween.j1 (k + 1) y0 y1 y2 y3 y4 y5 y6 y7)) ∧ (∀ y0 y1 y2 y3 y4 y5 y6 y7, LeO (spec_ClearBetween.l1 k y0 y1 y2 y3 y4 y5 y6 y7) (spec_ClearBetween.l1 (k + 1) y0 y1 y2 y3 y4 y5 y6 y7))
 | 0 => ⟨fun _ _ _ _ _ _ _ r h => by simp [spec_ClearBetween.l0] at h, fun _ _ _ _ _ _ _ _ r h => by simp [spec_ClearBetween.j1] at h, fun _ _ _ _ _ _ _ _ r h => by simp [spec_ClearBetween.l1] at h⟩
 | k + 1 => by
  obtain ⟨ih0, ih1, ih2⟩ := spec_ClearBetween.mono_l k
  refine ⟨?_, ?_, ?_⟩
  ·
   intro y0 y1 y2 y3 y4 y5 y6
   unfold spec_ClearBetween.l0
   repeat' first | (with_reducible first | exact LeO.refl _ | exact LeO.none _ | refine LeO.ite ?_ ?_ | refine LeO.bind ?_ (fun _ => ?_) | exact ih0 _ _ _ _ _ _ _ | exact ih1 _ _ _ _ _ _ _ _ | exact ih2 _ _ _ _ _ _ _ _ | exact spec_Closes.mono _ _ _ | exact spec_Conflict.mono _ _ _ _ _ _ _ _ _ | exact spec_FindPath.mono _ _ _ | exact spec_IsTogether.mono _ _ _)
  ·
   intro y0 y1 y2 y3 y4 y5 y6 y7
   unfold spec_ClearBetween.j1
   repeat' first | (with_reducible first | exact LeO.refl _ | exact LeO.none _ | refine LeO.ite ?_ ?_ | refine LeO.bind ?_ (fun _ => ?_) | exact ih0 _ _ _ _ _ _ _ | exact ih1 _ _ _ _ _ _ _ _ | exact ih2 _ _ _ _ _ _ _ _ | exact spec_Closes.mono _ _ _ | exact spec_Conflict.mono _ _ _ _ _ _ _ _ _ | exact spec_FindPath.mono _ _ _ | exact spec_IsTogether.mono _ _ _)
  ·
   intro y0 y1 y2 y3 y4 y5 y6 y7
   unfold spec_ClearBetween.l1
   repeat' first | (with_reducible first | exact LeO.refl _ | exact LeO.none _ | refine LeO.ite ?_ ?_ | refine LeO.bind ?_ (fun _ => ?_) | exact ih0 _ _ _ _ _ _ _ | exact ih1 _ _ _ _ _ _ _ _ | exact ih2 _ _ _ _ _ _ _ _ | exact spec_Closes.mono _ _ _ | exact spec_Conflict.mono _ _ _ _ _ _ _ _ _ | exact spec_FindPath.mono _ _ _ | exact spec_IsTogether.mono _ _ _)
theorem spec_ClearBetween.mono : ∀ a0 a1 a2 k, LeO (spec_ClearBetween.f k a0 a1 a2) (spec_ClearBetween.f (k + 1) a0 a1 a2) := by
 intro a0 a1 a2 k
 obtain ⟨ih0, ih1, ih2⟩ := spec_ClearBetween.mono_l k
 unfold spec_ClearBetween.f
 repeat' first | (with_reducible first | exact LeO.refl _ | exact LeO.none _ | refine LeO.ite ?_ ?_ | refine LeO.bind ?_ (fun _ => ?_) | exact ih0 _ _ _ _ _ _ _ | exact ih1 _ _ _ _ _ _ _ _ | exact ih2 _ _ _ _ _ _ _ _ | exact spec_Closes.mono _ _ _ | exact spec_Conflict.mono _ _ _ _ _ _ _ _ _ | exact spec_FindPath.mono _ _ _ | exact spec_IsTogether.mono _ _ _)
def spec_ClearBetween.T11 : Bool × List (List Nat × List Nat) := (true, [([], []), ([], []), ([], []), ([], []), ([], []), ([3, 4], [3, 4]), ([5], [5]), ([2, 6], [2, 6]), ([1, 7], [1, 7]), ([8], [8]), ([0, 9, 7], [0, 9])])
def spec_ClearBetween.B11 : List Nat := [0, 0, 0, 0, 0, 24, 56, 124, 254, 510, 1023]
theorem spec_ClearBetween.tab11 : rtab .any (opsOf Try.f84 11) = spec_ClearBetween.T11 := by kernel_rfl
theorem spec_ClearBetween.bits11 : waitsOk spec_ClearBetween.T11.2 spec_ClearBetween.B11 = true := by kernel_rfl
set_option maxHeartbeats 8000000 in
set_option maxRecDepth 100000 in
theorem spec_ClearBetween.calls (k : Nat) (A0 : Option Addr) (c0 : Nat) (l0 : List (S89)) (A1 : Option Addr) (c1 : Nat) (l1 : List Int) (A2 : Option Addr) (c2 : Nat) (l2 : List Int) (r : Int) (w : World) (hr0 : Kd.C k89 w A0 l0.length l0) (hc0 : l0.length ≤ c0) (hr1 : Kd.C (Kd.int .i64) w A1 l1.length l1) (hc1 : l1.length ≤ c1) (hr2 : Kd.C (Kd.int .i64) w A2 l2.length l2) (hc2 : l2.length ≤ c2) (h : spec_ClearBetween.f k l0 l1 l2 = some r) :
  Calls Try.prog 84 #[.slice A0 l0.length c0, .slice A1 l1.length c1, .slice A2 l2.length c2] w fun e w' => e = .returned (.int .i64 r) ∧ Below w.heap.size w w' := by
 have hu89 := Try.underlying89
 have HR0 := Aside0.mk hr0
 have HC0 := Aside0.mk hc0
 clear hr0 hc0
 have HR1 := Aside0.mk hr1
 have HC1 := Aside0.mk hc1
 clear hr1 hc1
 have HR2 := Aside0.mk hr2
 have HC2 := Aside0.mk hc2
 clear hr2 hc2
 have HB := Aside0.mk (Below.refl w.heap.size w)
 have H : ((spec_Closes.f k l1 l2).bind fun t187 => ((spec_Closes.f k l2 l1).bind fun t190 => (spec_ClearBetween.l0 k l0 l1 l2 0 t187 t190 0))) = some r := h
 clear h
 obtain ⟨t187, A4, H⟩ := bindE H
 try dsimp only at H
 obtain ⟨t190, A5, H⟩ := bindE H
 try dsimp only at H
 have H' := Aside0.mk H
 clear H
 go_enter Try.func84, Try.ntmps84
 go_wp2_with (first | ((with_reducible refine gate_callee (f := 130) rfl ?_); refine gL (some 15) Try.func130 #[.slice A1 l1.length c1, .slice A2 l2.length c2] ?_; (with_reducible refine (spec_Closes.calls k _ _ l1 _ _ l2 t187 _ ?side1 ?side2 ?side3 ?side4 A4.out).mono ?_); (case side1 => exact cO HR1); (case side2 => exact HC1.out); (case side3 => exact cO HR2); (case side4 => exact HC2.out); rintro e w6 ⟨v188, rfl, ho0, hb⟩; refine ⟨_, rfl, ?_⟩; have HO189 := Aside0.mk (Kd.R_lower ho0 (below_size bA)); replace HB := Aside0.mk (below_step bA hb); (try clear hb); (try clear ho0)) | ((with_reducible refine gate_callee (f := 130) rfl ?_); refine gL (some 18) Try.func130 #[.slice A2 l2.length c2, .slice A1 l1.length c1] ?_; (with_reducible refine (spec_Closes.calls k _ _ l2 _ _ l1 t190 _ ?side1 ?side2 ?side3 ?side4 A5.out).mono ?_); (case side1 => exact cB HR2); (case side2 => exact HC2.out); (case side3 => exact cB HR1); (case side4 => exact HC1.out); rintro e w7 ⟨v191, rfl, ho0, hb⟩; refine ⟨_, rfl, ?_⟩; have HO192 := Aside0.mk (Kd.R_lower (Kd.R_new' ho0 (Kd.R_lt (rK HO189))) (below_size bA)); replace HO189 := Aside0.mk (Kd.R_elder' (rK HO189) (Kd.R_base ho0) hb); replace HB := Aside0.mk (below_step bA hb); (try clear hb); (try clear ho0)))
 go_loopg [7, 10] k (fun kq v7 v10 w' => ∃ (x7_1 : Int) (x10_1 : Int), v7 = .int .i64 x7_1 ∧ v10 = .int .i64 x10_1 ∧ Aside0 (spec_ClearBetween.l0 kq l0 l1 l2 x7_1 t187 t190 x10_1 = some r) ∧ Aside0 (kq ≤ k) ∧ Aside0 (Kd.R (Kd.int .i64) 3 w' w.heap.size (fun k_ => some k_ ≠ (v191 : Value).ownBlock) v188 t187) ∧ Aside0 (Kd.R (Kd.int .i64) 3 w' w.heap.size (fun k_ => some k_ ≠ (v188 : Value).ownBlock) v191 t190) ∧ Aside0 (Below w.heap.size w w'))
 case atStart => exact ⟨(0), (0), rS, rS, H', ⟨Nat.le_refl _⟩, ⟨by (with_reducible repeat (first | apply Kd.R_alloc | apply Kd.R_drewN | apply Kd.R_drew)); exact Kd.R_mono HO189.out (fun _ hk => hk.2)⟩, ⟨by (with_reducible repeat (first | apply Kd.R_alloc | apply Kd.R_drewN | apply Kd.R_drew)); exact Kd.R_mono HO192.out (fun _ hk => hk.2)⟩, ⟨bA⟩⟩
 case round =>
  clear H'
  try clear c1
  try clear c2
  try clear p2
  obtain ⟨x7_1, x10_1, rfl, rfl, HA, HK1, HO_8, HO_9, HB⟩ := hrel
  cases gk with
  | zero => exact absurd HA.out (by simp [spec_ClearBetween.l0])
  | succ k1 =>
   have H := HA.out
   clear HA
   simp only [spec_ClearBetween.l0] at H
   have HC8 := Aside0.mk H
   clear H
   go_upto_region 5 with (fail)
   go_cut [32] (fun v32 wc => ∃ (kq : Nat) (x32_7 : Bool), v32 = .bool x32_7 ∧ Aside0 (spec_ClearBetween.j1 kq l0 l1 l2 x7_1 t187 t190 x10_1 x32_7 = some r) ∧ Aside0 (kq ≤ k1) ∧ Aside0 (Kd.R (Kd.int .i64) 3 wc w.heap.size (fun k_ => some k_ ≠ (v191 : Value).ownBlock) v188 t187) ∧ Aside0 (Kd.R (Kd.int .i64) 3 wc w.heap.size (fun k_ => some k_ ≠ (v188 : Value).ownBlock) v191 t190) ∧ Aside0 (Below w.heap.size w wc))
   case first =>
    have H := HC8.out
    clear HC8
    by_cases c9 : x10_1 < (t187.length : Int)
    ·
     rw [if_pos c9] at H
     have c9b0 := decide_eq_true c9
     clear c9
     (first | rw [c9b0] | (simp only [i64_w, i32_w]; rw [c9b0]) | skip)
     obtain ⟨t193, A10, H⟩ := bindE H
     try dsimp only at H
     by_cases c11 : t193 = true
     ·
      subst c11
      have H1 : ((spec_IsTogether.f k1 l0 l2).bind fun t194 => (spec_ClearBetween.j1 k1 l0 l1 l2 x7_1 t187 t190 x10_1 t194)) = some r := by rw [if_pos rfl] at H; exact H
      clear H
      have H := H1
      clear H1
      obtain ⟨t194, A12, H⟩ := bindE H
      try dsimp only at H
      have H' := Aside0.mk H
      clear H
      obtain ⟨Ao13, co13, eo13⟩ := Kd.R_slice HO_8.out
      subst eo13
      go_wp2_with (first | (go_at_call 82; (with_reducible refine (spec_IsTogether.calls k1 _ _ l0 _ _ l1 true _ ?side1 ?side2 ?side3 ?side4 A10.out).mono ?_); (case side1 => exact cB HR0); (case side2 => exact HC0.out); (case side3 => exact cB HR1); (case side4 => exact HC1.out); rintro e w14 ⟨rfl, hb⟩; replace HO_8 := Aside0.mk (Kd.R_below (rK HO_8) hb); replace HO_9 := Aside0.mk (Kd.R_below (rK HO_9) hb); replace HB := Aside0.mk (below_step bA hb); (try clear hb)) | (go_at_call 82; (with_reducible refine (spec_IsTogether.calls k1 _ _ l0 _ _ l2 t194 _ ?side1 ?side2 ?side3 ?side4 A12.out).mono ?_); (case side1 => exact cB HR0); (case side2 => exact HC0.out); (case side3 => exact cB HR2); (case side4 => exact HC2.out); rintro e w15 ⟨rfl, hb⟩; replace HO_8 := Aside0.mk (Kd.R_below (rK HO_8) hb); replace HO_9 := Aside0.mk (Kd.R_below (rK HO_9) hb); replace HB := Aside0.mk (below_step bA hb); (try clear hb)))
      go_meet
      case rel => exact ⟨_, (t194), rS, H', ⟨by have := HK1.out; first | omega | exact Nat.le_refl _⟩, ⟨rK HO_8⟩, ⟨rK HO_9⟩, ⟨bA⟩⟩
     ·
      replace c11 := Bool.eq_false_iff.mpr c11
      subst c11
      have H1 : (spec_ClearBetween.j1 k1 l0 l1 l2 x7_1 t187 t190 x10_1 false) = some r := by rw [if_neg (show ¬ (false = true) by decide)] at H; exact H
      clear H
      have H := H1
      clear H1
      have H' := Aside0.mk H
      clear H
      obtain ⟨Ao16, co16, eo16⟩ := Kd.R_slice HO_8.out
      subst eo16
      go_wp2_with (first | (go_at_call 82; (with_reducible refine (spec_IsTogether.calls k1 _ _ l0 _ _ l1 false _ ?side1 ?side2 ?side3 ?side4 A10.out).mono ?_); (case side1 => exact cB HR0); (case side2 => exact HC0.out); (case side3 => exact cB HR1); (case side4 => exact HC1.out); rintro e w17 ⟨rfl, hb⟩; replace HO_8 := Aside0.mk (Kd.R_below (rK HO_8) hb); replace HO_9 := Aside0.mk (Kd.R_below (rK HO_9) hb); replace HB := Aside0.mk (below_step bA hb); (try clear hb)))
      go_meet
      case rel => exact ⟨_, (false), rS, H', ⟨by have := HK1.out; first | omega | exact Nat.le_refl _⟩, ⟨rK HO_8⟩, ⟨rK HO_9⟩, ⟨bA⟩⟩
    ·
     rw [if_neg c9] at H
     have c9b0 := decide_eq_false c9
     clear c9
     (first | rw [c9b0] | (simp only [i64_w, i32_w]; rw [c9b0]) | skip)
     have H' := Aside0.mk H
     clear H
     obtain ⟨Ao18, co18, eo18⟩ := Kd.R_slice HO_8.out
     subst eo18
     go_wp2
     go_meet
     case rel => exact ⟨_, (false), rS, H', ⟨by have := HK1.out; first | omega | exact Nat.le_refl _⟩, ⟨rK HO_8⟩, ⟨rK HO_9⟩, ⟨bA⟩⟩
   case rest =>
    clear HC8
    try clear c1
    try clear c2
    try clear p2
    try clear c8
    try clear c9
    try clear c9b0
    try clear c11
    try clear c13
    try clear p2
    obtain ⟨kq, x32_7, rfl, HA, HJ7, HO_8, HO_9, HB⟩ := hcut
    cases kq with
    | zero => exact absurd HA.out (by simp [spec_ClearBetween.j1])
    | succ kj7 =>
     have H := HA.out
     clear HA
     simp only [spec_ClearBetween.j1] at H
     by_cases c19 : x32_7 = true
     ·
      subst c19
      have H1 : (spec_ClearBetween.l1 kj7 l0 l1 l2 x7_1 t187 t190 x10_1 0) = some r := by rw [if_pos rfl] at H; exact H
      clear H
      have H := H1
      clear H1
      have H' := Aside0.mk H
      clear H
      go_wp2
      go_loopg [7, 11] kj7 (fun kq v7 v11 w' => ∃ (x7_3 : Int) (x11_3 : Int), v7 = .int .i64 x7_3 ∧ v11 = .int .i64 x11_3 ∧ Aside0 (spec_ClearBetween.l1 kq l0 l1 l2 x7_3 t187 t190 x10_1 x11_3 = some r) ∧ Aside0 (kq ≤ kj7) ∧ Aside0 (Kd.R (Kd.int .i64) 3 w' w.heap.size (fun k_ => some k_ ≠ (v191 : Value).ownBlock) v188 t187) ∧ Aside0 (Kd.R (Kd.int .i64) 3 w' w.heap.size (fun k_ => some k_ ≠ (v188 : Value).ownBlock) v191 t190) ∧ Aside0 (Below w.heap.size w w'))
      case atStart => exact ⟨(x7_1), (0), rS, rS, H', ⟨Nat.le_refl _⟩, ⟨rK HO_8⟩, ⟨rK HO_9⟩, ⟨bA⟩⟩
      case round =>
       clear H'
       try clear c1
       try clear c2
       try clear p2
       try clear c8
       try clear c9
       try clear c9b0
       try clear c11
       try clear c13
       try clear c19
       try clear p2
       obtain ⟨x7_3, x11_3, rfl, rfl, HA, HK3, HO_8, HO_9, HB⟩ := hrel
       cases gk with
       | zero => exact absurd HA.out (by simp [spec_ClearBetween.l1])
       | succ k3 =>
        have H := HA.out
        clear HA
        simp only [spec_ClearBetween.l1] at H
        by_cases c20 : x11_3 < (t190.length : Int)
        ·
         rw [if_pos c20] at H
         have c20b0 := decide_eq_true c20
         clear c20
         have c21 : 0 ≤ x10_1 := ifN H
         replace H := ifT H
         have c21b0 := decide_eq_true c21
         clear c21
         have c22 : x10_1 < (t187.length : Int) := ifN H
         replace H := ifT H
         have c22b0 := decide_eq_true c22
         clear c22
         obtain ⟨t196, A23, H⟩ := bindE H
         try dsimp only at H
         have c24 : 0 ≤ t196 := ifN H
         replace H := ifT H
         have c24b0 := decide_eq_true c24
         clear c24
         have c25 : t196 < (l0.length : Int) := ifN H
         replace H := ifT H
         have c25b0 := decide_eq_true c25
         clear c25
         have c26 : 0 ≤ x11_3 := ifN H
         replace H := ifT H
         have c26b0 := decide_eq_true c26
         clear c26
         obtain ⟨t200, A27, H⟩ := bindE H
         try dsimp only at H
         have c28 : 0 ≤ t200 := ifN H
         replace H := ifT H
         have c28b0 := decide_eq_true c28
         clear c28
         have c29 : t200 < (l0.length : Int) := ifN H
         replace H := ifT H
         have c29b0 := decide_eq_true c29
         clear c29
         obtain ⟨t202, A30, H⟩ := bindE H
         try dsimp only at H
         by_cases c31 : t202 = true
         ·
          subst c31
          have H1 : ((spec_ClearOf.f ((rd_T89 l0 t196).f0) ((rd_T89 l0 t196).f1) ((rd_T89 l0 t196).f2) ((rd_T89 l0 t196).f3)).bind fun t203 => ((spec_Max.f x7_3 t203).bind fun t204 => (spec_ClearBetween.l1 k3 l0 l1 l2 t204 t187 t190 x10_1 (wrap64 (x11_3 + 1))))) = some r := by rw [if_pos rfl] at H; exact H
          clear H
          have H := H1
          clear H1
          obtain ⟨t203, A32, H⟩ := bindE H
          try dsimp only at H
          obtain ⟨t204, A33, H⟩ := bindE H
          try dsimp only at H
          have H' := Aside0.mk H
          clear H
          obtain ⟨Ao34, co34, eo34⟩ := Kd.R_slice HO_9.out
          subst eo34
          obtain ⟨Ao35, co35, eo35⟩ := Kd.R_slice HO_8.out
          subst eo35
          have p195 : 0 ≤ (x10_1 : Int) := dA
          have q195 : x10_1 < (t187.length : Int) := dA
          obtain ⟨ad195, e195, hx195_0⟩ := Kd.at_int (Kd.R_reads' HO_8.out).2.2 x10_1 p195 q195
          cases e195
          replace p195 := eq_true p195
          replace q195 := eq_true q195
          try go_wp2_with (first | ((with_reducible refine gate_callee (f := 116) rfl ?_); refine gL (some 47) Try.func116 #[.slice A0 l0.length c0, .int .i64 (rd t187 x10_1)] ?_; (with_reducible refine (spec_FindPath.calls k3 _ _ l0 (rd t187 x10_1) t196 _ ?side1 ?side2 A23.out).mono ?_); (case side1 => exact cB HR0); (case side2 => exact HC0.out); rintro e w' ⟨rfl, ⟨nd, rfl⟩⟩; refine ⟨_, rfl, ?_⟩; (try (rw [drewN_self wr]; generalize hq_ : World.drewN wr _ = wr; have n0_ : Aside0 (Kd.R (Kd.int .i64) 3 wr w.heap.size (fun k_ => some k_ ≠ (.slice Ao34 t190.length co34 : Value).ownBlock) (.slice (some ad195) t187.length co35) t187) := ⟨by rw [← hq_]; exact (rK HO_8)⟩; have n1_ : Aside0 (Kd.R (Kd.int .i64) 3 wr w.heap.size (fun k_ => some k_ ≠ (.slice (some ad195) t187.length co35 : Value).ownBlock) (.slice Ao34 t190.length co34) t190) := ⟨by rw [← hq_]; exact (rK HO_9)⟩; have n2_ : Aside0 (Below w.heap.size w wr) := ⟨by rw [← hq_]; exact bA⟩; clear HO_8 HO_9 HB hq_; have HO_8 := n0_; have HO_9 := n1_; have HB := n2_; clear n0_ n1_ n2_)); have p197 : 0 ≤ (t196 : Int) := dA; have q197 : t196 < (l0.length : Int) := dA; obtain ⟨ad197, e197, hx197_0, hx197_1, hx197_2, hx197_3⟩ := at_T89 HR0.out t196 p197 q197; cases e197; replace hx197_0 := hC HB hx197_0; replace hx197_1 := hC HB hx197_1; replace hx197_2 := hC HB hx197_2; replace hx197_3 := hC HB hx197_3; replace p197 := eq_true p197; replace q197 := eq_true q197) | ((with_reducible refine gate_dst (N := 12) rfl ?_); refine bE (N := 12) (cs := #[.int .i64 0, .int .i64 0, .int .i64 0, .int .i64 0]) (t := 89) ?_; intro gb198 hg w36 hbox hb; have n0_ := Aside0.mk (Kd.R_below (rK HO_8) hb); have n1_ := Aside0.mk (Kd.R_below (rK HO_9) hb); have n2_ := Aside0.mk (below_step bA hb); have n3_ := Aside0.mk (hbox); have n4_ := Aside0.mk ((by rw [hg]; exact (below_size bA) : w.heap.size ≤ gb198)); have n5_ := Aside0.mk ((by rw [hg]; exact (below_size bA) : w.heap.size ≤ gb198)); clear HO_8; clear HO_9; clear HB; have HO_8 := n0_; have HO_9 := n1_; have HB := n2_; have BK198 := n3_; have GW198 := n4_; have GE198 := n5_; clear n0_ n1_ n2_ n3_ n4_ n5_; clear hb hbox hg; obtain ⟨hcz37_0, hcz37_1, hcz37_2, hcz37_3, hfz37_0, hfz37_1, hfz37_2, hfz37_3⟩ := blkc4 BK198))
          have n0_ : Aside0 (Kd.R (Kd.int .i64) 3 ((((w36.setCell ⟨gb198, 0, none⟩ (.int .i64 ((rd_T89 l0 t196).f0))).setCell ⟨gb198, 1, none⟩ (.int .i64 ((rd_T89 l0 t196).f1))).setCell ⟨gb198, 2, none⟩ (.int .i64 ((rd_T89 l0 t196).f2))).setCell ⟨gb198, 3, none⟩ (.int .i64 ((rd_T89 l0 t196).f3))) w.heap.size (fun k_ => some k_ ≠ (.slice Ao34 t190.length co34 : Value).ownBlock) (.slice (some ad195) t187.length co35) t187) := ⟨by (with_reducible repeat (first | apply Kd.R_alloc | apply Kd.R_drewN | apply Kd.R_drew)); exact Kd.R_mono (Kd.R_far (p := ⟨gb198, 3, none⟩) (Kd.R_far (p := ⟨gb198, 2, none⟩) (Kd.R_far (p := ⟨gb198, 1, none⟩) (Kd.R_far (p := ⟨gb198, 0, none⟩) (Kd.R_types HO_8.out BK198.out (by decide)) (fun _ hk => hk.2) (.int .i64 ((rd_T89 l0 t196).f0))) (fun _ hk => hk.2) (.int .i64 ((rd_T89 l0 t196).f1))) (fun _ hk => hk.2) (.int .i64 ((rd_T89 l0 t196).f2))) (fun _ hk => hk.2) (.int .i64 ((rd_T89 l0 t196).f3))) (fun _ hk => hk.1)⟩
          have n1_ : Aside0 (Kd.R (Kd.int .i64) 3 ((((w36.setCell ⟨gb198, 0, none⟩ (.int .i64 ((rd_T89 l0 t196).f0))).setCell ⟨gb198, 1, none⟩ (.int .i64 ((rd_T89 l0 t196).f1))).setCell ⟨gb198, 2, none⟩ (.int .i64 ((rd_T89 l0 t196).f2))).setCell ⟨gb198, 3, none⟩ (.int .i64 ((rd_T89 l0 t196).f3))) w.heap.size (fun k_ => some k_ ≠ (.slice (some ad195) t187.length co35 : Value).ownBlock) (.slice Ao34 t190.length co34) t190) := ⟨by (with_reducible repeat (first | apply Kd.R_alloc | apply Kd.R_drewN | apply Kd.R_drew)); exact Kd.R_mono (Kd.R_far (p := ⟨gb198, 3, none⟩) (Kd.R_far (p := ⟨gb198, 2, none⟩) (Kd.R_far (p := ⟨gb198, 1, none⟩) (Kd.R_far (p := ⟨gb198, 0, none⟩) (Kd.R_types HO_9.out BK198.out (by decide)) (fun _ hk => hk.2) (.int .i64 ((rd_T89 l0 t196).f0))) (fun _ hk => hk.2) (.int .i64 ((rd_T89 l0 t196).f1))) (fun _ hk => hk.2) (.int .i64 ((rd_T89 l0 t196).f2))) (fun _ hk => hk.2) (.int .i64 ((rd_T89 l0 t196).f3))) (fun _ hk => hk.1)⟩
          have n2_ : Aside0 (((((w36.setCell ⟨gb198, 0, none⟩ (.int .i64 ((rd_T89 l0 t196).f0))).setCell ⟨gb198, 1, none⟩ (.int .i64 ((rd_T89 l0 t196).f1))).setCell ⟨gb198, 2, none⟩ (.int .i64 ((rd_T89 l0 t196).f2))).setCell ⟨gb198, 3, none⟩ (.int .i64 ((rd_T89 l0 t196).f3))).heap[gb198]? = some (.cells #[.int .i64 ((rd_T89 l0 t196).f0), .int .i64 ((rd_T89 l0 t196).f1), .int .i64 ((rd_T89 l0 t196).f2), .int .i64 ((rd_T89 l0 t196).f3)] 89 (0, 0))) := ⟨by (with_reducible repeat (first | refine blk_drewN ?_ _ | refine blk_drew ?_ | refine blk_alloc ?_ _)); refine blk_put (cs := #[.int .i64 ((rd_T89 l0 t196).f0), .int .i64 ((rd_T89 l0 t196).f1), .int .i64 ((rd_T89 l0 t196).f2), .int .i64 0]) ?_ 3 _ rfl; (with_reducible repeat (first | refine blk_drewN ?_ _ | refine blk_drew ?_ | refine blk_alloc ?_ _)); refine blk_put (cs := #[.int .i64 ((rd_T89 l0 t196).f0), .int .i64 ((rd_T89 l0 t196).f1), .int .i64 0, .int .i64 0]) ?_ 2 _ rfl; (with_reducible repeat (first | refine blk_drewN ?_ _ | refine blk_drew ?_ | refine blk_alloc ?_ _)); refine blk_put (cs := #[.int .i64 ((rd_T89 l0 t196).f0), .int .i64 0, .int .i64 0, .int .i64 0]) ?_ 1 _ rfl; (with_reducible repeat (first | refine blk_drewN ?_ _ | refine blk_drew ?_ | refine blk_alloc ?_ _)); refine blk_put (cs := #[.int .i64 0, .int .i64 0, .int .i64 0, .int .i64 0]) ?_ 0 _ rfl; (with_reducible repeat (first | refine blk_drewN ?_ _ | refine blk_drew ?_ | refine blk_alloc ?_ _)); exact BK198.out⟩
          have n3_ : Aside0 (Below w.heap.size w ((((w36.setCell ⟨gb198, 0, none⟩ (.int .i64 ((rd_T89 l0 t196).f0))).setCell ⟨gb198, 1, none⟩ (.int .i64 ((rd_T89 l0 t196).f1))).setCell ⟨gb198, 2, none⟩ (.int .i64 ((rd_T89 l0 t196).f2))).setCell ⟨gb198, 3, none⟩ (.int .i64 ((rd_T89 l0 t196).f3)))) := ⟨bG⟩
          (try clear HO_8)
          (try clear HO_9)
          (try clear BK198)
          (try clear HB)
          generalize ((((w36.setCell ⟨gb198, 0, none⟩ (.int .i64 ((rd_T89 l0 t196).f0))).setCell ⟨gb198, 1, none⟩ (.int .i64 ((rd_T89 l0 t196).f1))).setCell ⟨gb198, 2, none⟩ (.int .i64 ((rd_T89 l0 t196).f2))).setCell ⟨gb198, 3, none⟩ (.int .i64 ((rd_T89 l0 t196).f3))) = w38 at n0_ n1_ n2_ n3_ ⊢
          have HO_8 := n0_
          have HO_9 := n1_
          have BK198 := n2_
          have HB := n3_
          clear n0_ n1_ n2_ n3_
          replace HO_8 := Aside0.mk (Kd.R_drew HO_8.out)
          replace HO_9 := Aside0.mk (Kd.R_drew HO_9.out)
          replace BK198 := Aside0.mk (blk_drew BK198.out)
          have HBo := HB
          replace HB := Aside0.mk (below_drew1 HB.out)
          have p199 : 0 ≤ (x11_3 : Int) := dA
          have q199 : x11_3 < (t190.length : Int) := dA
          obtain ⟨ad199, e199, hx199_0⟩ := Kd.at_int (Kd.R_reads' HO_9.out).2.2 x11_3 p199 q199
          cases e199
          replace p199 := eq_true p199
          replace q199 := eq_true q199
          have p201 : 0 ≤ (t200 : Int) := dA
          have q201 : t200 < (l0.length : Int) := dA
          obtain ⟨ad201, e201, hx201_0, hx201_1, hx201_2, hx201_3⟩ := at_T89 HR0.out t200 p201 q201
          have hw201_3 := hx201_3
          have hw201_2 := hx201_2
          have hw201_1 := hx201_1
          have hw201_0 := hx201_0
          obtain rfl : ad197 = ad201 := (by injection e201)
          replace hx201_0 := hC HB hx201_0
          replace hx201_1 := hC HB hx201_1
          replace hx201_2 := hC HB hx201_2
          replace hx201_3 := hC HB hx201_3
          replace p201 := eq_true p201
          replace q201 := eq_true q201
          refine start_ (n := 11) (S := fun w' => w'.cell? ⟨gb198, 0, none⟩ = some (.int .i64 ((rd_T89 l0 t196).f0)) ∧ w'.cell? ⟨gb198, 1, none⟩ = some (.int .i64 ((rd_T89 l0 t196).f1)) ∧ w'.cell? ⟨gb198, 2, none⟩ = some (.int .i64 ((rd_T89 l0 t196).f2)) ∧ w'.cell? ⟨gb198, 3, none⟩ = some (.int .i64 ((rd_T89 l0 t196).f3)) ∧ w'.cell? (ad199.add (x11_3).toNat) = some (.int .i64 (rd t190 x11_3)) ∧ w'.cell? (ad197.add ((t200).toNat * 4)) = some (.int .i64 ((rd_T89 l0 t200).f0)) ∧ w'.cell? ⟨(ad197.add ((t200).toNat * 4)).block, (ad197.add ((t200).toNat * 4)).off + 1, none⟩ = some (.int .i64 ((rd_T89 l0 t200).f1)) ∧ w'.cell? ⟨(ad197.add ((t200).toNat * 4)).block, (ad197.add ((t200).toNat * 4)).off + 2, none⟩ = some (.int .i64 ((rd_T89 l0 t200).f2)) ∧ w'.cell? ⟨(ad197.add ((t200).toNat * 4)).block, (ad197.add ((t200).toNat * 4)).off + 3, none⟩ = some (.int .i64 ((rd_T89 l0 t200).f3))) (ds := []) (mb 11 0) (by kernel_rfl) rfl rfl ⟨bC BK198 0, bC BK198 1, bC BK198 2, bC BK198 3, hx199_0, (hC HB hw201_0), (hC HB hw201_1), (hC HB hw201_2), (hC HB hw201_3)⟩ (fun hHeld => ?_); refine with_tabW spec_ClearBetween.tab11 spec_ClearBetween.bits11 (fun HT_ HW_ => ?_)
          generalize w38.drew = w39 at HO_8 HO_9 BK198 HB hx199_0 hx201_0 hx201_1 hx201_2 hx201_3 hHeld ⊢
          refine pA (i := 1) (N := some 51) (mb 11 2) HT_ ?_
          refine pA (i := 2) (N := some 52) (mb 11 6) HT_ ?_
          refine pA (i := 3) (N := some 53) (mb 11 14) HT_ ?_
          refine pA (i := 4) (N := some 54) (mb 11 30) HT_ ?_
          refine pA (i := 5) (N := some 55) (mb 11 62) HT_ ?_
          refine tA9 (i := 0) (N := some 50) (mb 11 63) HT_ HW_ hHeld ?_
          refine tA9 (i := 6) (N := some 56) (mb 11 127) HT_ HW_ hHeld ?_
          refine oA (i := 7) (N := some 57) (mb 11 255) HT_ (fun K hK => ?_)
          refine gA Try.func116 #[.slice (some ad197) l0.length c0, .int .i64 (rd t190 x11_3)] ?_
          with_reducible refine (spec_FindPath.calls k3 _ _ l0 (rd t190 x11_3) t200 _ ?side1 ?side2 A27.out).mono ?_
          (case side1 => exact cB HR0)
          (case side2 => exact HC0.out)
          rintro e w' ⟨rfl, ⟨nd, rfl⟩⟩
          refine ⟨_, rfl, ?_⟩
          refine hK.out _ _ ⟨bC BK198 0, bC BK198 1, bC BK198 2, bC BK198 3, hHeld.2.2.2.2.1, (hC HB hw201_0), (hC HB hw201_1), (hC HB hw201_2), (hC HB hw201_3)⟩ (fun hHeld => ?_)
          clear hK K
          refine nB ?_
          refine pA (i := 8) (N := some 58) (mb 11 511) HT_ ?_
          refine tA9 (i := 9) (N := some 59) (mb 11 1023) HT_ HW_ hHeld ?_
          refine oA (i := 10) (N := some 60) (mb 11 2047) HT_ (fun K hK => ?_)
          refine gA Try.func129 #[.agg #[.int .i64 ((rd_T89 l0 t196).f0), .int .i64 ((rd_T89 l0 t196).f1), .int .i64 ((rd_T89 l0 t196).f2), .int .i64 ((rd_T89 l0 t196).f3)], .agg #[.int .i64 ((rd_T89 l0 t200).f0), .int .i64 ((rd_T89 l0 t200).f1), .int .i64 ((rd_T89 l0 t200).f2), .int .i64 ((rd_T89 l0 t200).f3)]] ?_
          with_reducible refine (spec_Conflict.calls k3 ((rd_T89 l0 t196).f0) ((rd_T89 l0 t196).f1) ((rd_T89 l0 t196).f2) ((rd_T89 l0 t196).f3) ((rd_T89 l0 t200).f0) ((rd_T89 l0 t200).f1) ((rd_T89 l0 t200).f2) ((rd_T89 l0 t200).f3) true _ A30.out).mono ?_
          rintro e w40 ⟨rfl, hb⟩
          have HS4_ := (hb.cell (World.block_lt_of_cell? _ _ (hHeld.2.2.2.2.1))).trans (hHeld.2.2.2.2.1)
          refine ⟨_, rfl, ?_⟩
          replace HO_8 := Aside0.mk (Kd.R_below (rK HO_8) hb)
          replace HO_9 := Aside0.mk (Kd.R_below (rK HO_9) hb)
          replace BK198 := Aside0.mk (blk_below (g := gb198) (bK BK198) hb)
          replace HB := Aside0.mk (below_step bG hb)
          (try clear hb)
          (try clear hb2)
          (try clear hk)
          (try clear hi)
          refine hK.out _ _ ⟨bC BK198 0, bC BK198 1, bC BK198 2, bC BK198 3, HS4_, (hC HB hw201_0), (hC HB hw201_1), (hC HB hw201_2), (hC HB hw201_3)⟩ (fun hHeld => ?_)
          clear hK K
          refine nB ?_
          refine eA HT_ ?_
          obtain ⟨hcz41_0, hcz41_1, hcz41_2, hcz41_3, hfz41_0, hfz41_1, hfz41_2, hfz41_3⟩ := blkc4 BK198
          try go_wp2_with (first | ((with_reducible refine gate_callee (f := 132) rfl ?_); refine gL (some 63) Try.func132 #[.agg #[.int .i64 ((rd_T89 l0 t196).f0), .int .i64 ((rd_T89 l0 t196).f1), .int .i64 ((rd_T89 l0 t196).f2), .int .i64 ((rd_T89 l0 t196).f3)]] ?_; (with_reducible refine (spec_ClearOf.calls ((rd_T89 l0 t196).f0) ((rd_T89 l0 t196).f1) ((rd_T89 l0 t196).f2) ((rd_T89 l0 t196).f3) t203 _ A32.out).mono ?_); rintro e w42 ⟨rfl, hb⟩; refine ⟨_, rfl, ?_⟩; replace HO_8 := Aside0.mk (Kd.R_below (rK HO_8) hb); replace HO_9 := Aside0.mk (Kd.R_below (rK HO_9) hb); replace BK198 := Aside0.mk (blk_below (g := gb198) (bK BK198) hb); replace HB := Aside0.mk (below_step bG hb); (try clear hb)) | ((with_reducible refine gate_callee (f := 131) rfl ?_); refine gL (some 64) Try.func131 #[.int .i64 x7_3, .int .i64 t203] ?_; (with_reducible refine (spec_Max.calls x7_3 t203 t204 _ A33.out).mono ?_); rintro e w' ⟨rfl, ⟨nd, rfl⟩⟩; refine ⟨_, rfl, ?_⟩))
          go_roundg k3
          case measure => have := HK1.out; have := HJ7.out; have := HK3.out; omega
          case rel => exact ⟨(t204), (wrap64 (x11_3 + 1)), rS, rS, H', ⟨by have := HK1.out; have := HJ7.out; have := HK3.out; omega⟩, ⟨rK HO_8⟩, ⟨rK HO_9⟩, ⟨bG⟩⟩
         ·
          replace c31 := Bool.eq_false_iff.mpr c31
          subst c31
          have H1 : (spec_ClearBetween.l1 k3 l0 l1 l2 x7_3 t187 t190 x10_1 (wrap64 (x11_3 + 1))) = some r := by rw [if_neg (show ¬ (false = true) by decide)] at H; exact H
          clear H
          have H := H1
          clear H1
          have H' := Aside0.mk H
          clear H
          obtain ⟨Ao43, co43, eo43⟩ := Kd.R_slice HO_9.out
          subst eo43
          obtain ⟨Ao44, co44, eo44⟩ := Kd.R_slice HO_8.out
          subst eo44
          have p195 : 0 ≤ (x10_1 : Int) := dA
          have q195 : x10_1 < (t187.length : Int) := dA
          obtain ⟨ad195, e195, hx195_0⟩ := Kd.at_int (Kd.R_reads' HO_8.out).2.2 x10_1 p195 q195
          cases e195
          replace p195 := eq_true p195
          replace q195 := eq_true q195
          try go_wp2_with (first | ((with_reducible refine gate_callee (f := 116) rfl ?_); refine gL (some 47) Try.func116 #[.slice A0 l0.length c0, .int .i64 (rd t187 x10_1)] ?_; (with_reducible refine (spec_FindPath.calls k3 _ _ l0 (rd t187 x10_1) t196 _ ?side1 ?side2 A23.out).mono ?_); (case side1 => exact cB HR0); (case side2 => exact HC0.out); rintro e w' ⟨rfl, ⟨nd, rfl⟩⟩; refine ⟨_, rfl, ?_⟩; (try (rw [drewN_self wr]; generalize hq_ : World.drewN wr _ = wr; have n0_ : Aside0 (Kd.R (Kd.int .i64) 3 wr w.heap.size (fun k_ => some k_ ≠ (.slice Ao43 t190.length co43 : Value).ownBlock) (.slice (some ad195) t187.length co44) t187) := ⟨by rw [← hq_]; exact (rK HO_8)⟩; have n1_ : Aside0 (Kd.R (Kd.int .i64) 3 wr w.heap.size (fun k_ => some k_ ≠ (.slice (some ad195) t187.length co44 : Value).ownBlock) (.slice Ao43 t190.length co43) t190) := ⟨by rw [← hq_]; exact (rK HO_9)⟩; have n2_ : Aside0 (Below w.heap.size w wr) := ⟨by rw [← hq_]; exact bA⟩; clear HO_8 HO_9 HB hq_; have HO_8 := n0_; have HO_9 := n1_; have HB := n2_; clear n0_ n1_ n2_)); have p197 : 0 ≤ (t196 : Int) := dA; have q197 : t196 < (l0.length : Int) := dA; obtain ⟨ad197, e197, hx197_0, hx197_1, hx197_2, hx197_3⟩ := at_T89 HR0.out t196 p197 q197; cases e197; replace hx197_0 := hC HB hx197_0; replace hx197_1 := hC HB hx197_1; replace hx197_2 := hC HB hx197_2; replace hx197_3 := hC HB hx197_3; replace p197 := eq_true p197; replace q197 := eq_true q197) | ((with_reducible refine gate_dst (N := 12) rfl ?_); refine bE (N := 12) (cs := #[.int .i64 0, .int .i64 0, .int .i64 0, .int .i64 0]) (t := 89) ?_; intro gb198 hg w45 hbox hb; have n0_ := Aside0.mk (Kd.R_below (rK HO_8) hb); have n1_ := Aside0.mk (Kd.R_below (rK HO_9) hb); have n2_ := Aside0.mk (below_step bA hb); have n3_ := Aside0.mk (hbox); have n4_ := Aside0.mk ((by rw [hg]; exact (below_size bA) : w.heap.size ≤ gb198)); have n5_ := Aside0.mk ((by rw [hg]; exact (below_size bA) : w.heap.size ≤ gb198)); clear HO_8; clear HO_9; clear HB; have HO_8 := n0_; have HO_9 := n1_; have HB := n2_; have BK198 := n3_; have GW198 := n4_; have GE198 := n5_; clear n0_ n1_ n2_ n3_ n4_ n5_; clear hb hbox hg; obtain ⟨hcz46_0, hcz46_1, hcz46_2, hcz46_3, hfz46_0, hfz46_1, hfz46_2, hfz46_3⟩ := blkc4 BK198))
          have n0_ : Aside0 (Kd.R (Kd.int .i64) 3 ((((w45.setCell ⟨gb198, 0, none⟩ (.int .i64 ((rd_T89 l0 t196).f0))).setCell ⟨gb198, 1, none⟩ (.int .i64 ((rd_T89 l0 t196).f1))).setCell ⟨gb198, 2, none⟩ (.int .i64 ((rd_T89 l0 t196).f2))).setCell ⟨gb198, 3, none⟩ (.int .i64 ((rd_T89 l0 t196).f3))) w.heap.size (fun k_ => some k_ ≠ (.slice Ao43 t190.length co43 : Value).ownBlock) (.slice (some ad195) t187.length co44) t187) := ⟨by (with_reducible repeat (first | apply Kd.R_alloc | apply Kd.R_drewN | apply Kd.R_drew)); exact Kd.R_mono (Kd.R_far (p := ⟨gb198, 3, none⟩) (Kd.R_far (p := ⟨gb198, 2, none⟩) (Kd.R_far (p := ⟨gb198, 1, none⟩) (Kd.R_far (p := ⟨gb198, 0, none⟩) (Kd.R_types HO_8.out BK198.out (by decide)) (fun _ hk => hk.2) (.int .i64 ((rd_T89 l0 t196).f0))) (fun _ hk => hk.2) (.int .i64 ((rd_T89 l0 t196).f1))) (fun _ hk => hk.2) (.int .i64 ((rd_T89 l0 t196).f2))) (fun _ hk => hk.2) (.int .i64 ((rd_T89 l0 t196).f3))) (fun _ hk => hk.1)⟩
          have n1_ : Aside0 (Kd.R (Kd.int .i64) 3 ((((w45.setCell ⟨gb198, 0, none⟩ (.int .i64 ((rd_T89 l0 t196).f0))).setCell ⟨gb198, 1, none⟩ (.int .i64 ((rd_T89 l0 t196).f1))).setCell ⟨gb198, 2, none⟩ (.int .i64 ((rd_T89 l0 t196).f2))).setCell ⟨gb198, 3, none⟩ (.int .i64 ((rd_T89 l0 t196).f3))) w.heap.size (fun k_ => some k_ ≠ (.slice (some ad195) t187.length co44 : Value).ownBlock) (.slice Ao43 t190.length co43) t190) := ⟨by (with_reducible repeat (first | apply Kd.R_alloc | apply Kd.R_drewN | apply Kd.R_drew)); exact Kd.R_mono (Kd.R_far (p := ⟨gb198, 3, none⟩) (Kd.R_far (p := ⟨gb198, 2, none⟩) (Kd.R_far (p := ⟨gb198, 1, none⟩) (Kd.R_far (p := ⟨gb198, 0, none⟩) (Kd.R_types HO_9.out BK198.out (by decide)) (fun _ hk => hk.2) (.int .i64 ((rd_T89 l0 t196).f0))) (fun _ hk => hk.2) (.int .i64 ((rd_T89 l0 t196).f1))) (fun _ hk => hk.2) (.int .i64 ((rd_T89 l0 t196).f2))) (fun _ hk => hk.2) (.int .i64 ((rd_T89 l0 t196).f3))) (fun _ hk => hk.1)⟩
          have n2_ : Aside0 (((((w45.setCell ⟨gb198, 0, none⟩ (.int .i64 ((rd_T89 l0 t196).f0))).setCell ⟨gb198, 1, none⟩ (.int .i64 ((rd_T89 l0 t196).f1))).setCell ⟨gb198, 2, none⟩ (.int .i64 ((rd_T89 l0 t196).f2))).setCell ⟨gb198, 3, none⟩ (.int .i64 ((rd_T89 l0 t196).f3))).heap[gb198]? = some (.cells #[.int .i64 ((rd_T89 l0 t196).f0), .int .i64 ((rd_T89 l0 t196).f1), .int .i64 ((rd_T89 l0 t196).f2), .int .i64 ((rd_T89 l0 t196).f3)] 89 (0, 0))) := ⟨by (with_reducible repeat (first | refine blk_drewN ?_ _ | refine blk_drew ?_ | refine blk_alloc ?_ _)); refine blk_put (cs := #[.int .i64 ((rd_T89 l0 t196).f0), .int .i64 ((rd_T89 l0 t196).f1), .int .i64 ((rd_T89 l0 t196).f2), .int .i64 0]) ?_ 3 _ rfl; (with_reducible repeat (first | refine blk_drewN ?_ _ | refine blk_drew ?_ | refine blk_alloc ?_ _)); refine blk_put (cs := #[.int .i64 ((rd_T89 l0 t196).f0), .int .i64 ((rd_T89 l0 t196).f1), .int .i64 0, .int .i64 0]) ?_ 2 _ rfl; (with_reducible repeat (first | refine blk_drewN ?_ _ | refine blk_drew ?_ | refine blk_alloc ?_ _)); refine blk_put (cs := #[.int .i64 ((rd_T89 l0 t196).f0), .int .i64 0, .int .i64 0, .int .i64 0]) ?_ 1 _ rfl; (with_reducible repeat (first | refine blk_drewN ?_ _ | refine blk_drew ?_ | refine blk_alloc ?_ _)); refine blk_put (cs := #[.int .i64 0, .int .i64 0, .int .i64 0, .int .i64 0]) ?_ 0 _ rfl; (with_reducible repeat (first | refine blk_drewN ?_ _ | refine blk_drew ?_ | refine blk_alloc ?_ _)); exact BK198.out⟩
          have n3_ : Aside0 (Below w.heap.size w ((((w45.setCell ⟨gb198, 0, none⟩ (.int .i64 ((rd_T89 l0 t196).f0))).setCell ⟨gb198, 1, none⟩ (.int .i64 ((rd_T89 l0 t196).f1))).setCell ⟨gb198, 2, none⟩ (.int .i64 ((rd_T89 l0 t196).f2))).setCell ⟨gb198, 3, none⟩ (.int .i64 ((rd_T89 l0 t196).f3)))) := ⟨bG⟩
          (try clear HO_8)
          (try clear HO_9)
          (try clear BK198)
          (try clear HB)
          generalize ((((w45.setCell ⟨gb198, 0, none⟩ (.int .i64 ((rd_T89 l0 t196).f0))).setCell ⟨gb198, 1, none⟩ (.int .i64 ((rd_T89 l0 t196).f1))).setCell ⟨gb198, 2, none⟩ (.int .i64 ((rd_T89 l0 t196).f2))).setCell ⟨gb198, 3, none⟩ (.int .i64 ((rd_T89 l0 t196).f3))) = w47 at n0_ n1_ n2_ n3_ ⊢
          have HO_8 := n0_
          have HO_9 := n1_
          have BK198 := n2_
          have HB := n3_
          clear n0_ n1_ n2_ n3_
          replace HO_8 := Aside0.mk (Kd.R_drew HO_8.out)
          replace HO_9 := Aside0.mk (Kd.R_drew HO_9.out)
          replace BK198 := Aside0.mk (blk_drew BK198.out)
          have HBo := HB
          replace HB := Aside0.mk (below_drew1 HB.out)
          have p199 : 0 ≤ (x11_3 : Int) := dA
          have q199 : x11_3 < (t190.length : Int) := dA
          obtain ⟨ad199, e199, hx199_0⟩ := Kd.at_int (Kd.R_reads' HO_9.out).2.2 x11_3 p199 q199
          cases e199
          replace p199 := eq_true p199
          replace q199 := eq_true q199
          have p201 : 0 ≤ (t200 : Int) := dA
          have q201 : t200 < (l0.length : Int) := dA
          obtain ⟨ad201, e201, hx201_0, hx201_1, hx201_2, hx201_3⟩ := at_T89 HR0.out t200 p201 q201
          have hw201_3 := hx201_3
          have hw201_2 := hx201_2
          have hw201_1 := hx201_1
          have hw201_0 := hx201_0
          obtain rfl : ad197 = ad201 := (by injection e201)
          replace hx201_0 := hC HB hx201_0
          replace hx201_1 := hC HB hx201_1
          replace hx201_2 := hC HB hx201_2
          replace hx201_3 := hC HB hx201_3
          replace p201 := eq_true p201
          replace q201 := eq_true q201
          refine start_ (n := 11) (S := fun w' => w'.cell? ⟨gb198, 0, none⟩ = some (.int .i64 ((rd_T89 l0 t196).f0)) ∧ w'.cell? ⟨gb198, 1, none⟩ = some (.int .i64 ((rd_T89 l0 t196).f1)) ∧ w'.cell? ⟨gb198, 2, none⟩ = some (.int .i64 ((rd_T89 l0 t196).f2)) ∧ w'.cell? ⟨gb198, 3, none⟩ = some (.int .i64 ((rd_T89 l0 t196).f3)) ∧ w'.cell? (ad199.add (x11_3).toNat) = some (.int .i64 (rd t190 x11_3)) ∧ w'.cell? (ad197.add ((t200).toNat * 4)) = some (.int .i64 ((rd_T89 l0 t200).f0)) ∧ w'.cell? ⟨(ad197.add ((t200).toNat * 4)).block, (ad197.add ((t200).toNat * 4)).off + 1, none⟩ = some (.int .i64 ((rd_T89 l0 t200).f1)) ∧ w'.cell? ⟨(ad197.add ((t200).toNat * 4)).block, (ad197.add ((t200).toNat * 4)).off + 2, none⟩ = some (.int .i64 ((rd_T89 l0 t200).f2)) ∧ w'.cell? ⟨(ad197.add ((t200).toNat * 4)).block, (ad197.add ((t200).toNat * 4)).off + 3, none⟩ = some (.int .i64 ((rd_T89 l0 t200).f3))) (ds := []) (mb 11 0) (by kernel_rfl) rfl rfl ⟨bC BK198 0, bC BK198 1, bC BK198 2, bC BK198 3, hx199_0, (hC HB hw201_0), (hC HB hw201_1), (hC HB hw201_2), (hC HB hw201_3)⟩ (fun hHeld => ?_); refine with_tabW spec_ClearBetween.tab11 spec_ClearBetween.bits11 (fun HT_ HW_ => ?_)
          generalize w47.drew = w48 at HO_8 HO_9 BK198 HB hx199_0 hx201_0 hx201_1 hx201_2 hx201_3 hHeld ⊢
          refine pA (i := 1) (N := some 51) (mb 11 2) HT_ ?_
          refine pA (i := 2) (N := some 52) (mb 11 6) HT_ ?_
          refine pA (i := 3) (N := some 53) (mb 11 14) HT_ ?_
          refine pA (i := 4) (N := some 54) (mb 11 30) HT_ ?_
          refine pA (i := 5) (N := some 55) (mb 11 62) HT_ ?_
          refine tA9 (i := 0) (N := some 50) (mb 11 63) HT_ HW_ hHeld ?_
          refine tA9 (i := 6) (N := some 56) (mb 11 127) HT_ HW_ hHeld ?_
          refine oA (i := 7) (N := some 57) (mb 11 255) HT_ (fun K hK => ?_)
          refine gA Try.func116 #[.slice (some ad197) l0.length c0, .int .i64 (rd t190 x11_3)] ?_
          with_reducible refine (spec_FindPath.calls k3 _ _ l0 (rd t190 x11_3) t200 _ ?side1 ?side2 A27.out).mono ?_
          (case side1 => exact cB HR0)
          (case side2 => exact HC0.out)
          rintro e w' ⟨rfl, ⟨nd, rfl⟩⟩
          refine ⟨_, rfl, ?_⟩
          refine hK.out _ _ ⟨bC BK198 0, bC BK198 1, bC BK198 2, bC BK198 3, hHeld.2.2.2.2.1, (hC HB hw201_0), (hC HB hw201_1), (hC HB hw201_2), (hC HB hw201_3)⟩ (fun hHeld => ?_)
          clear hK K
          refine nB ?_
          refine pA (i := 8) (N := some 58) (mb 11 511) HT_ ?_
          refine tA9 (i := 9) (N := some 59) (mb 11 1023) HT_ HW_ hHeld ?_
          refine oA (i := 10) (N := some 60) (mb 11 2047) HT_ (fun K hK => ?_)
          refine gA Try.func129 #[.agg #[.int .i64 ((rd_T89 l0 t196).f0), .int .i64 ((rd_T89 l0 t196).f1), .int .i64 ((rd_T89 l0 t196).f2), .int .i64 ((rd_T89 l0 t196).f3)], .agg #[.int .i64 ((rd_T89 l0 t200).f0), .int .i64 ((rd_T89 l0 t200).f1), .int .i64 ((rd_T89 l0 t200).f2), .int .i64 ((rd_T89 l0 t200).f3)]] ?_
          with_reducible refine (spec_Conflict.calls k3 ((rd_T89 l0 t196).f0) ((rd_T89 l0 t196).f1) ((rd_T89 l0 t196).f2) ((rd_T89 l0 t196).f3) ((rd_T89 l0 t200).f0) ((rd_T89 l0 t200).f1) ((rd_T89 l0 t200).f2) ((rd_T89 l0 t200).f3) false _ A30.out).mono ?_
          rintro e w49 ⟨rfl, hb⟩
          have HS4_ := (hb.cell (World.block_lt_of_cell? _ _ (hHeld.2.2.2.2.1))).trans (hHeld.2.2.2.2.1)
          refine ⟨_, rfl, ?_⟩
          replace HO_8 := Aside0.mk (Kd.R_below (rK HO_8) hb)
          replace HO_9 := Aside0.mk (Kd.R_below (rK HO_9) hb)
          replace BK198 := Aside0.mk (blk_below (g := gb198) (bK BK198) hb)
          replace HB := Aside0.mk (below_step bG hb)
          (try clear hb)
          (try clear hb2)
          (try clear hk)
          (try clear hi)
          refine hK.out _ _ ⟨bC BK198 0, bC BK198 1, bC BK198 2, bC BK198 3, HS4_, (hC HB hw201_0), (hC HB hw201_1), (hC HB hw201_2), (hC HB hw201_3)⟩ (fun hHeld => ?_)
          clear hK K
          refine nB ?_
          refine eA HT_ ?_
          try go_wp2
          go_roundg k3
          case measure => have := HK1.out; have := HJ7.out; have := HK3.out; omega
          case rel => exact ⟨(x7_3), (wrap64 (x11_3 + 1)), rS, rS, H', ⟨by have := HK1.out; have := HJ7.out; have := HK3.out; omega⟩, ⟨rK HO_8⟩, ⟨rK HO_9⟩, ⟨bG⟩⟩
        ·
         rw [if_neg c20] at H
         have c20b0 := decide_eq_false c20
         clear c20
         have H' := Aside0.mk H
         clear H
         obtain ⟨Ao50, co50, eo50⟩ := Kd.R_slice HO_9.out
         subst eo50
         go_wp2
         go_roundg k3
         case measure => have := HK1.out; have := HJ7.out; have := HK3.out; omega
         case rel => exact ⟨(x7_3), (wrap64 (x10_1 + 1)), rS, rS, H', ⟨by have := HK1.out; have := HJ7.out; have := HK3.out; omega⟩, ⟨rK HO_8⟩, ⟨rK HO_9⟩, ⟨bA⟩⟩
     ·
      replace c19 := Bool.eq_false_iff.mpr c19
      subst c19
      have H1 : (some x7_1) = some r := by rw [if_neg (show ¬ (false = true) by decide)] at H; exact H
      clear H
      have H := H1
      clear H1
      obtain rfl := Option.some.inj H
      go_wp2
      go_ret
      exact ⟨rA, bA⟩

/-! ### spec_l8Long: function 117 -/
def spec_l8Long.f (k : Nat) (l0 : List (S89)) (l1 : List (S92)) (a2 : Int) : Option (Int) := if 0 ≤ a2 then (if a2 < (l1.length : Int) then (if (l1.length : Int) = 0 then (none) else (if 0 ≤ (Int.tmod (wrap64 (a2 + 1)) (l1.length : Int)) then (if (Int.tmod (wrap64 (a2 + 1)) (l1.length : Int)) < (l1.length : Int) then ((spec_ClearBetween.f k l0 ((rd_T92 l1 a2).f0) ((rd_T92 l1 (Int.tmod (wrap64 (a2 + 1)) (l1.length : Int))).f0)).bind fun t208 => (some (wrap64 (((rd_T92 l1 a2).f1) + t208)))) else (none)) else (none))) else (none)) else (none)
theorem spec_l8Long.mono : ∀ a0 a1 a2 k, LeO (spec_l8Long.f k a0 a1 a2) (spec_l8Long.f (k + 1) a0 a1 a2) := by
 intro a0 a1 a2 k
 unfold spec_l8Long.f
 repeat' first | (with_reducible first | exact LeO.refl _ | exact LeO.none _ | refine LeO.ite ?_ ?_ | refine LeO.bind ?_ (fun _ => ?_) | exact spec_ClearBetween.mono _ _ _ _)
def spec_l8Long.T1 : Bool × List (List Nat × List Nat) := (true, [([], []), ([], []), ([0, 1], [0, 1]), ([2], [2]), ([3], [3]), ([], []), ([], []), ([], []), ([6, 7], [6, 7]), ([8], [8]), ([9], [9]), ([], []), ([], []), ([12], [12]), ([], []), ([14], [14]), ([13, 15], [13, 15]), ([11, 16], [11, 16]), ([17], [17]), ([18], [18]), ([5, 10, 19], [5, 10, 19]), ([4, 20], [4, 20]), ([21, 20, 0, 1, 2, 3, 4, 5, 6, 7, 8, 9, 10, 11, 12, 13, 14, 15, 16, 17, 18, 19, 20, 21], [21])])
def spec_l8Long.B1 : List Nat := [0, 0, 3, 7, 15, 0, 0, 0, 192, 448, 960, 0, 0, 4096, 0, 16384, 61440, 129024, 260096, 522240, 1048544, 2097151, 4194303]
theorem spec_l8Long.tab1 : rtab .any (opsOf Try.f117 1) = spec_l8Long.T1 := by kernel_rfl
theorem spec_l8Long.bits1 : waitsOk spec_l8Long.T1.2 spec_l8Long.B1 = true := by kernel_rfl
set_option maxHeartbeats 8000000 in
set_option maxRecDepth 100000 in
theorem spec_l8Long.calls (k : Nat) (A0 : Option Addr) (c0 : Nat) (l0 : List (S89)) (A1 : Option Addr) (c1 : Nat) (l1 : List (S92)) (a2 : Int) (r : Int) (w : World) (hr0 : Kd.C k89 w A0 l0.length l0) (hc0 : l0.length ≤ c0) (hr1 : Kd.C k92 w A1 l1.length l1) (hc1 : l1.length ≤ c1) (h : spec_l8Long.f k l0 l1 a2 = some r) :
  Calls Try.prog 117 #[.slice A0 l0.length c0, .slice A1 l1.length c1, .int .i64 a2] w fun e w' => e = .returned (.int .i64 r) ∧ Below w.heap.size w w' := by
 have HR0 := Aside0.mk hr0
 have HC0 := Aside0.mk hc0
 clear hr0 hc0
 have HR1 := Aside0.mk hr1
 have HC1 := Aside0.mk hc1
 clear hr1 hc1
 have HB := Aside0.mk (Below.refl w.heap.size w)
 have H : (if 0 ≤ a2 then (if a2 < (l1.length : Int) then (if (l1.length : Int) = 0 then (none) else (if 0 ≤ (Int.tmod (wrap64 (a2 + 1)) (l1.length : Int)) then (if (Int.tmod (wrap64 (a2 + 1)) (l1.length : Int)) < (l1.length : Int) then ((spec_ClearBetween.f k l0 ((rd_T92 l1 a2).f0) ((rd_T92 l1 (Int.tmod (wrap64 (a2 + 1)) (l1.length : Int))).f0)).bind fun t208 => (some (wrap64 (((rd_T92 l1 a2).f1) + t208)))) else (none)) else (none))) else (none)) else (none)) = some r := h
 clear h
 have c4 : 0 ≤ a2 := ifN H
 replace H := ifT H
 have c4b0 := decide_eq_true c4
 clear c4
 have c5 : a2 < (l1.length : Int) := ifN H
 replace H := ifT H
 have c5b0 := decide_eq_true c5
 clear c5
 have c6 : ¬ ((l1.length : Int) = 0) := ifN' H
 replace H := ifT' H
 have c6b0 : ((l1.length : Int) == 0) = false := beq_eq_false_iff_ne.mpr c6
 have c6b1 : ((l1.length : Int) != 0) = true := bne_iff_ne.mpr c6
 have c6b2 : ¬ (l1 = []) := fun h_ => c6 (by rw [h_]; rfl)
 obtain ⟨ji7, hji7⟩ : ∃ j_ : Int, (Int.tmod (wrap64 (a2 + 1)) (l1.length : Int)) = j_ := ⟨_, rfl⟩
 replace H : (if 0 ≤ (ji7) then (if (ji7) < (l1.length : Int) then ((spec_ClearBetween.f k l0 ((rd_T92 l1 a2).f0) ((rd_T92 l1 (ji7)).f0)).bind fun t208 => (some (wrap64 (((rd_T92 l1 a2).f1) + t208)))) else (none)) else (none)) = some r := by first | (rw [hji7] at H; exact H) | (simp only [hji7] at H ⊢; exact H)
 have c8 : 0 ≤ (ji7) := ifN H
 replace H := ifT H
 have c8b0 := decide_eq_true c8
 clear c8
 have c9 : (ji7) < (l1.length : Int) := ifN H
 replace H := ifT H
 have c9b0 := decide_eq_true c9
 clear c9
 obtain ⟨t208, A10, H⟩ := bindE H
 try dsimp only at H
 obtain rfl := Option.some.inj H
 go_enter Try.func117, Try.ntmps117
 try go_wp2
 have HBo := HB
 replace HB := Aside0.mk (below_drew1 HB.out)
 have p205 : 0 ≤ (a2 : Int) := dA
 have q205 : a2 < (l1.length : Int) := dA
 obtain ⟨ad205, A205_0, c205_0, e205, hx205_0, hx205_1, hl205_0, hi205_0⟩ := at_T92 HR1.out a2 p205 q205
 have hw205_1 := hx205_1
 have hw205_0 := hx205_0
 cases e205
 replace hx205_0 := hC HB hx205_0
 replace hx205_1 := hC HB hx205_1
 have HR205_0 := Aside0.mk hi205_0
 have HC205_0 := Aside0.mk hl205_0
 clear hi205_0 hl205_0
 replace p205 := eq_true p205
 replace q205 := eq_true q205
 have p206 : 0 ≤ (a2 : Int) := dA
 have q206 : a2 < (l1.length : Int) := dA
 obtain ⟨ad206, A206_0, c206_0, e206, hx206_0, hx206_1, hl206_0, hi206_0⟩ := at_T92 HR1.out a2 p206 q206
 have hw206_1 := hx206_1
 have hw206_0 := hx206_0
 obtain rfl : ad205 = ad206 := (by injection e206)
 replace hx206_0 := hC HB hx206_0
 replace hx206_1 := hC HB hx206_1
 have HR206_0 := Aside0.mk hi206_0
 have HC206_0 := Aside0.mk hl206_0
 clear hi206_0 hl206_0
 replace p206 := eq_true p206
 replace q206 := eq_true q206
 have ea_ := Option.some.inj (hx205_0.symm.trans hx206_0)
 injection ea_ with ea_ en_ ec_
 subst ea_
 subst ec_
 clear en_
 have p207 : 0 ≤ ((ji7) : Int) := dA
 have q207 : (ji7) < (l1.length : Int) := dA
 obtain ⟨ad207, A207_0, c207_0, e207, hx207_0, hx207_1, hl207_0, hi207_0⟩ := at_T92 HR1.out (ji7) p207 q207
 have hw207_1 := hx207_1
 have hw207_0 := hx207_0
 obtain rfl : ad205 = ad207 := (by injection e207)
 replace hx207_0 := hC HB hx207_0
 replace hx207_1 := hC HB hx207_1
 have HR207_0 := Aside0.mk hi207_0
 have HC207_0 := Aside0.mk hl207_0
 clear hi207_0 hl207_0
 replace p207 := eq_true p207
 replace q207 := eq_true q207
 refine start_ (n := 23) (S := fun w' => w'.cell? (ad205.add ((a2).toNat * 2)) = some (.slice A205_0 ((rd_T92 l1 a2).f0).length c205_0) ∧ w'.cell? ⟨(ad205.add ((a2).toNat * 2)).block, (ad205.add ((a2).toNat * 2)).off + 1, none⟩ = some (.int .i64 ((rd_T92 l1 a2).f1)) ∧ w'.cell? (ad205.add ((a2).toNat * 2)) = some (.slice A205_0 ((rd_T92 l1 a2).f0).length c205_0) ∧ w'.cell? ⟨(ad205.add ((a2).toNat * 2)).block, (ad205.add ((a2).toNat * 2)).off + 1, none⟩ = some (.int .i64 ((rd_T92 l1 a2).f1)) ∧ w'.cell? (ad205.add (((ji7)).toNat * 2)) = some (.slice A207_0 ((rd_T92 l1 (ji7)).f0).length c207_0) ∧ w'.cell? ⟨(ad205.add (((ji7)).toNat * 2)).block, (ad205.add (((ji7)).toNat * 2)).off + 1, none⟩ = some (.int .i64 ((rd_T92 l1 (ji7)).f1))) (ds := []) (mb 23 0) (by kernel_rfl) rfl rfl ⟨(hC HB hw205_0), (hC HB hw205_1), (hC HB hw206_0), (hC HB hw206_1), (hC HB hw207_0), (hC HB hw207_1)⟩ (fun hHeld => ?_); refine with_tabW spec_l8Long.tab1 spec_l8Long.bits1 (fun HT_ HW_ => ?_)
 generalize w.drew = w11 at HB HR205_0 HR206_0 HR207_0 hx205_0 hx205_1 hx206_0 hx206_1 hx207_0 hx207_1 hHeld ⊢
 refine pA (i := 0) (N := some 7) (mb 23 1) HT_ ?_
 refine pA (i := 1) (N := some 8) (mb 23 3) HT_ ?_
 refine pA (i := 2) (N := some 9) (mb 23 7) HT_ ?_
 refine pA (i := 3) (N := some 10) (mb 23 15) HT_ ?_
 refine pA (i := 5) (N := some 12) (mb 23 47) HT_ ?_
 refine pA (i := 6) (N := some 13) (mb 23 111) HT_ ?_
 refine pA (i := 7) (N := some 14) (mb 23 239) HT_ ?_
 refine pA (i := 8) (N := some 15) (mb 23 495) HT_ ?_
 refine pA (i := 9) (N := some 16) (mb 23 1007) HT_ ?_
 refine pA (i := 11) (N := some 18) (mb 23 3055) HT_ ?_
 refine pA (i := 12) (N := some 19) (mb 23 7151) HT_ ?_
 refine pA (i := 13) (N := some 20) (mb 23 15343) HT_ ?_
 refine pA (i := 14) (N := some 21) (mb 23 31727) HT_ ?_
 refine pA (i := 15) (N := some 22) (mb 23 64495) HT_ ?_
 refine pA (i := 16) (N := some 23) (mb 23 130031) HT_ ?_
 refine pA (i := 17) (N := some 24) (mb 23 261103) HT_ ?_
 refine pA (i := 18) (N := some 25) (mb 23 523247) HT_ ?_
 refine tA6 (i := 4) (N := some 11) (mb 23 523263) HT_ HW_ hHeld ?_
 refine tA6 (i := 10) (N := some 17) (mb 23 524287) HT_ HW_ hHeld ?_
 refine tA6 (i := 19) (N := some 26) (mb 23 1048575) HT_ HW_ hHeld ?_
 refine oA (i := 20) (N := some 27) (mb 23 2097151) HT_ (fun K hK => ?_)
 refine goes_ Try.func84 (by kernel_rfl) rfl #[.slice A0 l0.length c0, .slice A205_0 ((rd_T92 l1 a2).f0).length c205_0, .slice A207_0 ((rd_T92 l1 (ji7)).f0).length c207_0] (by rfl) rfl rfl (by (try simp only [List.map_toArray, List.map_cons, List.map_nil]); first | done | (simp only [hji7]; rfl) | rfl | (simp only [List.length_drop, List.length_take]; rfl)) ?_
 with_reducible refine (spec_ClearBetween.calls k _ _ l0 _ _ ((rd_T92 l1 a2).f0) _ _ ((rd_T92 l1 (ji7)).f0) t208 _ ?side1 ?side2 ?side3 ?side4 ?side5 ?side6 A10.out).mono ?_
 (case side1 => exact cB HR0)
 (case side2 => exact HC0.out)
 (case side3 => exact cB HR206_0)
 (case side4 => exact HC206_0.out)
 (case side5 => exact cB HR207_0)
 (case side6 => exact HC207_0.out)
 rintro e w12 ⟨rfl, hb⟩
 refine ⟨_, rfl, ?_⟩
 replace HB := Aside0.mk (below_step bA hb)
 (try clear hb)
 (try clear hb2)
 (try clear hk)
 (try clear hi)
 refine hK.out _ _ ⟨(hC HB hw205_0), (hC HB hw205_1), (hC HB hw206_0), (hC HB hw206_1), (hC HB hw207_0), (hC HB hw207_1)⟩ (fun hHeld => ?_)
 clear hK K
 refine nB ?_
 refine pA (i := 21) (N := some 28) (mb 23 4194303) HT_ ?_
 refine pA (i := 22) (N := some 6) (mb 23 8388607) HT_ ?_
 refine eA HT_ ?_
 try go_wp2
 go_ret
 exact ⟨by first | rfl | (simp [errW_none, errW_some] <;> rfl) | (simp only [← hji7]; first | rfl | (simp [errW_none, errW_some] <;> rfl)) | (simp [*, errW_none, errW_some] <;> rfl), bA⟩

/-! ### spec_l9Light: function 118 -/
def spec_l9Light.j0 : Nat → List (S89) → List (S92) → Int → Int → Int → Bool → Bool → Option (Int)
 | 0, _, _, _, _, _, _, _ => none
 | k + 1, x0, x1, x2, x3, x4, x12, x29 => if x29 = true then (some 1) else (if x12 = true then (if 0 ≤ x2 then (if x2 < (x1.length : Int) then ((spec_FindPath.f k x0 x4).bind fun t215 => (if 0 ≤ t215 then (if t215 < (x0.length : Int) then ((spec_ClearOf.f ((rd_T89 x0 t215).f0) ((rd_T89 x0 t215).f1) ((rd_T89 x0 t215).f2) ((rd_T89 x0 t215).f3)).bind fun t217 => (if x3 < (wrap64 (((rd_T92 x1 x2).f1) + t217)) then (some 2) else (some 0))) else (none)) else (none))) else (none)) else (none)) else (some 0))
def spec_l9Light.f (k : Nat) (l0 : List (S89)) (l1 : List (S92)) (a2 : Int) (a3 : Int) (a4 : Int) : Option (Int) := if (l1.length : Int) = 0 then (none) else (if 0 ≤ (Int.tmod (wrap64 (a2 + 1)) (l1.length : Int)) then (if (Int.tmod (wrap64 (a2 + 1)) (l1.length : Int)) < (l1.length : Int) then (if 0 ≤ a2 then (if a2 < (l1.length : Int) then ((spec_l6Has.f k ((rd_T92 l1 a2).f0) a4).bind fun t211 => (if t211 = true then (if a3 < ((rd_T92 l1 a2).f1) then (spec_l9Light.j0 k l0 l1 a2 a3 a4 t211 true) else ((spec_l6Has.f k ((rd_T92 l1 (Int.tmod (wrap64 (a2 + 1)) (l1.length : Int))).f0) a4).bind fun t213 => (spec_l9Light.j0 k l0 l1 a2 a3 a4 t211 t213))) else (spec_l9Light.j0 k l0 l1 a2 a3 a4 t211 false))) else (none)) else (none)) else (none)) else (none))
theorem spec_l9Light.mono_l : ∀ k, (∀ y0 y1 y2 y3 y4 y5 y6, LeO (spec_l9Light.j0 k y0 y1 y2 y3 y4 y5 y6) (spec_l9Light.j0 (k + 1) y0 y1 y2 y3 y4 y5 y6))
 | 0 => fun _ _ _ _ _ _ _ r h => by simp [spec_l9Light.j0] at h
 | k + 1 => by
  have ih0 := spec_l9Light.mono_l k
  ·
   intro y0 y1 y2 y3 y4 y5 y6
   unfold spec_l9Light.j0
   repeat' first | (with_reducible first | exact LeO.refl _ | exact LeO.none _ | refine LeO.ite ?_ ?_ | refine LeO.bind ?_ (fun _ => ?_) | exact ih0 _ _ _ _ _ _ _ | exact spec_FindPath.mono _ _ _ | exact spec_l6Has.mono _ _ _)
theorem spec_l9Light.mono : ∀ a0 a1 a2 a3 a4 k, LeO (spec_l9Light.f k a0 a1 a2 a3 a4) (spec_l9Light.f (k + 1) a0 a1 a2 a3 a4) := by
 intro a0 a1 a2 a3 a4 k
 have ih0 := spec_l9Light.mono_l k
 unfold spec_l9Light.f
 repeat' first | (with_reducible first | exact LeO.refl _ | exact LeO.none _ | refine LeO.ite ?_ ?_ | refine LeO.bind ?_ (fun _ => ?_) | exact ih0 _ _ _ _ _ _ _ | exact spec_FindPath.mono _ _ _ | exact spec_l6Has.mono _ _ _)
def spec_l9Light.T5 : Bool × List (List Nat × List Nat) := (true, [([], []), ([0], [0]), ([1], [1]), ([1], [1]), ([1], [1]), ([3, 4, 1], [1, 3, 4]), ([5, 1], [1, 5]), ([6, 1], [1, 6]), ([1], [1]), ([1], [1]), ([1], [1]), ([9, 10, 1, 1], [1, 9, 10]), ([8, 11, 1], [1, 8, 11]), ([12, 1], [1, 12]), ([13, 11, 1], [1, 13]), ([7, 14, 1], [1, 7, 14]), ([2, 15, 1], [1, 2, 15]), ([1, 16], [1, 16]), ([17, 14], [17])])
def spec_l9Light.B5 : List Nat := [0, 1, 3, 3, 3, 27, 59, 123, 3, 3, 3, 1539, 3843, 7939, 16131, 32763, 65535, 131071, 262143]
theorem spec_l9Light.tab5 : rtab .any (opsOf Try.f118 5) = spec_l9Light.T5 := by kernel_rfl
theorem spec_l9Light.bits5 : waitsOk spec_l9Light.T5.2 spec_l9Light.B5 = true := by kernel_rfl
set_option maxHeartbeats 8000000 in
set_option maxRecDepth 100000 in
theorem spec_l9Light.calls (k : Nat) (A0 : Option Addr) (c0 : Nat) (l0 : List (S89)) (A1 : Option Addr) (c1 : Nat) (l1 : List (S92)) (a2 : Int) (a3 : Int) (a4 : Int) (r : Int) (w : World) (hr0 : Kd.C k89 w A0 l0.length l0) (hc0 : l0.length ≤ c0) (hr1 : Kd.C k92 w A1 l1.length l1) (hc1 : l1.length ≤ c1) (h : spec_l9Light.f k l0 l1 a2 a3 a4 = some r) :
  Calls Try.prog 118 #[.slice A0 l0.length c0, .slice A1 l1.length c1, .int .i64 a2, .int .i64 a3, .int .i64 a4] w fun e w' => e = .returned (.int .i64 r) ∧ Below w.heap.size w w' := by
 have hu89 := Try.underlying89
 have HR0 := Aside0.mk hr0
 have HC0 := Aside0.mk hc0
 clear hr0 hc0
 have HR1 := Aside0.mk hr1
 have HC1 := Aside0.mk hc1
 clear hr1 hc1
 have HB := Aside0.mk (Below.refl w.heap.size w)
 have H : (if (l1.length : Int) = 0 then (none) else (if 0 ≤ (Int.tmod (wrap64 (a2 + 1)) (l1.length : Int)) then (if (Int.tmod (wrap64 (a2 + 1)) (l1.length : Int)) < (l1.length : Int) then (if 0 ≤ a2 then (if a2 < (l1.length : Int) then ((spec_l6Has.f k ((rd_T92 l1 a2).f0) a4).bind fun t211 => (if t211 = true then (if a3 < ((rd_T92 l1 a2).f1) then (spec_l9Light.j0 k l0 l1 a2 a3 a4 t211 true) else ((spec_l6Has.f k ((rd_T92 l1 (Int.tmod (wrap64 (a2 + 1)) (l1.length : Int))).f0) a4).bind fun t213 => (spec_l9Light.j0 k l0 l1 a2 a3 a4 t211 t213))) else (spec_l9Light.j0 k l0 l1 a2 a3 a4 t211 false))) else (none)) else (none)) else (none)) else (none))) = some r := h
 clear h
 have c6 : ¬ ((l1.length : Int) = 0) := ifN' H
 replace H := ifT' H
 have c6b0 : ((l1.length : Int) == 0) = false := beq_eq_false_iff_ne.mpr c6
 have c6b1 : ((l1.length : Int) != 0) = true := bne_iff_ne.mpr c6
 have c6b2 : ¬ (l1 = []) := fun h_ => c6 (by rw [h_]; rfl)
 obtain ⟨ji7, hji7⟩ : ∃ j_ : Int, (Int.tmod (wrap64 (a2 + 1)) (l1.length : Int)) = j_ := ⟨_, rfl⟩
 replace H : (if 0 ≤ (ji7) then (if (ji7) < (l1.length : Int) then (if 0 ≤ a2 then (if a2 < (l1.length : Int) then ((spec_l6Has.f k ((rd_T92 l1 a2).f0) a4).bind fun t211 => (if t211 = true then (if a3 < ((rd_T92 l1 a2).f1) then (spec_l9Light.j0 k l0 l1 a2 a3 a4 t211 true) else ((spec_l6Has.f k ((rd_T92 l1 (ji7)).f0) a4).bind fun t213 => (spec_l9Light.j0 k l0 l1 a2 a3 a4 t211 t213))) else (spec_l9Light.j0 k l0 l1 a2 a3 a4 t211 false))) else (none)) else (none)) else (none)) else (none)) = some r := by first | (rw [hji7] at H; exact H) | (simp only [hji7] at H ⊢; exact H)
 have c8 : 0 ≤ (ji7) := ifN H
 replace H := ifT H
 have c8b0 := decide_eq_true c8
 clear c8
 have c9 : (ji7) < (l1.length : Int) := ifN H
 replace H := ifT H
 have c9b0 := decide_eq_true c9
 clear c9
 have c10 : 0 ≤ a2 := ifN H
 replace H := ifT H
 have c10b0 := decide_eq_true c10
 clear c10
 have c11 : a2 < (l1.length : Int) := ifN H
 replace H := ifT H
 have c11b0 := decide_eq_true c11
 clear c11
 obtain ⟨t211, A12, H⟩ := bindE H
 try dsimp only at H
 have HC13 := Aside0.mk H
 clear H
 have p209 : 0 ≤ ((ji7) : Int) := dA
 have q209 : (ji7) < (l1.length : Int) := dA
 obtain ⟨ad209, A209_0, c209_0, e209, hx209_0, hx209_1, hl209_0, hi209_0⟩ := at_T92 HR1.out (ji7) p209 q209
 cases e209
 have HR209_0 := Aside0.mk hi209_0
 have HC209_0 := Aside0.mk hl209_0
 clear hi209_0 hl209_0
 replace p209 := eq_true p209
 replace q209 := eq_true q209
 have p210 : 0 ≤ (a2 : Int) := dA
 have q210 : a2 < (l1.length : Int) := dA
 obtain ⟨ad210, A210_0, c210_0, e210, hx210_0, hx210_1, hl210_0, hi210_0⟩ := at_T92 HR1.out a2 p210 q210
 obtain rfl : ad209 = ad210 := (by injection e210)
 have HR210_0 := Aside0.mk hi210_0
 have HC210_0 := Aside0.mk hl210_0
 clear hi210_0 hl210_0
 replace p210 := eq_true p210
 replace q210 := eq_true q210
 go_enter Try.func118, Try.ntmps118
 go_upto_region 3 with (first | ((with_reducible refine gate_callee (f := 101) rfl ?_); refine gL (some 28) Try.func101 #[.slice A210_0 ((rd_T92 l1 a2).f0).length c210_0, .int .i64 a4] ?_; (with_reducible refine (spec_l6Has.calls k _ _ ((rd_T92 l1 a2).f0) a4 t211 _ ?side1 ?side2 A12.out).mono ?_); (case side1 => exact cO HR210_0); (case side2 => exact HC210_0.out); rintro e w' ⟨rfl, ⟨nd, rfl⟩⟩; refine ⟨_, rfl, ?_⟩))
 (try simp only [Act.put, List.setIfInBounds_toArray, List.set_cons_zero, List.set_cons_succ])
 go_cut [29] (fun v29 wc => ∃ (kq : Nat) (x29_12 : Bool), v29 = .bool x29_12 ∧ Aside0 (spec_l9Light.j0 kq l0 l1 a2 a3 a4 t211 x29_12 = some r) ∧ Aside0 (kq ≤ k) ∧ Aside0 (Below w.heap.size w wc))
 case first =>
  have H := HC13.out
  clear HC13
  by_cases c14 : t211 = true
  ·
   subst c14
   have H1 : (if a3 < ((rd_T92 l1 a2).f1) then (spec_l9Light.j0 k l0 l1 a2 a3 a4 true true) else ((spec_l6Has.f k ((rd_T92 l1 (ji7)).f0) a4).bind fun t213 => (spec_l9Light.j0 k l0 l1 a2 a3 a4 true t213))) = some r := by rw [if_pos rfl] at H; exact H
   clear H
   have H := H1
   clear H1
   by_cases c15 : a3 < ((rd_T92 l1 a2).f1)
   ·
    rw [if_pos c15] at H
    have c15b0 := decide_eq_true c15
    clear c15
    (first | rw [c15b0] | (simp only [i64_w, i32_w]; rw [c15b0]) | skip)
    have H' := Aside0.mk H
    clear H
    have p212 : 0 ≤ (a2 : Int) := dA
    have q212 : a2 < (l1.length : Int) := dA
    obtain ⟨ad212, A212_0, c212_0, e212, hx212_0, hx212_1, hl212_0, hi212_0⟩ := at_T92 HR1.out a2 p212 q212
    obtain rfl : ad209 = ad212 := (by injection e212)
    replace hx212_0 := hC HB hx212_0
    replace hx212_1 := hC HB hx212_1
    have HR212_0 := Aside0.mk hi212_0
    have HC212_0 := Aside0.mk hl212_0
    clear hi212_0 hl212_0
    replace p212 := eq_true p212
    replace q212 := eq_true q212
    go_wp2
    go_meet
    case rel => exact ⟨_, (true), rS, H', ⟨by first | omega | exact Nat.le_refl _⟩, ⟨bA⟩⟩
   ·
    rw [if_neg c15] at H
    have c15b0 := decide_eq_false c15
    clear c15
    (first | rw [c15b0] | (simp only [i64_w, i32_w]; rw [c15b0]) | skip)
    obtain ⟨t213, A16, H⟩ := bindE H
    try dsimp only at H
    have H' := Aside0.mk H
    clear H
    have p212 : 0 ≤ (a2 : Int) := dA
    have q212 : a2 < (l1.length : Int) := dA
    obtain ⟨ad212, A212_0, c212_0, e212, hx212_0, hx212_1, hl212_0, hi212_0⟩ := at_T92 HR1.out a2 p212 q212
    obtain rfl : ad209 = ad212 := (by injection e212)
    replace hx212_0 := hC HB hx212_0
    replace hx212_1 := hC HB hx212_1
    have HR212_0 := Aside0.mk hi212_0
    have HC212_0 := Aside0.mk hl212_0
    clear hi212_0 hl212_0
    replace p212 := eq_true p212
    replace q212 := eq_true q212
    go_wp2_with (first | (go_at_call 101; (with_reducible refine (spec_l6Has.calls k _ _ ((rd_T92 l1 (ji7)).f0) a4 t213 _ ?side1 ?side2 A16.out).mono ?_); (case side1 => exact cB HR209_0); (case side2 => exact HC209_0.out); rintro e w' ⟨rfl, ⟨nd, rfl⟩⟩))
    go_meet
    case rel => exact ⟨_, (t213), rS, H', ⟨by first | omega | exact Nat.le_refl _⟩, ⟨bA⟩⟩
  ·
   replace c14 := Bool.eq_false_iff.mpr c14
   subst c14
   have H1 : (spec_l9Light.j0 k l0 l1 a2 a3 a4 false false) = some r := by rw [if_neg (show ¬ (false = true) by decide)] at H; exact H
   clear H
   have H := H1
   clear H1
   have H' := Aside0.mk H
   clear H
   go_wp2
   go_meet
   case rel => exact ⟨_, (false), rS, H', ⟨by first | omega | exact Nat.le_refl _⟩, ⟨bA⟩⟩
 case rest =>
  clear HC13
  try clear c1
  try clear c2
  try clear p2
  try clear q2
  try clear hx2
  try clear c6
  try clear c6b0
  try clear c6b1
  try clear c6b2
  try clear p6
  try clear c8
  try clear c8b0
  try clear c9
  try clear c9b0
  try clear c10
  try clear c10b0
  try clear c11
  try clear c11b0
  try clear c14
  try clear c15
  try clear c15b0
  try clear hx209_0
  try clear hx209_1
  try clear hx210_0
  try clear hx210_1
  try clear hx212_0
  try clear hx212_1
  try clear p209
  try clear p210
  try clear p212
  try clear q209
  try clear q210
  try clear q212
  obtain ⟨kq, x29_12, rfl, HA, HJ12, HB⟩ := hcut
  cases kq with
  | zero => exact absurd HA.out (by simp [spec_l9Light.j0])
  | succ kj12 =>
   have H := HA.out
   clear HA
   simp only [spec_l9Light.j0] at H
   by_cases c17 : x29_12 = true
   ·
    subst c17
    have H1 : (some 1) = some r := by rw [if_pos rfl] at H; exact H
    clear H
    have H := H1
    clear H1
    obtain rfl := Option.some.inj H
    go_wp2
    go_ret
    exact ⟨by first | rfl | (simp [errW_none, errW_some] <;> rfl) | (simp only [← hji7]; first | rfl | (simp [errW_none, errW_some] <;> rfl)) | (simp [*, errW_none, errW_some] <;> rfl), bA⟩
   ·
    replace c17 := Bool.eq_false_iff.mpr c17
    subst c17
    have H1 : (if t211 = true then (if 0 ≤ a2 then (if a2 < (l1.length : Int) then ((spec_FindPath.f kj12 l0 a4).bind fun t215 => (if 0 ≤ t215 then (if t215 < (l0.length : Int) then ((spec_ClearOf.f ((rd_T89 l0 t215).f0) ((rd_T89 l0 t215).f1) ((rd_T89 l0 t215).f2) ((rd_T89 l0 t215).f3)).bind fun t217 => (if a3 < (wrap64 (((rd_T92 l1 a2).f1) + t217)) then (some 2) else (some 0))) else (none)) else (none))) else (none)) else (none)) else (some 0)) = some r := by rw [if_neg (show ¬ (false = true) by decide)] at H; exact H
    clear H
    have H := H1
    clear H1
    by_cases c18 : t211 = true
    ·
     subst c18
     have H1 : (if 0 ≤ a2 then (if a2 < (l1.length : Int) then ((spec_FindPath.f kj12 l0 a4).bind fun t215 => (if 0 ≤ t215 then (if t215 < (l0.length : Int) then ((spec_ClearOf.f ((rd_T89 l0 t215).f0) ((rd_T89 l0 t215).f1) ((rd_T89 l0 t215).f2) ((rd_T89 l0 t215).f3)).bind fun t217 => (if a3 < (wrap64 (((rd_T92 l1 a2).f1) + t217)) then (some 2) else (some 0))) else (none)) else (none))) else (none)) else (none)) = some r := by rw [if_pos rfl] at H; exact H
     clear H
     have H := H1
     clear H1
     have c19 : 0 ≤ a2 := ifN H
     replace H := ifT H
     have c19b0 := decide_eq_true c19
     clear c19
     have c20 : a2 < (l1.length : Int) := ifN H
     replace H := ifT H
     have c20b0 := decide_eq_true c20
     clear c20
     obtain ⟨t215, A21, H⟩ := bindE H
     try dsimp only at H
     have c22 : 0 ≤ t215 := ifN H
     replace H := ifT H
     have c22b0 := decide_eq_true c22
     clear c22
     have c23 : t215 < (l0.length : Int) := ifN H
     replace H := ifT H
     have c23b0 := decide_eq_true c23
     clear c23
     obtain ⟨t217, A24, H⟩ := bindE H
     try dsimp only at H
     by_cases c25 : a3 < (wrap64 (((rd_T92 l1 a2).f1) + t217))
     ·
      rw [if_pos c25] at H
      have c25b0 := decide_eq_true c25
      clear c25
      obtain rfl := Option.some.inj H
      try go_wp2
      have HBo := HB
      replace HB := Aside0.mk (below_drew1 HB.out)
      have p214 : 0 ≤ (a2 : Int) := dA
      have q214 : a2 < (l1.length : Int) := dA
      obtain ⟨ad214, A214_0, c214_0, e214, hx214_0, hx214_1, hl214_0, hi214_0⟩ := at_T92 HR1.out a2 p214 q214
      have hw214_1 := hx214_1
      have hw214_0 := hx214_0
      obtain rfl : ad209 = ad214 := (by injection e214)
      replace hx214_0 := hC HB hx214_0
      replace hx214_1 := hC HB hx214_1
      have HR214_0 := Aside0.mk hi214_0
      have HC214_0 := Aside0.mk hl214_0
      clear hi214_0 hl214_0
      replace p214 := eq_true p214
      replace q214 := eq_true q214
      have p216 : 0 ≤ (t215 : Int) := dA
      have q216 : t215 < (l0.length : Int) := dA
      obtain ⟨ad216, e216, hx216_0, hx216_1, hx216_2, hx216_3⟩ := at_T89 HR0.out t215 p216 q216
      have hw216_3 := hx216_3
      have hw216_2 := hx216_2
      have hw216_1 := hx216_1
      have hw216_0 := hx216_0
      cases e216
      replace hx216_0 := hC HB hx216_0
      replace hx216_1 := hC HB hx216_1
      replace hx216_2 := hC HB hx216_2
      replace hx216_3 := hC HB hx216_3
      replace p216 := eq_true p216
      replace q216 := eq_true q216
      refine start_ (n := 19) (S := fun w' => w'.cell? (ad209.add ((a2).toNat * 2)) = some (.slice A214_0 ((rd_T92 l1 a2).f0).length c214_0) ∧ w'.cell? ⟨(ad209.add ((a2).toNat * 2)).block, (ad209.add ((a2).toNat * 2)).off + 1, none⟩ = some (.int .i64 ((rd_T92 l1 a2).f1)) ∧ w'.cell? (ad216.add ((t215).toNat * 4)) = some (.int .i64 ((rd_T89 l0 t215).f0)) ∧ w'.cell? ⟨(ad216.add ((t215).toNat * 4)).block, (ad216.add ((t215).toNat * 4)).off + 1, none⟩ = some (.int .i64 ((rd_T89 l0 t215).f1)) ∧ w'.cell? ⟨(ad216.add ((t215).toNat * 4)).block, (ad216.add ((t215).toNat * 4)).off + 2, none⟩ = some (.int .i64 ((rd_T89 l0 t215).f2)) ∧ w'.cell? ⟨(ad216.add ((t215).toNat * 4)).block, (ad216.add ((t215).toNat * 4)).off + 3, none⟩ = some (.int .i64 ((rd_T89 l0 t215).f3))) (ds := []) (mb 19 0) (by kernel_rfl) rfl rfl ⟨(hC HB hw214_0), (hC HB hw214_1), (hC HB hw216_0), (hC HB hw216_1), (hC HB hw216_2), (hC HB hw216_3)⟩ (fun hHeld => ?_); refine with_tabW spec_l9Light.tab5 spec_l9Light.bits5 (fun HT_ HW_ => ?_)
      generalize wc.drew = w26 at HB HR214_0 hx214_0 hx214_1 hx216_0 hx216_1 hx216_2 hx216_3 hHeld ⊢
      refine pA (i := 0) (N := some 46) (mb 19 1) HT_ ?_
      refine pA (i := 1) (N := some 47) (mb 19 3) HT_ ?_
      refine pA (i := 2) (N := some 48) (mb 19 7) HT_ ?_
      refine pA (i := 3) (N := some 49) (mb 19 15) HT_ ?_
      refine pA (i := 4) (N := some 50) (mb 19 31) HT_ ?_
      refine pA (i := 5) (N := some 51) (mb 19 63) HT_ ?_
      refine pA (i := 6) (N := some 52) (mb 19 127) HT_ ?_
      refine pA (i := 8) (N := some 54) (mb 19 383) HT_ ?_
      refine pA (i := 9) (N := some 55) (mb 19 895) HT_ ?_
      refine pA (i := 10) (N := some 56) (mb 19 1919) HT_ ?_
      refine tA6 (i := 7) (N := some 53) (mb 19 2047) HT_ HW_ hHeld ?_
      refine oA (i := 11) (N := some 57) (mb 19 4095) HT_ (fun K hK => ?_)
      refine gA Try.func116 #[.slice (some ad216) l0.length c0, .int .i64 a4] ?_
      with_reducible refine (spec_FindPath.calls kj12 _ _ l0 a4 t215 _ ?side1 ?side2 A21.out).mono ?_
      (case side1 => exact cB HR0)
      (case side2 => exact HC0.out)
      rintro e w' ⟨rfl, ⟨nd, rfl⟩⟩
      refine ⟨_, rfl, ?_⟩
      refine hK.out _ _ ⟨(hC HB hw214_0), (hC HB hw214_1), (hC HB hw216_0), (hC HB hw216_1), (hC HB hw216_2), (hC HB hw216_3)⟩ (fun hHeld => ?_)
      clear hK K
      refine nB ?_
      refine pA (i := 12) (N := some 58) (mb 19 8191) HT_ ?_
      refine tA6 (i := 13) (N := some 59) (mb 19 16383) HT_ HW_ hHeld ?_
      refine oA (i := 14) (N := some 60) (mb 19 32767) HT_ (fun K hK => ?_)
      refine gA Try.func132 #[.agg #[.int .i64 ((rd_T89 l0 t215).f0), .int .i64 ((rd_T89 l0 t215).f1), .int .i64 ((rd_T89 l0 t215).f2), .int .i64 ((rd_T89 l0 t215).f3)]] ?_
      with_reducible refine (spec_ClearOf.calls ((rd_T89 l0 t215).f0) ((rd_T89 l0 t215).f1) ((rd_T89 l0 t215).f2) ((rd_T89 l0 t215).f3) t217 _ A24.out).mono ?_
      rintro e w27 ⟨rfl, hb⟩
      refine ⟨_, rfl, ?_⟩
      replace HB := Aside0.mk (below_step bA hb)
      (try clear hb)
      (try clear hb2)
      (try clear hk)
      (try clear hi)
      refine hK.out _ _ ⟨(hC HB hw214_0), (hC HB hw214_1), (hC HB hw216_0), (hC HB hw216_1), (hC HB hw216_2), (hC HB hw216_3)⟩ (fun hHeld => ?_)
      clear hK K
      refine nB ?_
      refine pA (i := 15) (N := some 61) (mb 19 65535) HT_ ?_
      refine pA (i := 16) (N := some 62) (mb 19 131071) HT_ ?_
      refine pA (i := 17) (N := some 63) (mb 19 262143) HT_ ?_
      refine pA (i := 18) (N := some 45) (mb 19 524287) HT_ ?_
      refine eA HT_ ?_
      try go_wp2
      go_ret
      exact ⟨by first | rfl | (simp [errW_none, errW_some] <;> rfl) | (simp only [← hji7]; first | rfl | (simp [errW_none, errW_some] <;> rfl)) | (simp [*, errW_none, errW_some] <;> rfl), bA⟩
     ·
      rw [if_neg c25] at H
      have c25b0 := decide_eq_false c25
      clear c25
      obtain rfl := Option.some.inj H
      try go_wp2
      have HBo := HB
      replace HB := Aside0.mk (below_drew1 HB.out)
      have p214 : 0 ≤ (a2 : Int) := dA
      have q214 : a2 < (l1.length : Int) := dA
      obtain ⟨ad214, A214_0, c214_0, e214, hx214_0, hx214_1, hl214_0, hi214_0⟩ := at_T92 HR1.out a2 p214 q214
      have hw214_1 := hx214_1
      have hw214_0 := hx214_0
      obtain rfl : ad209 = ad214 := (by injection e214)
      replace hx214_0 := hC HB hx214_0
      replace hx214_1 := hC HB hx214_1
      have HR214_0 := Aside0.mk hi214_0
      have HC214_0 := Aside0.mk hl214_0
      clear hi214_0 hl214_0
      replace p214 := eq_true p214
      replace q214 := eq_true q214
      have p216 : 0 ≤ (t215 : Int) := dA
      have q216 : t215 < (l0.length : Int) := dA
      obtain ⟨ad216, e216, hx216_0, hx216_1, hx216_2, hx216_3⟩ := at_T89 HR0.out t215 p216 q216
      have hw216_3 := hx216_3
      have hw216_2 := hx216_2
      have hw216_1 := hx216_1
      have hw216_0 := hx216_0
      cases e216
      replace hx216_0 := hC HB hx216_0
      replace hx216_1 := hC HB hx216_1
      replace hx216_2 := hC HB hx216_2
      replace hx216_3 := hC HB hx216_3
      replace p216 := eq_true p216
      replace q216 := eq_true q216
      refine start_ (n := 19) (S := fun w' => w'.cell? (ad209.add ((a2).toNat * 2)) = some (.slice A214_0 ((rd_T92 l1 a2).f0).length c214_0) ∧ w'.cell? ⟨(ad209.add ((a2).toNat * 2)).block, (ad209.add ((a2).toNat * 2)).off + 1, none⟩ = some (.int .i64 ((rd_T92 l1 a2).f1)) ∧ w'.cell? (ad216.add ((t215).toNat * 4)) = some (.int .i64 ((rd_T89 l0 t215).f0)) ∧ w'.cell? ⟨(ad216.add ((t215).toNat * 4)).block, (ad216.add ((t215).toNat * 4)).off + 1, none⟩ = some (.int .i64 ((rd_T89 l0 t215).f1)) ∧ w'.cell? ⟨(ad216.add ((t215).toNat * 4)).block, (ad216.add ((t215).toNat * 4)).off + 2, none⟩ = some (.int .i64 ((rd_T89 l0 t215).f2)) ∧ w'.cell? ⟨(ad216.add ((t215).toNat * 4)).block, (ad216.add ((t215).toNat * 4)).off + 3, none⟩ = some (.int .i64 ((rd_T89 l0 t215).f3))) (ds := []) (mb 19 0) (by kernel_rfl) rfl rfl ⟨(hC HB hw214_0), (hC HB hw214_1), (hC HB hw216_0), (hC HB hw216_1), (hC HB hw216_2), (hC HB hw216_3)⟩ (fun hHeld => ?_); refine with_tabW spec_l9Light.tab5 spec_l9Light.bits5 (fun HT_ HW_ => ?_)
      generalize wc.drew = w28 at HB HR214_0 hx214_0 hx214_1 hx216_0 hx216_1 hx216_2 hx216_3 hHeld ⊢
      refine pA (i := 0) (N := some 46) (mb 19 1) HT_ ?_
      refine pA (i := 1) (N := some 47) (mb 19 3) HT_ ?_
      refine pA (i := 2) (N := some 48) (mb 19 7) HT_ ?_
      refine pA (i := 3) (N := some 49) (mb 19 15) HT_ ?_
      refine pA (i := 4) (N := some 50) (mb 19 31) HT_ ?_
      refine pA (i := 5) (N := some 51) (mb 19 63) HT_ ?_
      refine pA (i := 6) (N := some 52) (mb 19 127) HT_ ?_
      refine pA (i := 8) (N := some 54) (mb 19 383) HT_ ?_
      refine pA (i := 9) (N := some 55) (mb 19 895) HT_ ?_
      refine pA (i := 10) (N := some 56) (mb 19 1919) HT_ ?_
      refine tA6 (i := 7) (N := some 53) (mb 19 2047) HT_ HW_ hHeld ?_
      refine oA (i := 11) (N := some 57) (mb 19 4095) HT_ (fun K hK => ?_)
      refine gA Try.func116 #[.slice (some ad216) l0.length c0, .int .i64 a4] ?_
      with_reducible refine (spec_FindPath.calls kj12 _ _ l0 a4 t215 _ ?side1 ?side2 A21.out).mono ?_
      (case side1 => exact cB HR0)
      (case side2 => exact HC0.out)
      rintro e w' ⟨rfl, ⟨nd, rfl⟩⟩
      refine ⟨_, rfl, ?_⟩
      refine hK.out _ _ ⟨(hC HB hw214_0), (hC HB hw214_1), (hC HB hw216_0), (hC HB hw216_1), (hC HB hw216_2), (hC HB hw216_3)⟩ (fun hHeld => ?_)
      clear hK K
      refine nB ?_
      refine pA (i := 12) (N := some 58) (mb 19 8191) HT_ ?_
      refine tA6 (i := 13) (N := some 59) (mb 19 16383) HT_ HW_ hHeld ?_
      refine oA (i := 14) (N := some 60) (mb 19 32767) HT_ (fun K hK => ?_)
      refine gA Try.func132 #[.agg #[.int .i64 ((rd_T89 l0 t215).f0), .int .i64 ((rd_T89 l0 t215).f1), .int .i64 ((rd_T89 l0 t215).f2), .int .i64 ((rd_T89 l0 t215).f3)]] ?_
      with_reducible refine (spec_ClearOf.calls ((rd_T89 l0 t215).f0) ((rd_T89 l0 t215).f1) ((rd_T89 l0 t215).f2) ((rd_T89 l0 t215).f3) t217 _ A24.out).mono ?_
      rintro e w29 ⟨rfl, hb⟩
      refine ⟨_, rfl, ?_⟩
      replace HB := Aside0.mk (below_step bA hb)
      (try clear hb)
      (try clear hb2)
      (try clear hk)
      (try clear hi)
      refine hK.out _ _ ⟨(hC HB hw214_0), (hC HB hw214_1), (hC HB hw216_0), (hC HB hw216_1), (hC HB hw216_2), (hC HB hw216_3)⟩ (fun hHeld => ?_)
      clear hK K
      refine nB ?_
      refine pA (i := 15) (N := some 61) (mb 19 65535) HT_ ?_
      refine pA (i := 16) (N := some 62) (mb 19 131071) HT_ ?_
      refine pA (i := 17) (N := some 63) (mb 19 262143) HT_ ?_
      refine pA (i := 18) (N := some 45) (mb 19 524287) HT_ ?_
      refine eA HT_ ?_
      try go_wp2
      go_ret
      exact ⟨by first | rfl | (simp [errW_none, errW_some] <;> rfl) | (simp only [← hji7]; first | rfl | (simp [errW_none, errW_some] <;> rfl)) | (simp [*, errW_none, errW_some] <;> rfl), bA⟩
    ·
     replace c18 := Bool.eq_false_iff.mpr c18
     subst c18
     have H1 : (some 0) = some r := by rw [if_neg (show ¬ (false = true) by decide)] at H; exact H
     clear H
     have H := H1
     clear H1
     obtain rfl := Option.some.inj H
     try go_wp2
     have HBo := HB
     replace HB := Aside0.mk (below_drew1 HB.out)
     refine start_ (n := 19) (S := fun w' => True) (ds := []) (mb 19 0) (by kernel_rfl) rfl rfl trivial (fun hHeld => ?_); refine with_tabW spec_l9Light.tab5 spec_l9Light.bits5 (fun HT_ HW_ => ?_)
     generalize wc.drew = w30 at HB hHeld ⊢
     refine pA (i := 0) (N := some 46) (mb 19 1) HT_ ?_
     refine pA (i := 1) (N := some 47) (mb 19 3) HT_ ?_
     refine pU (i := 2) (N := some 48) (mb 19 7) HT_ ?_
     refine pU (i := 3) (N := some 49) (mb 19 15) HT_ ?_
     refine pU (i := 4) (N := some 50) (mb 19 31) HT_ ?_
     refine pU (i := 5) (N := some 51) (mb 19 63) HT_ ?_
     refine pU (i := 6) (N := some 52) (mb 19 127) HT_ ?_
     refine pU (i := 7) (N := some 53) (mb 19 255) HT_ ?_
     refine pU (i := 8) (N := some 54) (mb 19 511) HT_ ?_
     refine pU (i := 9) (N := some 55) (mb 19 1023) HT_ ?_
     refine pU (i := 10) (N := some 56) (mb 19 2047) HT_ ?_
     refine pU (i := 11) (N := some 57) (mb 19 4095) HT_ ?_
     refine pU (i := 12) (N := some 58) (mb 19 8191) HT_ ?_
     refine pU (i := 13) (N := some 59) (mb 19 16383) HT_ ?_
     refine pU (i := 14) (N := some 60) (mb 19 32767) HT_ ?_
     refine pU (i := 15) (N := some 61) (mb 19 65535) HT_ ?_
     refine pU (i := 16) (N := some 62) (mb 19 131071) HT_ ?_
     refine pA (i := 17) (N := some 63) (mb 19 262143) HT_ ?_
     refine pA (i := 18) (N := some 45) (mb 19 524287) HT_ ?_
     refine eA HT_ ?_
     try go_wp2
     go_ret
     exact ⟨by first | rfl | (simp [errW_none, errW_some] <;> rfl) | (simp only [← hji7]; first | rfl | (simp [errW_none, errW_some] <;> rfl)) | (simp [*, errW_none, errW_some] <;> rfl), bA⟩

/-! ### spec_l9Row: function 61 -/
mutual
def spec_l9Row.j0 : Nat → List (S89) → List (S92) → Int → List Int → Bool → Option (List Int)
 | 0, _, _, _, _, _ => none
 | k + 1, x0, x1, x2, x7, x20 => if x20 = true then (some x7) else (spec_l9Row.l0 k x0 x1 x2 x7 0)
def spec_l9Row.l0 : Nat → List (S89) → List (S92) → Int → List Int → Int → Option (List Int)
 | 0, _, _, _, _, _ => none
 | k + 1, x0, x1, x2, x7, x8 => if x8 < (x1.length : Int) then (spec_l9Row.l1 k x0 x1 x2 x7 x8 0) else (some x7)
def spec_l9Row.l1 : Nat → List (S89) → List (S92) → Int → List Int → Int → Int → Option (List Int)
 | 0, _, _, _, _, _, _ => none
 | k + 1, x0, x1, x2, x7, x8, x9 => (spec_l8Long.f k x0 x1 x8).bind fun t223 => (if x9 < t223 then ((spec_l9Light.f k x0 x1 x8 x9 x2).bind fun t224 => (if x7.length < 17592186044416 then (spec_l9Row.l1 k x0 x1 x2 (x7 ++ [t224]) x8 (wrap64 (x9 + 1))) else (none))) else (spec_l9Row.l0 k x0 x1 x2 x7 (wrap64 (x8 + 1))))
end
def spec_l9Row.f (k : Nat) (l0 : List (S89)) (l1 : List (S92)) (a2 : Int) : Option (List Int) := (some (([] : List Int) : List Int)).bind fun y218 => ((spec_IsPlan.f k l0 l1).bind fun t221 => (if t221 = true then ((spec_FindPath.f k l0 a2).bind fun t222 => (spec_l9Row.j0 k l0 l1 a2 y218 (decide (t222 < 0)))) else (spec_l9Row.j0 k l0 l1 a2 y218 true)))
theorem spec_l9Row.mono_l : ∀ k, (∀ y0 y1 y2 y3 y4, LeO (spec_l9Row.j0 k y0 y1 y2 y3 y4) (spec_l9Row.j0 (k + 1) y0 y1 y2 y3 y4)) ∧ (∀ y0 y1 y2 y3 y4, LeO (spec_l9Row.l0 k y0 y1 y2 y3 y4) (spec_l9Row.l0 (k + 1) y0 y1 y2 y3 y4)) ∧ (∀ y0 y1 y2 y3 y4 y5, LeO (spec_l9Row.l1 k y0 y1 y2 y3 y4 y5) (spec_l9Row.l1 (k + 1) y0 y1 y2 y3 y4 y5))
 | 0 => ⟨fun _ _ _ _ _ r h => by simp [spec_l9Row.j0] at h, fun _ _ _ _ _ r h => by simp [spec_l9Row.l0] at h, fun _ _ _ _ _ _ r h => by simp [spec_l9Row.l1] at h⟩
 | k + 1 => by
  obtain ⟨ih0, ih1, ih2⟩ := spec_l9Row.mono_l k
  refine ⟨?_, ?_, ?_⟩
  ·
   intro y0 y1 y2 y3 y4
   unfold spec_l9Row.j0
   repeat' first | (with_reducible first | exact LeO.refl _ | exact LeO.none _ | refine LeO.ite ?_ ?_ | refine LeO.bind ?_ (fun _ => ?_) | exact ih0 _ _ _ _ _ | exact ih1 _ _ _ _ _ | exact ih2 _ _ _ _ _ _ | exact spec_FindPath.mono _ _ _ | exact spec_IsPlan.mono _ _ _ | exact spec_l8Long.mono _ _ _ _ | exact spec_l9Light.mono _ _ _ _ _ _)
  ·
   intro y0 y1 y2 y3 y4
   unfold spec_l9Row.l0
   repeat' first | (with_reducible first | exact LeO.refl _ | exact LeO.none _ | refine LeO.ite ?_ ?_ | refine LeO.bind ?_ (fun _ => ?_) | exact ih0 _ _ _ _ _ | exact ih1 _ _ _ _ _ | exact ih2 _ _ _ _ _ _ | exact spec_FindPath.mono _ _ _ | exact spec_IsPlan.mono _ _ _ | exact spec_l8Long.mono _ _ _ _ | exact spec_l9Light.mono _ _ _ _ _ _)
  ·
   intro y0 y1 y2 y3 y4 y5
   unfold spec_l9Row.l1
   repeat' first | (with_reducible first | exact LeO.refl _ | exact LeO.none _ | refine LeO.ite ?_ ?_ | refine LeO.bind ?_ (fun _ => ?_) | exact ih0 _ _ _ _ _ | exact ih1 _ _ _ _ _ | exact ih2 _ _ _ _ _ _ | exact spec_FindPath.mono _ _ _ | exact spec_IsPlan.mono _ _ _ | exact spec_l8Long.mono _ _ _ _ | exact spec_l9Light.mono _ _ _ _ _ _)
theorem spec_l9Row.mono : ∀ a0 a1 a2 k, LeO (spec_l9Row.f k a0 a1 a2) (spec_l9Row.f (k + 1) a0 a1 a2) := by
 intro a0 a1 a2 k
 obtain ⟨ih0, ih1, ih2⟩ := spec_l9Row.mono_l k
 unfold spec_l9Row.f
 repeat' first | (with_reducible first | exact LeO.refl _ | exact LeO.none _ | refine LeO.ite ?_ ?_ | refine LeO.bind ?_ (fun _ => ?_) | exact ih0 _ _ _ _ _ | exact ih1 _ _ _ _ _ | exact ih2 _ _ _ _ _ _ | exact spec_FindPath.mono _ _ _ | exact spec_IsPlan.mono _ _ _ | exact spec_l8Long.mono _ _ _ _ | exact spec_l9Light.mono _ _ _ _ _ _)
set_option maxHeartbeats 8000000 in
set_option maxRecDepth 100000 in
theorem spec_l9Row.calls (k : Nat) (A0 : Option Addr) (c0 : Nat) (l0 : List (S89)) (A1 : Option Addr) (c1 : Nat) (l1 : List (S92)) (a2 : Int) (r : List Int) (w : World) (hr0 : Kd.C k89 w A0 l0.length l0) (hc0 : l0.length ≤ c0) (hr1 : Kd.C k92 w A1 l1.length l1) (hc1 : l1.length ≤ c1) (h : spec_l9Row.f k l0 l1 a2 = some r) :
  Calls Try.prog 61 #[.slice A0 l0.length c0, .slice A1 l1.length c1, .int .i64 a2] w fun e w' => ∃ v0_ : Value, e = .returned (v0_) ∧ Kd.R (Kd.int .i64) 3 w' w.heap.size (fun _ => True) v0_ r ∧ Below w.heap.size w w' := by
 have HR0 := Aside0.mk hr0
 have HC0 := Aside0.mk hc0
 clear hr0 hc0
 have HR1 := Aside0.mk hr1
 have HC1 := Aside0.mk hc1
 clear hr1 hc1
 have HB := Aside0.mk (Below.refl w.heap.size w)
 have H : ((some (([] : List Int) : List Int)).bind fun y218 => ((spec_IsPlan.f k l0 l1).bind fun t221 => (if t221 = true then ((spec_FindPath.f k l0 a2).bind fun t222 => (spec_l9Row.j0 k l0 l1 a2 y218 (decide (t222 < 0)))) else (spec_l9Row.j0 k l0 l1 a2 y218 true)))) = some r := h
 clear h
 obtain ⟨y218, hy218⟩ : ∃ y_ : List Int, y_ = (([] : List Int)) := ⟨_, rfl⟩
 replace H : ((spec_IsPlan.f k l0 l1).bind fun t221 => (if t221 = true then ((spec_FindPath.f k l0 a2).bind fun t222 => (spec_l9Row.j0 k l0 l1 a2 y218 (decide (t222 < 0)))) else (spec_l9Row.j0 k l0 l1 a2 y218 true))) = some r := by first | (rw [hy218]; with_reducible exact H) | (have H2_ := (Option.bind_some _ _).symm.trans H; rw [hy218]; with_reducible exact H2_) | (have H2_ := (Option.bind_some _ _).symm.trans H; with_reducible exact H2_) | with_reducible exact H | (rw [hy218]; exact H) | exact H
 have Ny218 := Aside0.mk hy218
 clear hy218
 have HC4 := Aside0.mk H
 clear H
 go_enter Try.func61, Try.ntmps61
 go_upto_region 2 with (first | ((with_reducible refine gate_dst (N := 10) rfl ?_); refine Kd.R_lit (Kd.int .i64) _ 3 ?hg (N := 10) ?hd (xs := ([] : List Int)) (inner := []) (ok := fun _ => True) (okp := fun _ => True) ?hr ?hp (fun _ hk => hk) trivial (Below.refl _ _) (Nat.le_refl _) (by simp) ?_; (case hd => rfl); (case hg => rfl); (case hr => first | (go_simp; done) | (go_simp; rfl)); (case hp => exact (Reps.none _ _)); intro v219 w5 ho6 hb hg_ hnew_; clear hg_ hnew_; (first | rw [← Ny218.out] at ho6 | (simp only [Int.reduceToNat] at ho6; rw [← Ny218.out] at ho6)); have HO220 := Aside0.mk (Kd.R_lower ho6 (below_size bA)); replace HB := Aside0.mk (below_step bA hb); clear hb ho6))
 (try simp only [Act.put, List.setIfInBounds_toArray, List.set_cons_zero, List.set_cons_succ])
 go_cut [20] (fun v20 wc => ∃ (kq : Nat) (x20_3 : Bool), v20 = .bool x20_3 ∧ Aside0 (spec_l9Row.j0 kq l0 l1 a2 y218 x20_3 = some r) ∧ Aside0 (kq ≤ k) ∧ Aside0 (Kd.R (Kd.int .i64) 3 wc w.heap.size (fun _ => True) v219 y218) ∧ Aside0 (Below w.heap.size w wc))
 case first =>
  have H := HC4.out
  clear HC4
  obtain ⟨t221, A7, H⟩ := bindE H
  try dsimp only at H
  by_cases c8 : t221 = true
  ·
   subst c8
   have H1 : ((spec_FindPath.f k l0 a2).bind fun t222 => (spec_l9Row.j0 k l0 l1 a2 y218 (decide (t222 < 0)))) = some r := by rw [if_pos rfl] at H; exact H
   clear H
   have H := H1
   clear H1
   obtain ⟨t222, A9, H⟩ := bindE H
   try dsimp only at H
   have H' := Aside0.mk H
   clear H
   go_wp2_with (first | ((with_reducible refine gate_callee (f := 75) rfl ?_); refine gL (some 13) Try.func75 #[.slice A0 l0.length c0, .slice A1 l1.length c1] ?_; (with_reducible refine (spec_IsPlan.calls k _ _ l0 _ _ l1 true _ ?side1 ?side2 ?side3 ?side4 A7.out).mono ?_); (case side1 => exact cB HR0); (case side2 => exact HC0.out); (case side3 => exact cB HR1); (case side4 => exact HC1.out); rintro e w10 ⟨rfl, hb⟩; refine ⟨_, rfl, ?_⟩; replace HO220 := Aside0.mk (Kd.R_below (rK HO220) hb); replace HB := Aside0.mk (below_step bA hb); (try clear hb)) | (go_at_call 116; (with_reducible refine (spec_FindPath.calls k _ _ l0 a2 t222 _ ?side1 ?side2 A9.out).mono ?_); (case side1 => exact cB HR0); (case side2 => exact HC0.out); rintro e w' ⟨rfl, ⟨nd, rfl⟩⟩))
   go_meet
   case rel => exact ⟨_, (decide (t222 < 0)), rS, H', ⟨by first | omega | exact Nat.le_refl _⟩, ⟨rK HO220⟩, ⟨bA⟩⟩
  ·
   replace c8 := Bool.eq_false_iff.mpr c8
   subst c8
   have H1 : (spec_l9Row.j0 k l0 l1 a2 y218 true) = some r := by rw [if_neg (show ¬ (false = true) by decide)] at H; exact H
   clear H
   have H := H1
   clear H1
   have H' := Aside0.mk H
   clear H
   go_wp2_with (first | ((with_reducible refine gate_callee (f := 75) rfl ?_); refine gL (some 13) Try.func75 #[.slice A0 l0.length c0, .slice A1 l1.length c1] ?_; (with_reducible refine (spec_IsPlan.calls k _ _ l0 _ _ l1 false _ ?side1 ?side2 ?side3 ?side4 A7.out).mono ?_); (case side1 => exact cB HR0); (case side2 => exact HC0.out); (case side3 => exact cB HR1); (case side4 => exact HC1.out); rintro e w11 ⟨rfl, hb⟩; refine ⟨_, rfl, ?_⟩; replace HO220 := Aside0.mk (Kd.R_below (rK HO220) hb); replace HB := Aside0.mk (below_step bA hb); (try clear hb)))
   go_meet
   case rel => exact ⟨_, (true), rS, H', ⟨by first | omega | exact Nat.le_refl _⟩, ⟨rK HO220⟩, ⟨bA⟩⟩
 case rest =>
  clear HC4
  try clear c1
  try clear p2
  try clear c6
  try clear c7
  try clear c8
  obtain ⟨kq, x20_3, rfl, HA, HJ3, HO_7, HB⟩ := hcut
  cases kq with
  | zero => exact absurd HA.out (by simp [spec_l9Row.j0])
  | succ kj3 =>
   have H := HA.out
   clear HA
   simp only [spec_l9Row.j0] at H
   by_cases c12 : x20_3 = true
   ·
    subst c12
    have H1 : (some y218) = some r := by rw [if_pos rfl] at H; exact H
    clear H
    have H := H1
    clear H1
    obtain rfl := Option.some.inj H
    go_wp2
    go_ret
    exact ⟨_, by first | rfl | (simp [errW_none, errW_some] <;> rfl) | (simp [*, errW_none, errW_some] <;> rfl), by (with_reducible repeat (first | apply Kd.R_alloc | apply Kd.R_drewN | apply Kd.R_drew)); exact HO_7.out, bA⟩
   ·
    replace c12 := Bool.eq_false_iff.mpr c12
    subst c12
    have H1 : (spec_l9Row.l0 kj3 l0 l1 a2 y218 0) = some r := by rw [if_neg (show ¬ (false = true) by decide)] at H; exact H
    clear H
    have H := H1
    clear H1
    have H' := Aside0.mk H
    clear H
    go_wp2
    go_loopg [7, 8] kj3 (fun kq v7 v8 w' => ∃ (x7_2 : List Int) (x8_2 : Int), v8 = .int .i64 x8_2 ∧ Aside0 (spec_l9Row.l0 kq l0 l1 a2 x7_2 x8_2 = some r) ∧ Aside0 (kq ≤ kj3) ∧ Aside0 (Kd.R (Kd.int .i64) 3 w' w.heap.size (fun _ => True) v7 x7_2) ∧ Aside0 (Below w.heap.size w w'))
    case atStart => exact ⟨(y218), (0), rS, H', ⟨Nat.le_refl _⟩, ⟨rK HO_7⟩, ⟨bA⟩⟩
    case round =>
     clear H'
     try clear c1
     try clear p2
     try clear c6
     try clear c7
     try clear c8
     try clear c12
     try clear p2
     obtain ⟨x7_2, x8_2, rfl, HA, HK2, HO_7, HB⟩ := hrel
     cases gk with
     | zero => exact absurd HA.out (by simp [spec_l9Row.l0])
     | succ k2 =>
      have H := HA.out
      clear HA
      simp only [spec_l9Row.l0] at H
      by_cases c13 : x8_2 < (l1.length : Int)
      ·
       rw [if_pos c13] at H
       have c13b0 := decide_eq_true c13
       clear c13
       have H' := Aside0.mk H
       clear H
       go_wp2
       go_loopg [7, 9] k2 (fun kq v7 v9 w' => ∃ (x7_3 : List Int) (x9_3 : Int), v9 = .int .i64 x9_3 ∧ Aside0 (spec_l9Row.l1 kq l0 l1 a2 x7_3 x8_2 x9_3 = some r) ∧ Aside0 (kq ≤ k2) ∧ Aside0 (Kd.R (Kd.int .i64) 3 w' w.heap.size (fun _ => True) v7 x7_3) ∧ Aside0 (Below w.heap.size w w'))
       case atStart => exact ⟨(x7_2), (0), rS, H', ⟨Nat.le_refl _⟩, ⟨rK HO_7⟩, ⟨bA⟩⟩
       case round =>
        clear H'
        try clear c1
        try clear p2
        try clear c6
        try clear c7
        try clear c8
        try clear c12
        try clear c13
        try clear c13b0
        try clear p2
        obtain ⟨x7_3, x9_3, rfl, HA, HK3, HO_7, HB⟩ := hrel
        cases gk with
        | zero => exact absurd HA.out (by simp [spec_l9Row.l1])
        | succ k3 =>
         have H := HA.out
         clear HA
         simp only [spec_l9Row.l1] at H
         obtain ⟨t223, A14, H⟩ := bindE H
         try dsimp only at H
         by_cases c15 : x9_3 < t223
         ·
          rw [if_pos c15] at H
          have c15b0 := decide_eq_true c15
          clear c15
          obtain ⟨t224, A16, H⟩ := bindE H
          try dsimp only at H
          have c17 : x7_3.length < 17592186044416 := ifN H
          replace H := ifT H
          have LMc17 := Aside0.mk c17
          clear c17
          obtain ⟨y225, hy225⟩ : ∃ y_ : List Int, y_ = (x7_3 ++ [t224]) := ⟨_, rfl⟩
          replace H : (spec_l9Row.l1 k3 l0 l1 a2 y225 x8_2 (wrap64 (x9_3 + 1))) = some r := by first | (rw [hy225]; with_reducible exact H) | (have H2_ := (Option.bind_some _ _).symm.trans H; rw [hy225]; with_reducible exact H2_) | (have H2_ := (Option.bind_some _ _).symm.trans H; with_reducible exact H2_) | with_reducible exact H | (rw [hy225]; exact H) | exact H
          have Ny225 := Aside0.mk hy225
          clear hy225
          have H' := Aside0.mk H
          clear H
          go_wp2_with (first | ((with_reducible refine gate_callee (f := 117) rfl ?_); refine gL (some 32) Try.func117 #[.slice A0 l0.length c0, .slice A1 l1.length c1, .int .i64 x8_2] ?_; (with_reducible refine (spec_l8Long.calls k3 _ _ l0 _ _ l1 x8_2 t223 _ ?side1 ?side2 ?side3 ?side4 A14.out).mono ?_); (case side1 => exact cB HR0); (case side2 => exact HC0.out); (case side3 => exact cB HR1); (case side4 => exact HC1.out); rintro e w18 ⟨rfl, hb⟩; refine ⟨_, rfl, ?_⟩; replace HO_7 := Aside0.mk (Kd.R_below (rK HO_7) hb); replace HB := Aside0.mk (below_step bA hb); (try clear hb)) | ((with_reducible refine gate_callee (f := 118) rfl ?_); refine gL (some 42) Try.func118 #[.slice A0 l0.length c0, .slice A1 l1.length c1, .int .i64 x8_2, .int .i64 x9_3, .int .i64 a2] ?_; (with_reducible refine (spec_l9Light.calls k3 _ _ l0 _ _ l1 x8_2 x9_3 a2 t224 _ ?side1 ?side2 ?side3 ?side4 A16.out).mono ?_); (case side1 => exact cB HR0); (case side2 => exact HC0.out); (case side3 => exact cB HR1); (case side4 => exact HC1.out); rintro e w19 ⟨rfl, hb⟩; refine ⟨_, rfl, ?_⟩; replace HO_7 := Aside0.mk (Kd.R_below (rK HO_7) hb); replace HB := Aside0.mk (below_step bA hb); (try clear hb)) | ((with_reducible refine gate_builtin (b := .append) (xs := #[.tmp 36, .tmp 43]) rfl ?_); at_builtin; refine Kd.R_append (Kd.int .i64) (w0 := w) w.heap.size rfl (.tmp 36) (.tmp 43) 41 3 (.int .i64 0) 8 rfl Try.underlying41 info3 rfl (by decide) (by omega) u7 x7_3 t224 [.int .i64 t224] (fun _ => True) (fun _ => False) rfl rfl ?aP (fun _ hk => hk.elim) ?aF ?aO ?aB ?aS ?aL ?_; (case aP => exact rfl); (case aB => exact bA); (case aF => exact (fun _ _ => trivial)); (case aO => exact (rK HO_7)); (case aS => exact (below_size bA)); (case aL => have := LMc17.out; omega); intro v226 w20 ho hb hg hat; rw [← Ny225.out] at ho; have n0_ := Aside0.mk (hb); have n1_ := Aside0.mk (ho); clear HB; clear HO_7; have HB := n0_; have HO227 := n1_; clear n0_ n1_; clear ho hb hg hat))
          go_roundg k3
          case measure => have := HJ3.out; have := HK2.out; have := HK3.out; omega
          case rel => exact ⟨(y225), (wrap64 (x9_3 + 1)), rS, H', ⟨by have := HJ3.out; have := HK2.out; have := HK3.out; omega⟩, ⟨rK HO227⟩, ⟨bA⟩⟩
         ·
          rw [if_neg c15] at H
          have c15b0 := decide_eq_false c15
          clear c15
          have H' := Aside0.mk H
          clear H
          go_wp2_with (first | ((with_reducible refine gate_callee (f := 117) rfl ?_); refine gL (some 32) Try.func117 #[.slice A0 l0.length c0, .slice A1 l1.length c1, .int .i64 x8_2] ?_; (with_reducible refine (spec_l8Long.calls k3 _ _ l0 _ _ l1 x8_2 t223 _ ?side1 ?side2 ?side3 ?side4 A14.out).mono ?_); (case side1 => exact cB HR0); (case side2 => exact HC0.out); (case side3 => exact cB HR1); (case side4 => exact HC1.out); rintro e w21 ⟨rfl, hb⟩; refine ⟨_, rfl, ?_⟩; replace HO_7 := Aside0.mk (Kd.R_below (rK HO_7) hb); replace HB := Aside0.mk (below_step bA hb); (try clear hb)))
          go_roundg k3
          case measure => have := HJ3.out; have := HK2.out; have := HK3.out; omega
          case rel => exact ⟨(x7_3), (wrap64 (x8_2 + 1)), rS, H', ⟨by have := HJ3.out; have := HK2.out; have := HK3.out; omega⟩, ⟨rK HO_7⟩, ⟨bA⟩⟩
      ·
       rw [if_neg c13] at H
       have c13b0 := decide_eq_false c13
       clear c13
       obtain rfl := Option.some.inj H
       go_wp2
       go_ret
       exact ⟨_, by first | rfl | (simp [errW_none, errW_some] <;> rfl) | (simp [*, errW_none, errW_some] <;> rfl), by (with_reducible repeat (first | apply Kd.R_alloc | apply Kd.R_drewN | apply Kd.R_drew)); exact HO_7.out, bA⟩

/-! ### laws_toPath: function 63 -/
def laws_toPath.f (a0_0 : Int) (a0_1 : Int) (a0_2 : Int) (a0_3 : Int) : Option (Int × Int × Int × Int) := some (a0_0, a0_1, a0_2, a0_3)
set_option maxHeartbeats 8000000 in
set_option maxRecDepth 100000 in
theorem laws_toPath.calls (a0_0 : Int) (a0_1 : Int) (a0_2 : Int) (a0_3 : Int) (r1 : Int) (r2 : Int) (r3 : Int) (r4 : Int) (w : World) (h : laws_toPath.f a0_0 a0_1 a0_2 a0_3 = some (r1, r2, r3, r4)) :
  Calls Try.prog 63 #[.agg #[.int .i64 a0_0, .int .i64 a0_1, .int .i64 a0_2, .int .i64 a0_3]] w fun e w' => e = .returned (.agg #[.int .i64 r1, .int .i64 r2, .int .i64 r3, .int .i64 r4]) ∧ Below w.heap.size w w' := by
 have hu91 := Try.underlying91
 have hu89 := Try.underlying89
 have HB := Aside0.mk (Below.refl w.heap.size w)
 have H : (some (a0_0, a0_1, a0_2, a0_3)) = some (r1, r2, r3, r4) := h
 clear h
 simp only [Option.some.injEq, Prod.mk.injEq] at H
 obtain ⟨rfl, rfl, rfl, rfl⟩ := H
 go_enter Try.func63, Try.ntmps63
 go_wp2_with (first | ((with_reducible refine gate_dst (N := 1) rfl ?_); refine bE (N := 1) (cs := #[.int .i64 a0_0, .int .i64 a0_1, .int .i64 a0_2, .int .i64 a0_3]) (t := 91) ?_; intro gb240 hg w2 hbox hb; have n0_ := Aside0.mk (below_step bA hb); have n1_ := Aside0.mk (hbox); have n2_ := Aside0.mk ((by rw [hg]; exact (below_size bA) : w.heap.size ≤ gb240)); have n3_ := Aside0.mk ((by rw [hg]; exact (below_size bA) : w.heap.size ≤ gb240)); clear HB; have HB := n0_; have BK240 := n1_; have GW240 := n2_; have GE240 := n3_; clear n0_ n1_ n2_ n3_; clear hb hbox hg) | ((with_reducible refine gate_dst (N := 2) rfl ?_); refine bE (N := 2) (cs := #[.int .i64 0, .int .i64 0, .int .i64 0, .int .i64 0]) (t := 89) ?_; intro gb241 hg w3 hbox hb; have n0_ := Aside0.mk (blk_below (g := gb240) (bK BK240) hb); have n1_ := Aside0.mk (below_step bG hb); have n2_ := Aside0.mk (hbox); have n3_ := Aside0.mk ((by rw [hg]; exact (below_size bG) : w.heap.size ≤ gb241)); have n4_ := Aside0.mk ((by rw [hg]; exact (below_size bG) : w.heap.size ≤ gb241)); have n5_ := Aside0.mk ((by rw [hg]; exact Nat.ne_of_lt (blk_lt (g := gb240) (o := .cells #[.int .i64 a0_0, .int .i64 a0_1, .int .i64 a0_2, .int .i64 a0_3] 91 (0, 0)) (bK BK240)) : gb240 ≠ gb241)); have n6_ := Aside0.mk ((by rw [hg]; exact Nat.ne_of_gt (blk_lt (g := gb240) (o := .cells #[.int .i64 a0_0, .int .i64 a0_1, .int .i64 a0_2, .int .i64 a0_3] 91 (0, 0)) (bK BK240)) : gb241 ≠ gb240)); clear BK240; clear HB; have BK240 := n0_; have HB := n1_; have BK241 := n2_; have GW241 := n3_; have GE241 := n4_; have NB240_241 := n5_; have NB241_240 := n6_; clear n0_ n1_ n2_ n3_ n4_ n5_ n6_; clear hb hbox hg) | ((with_reducible refine gate_dst (N := 3) rfl ?_); refine bE (N := 3) (cs := #[.int .i64 0, .int .i64 0, .int .i64 0, .int .i64 0]) (t := 89) ?_; intro gb242 hg w4 hbox hb; have n0_ := Aside0.mk (blk_below (g := gb240) (bK BK240) hb); have n1_ := Aside0.mk (blk_below (g := gb241) (bK BK241) hb); have n2_ := Aside0.mk (below_step bG hb); have n3_ := Aside0.mk (hbox); have n4_ := Aside0.mk ((by rw [hg]; exact (below_size bG) : w.heap.size ≤ gb242)); have n5_ := Aside0.mk ((by rw [hg]; exact (below_size bG) : w.heap.size ≤ gb242)); have n6_ := Aside0.mk ((by rw [hg]; exact Nat.ne_of_lt (blk_lt (g := gb240) (o := .cells #[.int .i64 a0_0, .int .i64 a0_1, .int .i64 a0_2, .int .i64 a0_3] 91 (0, 0)) (bK BK240)) : gb240 ≠ gb242)); have n7_ := Aside0.mk ((by rw [hg]; exact Nat.ne_of_gt (blk_lt (g := gb240) (o := .cells #[.int .i64 a0_0, .int .i64 a0_1, .int .i64 a0_2, .int .i64 a0_3] 91 (0, 0)) (bK BK240)) : gb242 ≠ gb240)); have n8_ := Aside0.mk ((by rw [hg]; exact Nat.ne_of_lt (blk_lt (g := gb241) (o := .cells #[.int .i64 0, .int .i64 0, .int .i64 0, .int .i64 0] 89 (0, 0)) (bK BK241)) : gb241 ≠ gb242)); have n9_ := Aside0.mk ((by rw [hg]; exact Nat.ne_of_gt (blk_lt (g := gb241) (o := .cells #[.int .i64 0, .int .i64 0, .int .i64 0, .int .i64 0] 89 (0, 0)) (bK BK241)) : gb242 ≠ gb241)); clear BK240; clear BK241; clear HB; have BK240 := n0_; have BK241 := n1_; have HB := n2_; have BK242 := n3_; have GW242 := n4_; have GE242 := n5_; have NB240_242 := n6_; have NB242_240 := n7_; have NB241_242 := n8_; have NB242_241 := n9_; clear n0_ n1_ n2_ n3_ n4_ n5_ n6_ n7_ n8_ n9_; clear hb hbox hg; have hnb5 := NB240_241.out; have hnc5 := NB241_240.out; have hnb6 := NB240_242.out; have hnc6 := NB242_240.out; obtain ⟨hcz7_0, hcz7_1, hcz7_2, hcz7_3, hfz7_0, hfz7_1, hfz7_2, hfz7_3⟩ := blkc4 BK240; have hnb8 := NB242_241.out; have hnc8 := NB241_242.out; obtain ⟨hcz9_0, hcz9_1, hcz9_2, hcz9_3, hfz9_0, hfz9_1, hfz9_2, hfz9_3⟩ := blkc4 BK242; obtain ⟨hcz10_0, hcz10_1, hcz10_2, hcz10_3, hfz10_0, hfz10_1, hfz10_2, hfz10_3⟩ := blkc4 BK241))
 refine bodyPost_ret (results_cell_row rfl _ _ gb241 89 #[.int .i64 a0_0, .int .i64 a0_1, .int .i64 a0_2, .int .i64 a0_3] (0, 0) _ rfl (by (with_reducible repeat (first | refine blk_drewN ?_ _ | refine blk_drew ?_ | refine blk_alloc ?_ _)); refine blk_put (cs := #[.int .i64 a0_0, .int .i64 a0_1, .int .i64 a0_2, .int .i64 0]) ?_ 3 _ rfl; (with_reducible repeat (first | refine blk_drewN ?_ _ | refine blk_drew ?_ | refine blk_alloc ?_ _)); refine blk_put (cs := #[.int .i64 a0_0, .int .i64 a0_1, .int .i64 0, .int .i64 0]) ?_ 2 _ rfl; (with_reducible repeat (first | refine blk_drewN ?_ _ | refine blk_drew ?_ | refine blk_alloc ?_ _)); refine blk_put (cs := #[.int .i64 a0_0, .int .i64 0, .int .i64 0, .int .i64 0]) ?_ 1 _ rfl; (with_reducible repeat (first | refine blk_drewN ?_ _ | refine blk_drew ?_ | refine blk_alloc ?_ _)); refine blk_put (cs := #[.int .i64 0, .int .i64 0, .int .i64 0, .int .i64 0]) ?_ 0 _ rfl; (with_reducible repeat (first | refine blk_drewN ?_ _ | refine blk_drew ?_ | refine blk_alloc ?_ _)); refine blk_far ?_ NB241_242.out _; (with_reducible repeat (first | refine blk_drewN ?_ _ | refine blk_drew ?_ | refine blk_alloc ?_ _)); refine blk_far ?_ NB241_242.out _; (with_reducible repeat (first | refine blk_drewN ?_ _ | refine blk_drew ?_ | refine blk_alloc ?_ _)); refine blk_far ?_ NB241_242.out _; (with_reducible repeat (first | refine blk_drewN ?_ _ | refine blk_drew ?_ | refine blk_alloc ?_ _)); refine blk_far ?_ NB241_242.out _; (with_reducible repeat (first | refine blk_drewN ?_ _ | refine blk_drew ?_ | refine blk_alloc ?_ _)); exact BK241.out) Try.underlying89 rfl (by kernel_rfl)) rfl ?_
 exact ⟨rA, bG⟩

/-! ### laws_toPathS: function 14 -/
def laws_toPathS.l0 : Nat → List (S91) → List (S89) → Int → Option ((List (S89)))
 | 0, _, _, _ => none
 | k + 1, x0, x3, x4 => if x4 < (x0.length : Int) then (if 0 ≤ x4 then ((laws_toPath.f ((rd_T91 x0 x4).f0) ((rd_T91 x0 x4).f1) ((rd_T91 x0 x4).f2) ((rd_T91 x0 x4).f3)).bind fun bt247 => (if x4 < (x3.length : Int) then (laws_toPathS.l0 k x0 (x3.set (x4 : Int).toNat (⟨bt247.1, bt247.2.1, bt247.2.2.1, bt247.2.2.2⟩ : S89)) (wrap64 (x4 + 1))) else (none))) else (none)) else (some x3)
def laws_toPathS.f (k : Nat) (l0 : List (S91)) : Option ((List (S89))) := if 0 ≤ (l0.length : Int) then (if ((l0.length : Int) : Int).toNat ≤ 8796093022208 then (laws_toPathS.l0 k l0 (List.replicate ((l0.length : Int) : Int).toNat z89) 0) else (none)) else (none)
theorem laws_toPathS.mono_l : ∀ k, (∀ y0 y1 y2, LeO (laws_toPathS.l0 k y0 y1 y2) (laws_toPathS.l0 (k + 1) y0 y1 y2))
 | 0 => fun _ _ _ r h => by simp [laws_toPathS.l0] at h
 | k + 1 => by
  have ih0 := laws_toPathS.mono_l k
  ·
   intro y0 y1 y2
   unfold laws_toPathS.l0
   repeat' first | (with_reducible first | exact LeO.refl _ | exact LeO.none _ | refine LeO.ite ?_ ?_ | refine LeO.bind ?_ (fun _ => ?_) | exact ih0 _ _ _)
theorem laws_toPathS.mono : ∀ a0 k, LeO (laws_toPathS.f k a0) (laws_toPathS.f (k + 1) a0) := by
 intro a0 k
 have ih0 := laws_toPathS.mono_l k
 unfold laws_toPathS.f
 repeat' first | (with_reducible first | exact LeO.refl _ | exact LeO.none _ | refine LeO.ite ?_ ?_ | refine LeO.bind ?_ (fun _ => ?_) | exact ih0 _ _ _)
set_option maxHeartbeats 8000000 in
set_option maxRecDepth 100000 in
theorem laws_toPathS.calls (k : Nat) (A0 : Option Addr) (c0 : Nat) (l0 : List (S91)) (r : List (S89)) (w : World) (hr0 : Kd.C k91 w A0 l0.length l0) (hc0 : l0.length ≤ c0) (h : laws_toPathS.f k l0 = some r) :
  Calls Try.prog 14 #[.slice A0 l0.length c0] w fun e w' => ∃ v0_ : Value, e = .returned (v0_) ∧ Kd.R k89 89 w' w.heap.size (fun _ => True) v0_ r ∧ Below w.heap.size w w' := by
 have hu91 := Try.underlying91
 have hu89 := Try.underlying89
 have HR0 := Aside0.mk hr0
 have HC0 := Aside0.mk hc0
 clear hr0 hc0
 have HB := Aside0.mk (Below.refl w.heap.size w)
 have H : (if 0 ≤ (l0.length : Int) then (if ((l0.length : Int) : Int).toNat ≤ 8796093022208 then (laws_toPathS.l0 k l0 (List.replicate ((l0.length : Int) : Int).toNat z89) 0) else (none)) else (none)) = some r := h
 clear h
 have c2 : 0 ≤ (l0.length : Int) := ifN H
 replace H := ifT H
 have c2b0 := eq_true c2
 have c2b1 := decide_eq_true c2
 clear c2
 have c3 : ((l0.length : Int) : Int).toNat ≤ 8796093022208 := ifN H
 replace H := ifT H
 have c3b0 := eq_true c3
 have c3b1 := decide_eq_true c3
 clear c3
 obtain ⟨y243, hy243⟩ : ∃ y_ : List (S89), y_ = (List.replicate ((l0.length : Int) : Int).toNat z89) := ⟨_, rfl⟩
 replace H : (laws_toPathS.l0 k l0 y243 0) = some r := by first | (rw [hy243]; with_reducible exact H) | (have H2_ := (Option.bind_some _ _).symm.trans H; rw [hy243]; with_reducible exact H2_) | (have H2_ := (Option.bind_some _ _).symm.trans H; with_reducible exact H2_) | with_reducible exact H | (rw [hy243]; exact H) | exact H
 have Ny243 := Aside0.mk hy243
 clear hy243
 have H' := Aside0.mk H
 clear H
 go_enter Try.func14, Try.ntmps14
 go_wp2_with (first | ((with_reducible refine gate_dst (N := 7) rfl ?_); refine Kd.R_make k89 _ 89 rfl (N := 7) rfl 28 _ _ rfl (l0.length : Int) rfl rfl Try.underlying28 (.agg #[(.int .i64 0), (.int .i64 0), (.int .i64 0), (.int .i64 0)]) 32 info89 rfl (by decide) (by omega) z89 (ok := fun _ => True) (okp := fun _ => True) (k89_mkM _ _ _ z89 ) (fun _ hk => hk) trivial (dA) (Nat.le_trans (Nat.mul_le_mul_right _ (dA : (l0.length : Int).toNat ≤ 8796093022208)) (by omega)) (Below.refl _ _) (Nat.le_refl _) ?_; intro v244 w4 ho5 hb hg_ hnew_; clear hg_ hnew_; (first | rw [← Ny243.out] at ho5 | (simp only [Int.reduceToNat] at ho5; rw [← Ny243.out] at ho5)); have HO245 := Aside0.mk (Kd.R_lower ho5 (below_size bA)); replace HB := Aside0.mk (below_step bA hb); clear hb ho5))
 go_loopg [4] k (fun kq v4 w' => ∃ (x3_1 : List (S89)) (x4_1 : Int), v4 = .int .i64 x4_1 ∧ Aside0 (laws_toPathS.l0 kq l0 x3_1 x4_1 = some r) ∧ Aside0 (kq ≤ k) ∧ Aside0 (Kd.R k89 89 w' w.heap.size (fun _ => True) v244 x3_1) ∧ Aside0 (Below w.heap.size w w'))
 case atStart => exact ⟨(y243), (0), rS, H', ⟨Nat.le_refl _⟩, ⟨rK HO245⟩, ⟨bA⟩⟩
 case round =>
  clear H'
  try clear c1
  try clear c2
  try clear c2b0
  try clear c2b1
  try clear p2
  try clear c3
  try clear c3b0
  try clear c3b1
  obtain ⟨x3_1, x4_1, rfl, HA, HK1, HO_3, HB⟩ := hrel
  cases gk with
  | zero => exact absurd HA.out (by simp [laws_toPathS.l0])
  | succ k1 =>
   have H := HA.out
   clear HA
   simp only [laws_toPathS.l0] at H
   by_cases c6 : x4_1 < (l0.length : Int)
   ·
    rw [if_pos c6] at H
    have c6b0 := decide_eq_true c6
    clear c6
    have c7 : 0 ≤ x4_1 := ifN H
    replace H := ifT H
    have c7b0 := decide_eq_true c7
    clear c7
    obtain ⟨⟨t247, t248, t249, t250⟩, A8, H⟩ := bindE H
    try dsimp only at H
    have c9 : x4_1 < (x3_1.length : Int) := ifN H
    replace H := ifT H
    have c9b0 := decide_eq_true c9
    clear c9
    obtain ⟨y251, hy251⟩ : ∃ y_ : List (S89), y_ = (x3_1.set (x4_1 : Int).toNat (⟨t247, t248, t249, t250⟩ : S89)) := ⟨_, rfl⟩
    replace H : (laws_toPathS.l0 k1 l0 y251 (wrap64 (x4_1 + 1))) = some r := by first | (rw [hy251]; with_reducible exact H) | (have H2_ := (Option.bind_some _ _).symm.trans H; rw [hy251]; with_reducible exact H2_) | (have H2_ := (Option.bind_some _ _).symm.trans H; with_reducible exact H2_) | with_reducible exact H | (rw [hy251]; exact H) | exact H
    have Ny251 := Aside0.mk hy251
    clear hy251
    have H' := Aside0.mk H
    clear H
    have p246 : 0 ≤ (x4_1 : Int) := dA
    have q246 : x4_1 < (l0.length : Int) := dA
    obtain ⟨ad246, e246, hx246_0, hx246_1, hx246_2, hx246_3⟩ := at_T91 HR0.out x4_1 p246 q246
    cases e246
    replace hx246_0 := hC HB hx246_0
    replace hx246_1 := hC HB hx246_1
    replace hx246_2 := hC HB hx246_2
    replace hx246_3 := hC HB hx246_3
    replace p246 := eq_true p246
    replace q246 := eq_true q246
    go_wp2_with (first | ((with_reducible refine gate_callee (f := 63) rfl ?_); refine gL (some 20) Try.func63 #[.agg #[.int .i64 ((rd_T91 l0 x4_1).f0), .int .i64 ((rd_T91 l0 x4_1).f1), .int .i64 ((rd_T91 l0 x4_1).f2), .int .i64 ((rd_T91 l0 x4_1).f3)]] ?_; (with_reducible refine (laws_toPath.calls ((rd_T91 l0 x4_1).f0) ((rd_T91 l0 x4_1).f1) ((rd_T91 l0 x4_1).f2) ((rd_T91 l0 x4_1).f3) t247 t248 t249 t250 _ A8.out).mono ?_); rintro e w11 ⟨rfl, hb⟩; refine ⟨_, rfl, ?_⟩; replace HO_3 := Aside0.mk (Kd.R_below (rK HO_3) hb); replace HB := Aside0.mk (below_step bA hb); (try clear hb); have p10 : 0 ≤ (x4_1 : Int) := dA; have q10 : (x4_1 : Int) < ((x3_1.length : Int) : Int) := dA; obtain ⟨go10, co10, eo10, gb10, gl10, cl10, HG10⟩ := Kd.R_form HO_3.out (by omega); (first | cases eo10 | (injection eo10 with ea_ en_ ec_; (first | subst ea_ | (injection ea_ with ea_; subst ea_)); subst ec_; clear en_)); have GB10 := Aside0.mk gb10; have GG10 := Aside0.mk HG10; clear gb10 gl10 HG10; obtain ⟨ce10, hcl10, hM10, hcc10, hfr10⟩ := Kd.R_elem HO_3.out z89 (x4_1 : Int) p10 q10; obtain rfl := k89_openM hM10; have hx10_0 : w11.cell? ⟨go10, (x4_1 : Int).toNat * 4, none⟩ = some (.int .i64 ((rd_T89 x3_1 x4_1).f0)) := hcc10 0 _ rfl; have hx10_1 : w11.cell? ⟨go10, (x4_1 : Int).toNat * 4 + 1, none⟩ = some (.int .i64 ((rd_T89 x3_1 x4_1).f1)) := hcc10 1 _ rfl; have hx10_2 : w11.cell? ⟨go10, (x4_1 : Int).toNat * 4 + 2, none⟩ = some (.int .i64 ((rd_T89 x3_1 x4_1).f2)) := hcc10 2 _ rfl; have hx10_3 : w11.cell? ⟨go10, (x4_1 : Int).toNat * 4 + 3, none⟩ = some (.int .i64 ((rd_T89 x3_1 x4_1).f3)) := hcc10 3 _ rfl; have hf10_0 : w11.frozen? ⟨go10, (x4_1 : Int).toNat * 4, none⟩ = false := hfr10 0; have hf10_1 : w11.frozen? ⟨go10, (x4_1 : Int).toNat * 4 + 1, none⟩ = false := hfr10 1; have hf10_2 : w11.frozen? ⟨go10, (x4_1 : Int).toNat * 4 + 2, none⟩ = false := hfr10 2; have hf10_3 : w11.frozen? ⟨go10, (x4_1 : Int).toNat * 4 + 3, none⟩ = false := hfr10 3; clear hcl10 hcc10 hfr10 hM10; replace p10 := eq_true p10; replace q10 := eq_true q10; have HX12 := Aside0.mk (show Kd.R k89 89 w11 w.heap.size (fun _ => True) (.slice (some ⟨go10, 0, none⟩) x3_1.length co10) x3_1 from (rK HO_3)); obtain ⟨ce12, hcl12, hM12, hcc12, hfr12⟩ := Kd.R_elem HX12.out z89 (x4_1 : Int) (dA) (by have h_ : (x4_1 : Int) < ((x3_1.length : Int) : Int) := dA; first | exact h_ | (have e_ := (Kd.R_reads' HO_3.out).1; omega) | simpa using h_); obtain rfl := k89_openM hM12; have HP12 := Kd.R_seg HX12.out (x4_1 : Int) (dA) (by have h_ : (x4_1 : Int) < ((x3_1.length : Int) : Int) := dA; first | exact h_ | (have e_ := (Kd.R_reads' HO_3.out).1; omega) | simpa using h_) (seg := [.int .i64 t247, .int .i64 t248, .int .i64 t249, .int .i64 t250]) (j := 0) hcl12 hcc12 (show 4 ≤ 4 from by decide) (x' := (⟨t247, t248, t249, t250⟩ : S89)) (k89_mkM _ _ _ (⟨t247, t248, t249, t250⟩ : S89) ) (fun _ hk => hk); have hx12_0 := hcc12 0 _ rfl; (try simp only [show (k89).sz = 4 from rfl, Nat.mul_one, Nat.add_zero] at hx12_0); have hf12_0 := hfr12 0; (try simp only [show (k89).sz = 4 from rfl, Nat.mul_one, Nat.add_zero] at hf12_0); have hx12_1 := hcc12 1 _ rfl; (try simp only [show (k89).sz = 4 from rfl, Nat.mul_one, Nat.add_zero] at hx12_1); have hf12_1 := hfr12 1; (try simp only [show (k89).sz = 4 from rfl, Nat.mul_one, Nat.add_zero] at hf12_1); have hx12_2 := hcc12 2 _ rfl; (try simp only [show (k89).sz = 4 from rfl, Nat.mul_one, Nat.add_zero] at hx12_2); have hf12_2 := hfr12 2; (try simp only [show (k89).sz = 4 from rfl, Nat.mul_one, Nat.add_zero] at hf12_2); have hx12_3 := hcc12 3 _ rfl; (try simp only [show (k89).sz = 4 from rfl, Nat.mul_one, Nat.add_zero] at hx12_3); have hf12_3 := hfr12 3; (try simp only [show (k89).sz = 4 from rfl, Nat.mul_one, Nat.add_zero] at hf12_3); clear hcl12 hcc12 hfr12 hM12) | ((with_reducible refine gate_store (t := 89) (p := 21) rfl ?_); refine store_event (t := 89) (p := 21) (v := ?vo_w13) (w1 := ((((w11.setCell ⟨go10, (x4_1 : Int).toNat * 4, none⟩ (.int .i64 t247)).setCell ⟨go10, (x4_1 : Int).toNat * 4 + 1, none⟩ (.int .i64 t248)).setCell ⟨go10, (x4_1 : Int).toNat * 4 + 2, none⟩ (.int .i64 t249)).setCell ⟨go10, (x4_1 : Int).toNat * 4 + 3, none⟩ (.int .i64 t250))) ?hg ?ho ?hn ?hr ?_; (case ho => rfl); (case hg => rfl); (case hn => rfl); (case hr => first | (go_simp; done) | (go_simp; rfl)); intro w13 hw; have hg : w11.grownBy w13 (some go10) := (by rw [hw]; exact HP12.2); have hp_ : Kd.R k89 89 w13 w.heap.size (fun _ => True) (.slice (some ⟨go10, 0, none⟩) x3_1.length co10) y251 := (by rw [hw, Ny251.out]; exact HP12.1); clear HP12; have n0_ := Aside0.mk (hp_); have n1_ := Aside0.mk ((by rw [hw]; exact below_set (below_set (below_set (below_set (HB.out) GB10.out) GB10.out) GB10.out) GB10.out : Below w.heap.size w w13)); clear HO_3; clear HB; have HO_3 := n0_; have HB := n1_; clear n0_ n1_; clear hg hw hp_))
    go_roundg k1
    case measure => have := HK1.out; omega
    case rel => exact ⟨(y251), (wrap64 (x4_1 + 1)), rS, H', ⟨by have := HK1.out; omega⟩, ⟨rK HO_3⟩, ⟨bA⟩⟩
   ·
    rw [if_neg c6] at H
    have c6b0 := decide_eq_false c6
    clear c6
    obtain rfl := Option.some.inj H
    go_wp2
    go_ret
    exact ⟨_, by first | rfl | (simp [errW_none, errW_some] <;> rfl) | (simp [*, errW_none, errW_some] <;> rfl), by (with_reducible repeat (first | apply Kd.R_alloc | apply Kd.R_drewN | apply Kd.R_drew)); exact HO_3.out, bA⟩

/-! ### laws_toIntS: function 41 -/
def laws_toIntS.l0 : Nat → List Int → List Int → Int → Option (List Int)
 | 0, _, _, _ => none
 | k + 1, x0, x3, x4 => if x4 < (x0.length : Int) then (if 0 ≤ x4 then (if x4 < (x3.length : Int) then (laws_toIntS.l0 k x0 (x3.set (x4 : Int).toNat (rd x0 x4)) (wrap64 (x4 + 1))) else (none)) else (none)) else (some x3)
def laws_toIntS.f (k : Nat) (l0 : List Int) : Option (List Int) := if 0 ≤ (l0.length : Int) then (if ((l0.length : Int) : Int).toNat ≤ 35184372088832 then (laws_toIntS.l0 k l0 (List.replicate ((l0.length : Int) : Int).toNat 0) 0) else (none)) else (none)
theorem laws_toIntS.mono_l : ∀ k, (∀ y0 y1 y2, LeO (laws_toIntS.l0 k y0 y1 y2) (laws_toIntS.l0 (k + 1) y0 y1 y2))
 | 0 => fun _ _ _ r h => by simp [laws_toIntS.l0] at h
 | k + 1 => by
  have ih0 := laws_toIntS.mono_l k
  ·
   intro y0 y1 y2
   unfold laws_toIntS.l0
   repeat' first | (with_reducible first | exact LeO.refl _ | exact LeO.none _ | refine LeO.ite ?_ ?_ | refine LeO.bind ?_ (fun _ => ?_) | exact ih0 _ _ _)
theorem laws_toIntS.mono : ∀ a0 k, LeO (laws_toIntS.f k a0) (laws_toIntS.f (k + 1) a0) := by
 intro a0 k
 have ih0 := laws_toIntS.mono_l k
 unfold laws_toIntS.f
 repeat' first | (with_reducible first | exact LeO.refl _ | exact LeO.none _ | refine LeO.ite ?_ ?_ | refine LeO.bind ?_ (fun _ => ?_) | exact ih0 _ _ _)
set_option maxHeartbeats 8000000 in
set_option maxRecDepth 100000 in
theorem laws_toIntS.calls (k : Nat) (A0 : Option Addr) (c0 : Nat) (l0 : List Int) (r : List Int) (w : World) (hr0 : Kd.C (Kd.int .i64) w A0 l0.length l0) (hc0 : l0.length ≤ c0) (h : laws_toIntS.f k l0 = some r) :
  Calls Try.prog 41 #[.slice A0 l0.length c0] w fun e w' => ∃ v0_ : Value, e = .returned (v0_) ∧ Kd.R (Kd.int .i64) 3 w' w.heap.size (fun _ => True) v0_ r ∧ Below w.heap.size w w' := by
 have HR0 := Aside0.mk hr0
 have HC0 := Aside0.mk hc0
 clear hr0 hc0
 have HB := Aside0.mk (Below.refl w.heap.size w)
 have H : (if 0 ≤ (l0.length : Int) then (if ((l0.length : Int) : Int).toNat ≤ 35184372088832 then (laws_toIntS.l0 k l0 (List.replicate ((l0.length : Int) : Int).toNat 0) 0) else (none)) else (none)) = some r := h
 clear h
 have c2 : 0 ≤ (l0.length : Int) := ifN H
 replace H := ifT H
 have c2b0 := eq_true c2
 have c2b1 := decide_eq_true c2
 clear c2
 have c3 : ((l0.length : Int) : Int).toNat ≤ 35184372088832 := ifN H
 replace H := ifT H
 have c3b0 := eq_true c3
 have c3b1 := decide_eq_true c3
 clear c3
 obtain ⟨y252, hy252⟩ : ∃ y_ : List Int, y_ = (List.replicate ((l0.length : Int) : Int).toNat 0) := ⟨_, rfl⟩
 replace H : (laws_toIntS.l0 k l0 y252 0) = some r := by first | (rw [hy252]; with_reducible exact H) | (have H2_ := (Option.bind_some _ _).symm.trans H; rw [hy252]; with_reducible exact H2_) | (have H2_ := (Option.bind_some _ _).symm.trans H; with_reducible exact H2_) | with_reducible exact H | (rw [hy252]; exact H) | exact H
 have Ny252 := Aside0.mk hy252
 clear hy252
 have H' := Aside0.mk H
 clear H
 go_enter Try.func41, Try.ntmps41
 go_wp2_with (first | ((with_reducible refine gate_dst (N := 7) rfl ?_); refine Kd.R_make (Kd.int .i64) _ 3 rfl (N := 7) rfl 41 _ _ rfl (l0.length : Int) rfl rfl Try.underlying41 (.int .i64 0) 8 info3 rfl (by decide) (by omega) 0 (ok := fun _ => True) (okp := fun _ => True) rfl (fun _ hk => hk) trivial (dA) (Nat.le_trans (Nat.mul_le_mul_right _ (dA : (l0.length : Int).toNat ≤ 35184372088832)) (by omega)) (Below.refl _ _) (Nat.le_refl _) ?_; intro v253 w4 ho5 hb hg_ hnew_; clear hg_ hnew_; (first | rw [← Ny252.out] at ho5 | (simp only [Int.reduceToNat] at ho5; rw [← Ny252.out] at ho5)); have HO254 := Aside0.mk (Kd.R_lower ho5 (below_size bA)); replace HB := Aside0.mk (below_step bA hb); clear hb ho5))
 go_loopg [4] k (fun kq v4 w' => ∃ (x3_1 : List Int) (x4_1 : Int), v4 = .int .i64 x4_1 ∧ Aside0 (laws_toIntS.l0 kq l0 x3_1 x4_1 = some r) ∧ Aside0 (kq ≤ k) ∧ Aside0 (Kd.R (Kd.int .i64) 3 w' w.heap.size (fun _ => True) v253 x3_1) ∧ Aside0 (Below w.heap.size w w'))
 case atStart => exact ⟨(y252), (0), rS, H', ⟨Nat.le_refl _⟩, ⟨rK HO254⟩, ⟨bA⟩⟩
 case round =>
  clear H'
  try clear c2
  try clear c2b0
  try clear c2b1
  try clear p2
  try clear c3
  try clear c3b0
  try clear c3b1
  try clear c4
  obtain ⟨x3_1, x4_1, rfl, HA, HK1, HO_3, HB⟩ := hrel
  cases gk with
  | zero => exact absurd HA.out (by simp [laws_toIntS.l0])
  | succ k1 =>
   have H := HA.out
   clear HA
   simp only [laws_toIntS.l0] at H
   by_cases c6 : x4_1 < (l0.length : Int)
   ·
    rw [if_pos c6] at H
    have c6b0 := decide_eq_true c6
    clear c6
    have c7 : 0 ≤ x4_1 := ifN H
    replace H := ifT H
    have c7b0 := decide_eq_true c7
    clear c7
    have c8 : x4_1 < (x3_1.length : Int) := ifN H
    replace H := ifT H
    have c8b0 := decide_eq_true c8
    clear c8
    obtain ⟨y256, hy256⟩ : ∃ y_ : List Int, y_ = (x3_1.set (x4_1 : Int).toNat (rd l0 x4_1)) := ⟨_, rfl⟩
    replace H : (laws_toIntS.l0 k1 l0 y256 (wrap64 (x4_1 + 1))) = some r := by first | (rw [hy256]; with_reducible exact H) | (have H2_ := (Option.bind_some _ _).symm.trans H; rw [hy256]; with_reducible exact H2_) | (have H2_ := (Option.bind_some _ _).symm.trans H; with_reducible exact H2_) | with_reducible exact H | (rw [hy256]; exact H) | exact H
    have Ny256 := Aside0.mk hy256
    clear hy256
    have H' := Aside0.mk H
    clear H
    have p255 : 0 ≤ (x4_1 : Int) := dA
    have q255 : x4_1 < (l0.length : Int) := dA
    obtain ⟨ad255, e255, hx255_0⟩ := Kd.at_int HR0.out x4_1 p255 q255
    cases e255
    replace hx255_0 := hC HB hx255_0
    replace p255 := eq_true p255
    replace q255 := eq_true q255
    have p9 : 0 ≤ (x4_1 : Int) := dA
    have q9 : (x4_1 : Int) < ((x3_1.length : Int) : Int) := dA
    obtain ⟨go9, co9, eo9, gb9, gl9, cl9, HG9⟩ := Kd.R_form HO_3.out (by omega)
    (first | cases eo9 | (injection eo9 with ea_ en_ ec_; (first | subst ea_ | (injection ea_ with ea_; subst ea_)); subst ec_; clear en_))
    have GB9 := Aside0.mk gb9
    have GG9 := Aside0.mk HG9
    clear gb9 gl9 HG9
    obtain ⟨hx9_0, hf9_0⟩ := Kd.R_celln 0 HO_3.out (x4_1 : Int) p9 q9
    replace p9 := eq_true p9
    replace q9 := eq_true q9
    have HP10 := Kd.R_putg HO_3.out (x4_1 : Int) (rd l0 x4_1)
    go_wp2_with (first | ((with_reducible refine gate_store (t := 3) (p := 20) rfl ?_); refine store_event (t := 3) (p := 20) (v := ?vo_w11) (w1 := (wr.setCell ⟨go9, (x4_1 : Int).toNat, none⟩ (.int .i64 (rd l0 x4_1)))) ?hg ?ho ?hn ?hr ?_; (case ho => rfl); (case hg => rfl); (case hn => rfl); (case hr => first | (go_simp; done) | (go_simp; rfl)); intro w11 hw; have hg : wr.grownBy w11 (some go9) := (by rw [hw]; exact HP10.2); have hp_ : Kd.R (Kd.int .i64) 3 w11 w.heap.size (fun _ => True) (.slice (some ⟨go9, 0, none⟩) x3_1.length co9) y256 := (by rw [hw, Ny256.out]; exact HP10.1); clear HP10; have n0_ := Aside0.mk (hp_); have n1_ := Aside0.mk ((by rw [hw]; exact below_set (HB.out) GB9.out : Below w.heap.size w w11)); clear HO_3; clear HB; have HO_3 := n0_; have HB := n1_; clear n0_ n1_; clear hg hw hp_))
    go_roundg k1
    case measure => have := HK1.out; omega
    case rel => exact ⟨(y256), (wrap64 (x4_1 + 1)), rS, H', ⟨by have := HK1.out; omega⟩, ⟨rK HO_3⟩, ⟨bA⟩⟩
   ·
    rw [if_neg c6] at H
    have c6b0 := decide_eq_false c6
    clear c6
    obtain rfl := Option.some.inj H
    go_wp2
    go_ret
    exact ⟨_, by first | rfl | (simp [errW_none, errW_some] <;> rfl) | (simp [*, errW_none, errW_some] <;> rfl), by (with_reducible repeat (first | apply Kd.R_alloc | apply Kd.R_drewN | apply Kd.R_drew)); exact HO_3.out, bA⟩

/-! ### laws_toPart: function 64 -/
def laws_toPart.f (k : Nat) (l0_0 : List Int) (a0_1 : Int) : Option (List Int × Int) := (laws_toIntS.f k l0_0).bind fun t260 => (some (t260, a0_1))
theorem laws_toPart.mono : ∀ a0 a1 k, LeO (laws_toPart.f k a0 a1) (laws_toPart.f (k + 1) a0 a1) := by
 intro a0 a1 k
 unfold laws_toPart.f
 repeat' first | (with_reducible first | exact LeO.refl _ | exact LeO.none _ | refine LeO.ite ?_ ?_ | refine LeO.bind ?_ (fun _ => ?_) | exact laws_toIntS.mono _ _)
set_option maxHeartbeats 8000000 in
set_option maxRecDepth 100000 in
theorem laws_toPart.calls (k : Nat) (A0_0 : Option Addr) (c0_0 : Nat) (l0_0 : List Int) (a0_1 : Int) (r1 : List Int) (r2 : Int) (w : World) (hr0_0 : Kd.C (Kd.int .i64) w A0_0 l0_0.length l0_0) (hc0_0 : l0_0.length ≤ c0_0) (h : laws_toPart.f k l0_0 a0_1 = some (r1, r2)) :
  Calls Try.prog 64 #[.agg #[.slice A0_0 l0_0.length c0_0, .int .i64 a0_1]] w fun e w' => ∃ v0_ : Value, e = .returned (.agg #[v0_, .int .i64 r2]) ∧ Kd.R (Kd.int .i64) 3 w' w.heap.size (fun _ => True) v0_ r1 ∧ Below w.heap.size w w' := by
 have hu85 := Try.underlying85
 have hu92 := Try.underlying92
 have HR0_0 := Aside0.mk hr0_0
 have HC0_0 := Aside0.mk hc0_0
 clear hr0_0 hc0_0
 have HB := Aside0.mk (Below.refl w.heap.size w)
 have H : ((laws_toIntS.f k l0_0).bind fun t260 => (some (t260, a0_1))) = some (r1, r2) := h
 clear h
 obtain ⟨t260, A2, H⟩ := bindE H
 try dsimp only at H
 simp only [Option.some.injEq, Prod.mk.injEq] at H
 obtain ⟨rfl, rfl⟩ := H
 go_enter Try.func64, Try.ntmps64
 go_wp2_with (first | ((with_reducible refine gate_dst (N := 1) rfl ?_); refine bE (N := 1) (cs := #[.slice A0_0 l0_0.length c0_0, .int .i64 a0_1]) (t := 85) ?_; intro gb257 hg w3 hbox hb; have n0_ := Aside0.mk (below_step bA hb); have n1_ := Aside0.mk (hbox); have n2_ := Aside0.mk ((by rw [hg]; exact (below_size bA) : w.heap.size ≤ gb257)); have n3_ := Aside0.mk ((by rw [hg]; exact (below_size bA) : w.heap.size ≤ gb257)); clear HB; have HB := n0_; have BK257 := n1_; have GW257 := n2_; have GE257 := n3_; clear n0_ n1_ n2_ n3_; clear hb hbox hg) | ((with_reducible refine gate_dst (N := 2) rfl ?_); refine bE (N := 2) (cs := #[.slice none 0 0, .int .i64 0]) (t := 92) ?_; intro gb258 hg w4 hbox hb; have n0_ := Aside0.mk (blk_below (g := gb257) (bK BK257) hb); have n1_ := Aside0.mk (below_step bG hb); have n2_ := Aside0.mk (hbox); have n3_ := Aside0.mk ((by rw [hg]; exact (below_size bG) : w.heap.size ≤ gb258)); have n4_ := Aside0.mk ((by rw [hg]; exact (below_size bG) : w.heap.size ≤ gb258)); have n5_ := Aside0.mk ((by rw [hg]; exact Nat.ne_of_lt (blk_lt (g := gb257) (o := .cells #[.slice A0_0 l0_0.length c0_0, .int .i64 a0_1] 85 (0, 0)) (bK BK257)) : gb257 ≠ gb258)); have n6_ := Aside0.mk ((by rw [hg]; exact Nat.ne_of_gt (blk_lt (g := gb257) (o := .cells #[.slice A0_0 l0_0.length c0_0, .int .i64 a0_1] 85 (0, 0)) (bK BK257)) : gb258 ≠ gb257)); clear BK257; clear HB; have BK257 := n0_; have HB := n1_; have BK258 := n2_; have GW258 := n3_; have GE258 := n4_; have NB257_258 := n5_; have NB258_257 := n6_; clear n0_ n1_ n2_ n3_ n4_ n5_ n6_; clear hb hbox hg) | ((with_reducible refine gate_dst (N := 3) rfl ?_); refine bE (N := 3) (cs := #[.slice none 0 0, .int .i64 0]) (t := 92) ?_; intro gb259 hg w5 hbox hb; have n0_ := Aside0.mk (blk_below (g := gb257) (bK BK257) hb); have n1_ := Aside0.mk (blk_below (g := gb258) (bK BK258) hb); have n2_ := Aside0.mk (below_step bG hb); have n3_ := Aside0.mk (hbox); have n4_ := Aside0.mk ((by rw [hg]; exact (below_size bG) : w.heap.size ≤ gb259)); have n5_ := Aside0.mk ((by rw [hg]; exact (below_size bG) : w.heap.size ≤ gb259)); have n6_ := Aside0.mk ((by rw [hg]; exact Nat.ne_of_lt (blk_lt (g := gb257) (o := .cells #[.slice A0_0 l0_0.length c0_0, .int .i64 a0_1] 85 (0, 0)) (bK BK257)) : gb257 ≠ gb259)); have n7_ := Aside0.mk ((by rw [hg]; exact Nat.ne_of_gt (blk_lt (g := gb257) (o := .cells #[.slice A0_0 l0_0.length c0_0, .int .i64 a0_1] 85 (0, 0)) (bK BK257)) : gb259 ≠ gb257)); have n8_ := Aside0.mk ((by rw [hg]; exact Nat.ne_of_lt (blk_lt (g := gb258) (o := .cells #[.slice none 0 0, .int .i64 0] 92 (0, 0)) (bK BK258)) : gb258 ≠ gb259)); have n9_ := Aside0.mk ((by rw [hg]; exact Nat.ne_of_gt (blk_lt (g := gb258) (o := .cells #[.slice none 0 0, .int .i64 0] 92 (0, 0)) (bK BK258)) : gb259 ≠ gb258)); clear BK257; clear BK258; clear HB; have BK257 := n0_; have BK258 := n1_; have HB := n2_; have BK259 := n3_; have GW259 := n4_; have GE259 := n5_; have NB257_259 := n6_; have NB259_257 := n7_; have NB258_259 := n8_; have NB259_258 := n9_; clear n0_ n1_ n2_ n3_ n4_ n5_ n6_ n7_ n8_ n9_; clear hb hbox hg; have hnb6 := NB257_258.out; have hnc6 := NB258_257.out; have hnb7 := NB257_259.out; have hnc7 := NB259_257.out; have hcz8_0 : w5.cell? ⟨gb257, 0, none⟩ = some (.slice A0_0 l0_0.length c0_0) := bC BK257 0; have hcz8_1 : w5.cell? ⟨gb257, 1, none⟩ = some (.int .i64 a0_1) := bC BK257 1; have hfz8_0 := blk_frozen BK257.out 0; have hfz8_1 := blk_frozen BK257.out 1) | ((with_reducible refine gate_callee (f := 41) rfl ?_); refine gL (some 6) Try.func41 #[.slice A0_0 l0_0.length c0_0] ?_; (with_reducible refine (laws_toIntS.calls k _ _ l0_0 t260 _ ?side1 ?side2 A2.out).mono ?_); (case side1 => exact cB HR0_0); (case side2 => exact HC0_0.out); rintro e w9 ⟨v261, rfl, ho0, hb⟩; refine ⟨_, rfl, ?_⟩; have HO262 := Aside0.mk (Kd.R_lower ho0 (below_size bG)); replace BK257 := Aside0.mk (blk_below (g := gb257) (bK BK257) hb); replace BK258 := Aside0.mk (blk_below (g := gb258) (bK BK258) hb); replace BK259 := Aside0.mk (blk_below (g := gb259) (bK BK259) hb); replace HB := Aside0.mk (below_step bG hb); (try clear hb); (try clear ho0); obtain ⟨Ao10, co10, eo10⟩ := Kd.R_slice HO262.out; subst eo10; have hnb11 := NB259_258.out; have hnc11 := NB258_259.out; obtain ⟨hcz12_0, hcz12_1, hfz12_0, hfz12_1⟩ := blkc2 BK259; obtain ⟨hcz13_0, hcz13_1, hfz13_0, hfz13_1⟩ := blkc2 BK257; obtain ⟨hcz14_0, hcz14_1, hfz14_0, hfz14_1⟩ := blkc2 BK258))
 refine bodyPost_ret (results_cell_row rfl _ _ gb258 92 #[.slice Ao10 t260.length co10, .int .i64 a0_1] (0, 0) _ rfl (by (with_reducible repeat (first | refine blk_drewN ?_ _ | refine blk_drew ?_ | refine blk_alloc ?_ _)); refine blk_put (cs := #[.slice Ao10 t260.length co10, .int .i64 0]) ?_ 1 _ rfl; (with_reducible repeat (first | refine blk_drewN ?_ _ | refine blk_drew ?_ | refine blk_alloc ?_ _)); refine blk_put (cs := #[.slice none 0 0, .int .i64 0]) ?_ 0 _ rfl; (with_reducible repeat (first | refine blk_drewN ?_ _ | refine blk_drew ?_ | refine blk_alloc ?_ _)); refine blk_far ?_ NB258_259.out _; (with_reducible repeat (first | refine blk_drewN ?_ _ | refine blk_drew ?_ | refine blk_alloc ?_ _)); refine blk_far ?_ NB258_259.out _; (with_reducible repeat (first | refine blk_drewN ?_ _ | refine blk_drew ?_ | refine blk_alloc ?_ _)); exact BK258.out) Try.underlying92 rfl (by kernel_rfl)) rfl ?_
 exact ⟨_, by first | rfl | (simp [errW_none, errW_some] <;> rfl) | (simp [*, errW_none, errW_some] <;> rfl), by (with_reducible repeat (first | apply Kd.R_alloc | apply Kd.R_drewN | apply Kd.R_drew)); exact Kd.R_mono (Kd.R_far (p := ⟨gb258, 1, none⟩) (Kd.R_far (p := ⟨gb258, 0, none⟩) (Kd.R_far (p := ⟨gb259, 1, none⟩) (Kd.R_far (p := ⟨gb259, 0, none⟩) (Kd.R_types (Kd.R_types HO262.out BK259.out (by decide)) BK258.out (by decide)) (fun _ hk => hk.1.2) (.slice Ao10 t260.length co10)) (fun _ hk => hk.1.2) (.int .i64 a0_1)) (fun _ hk => hk.2) (.slice Ao10 t260.length co10)) (fun _ hk => hk.2) (.int .i64 a0_1)) (fun _ hk => trivial), bG⟩

/-! ### laws_toPartS: function 15 -/
def laws_toPartS.l0 : Nat → List (S85) → List (S92) → Int → Option ((List (S92)))
 | 0, _, _, _ => none
 | k + 1, x0, x3, x4 => if x4 < (x0.length : Int) then (if 0 ≤ x4 then ((laws_toPart.f k ((rd_T85 x0 x4).f0) ((rd_T85 x0 x4).f1)).bind fun bt267 => (if x4 < (x3.length : Int) then (laws_toPartS.l0 k x0 (x3.set (x4 : Int).toNat (⟨bt267.1, bt267.2⟩ : S92)) (wrap64 (x4 + 1))) else (none))) else (none)) else (some x3)
def laws_toPartS.f (k : Nat) (l0 : List (S85)) : Option ((List (S92))) := if 0 ≤ (l0.length : Int) then (if ((l0.length : Int) : Int).toNat ≤ 8796093022208 then (laws_toPartS.l0 k l0 (List.replicate ((l0.length : Int) : Int).toNat z92) 0) else (none)) else (none)
theorem laws_toPartS.mono_l : ∀ k, (∀ y0 y1 y2, LeO (laws_toPartS.l0 k y0 y1 y2) (laws_toPartS.l0 (k + 1) y0 y1 y2))
 | 0 => fun _ _ _ r h => by simp [laws_toPartS.l0] at h
 | k + 1 => by
  have ih0 := laws_toPartS.mono_l k
  ·
   intro y0 y1 y2
   unfold laws_toPartS.l0
   repeat' first | (with_reducible first | exact LeO.refl _ | exact LeO.none _ | refine LeO.ite ?_ ?_ | refine LeO.bind ?_ (fun _ => ?_) | exact ih0 _ _ _ | exact laws_toPart.mono _ _ _)
theorem laws_toPartS.mono : ∀ a0 k, LeO (laws_toPartS.f k a0) (laws_toPartS.f (k + 1) a0) := by
 intro a0 k
 have ih0 := laws_toPartS.mono_l k
 unfold laws_toPartS.f
 repeat' first | (with_reducible first | exact LeO.refl _ | exact LeO.none _ | refine LeO.ite ?_ ?_ | refine LeO.bind ?_ (fun _ => ?_) | exact ih0 _ _ _ | exact laws_toPart.mono _ _ _)
set_option maxHeartbeats 8000000 in
set_option maxRecDepth 100000 in
theorem laws_toPartS.calls (k : Nat) (A0 : Option Addr) (c0 : Nat) (l0 : List (S85)) (r : List (S92)) (w : World) (hr0 : Kd.C k85 w A0 l0.length l0) (hc0 : l0.length ≤ c0) (h : laws_toPartS.f k l0 = some r) :
  Calls Try.prog 15 #[.slice A0 l0.length c0] w fun e w' => ∃ v0_ : Value, e = .returned (v0_) ∧ Kd.S k92 92 w' w.heap.size (fun _ => True) v0_ r ∧ Below w.heap.size w w' := by
 have hu85 := Try.underlying85
 have hu92 := Try.underlying92
 have HR0 := Aside0.mk hr0
 have HC0 := Aside0.mk hc0
 clear hr0 hc0
 have HB := Aside0.mk (Below.refl w.heap.size w)
 have H : (if 0 ≤ (l0.length : Int) then (if ((l0.length : Int) : Int).toNat ≤ 8796093022208 then (laws_toPartS.l0 k l0 (List.replicate ((l0.length : Int) : Int).toNat z92) 0) else (none)) else (none)) = some r := h
 clear h
 have c2 : 0 ≤ (l0.length : Int) := ifN H
 replace H := ifT H
 have c2b0 := eq_true c2
 have c2b1 := decide_eq_true c2
 clear c2
 have c3 : ((l0.length : Int) : Int).toNat ≤ 8796093022208 := ifN H
 replace H := ifT H
 have c3b0 := eq_true c3
 have c3b1 := decide_eq_true c3
 clear c3
 obtain ⟨y263, hy263⟩ : ∃ y_ : List (S92), y_ = (List.replicate ((l0.length : Int) : Int).toNat z92) := ⟨_, rfl⟩
 replace H : (laws_toPartS.l0 k l0 y263 0) = some r := by first | (rw [hy263]; with_reducible exact H) | (have H2_ := (Option.bind_some _ _).symm.trans H; rw [hy263]; with_reducible exact H2_) | (have H2_ := (Option.bind_some _ _).symm.trans H; with_reducible exact H2_) | with_reducible exact H | (rw [hy263]; exact H) | exact H
 have Ny263 := Aside0.mk hy263
 clear hy263
 have H' := Aside0.mk H
 clear H
 go_enter Try.func15, Try.ntmps15
 go_wp2_with (first | ((with_reducible refine gate_dst (N := 7) rfl ?_); refine Kd.S_make k92 _ 92 rfl (N := 7) rfl 30 _ _ rfl (l0.length : Int) rfl rfl Try.underlying30 (.agg #[(.slice none 0 0), (.int .i64 0)]) 32 info92 rfl (by decide) (by omega) z92 (ok := fun _ => True) (okp := fun _ => True) (k92_mkM _ _ _ z92 (Kd.R_nil _ _ _ _ _)) (fun _ hk => hk) trivial (dA) (Nat.le_trans (Nat.mul_le_mul_right _ (dA : (l0.length : Int).toNat ≤ 8796093022208)) (by omega)) (Below.refl _ _) (Nat.le_refl _) ?_; intro v264 w4 ho5 hb hg_ hnew_; clear hg_ hnew_; (first | rw [← Ny263.out] at ho5 | (simp only [Int.reduceToNat] at ho5; rw [← Ny263.out] at ho5)); have HO265 := Aside0.mk (Kd.S_lower ho5 (below_size bA)); replace HB := Aside0.mk (below_step bA hb); clear hb ho5))
 go_loopg [4] k (fun kq v4 w' => ∃ (x3_1 : List (S92)) (x4_1 : Int), v4 = .int .i64 x4_1 ∧ Aside0 (laws_toPartS.l0 kq l0 x3_1 x4_1 = some r) ∧ Aside0 (kq ≤ k) ∧ Aside0 (Kd.S k92 92 w' w.heap.size (fun _ => True) v264 x3_1) ∧ Aside0 (Below w.heap.size w w'))
 case atStart => exact ⟨(y263), (0), rS, H', ⟨Nat.le_refl _⟩, ⟨sK HO265⟩, ⟨bA⟩⟩
 case round =>
  clear H'
  try clear c1
  try clear c2
  try clear c2b0
  try clear c2b1
  try clear p2
  try clear c3
  try clear c3b0
  try clear c3b1
  obtain ⟨x3_1, x4_1, rfl, HA, HK1, HO_3, HB⟩ := hrel
  cases gk with
  | zero => exact absurd HA.out (by simp [laws_toPartS.l0])
  | succ k1 =>
   have H := HA.out
   clear HA
   simp only [laws_toPartS.l0] at H
   by_cases c6 : x4_1 < (l0.length : Int)
   ·
    rw [if_pos c6] at H
    have c6b0 := decide_eq_true c6
    clear c6
    have c7 : 0 ≤ x4_1 := ifN H
    replace H := ifT H
    have c7b0 := decide_eq_true c7
    clear c7
    obtain ⟨⟨t267, t270⟩, A8, H⟩ := bindE H
    try dsimp only at H
    have c9 : x4_1 < (x3_1.length : Int) := ifN H
    replace H := ifT H
    have c9b0 := decide_eq_true c9
    clear c9
    obtain ⟨y271, hy271⟩ : ∃ y_ : List (S92), y_ = (x3_1.set (x4_1 : Int).toNat (⟨t267, t270⟩ : S92)) := ⟨_, rfl⟩
    replace H : (laws_toPartS.l0 k1 l0 y271 (wrap64 (x4_1 + 1))) = some r := by first | (rw [hy271]; with_reducible exact H) | (have H2_ := (Option.bind_some _ _).symm.trans H; rw [hy271]; with_reducible exact H2_) | (have H2_ := (Option.bind_some _ _).symm.trans H; with_reducible exact H2_) | with_reducible exact H | (rw [hy271]; exact H) | exact H
    have Ny271 := Aside0.mk hy271
    clear hy271
    have H' := Aside0.mk H
    clear H
    have p266 : 0 ≤ (x4_1 : Int) := dA
    have q266 : x4_1 < (l0.length : Int) := dA
    obtain ⟨ad266, A266_0, c266_0, e266, hx266_0, hx266_1, hl266_0, hi266_0⟩ := at_T85 HR0.out x4_1 p266 q266
    cases e266
    replace hx266_0 := hC HB hx266_0
    replace hx266_1 := hC HB hx266_1
    have HR266_0 := Aside0.mk hi266_0
    have HC266_0 := Aside0.mk hl266_0
    clear hi266_0 hl266_0
    replace p266 := eq_true p266
    replace q266 := eq_true q266
    go_wp2_with (first | ((with_reducible refine gate_callee (f := 64) rfl ?_); refine gL (some 20) Try.func64 #[.agg #[.slice A266_0 ((rd_T85 l0 x4_1).f0).length c266_0, .int .i64 ((rd_T85 l0 x4_1).f1)]] ?_; (with_reducible refine (laws_toPart.calls k1 _ _ ((rd_T85 l0 x4_1).f0) ((rd_T85 l0 x4_1).f1) t267 t270 _ ?side1 ?side2 A8.out).mono ?_); (case side1 => exact cB HR266_0); (case side2 => exact HC266_0.out); rintro e w11 ⟨v268, rfl, ho0, hb⟩; refine ⟨_, rfl, ?_⟩; replace HO_3 := Aside0.mk (Kd.S_elder' (sK HO_3) (Kd.R_base ho0) hb); have HO269 := Aside0.mk (Kd.R_lower ho0 (below_size bA)); replace HB := Aside0.mk (below_step bA hb); (try clear hb); (try clear ho0); have p10 : 0 ≤ (x4_1 : Int) := dA; have q10 : (x4_1 : Int) < ((x3_1.length : Int) : Int) := dA; obtain ⟨go10, co10, eo10, gb10, gl10, cl10, HG10⟩ := Kd.S_form HO_3.out (by omega); (first | cases eo10 | (injection eo10 with ea_ en_ ec_; (first | subst ea_ | (injection ea_ with ea_; subst ea_)); subst ec_; clear en_)); have GB10 := Aside0.mk gb10; have GG10 := Aside0.mk HG10; clear gb10 gl10 HG10; obtain ⟨_, ce10, hcl10, hM10, hcc10, hfr10, _, _⟩ := Kd.S_elem HO_3.out z92 (x4_1 : Int) p10 q10; obtain ⟨ve10_0, rfl, ge10_0⟩ := k92_openM hM10; have hx10_0 : w11.cell? ⟨go10, (x4_1 : Int).toNat * 2, none⟩ = some (ve10_0) := hcc10 0 _ rfl; have hx10_1 : w11.cell? ⟨go10, (x4_1 : Int).toNat * 2 + 1, none⟩ = some (.int .i64 ((rd_T92 x3_1 x4_1).f1)) := hcc10 1 _ rfl; have hf10_0 : w11.frozen? ⟨go10, (x4_1 : Int).toNat * 2, none⟩ = false := hfr10 0; have hf10_1 : w11.frozen? ⟨go10, (x4_1 : Int).toNat * 2 + 1, none⟩ = false := hfr10 1; clear hcl10 hcc10 hfr10 hM10; replace p10 := eq_true p10; replace q10 := eq_true q10; obtain ⟨Ao12, co12, eo12⟩ := Kd.R_slice HO269.out; subst eo12; have n_ := Aside0.mk (Kd.S_mono (ok' := (fun k_ => some k_ ≠ (.slice Ao12 t267.length co12 : Value).ownBlock)) HO_3.out (fun k_ hk => hk.2)); clear HO_3; have HO_3 := n_; clear n_; have HX13 := Aside0.mk (show Kd.S k92 92 w11 w.heap.size (fun k_ => ((fun _ => True)) k_ ∧ ¬ ((fun k_ => some k_ = (.slice Ao12 t267.length co12 : Value).ownBlock)) k_) (.slice (some ⟨go10, 0, none⟩) x3_1.length co10) x3_1 from (by (with_reducible repeat (first | apply Kd.S_alloc | apply Kd.S_drewN | apply Kd.S_drew)); exact Kd.S_mono HO_3.out (fun k_ hk => ⟨trivial, fun e_ => hk e_⟩))); obtain ⟨oki13, ce13, hcl13, hM13, hcc13, hfr13, hoki13, hH13⟩ := Kd.S_elem HX13.out z92 (x4_1 : Int) (dA) (by have h_ : (x4_1 : Int) < ((x3_1.length : Int) : Int) := dA; first | exact h_ | (have e_ := (Kd.S_reads' HO_3.out).1; omega) | simpa using h_); obtain ⟨ve13_0, rfl, ge13_0⟩ := k92_openM hM13; have HP13 := Kd.S_seg hH13 (dA) (by have h_ : (x4_1 : Int) < ((x3_1.length : Int) : Int) := dA; first | exact h_ | (have e_ := (Kd.S_reads' HO_3.out).1; omega) | simpa using h_) (seg := [.slice Ao12 t267.length co12, .int .i64 t270]) (j := 0) (show 2 ≤ 2 from by decide) (x' := (⟨t267, t270⟩ : S92)) (k92_mkM _ _ _ (⟨t267, t270⟩ : S92) (Kd.R_mono (Kd.R_tight rfl (Kd.R_mono (ok' := fun k_ => ((fun _ => True)) k_ ∧ k_ ≠ go10) (Kd.R_apart' (HO269.out) (Kd.S_typed HO_3.out) (by decide)) (fun k_ hk => ⟨trivial, fun e_ => (hk.2) (by rw [e_]; rfl)⟩))) (fun _ h_ => Or.inr (h_)))) (fun _ hk => hk) (fun k_ hk_ => ((Kd.R_mono (ok' := fun k_ => ((fun _ => True)) k_ ∧ k_ ≠ go10) (Kd.R_apart' (HO269.out) (Kd.S_typed HO_3.out) (by decide)) (fun k_ hk => ⟨trivial, fun e_ => (hk.2) (by rw [e_]; rfl)⟩))).1 k_ hk_.symm); have hx13_0 := hcc13 0 _ rfl; (try simp only [show (k92).sz = 2 from rfl, Nat.mul_one, Nat.add_zero] at hx13_0); have hf13_0 := hfr13 0; (try simp only [show (k92).sz = 2 from rfl, Nat.mul_one, Nat.add_zero] at hf13_0); have hx13_1 := hcc13 1 _ rfl; (try simp only [show (k92).sz = 2 from rfl, Nat.mul_one, Nat.add_zero] at hx13_1); have hf13_1 := hfr13 1; (try simp only [show (k92).sz = 2 from rfl, Nat.mul_one, Nat.add_zero] at hf13_1); clear hcl13 hcc13 hfr13 hM13 hoki13 hH13) | ((with_reducible refine gate_store (t := 92) (p := 21) rfl ?_); refine store_event (t := 92) (p := 21) (v := ?vo_w14) (w1 := ((w11.setCell ⟨go10, (x4_1 : Int).toNat * 2, none⟩ (.slice Ao12 t267.length co12)).setCell ⟨go10, (x4_1 : Int).toNat * 2 + 1, none⟩ (.int .i64 t270))) ?hg ?ho ?hn ?hr ?_; (case ho => rfl); (case hg => rfl); (case hn => rfl); (case hr => first | (go_simp; done) | (go_simp; rfl)); intro w14 hw; have hg : w11.grownBy w14 (some go10) := (by rw [hw]; exact HP13.2); have hp_ : Kd.S k92 92 w14 w.heap.size (fun _ => True) (.slice (some ⟨go10, 0, none⟩) x3_1.length co10) y271 := (by rw [hw, Ny271.out]; exact HP13.1); clear HP13; have n0_ := Aside0.mk (hp_); have n1_ := Aside0.mk ((by rw [hw]; exact below_set (below_set (HB.out) GB10.out) GB10.out : Below w.heap.size w w14)); clear HO_3; clear HB; clear HO269; have HO_3 := n0_; have HB := n1_; clear n0_ n1_; clear hg hw hp_))
    go_roundg k1
    case measure => have := HK1.out; omega
    case rel => exact ⟨(y271), (wrap64 (x4_1 + 1)), rS, H', ⟨by have := HK1.out; omega⟩, ⟨sK HO_3⟩, ⟨bA⟩⟩
   ·
    rw [if_neg c6] at H
    have c6b0 := decide_eq_false c6
    clear c6
    obtain rfl := Option.some.inj H
    go_wp2
    go_ret
    exact ⟨_, by first | rfl | (simp [errW_none, errW_some] <;> rfl) | (simp [*, errW_none, errW_some] <;> rfl), by (with_reducible repeat (first | apply Kd.S_alloc | apply Kd.S_drewN | apply Kd.S_drew)); exact HO_3.out, bA⟩

/-! ### impl_FindPath: function 119 -/
def impl_FindPath.q (id : Int) (x : S89) : Bool := decide (x.f0 = id)
set_option maxHeartbeats 400000 in
set_option maxRecDepth 100000 in
theorem impl_FindPath.clo (id : Int) (g : Nat) (x : S89) (w : World) (hc : w.cell? ⟨g, 0, none⟩ = some (.int .i64 id)) :
  Calls Try.prog 143 #[.agg #[.int .i64 x.f0, .int .i64 x.f1, .int .i64 x.f2, .int .i64 x.f3], .pointer (some ⟨g, 0, none⟩)] w fun e w' => e = .returned (.bool (impl_FindPath.q id x)) ∧ Below w.heap.size w w' := by
 have hu := Try.underlying89
 have hg : g < w.heap.size := World.block_lt_of_cell? w _ hc
 go_enter Try.func143, Try.ntmps143
 go_wp2
 go_ret
 exact ⟨by unfold impl_FindPath.q; first | rfl | simp, (Below.refl _ _).alloc (Nat.le_refl _) _⟩
def impl_FindPath.ix (id : Int) : List S89 → Int → Int
 | [], _ => -1
 | x :: l, i => if impl_FindPath.q id x = true then i else impl_FindPath.ix id l (i + 1)
theorem impl_FindPath.ix_hit (id : Int) : ∀ (l : List S89) (i : Int) (m : Nat) (hm : m < l.length), (∀ j (hj : j < m), impl_FindPath.q id (l[j]'(by omega)) = false) → impl_FindPath.q id l[m] = true → impl_FindPath.ix id l i = i + m
 | [], i, m, hm, _, _ => absurd hm (by simp)
 | p :: l, i, 0, hm, _, h => by
  unfold impl_FindPath.ix
  rw [if_pos (show impl_FindPath.q id p = true from h)]
  simp
 | p :: l, i, m + 1, hm, hne, h => by
  unfold impl_FindPath.ix
  have h2 : impl_FindPath.q id p = false := hne 0 (by omega)
  rw [if_neg (by rw [h2]; decide), impl_FindPath.ix_hit id l (i + 1) m (by simpa using hm) (fun j hj => hne (j + 1) (by omega)) h]
  omega
theorem impl_FindPath.ix_miss (id : Int) : ∀ (l : List S89) (i : Int), (∀ j (hj : j < l.length), impl_FindPath.q id l[j] = false) → impl_FindPath.ix id l i = -1
 | [], i, _ => rfl
 | p :: l, i, h => by
  unfold impl_FindPath.ix
  have h2 : impl_FindPath.q id p = false := h 0 (by simp)
  rw [if_neg (by rw [h2]; decide), impl_FindPath.ix_miss id l (i + 1) (fun j hj => h (j + 1) (by simpa using hj))]
theorem impl_FindPath.rd_ (l : List S89) (j : Nat) (hj : j < l.length) : rd_T89 l (j : Int) = l[j] := by
 unfold rd_T89; simp [List.getD_eq_getElem?_getD, List.getElem?_eq_getElem hj]
set_option maxHeartbeats 4000000 in
set_option maxRecDepth 100000 in
theorem impl_FindPath.idx (id : Int) (g : Nat) (A0 : Option Addr) (c0 : Nat) (l0 : List S89) (w : World) (hr0 : Kd.C k89 w A0 l0.length l0) (hc0 : l0.length ≤ c0) (hc : w.cell? ⟨g, 0, none⟩ = some (.int .i64 id)) :
  Calls Try.prog 142 #[.slice A0 l0.length c0, .func (.func 143) #[] #[.pointer (some ⟨g, 0, none⟩)]] w fun e w' => e = .returned (.int .i64 (impl_FindPath.ix id l0 0)) ∧ Below w.heap.size w w' := by
 have hu := Try.underlying89
 have HC := Aside0.mk hc
 clear hc
 have HR0 := Aside0.mk hr0
 have HC0 := Aside0.mk hc0
 have hlen : l0.length ≤ 9223372036854775807 := hr0.2.1
 clear hr0 hc0
 have HB := Aside0.mk (Below.refl w.heap.size w)
 go_enter Try.func142, Try.ntmps142
 go_wp2
 go_loopg [5, 8] l0.length (fun gg v5 v8 w' => ∃ kk : Nat, v8 = .int .i64 kk ∧ Aside0 (kk ≤ l0.length) ∧ Aside0 (l0.length - kk ≤ gg) ∧ Aside0 (Below w.heap.size w w') ∧ Aside0 (∀ j (hj : j < kk) (hl : j < l0.length), impl_FindPath.q id l0[j] = false))
 case atStart => exact ⟨0, rfl, ⟨Nat.zero_le _⟩, ⟨by omega⟩, HB, ⟨fun j hj => absurd hj (Nat.not_lt_zero _)⟩⟩
 case round =>
  clear HB
  obtain ⟨kk, rfl, hk, hg, HB, HA⟩ := hrel
  by_cases hlt : kk < l0.length
  ·
   have hltz : decide ((kk : Int) < (l0.length : Int)) = true := decide_eq_true (by omega)
   have hltn : decide (kk < l0.length) = true := decide_eq_true hlt
   have p0 : (0 : Int) ≤ (kk : Int) := by omega
   have q0 : (kk : Int) < (l0.length : Int) := by omega
   have HE := Aside0.mk (impl_FindPath.rd_ l0 kk hlt)
   obtain ⟨ad, e1, hx0, hx1, hx2, hx3⟩ := at_T89 HR0.out (kk : Int) p0 q0
   cases e1
   rw [Int.toNat_natCast] at hx0 hx1 hx2 hx3
   replace hx0 := hC HB hx0
   replace hx1 := hC HB hx1
   replace hx2 := hC HB hx2
   replace hx3 := hC HB hx3
   replace p0 := eq_true p0
   replace q0 := eq_true q0
   have hcl := fun (w' : World) (hb : Below w.heap.size w w') => impl_FindPath.clo id g (rd_T89 l0 (kk : Int)) w' ((hb.cell (World.block_lt_of_cell? w _ HC.out)).trans HC.out)
   cases hq : impl_FindPath.q id (rd_T89 l0 (kk : Int)) with
   | true =>
    rw [hq] at hcl
    have HCL := Aside0.mk hcl
    have HQ := Aside0.mk hq
    clear hcl hq
    go_wp2_with (go_at_call 143; refine (HCL.out _ HB.out).mono ?_; rintro e w1 ⟨rfl, hb1⟩)
    go_ret
    refine ⟨?_, below_step HB.out hb1⟩
    have hq := HQ.out
    rw [HE.out] at hq
    rw [impl_FindPath.ix_hit id l0 0 kk hlt (fun j hj => HA.out j hj (by omega)) hq, Int.zero_add]
    rfl
   | false =>
    rw [hq] at hcl
    have HCL := Aside0.mk hcl
    have HQ := Aside0.mk hq
    clear hcl hq
    go_wp2_with (go_at_call 143; refine (HCL.out _ HB.out).mono ?_; rintro e w1 ⟨rfl, hb1⟩)
    go_roundg (l0.length - (kk + 1))
    case measure => have := hg.out; omega
    case rel =>
     refine ⟨kk + 1, by go_num, ⟨by omega⟩, ⟨by omega⟩, ⟨below_step HB.out hb1⟩, ⟨fun j hj hl => ?_⟩⟩
     rcases Nat.lt_or_ge j kk with h3 | h3
     ·
      exact HA.out j h3 hl
     ·
      have h4 : j = kk := by omega
      subst h4
      rw [← HE.out]
      exact HQ.out
  ·
   have hge : decide ((kk : Int) < (l0.length : Int)) = false := decide_eq_false (by omega)
   have hgen : decide (kk < l0.length) = false := decide_eq_false hlt
   go_wp2
   go_ret
   refine ⟨?_, HB.out⟩
   rw [impl_FindPath.ix_miss id l0 0 (fun j hj => HA.out j (by omega) hj)]
   rfl

def impl_FindPath.f (l0 : List S89) (a1 : Int) : Option Int := some (impl_FindPath.ix a1 l0 0)
set_option maxHeartbeats 400000 in
set_option maxRecDepth 100000 in
theorem impl_FindPath.calls (A0 : Option Addr) (c0 : Nat) (l0 : List S89) (a1 : Int) (r : Int) (w : World) (hr0 : Kd.C k89 w A0 l0.length l0) (hc0 : l0.length ≤ c0) (h : impl_FindPath.f l0 a1 = some r) :
  Calls Try.prog 119 #[.slice A0 l0.length c0, .int .i64 a1] w fun e w' => e = .returned (.int .i64 r) ∧ Below w.heap.size w w' := by
 obtain rfl := Option.some.inj h
 have HR0 := Aside0.mk hr0
 have HC0 := Aside0.mk hc0
 clear hr0 hc0 h
 go_enter Try.func119, Try.ntmps119
 go_wp2_with (go_at_call 142; refine (impl_FindPath.idx a1 w.heap.size A0 c0 l0 _ ?s1 HC0.out ?s2).mono ?_; (case s1 => exact Kd.C_alloc HR0.out _); (case s2 => simp); rintro e w1 ⟨rfl, hb1⟩)
 go_ret
 exact ⟨rfl, below_step (below_alloc (Below.refl _ _) _) hb1⟩

/-! ### impl_InRange: function 66 -/
def impl_InRange.f (a0 : Int) (a1 : Int) (a2 : Int) : Option (Bool) := if a1 ≤ a0 then (some (decide (a0 ≤ a2))) else (some false)
set_option maxHeartbeats 8000000 in
set_option maxRecDepth 100000 in
theorem impl_InRange.calls (a0 : Int) (a1 : Int) (a2 : Int) (r : Bool) (w : World) (h : impl_InRange.f a0 a1 a2 = some r) :
  Calls Try.prog 66 #[.int .i64 a0, .int .i64 a1, .int .i64 a2] w fun e w' => e = .returned (.bool r) ∧ Drawn0 w w' := by
 have H : (if a1 ≤ a0 then (some (decide (a0 ≤ a2))) else (some false)) = some r := h
 clear h
 by_cases c4 : a1 ≤ a0
 ·
  rw [if_pos c4] at H
  have c4b0 := decide_eq_true c4
  clear c4
  obtain rfl := Option.some.inj H
  go_enter Try.func66, Try.ntmps66
  go_wp2
  go_ret
  exact ⟨by first | rfl | (simp; done) | (simp [*]; done), by repeat (first | exact Drawn0.refl _ | apply Drawn0.step)⟩
 ·
  rw [if_neg c4] at H
  have c4b0 := decide_eq_false c4
  clear c4
  obtain rfl := Option.some.inj H
  go_enter Try.func66, Try.ntmps66
  go_wp2
  go_ret
  exact ⟨by first | rfl | (simp; done) | (simp [*]; done), by repeat (first | exact Drawn0.refl _ | apply Drawn0.step)⟩

/-! ### impl_LeastGreen: function 77 -/
def impl_LeastGreen.l0 : Nat → List (S89) → List Int → Int → Int → Option (Int)
 | 0, _, _, _, _ => none
 | k + 1, x0, x8, x9, x10 => if x10 < x9 then (if 0 ≤ x10 then (if x10 < (x8.length : Int) then ((impl_FindPath.f x0 (rd x8 x10)).bind fun t273 => (if t273 ≥ 0 then (if 0 ≤ t273 then (if t273 < (x0.length : Int) then (if ((rd_T89 x0 t273).f1) = 2 then (some 7) else (impl_LeastGreen.l0 k x0 x8 x9 (wrap64 (x10 + 1)))) else (none)) else (none)) else (impl_LeastGreen.l0 k x0 x8 x9 (wrap64 (x10 + 1))))) else (none)) else (none)) else (some 5)
def impl_LeastGreen.f (k : Nat) (l0 : List (S89)) (l1 : List Int) : Option (Int) := impl_LeastGreen.l0 k l0 l1 (l1.length : Int) 0
theorem impl_LeastGreen.mono_l : ∀ k, (∀ y0 y1 y2 y3, LeO (impl_LeastGreen.l0 k y0 y1 y2 y3) (impl_LeastGreen.l0 (k + 1) y0 y1 y2 y3))
 | 0 => fun _ _ _ _ r h => by simp [impl_LeastGreen.l0] at h
 | k + 1 => by
  have ih0 := impl_LeastGreen.mono_l k
  ·
   intro y0 y1 y2 y3
   unfold impl_LeastGreen.l0
   repeat' first | (with_reducible first | exact LeO.refl _ | exact LeO.none _ | refine LeO.ite ?_ ?_ | refine LeO.bind ?_ (fun _ => ?_) | exact ih0 _ _ _ _)
theorem impl_LeastGreen.mono : ∀ a0 a1 k, LeO (impl_LeastGreen.f k a0 a1) (impl_LeastGreen.f (k + 1) a0 a1) := by
 intro a0 a1 k
 have ih0 := impl_LeastGreen.mono_l k
 unfold impl_LeastGreen.f
 repeat' first | (with_reducible first | exact LeO.refl _ | exact LeO.none _ | refine LeO.ite ?_ ?_ | refine LeO.bind ?_ (fun _ => ?_) | exact ih0 _ _ _ _)
set_option maxHeartbeats 8000000 in
set_option maxRecDepth 100000 in
theorem impl_LeastGreen.calls (k : Nat) (A0 : Option Addr) (c0 : Nat) (l0 : List (S89)) (A1 : Option Addr) (c1 : Nat) (l1 : List Int) (r : Int) (w : World) (hr0 : Kd.C k89 w A0 l0.length l0) (hc0 : l0.length ≤ c0) (hr1 : Kd.C (Kd.int .i64) w A1 l1.length l1) (hc1 : l1.length ≤ c1) (h : impl_LeastGreen.f k l0 l1 = some r) :
  Calls Try.prog 77 #[.slice A0 l0.length c0, .slice A1 l1.length c1] w fun e w' => e = .returned (.int .i64 r) ∧ Below w.heap.size w w' := by
 have HR0 := Aside0.mk hr0
 have HC0 := Aside0.mk hc0
 clear hr0 hc0
 have HR1 := Aside0.mk hr1
 have HC1 := Aside0.mk hc1
 clear hr1 hc1
 have HB := Aside0.mk (Below.refl w.heap.size w)
 have H : (impl_LeastGreen.l0 k l0 l1 (l1.length : Int) 0) = some r := h
 clear h
 have H' := Aside0.mk H
 clear H
 go_enter Try.func77, Try.ntmps77
 go_wp2
 go_loopg [10] k (fun kq v10 w' => ∃ (x10_1 : Int), v10 = .int .i64 x10_1 ∧ Aside0 (impl_LeastGreen.l0 kq l0 l1 (l1.length : Int) x10_1 = some r) ∧ Aside0 (kq ≤ k) ∧ Aside0 (Below w.heap.size w w'))
 case atStart => exact ⟨(0), rS, H', ⟨Nat.le_refl _⟩, ⟨bA⟩⟩
 case round =>
  clear H'
  try clear c1
  try clear p2
  obtain ⟨x10_1, rfl, HA, HK1, HB⟩ := hrel
  cases gk with
  | zero => exact absurd HA.out (by simp [impl_LeastGreen.l0])
  | succ k1 =>
   have H := HA.out
   clear HA
   simp only [impl_LeastGreen.l0] at H
   by_cases c3 : x10_1 < (l1.length : Int)
   ·
    rw [if_pos c3] at H
    have c3b0 := decide_eq_true c3
    clear c3
    have c4 : 0 ≤ x10_1 := ifN H
    replace H := ifT H
    have c4b0 := decide_eq_true c4
    clear c4
    have c5 : x10_1 < (l1.length : Int) := ifN H
    replace H := ifT H
    have c5b0 := decide_eq_true c5
    clear c5
    obtain ⟨t273, A6, H⟩ := bindE H
    try dsimp only at H
    by_cases c7 : t273 ≥ 0
    ·
     rw [if_pos c7] at H
     have c7b0 := decide_eq_true c7
     clear c7
     have c8 : 0 ≤ t273 := ifN H
     replace H := ifT H
     have c8b0 := decide_eq_true c8
     clear c8
     have c9 : t273 < (l0.length : Int) := ifN H
     replace H := ifT H
     have c9b0 := decide_eq_true c9
     clear c9
     by_cases c10 : ((rd_T89 l0 t273).f1) = 2
     ·
      rw [if_pos c10] at H
      have c10b0 : (((rd_T89 l0 t273).f1) == 2) = true := beq_iff_eq.mpr c10
      have c10b1 : (((rd_T89 l0 t273).f1) != 2) = false := bne_eq_false_iff_eq.mpr c10
      clear c10
      obtain rfl := Option.some.inj H
      have p272 : 0 ≤ (x10_1 : Int) := dA
      have q272 : x10_1 < (l1.length : Int) := dA
      obtain ⟨ad272, e272, hx272_0⟩ := Kd.at_int HR1.out x10_1 p272 q272
      cases e272
      replace hx272_0 := hC HB hx272_0
      replace p272 := eq_true p272
      replace q272 := eq_true q272
      go_wp2_with (first | ((with_reducible refine gate_callee (f := 119) rfl ?_); refine gL (some 16) Try.func119 #[.slice A0 l0.length c0, .int .i64 (rd l1 x10_1)] ?_; (with_reducible refine (impl_FindPath.calls _ _ l0 (rd l1 x10_1) t273 _ ?side1 ?side2 A6.out).mono ?_); (case side1 => exact cB HR0); (case side2 => exact HC0.out); rintro e w11 ⟨rfl, hb⟩; refine ⟨_, rfl, ?_⟩; replace HB := Aside0.mk (below_step bA hb); (try clear hb); have p274 : 0 ≤ (t273 : Int) := dA; have q274 : t273 < (l0.length : Int) := dA; obtain ⟨ad274, e274, hx274_0, hx274_1, hx274_2, hx274_3⟩ := at_T89 HR0.out t273 p274 q274; cases e274; replace hx274_0 := hC HB hx274_0; replace hx274_1 := hC HB hx274_1; replace hx274_2 := hC HB hx274_2; replace hx274_3 := hC HB hx274_3; replace p274 := eq_true p274; replace q274 := eq_true q274))
      go_ret
      exact ⟨rA, bA⟩
     ·
      rw [if_neg c10] at H
      have c10b0 : (((rd_T89 l0 t273).f1) == 2) = false := beq_eq_false_iff_ne.mpr c10
      have c10b1 : (((rd_T89 l0 t273).f1) != 2) = true := bne_iff_ne.mpr c10
      have H' := Aside0.mk H
      clear H
      have p272 : 0 ≤ (x10_1 : Int) := dA
      have q272 : x10_1 < (l1.length : Int) := dA
      obtain ⟨ad272, e272, hx272_0⟩ := Kd.at_int HR1.out x10_1 p272 q272
      cases e272
      replace hx272_0 := hC HB hx272_0
      replace p272 := eq_true p272
      replace q272 := eq_true q272
      go_wp2_with (first | ((with_reducible refine gate_callee (f := 119) rfl ?_); refine gL (some 16) Try.func119 #[.slice A0 l0.length c0, .int .i64 (rd l1 x10_1)] ?_; (with_reducible refine (impl_FindPath.calls _ _ l0 (rd l1 x10_1) t273 _ ?side1 ?side2 A6.out).mono ?_); (case side1 => exact cB HR0); (case side2 => exact HC0.out); rintro e w12 ⟨rfl, hb⟩; refine ⟨_, rfl, ?_⟩; replace HB := Aside0.mk (below_step bA hb); (try clear hb); have p274 : 0 ≤ (t273 : Int) := dA; have q274 : t273 < (l0.length : Int) := dA; obtain ⟨ad274, e274, hx274_0, hx274_1, hx274_2, hx274_3⟩ := at_T89 HR0.out t273 p274 q274; cases e274; replace hx274_0 := hC HB hx274_0; replace hx274_1 := hC HB hx274_1; replace hx274_2 := hC HB hx274_2; replace hx274_3 := hC HB hx274_3; replace p274 := eq_true p274; replace q274 := eq_true q274))
      go_roundg k1
      case measure => have := HK1.out; omega
      case rel => exact ⟨(wrap64 (x10_1 + 1)), rS, H', ⟨by have := HK1.out; omega⟩, ⟨bA⟩⟩
    ·
     rw [if_neg c7] at H
     have c7b0 := decide_eq_false c7
     clear c7
     have H' := Aside0.mk H
     clear H
     have p272 : 0 ≤ (x10_1 : Int) := dA
     have q272 : x10_1 < (l1.length : Int) := dA
     obtain ⟨ad272, e272, hx272_0⟩ := Kd.at_int HR1.out x10_1 p272 q272
     cases e272
     replace hx272_0 := hC HB hx272_0
     replace p272 := eq_true p272
     replace q272 := eq_true q272
     go_wp2_with (first | ((with_reducible refine gate_callee (f := 119) rfl ?_); refine gL (some 16) Try.func119 #[.slice A0 l0.length c0, .int .i64 (rd l1 x10_1)] ?_; (with_reducible refine (impl_FindPath.calls _ _ l0 (rd l1 x10_1) t273 _ ?side1 ?side2 A6.out).mono ?_); (case side1 => exact cB HR0); (case side2 => exact HC0.out); rintro e w13 ⟨rfl, hb⟩; refine ⟨_, rfl, ?_⟩; replace HB := Aside0.mk (below_step bA hb); (try clear hb)))
     go_roundg k1
     case measure => have := HK1.out; omega
     case rel => exact ⟨(wrap64 (x10_1 + 1)), rS, H', ⟨by have := HK1.out; omega⟩, ⟨bA⟩⟩
   ·
    rw [if_neg c3] at H
    have c3b0 := decide_eq_false c3
    clear c3
    obtain rfl := Option.some.inj H
    go_wp2
    go_ret
    exact ⟨rA, bA⟩

/-! ### impl_IsPath: function 146 -/
def impl_IsPath.f (a0_0 : Int) (a0_1 : Int) (a0_2 : Int) (a0_3 : Int) : Option (Bool) := (impl_InRange.f a0_0 1 20).bind fun t276 => (if t276 = true then ((impl_InRange.f a0_1 1 3).bind fun t277 => (if t277 = true then ((impl_InRange.f a0_2 0 3).bind fun t278 => (if t278 = true then ((impl_InRange.f a0_3 0 3).bind fun t279 => (if t279 = true then (some ((a0_2 == a0_3) == (a0_1 == 2))) else (some false))) else (some false))) else (some false))) else (some false))
set_option maxHeartbeats 8000000 in
set_option maxRecDepth 100000 in
theorem impl_IsPath.calls (a0_0 : Int) (a0_1 : Int) (a0_2 : Int) (a0_3 : Int) (r : Bool) (w : World) (h : impl_IsPath.f a0_0 a0_1 a0_2 a0_3 = some r) :
  Calls Try.prog 146 #[.agg #[.int .i64 a0_0, .int .i64 a0_1, .int .i64 a0_2, .int .i64 a0_3]] w fun e w' => e = .returned (.bool r) ∧ Below w.heap.size w w' := by
 have hu89 := Try.underlying89
 have HB := Aside0.mk (Below.refl w.heap.size w)
 have H : ((impl_InRange.f a0_0 1 20).bind fun t276 => (if t276 = true then ((impl_InRange.f a0_1 1 3).bind fun t277 => (if t277 = true then ((impl_InRange.f a0_2 0 3).bind fun t278 => (if t278 = true then ((impl_InRange.f a0_3 0 3).bind fun t279 => (if t279 = true then (some ((a0_2 == a0_3) == (a0_1 == 2))) else (some false))) else (some false))) else (some false))) else (some false))) = some r := h
 clear h
 obtain ⟨t276, A2, H⟩ := bindE H
 try dsimp only at H
 by_cases c3 : t276 = true
 ·
  subst c3
  have H1 : ((impl_InRange.f a0_1 1 3).bind fun t277 => (if t277 = true then ((impl_InRange.f a0_2 0 3).bind fun t278 => (if t278 = true then ((impl_InRange.f a0_3 0 3).bind fun t279 => (if t279 = true then (some ((a0_2 == a0_3) == (a0_1 == 2))) else (some false))) else (some false))) else (some false))) = some r := by rw [if_pos rfl] at H; exact H
  clear H
  have H := H1
  clear H1
  obtain ⟨t277, A4, H⟩ := bindE H
  try dsimp only at H
  by_cases c5 : t277 = true
  ·
   subst c5
   have H1 : ((impl_InRange.f a0_2 0 3).bind fun t278 => (if t278 = true then ((impl_InRange.f a0_3 0 3).bind fun t279 => (if t279 = true then (some ((a0_2 == a0_3) == (a0_1 == 2))) else (some false))) else (some false))) = some r := by rw [if_pos rfl] at H; exact H
   clear H
   have H := H1
   clear H1
   obtain ⟨t278, A6, H⟩ := bindE H
   try dsimp only at H
   by_cases c7 : t278 = true
   ·
    subst c7
    have H1 : ((impl_InRange.f a0_3 0 3).bind fun t279 => (if t279 = true then (some ((a0_2 == a0_3) == (a0_1 == 2))) else (some false))) = some r := by rw [if_pos rfl] at H; exact H
    clear H
    have H := H1
    clear H1
    obtain ⟨t279, A8, H⟩ := bindE H
    try dsimp only at H
    by_cases c9 : t279 = true
    ·
     subst c9
     have H1 : (some ((a0_2 == a0_3) == (a0_1 == 2))) = some r := by rw [if_pos rfl] at H; exact H
     clear H
     have H := H1
     clear H1
     obtain rfl := Option.some.inj H
     go_enter Try.func146, Try.ntmps146
     go_wp2_with (first | ((with_reducible refine gate_dst (N := 1) rfl ?_); refine bE (N := 1) (cs := #[.int .i64 a0_0, .int .i64 a0_1, .int .i64 a0_2, .int .i64 a0_3]) (t := 89) ?_; intro gb275 hg w10 hbox hb; have n0_ := Aside0.mk (below_step bA hb); have n1_ := Aside0.mk (hbox); have n2_ := Aside0.mk ((by rw [hg]; exact (below_size bA) : w.heap.size ≤ gb275)); have n3_ := Aside0.mk ((by rw [hg]; exact (below_size bA) : w.heap.size ≤ gb275)); clear HB; have HB := n0_; have BK275 := n1_; have GW275 := n2_; have GE275 := n3_; clear n0_ n1_ n2_ n3_; clear hb hbox hg; have hcz11_0 : w10.cell? ⟨gb275, 0, none⟩ = some (.int .i64 a0_0) := bC BK275 0; have hcz11_1 : w10.cell? ⟨gb275, 1, none⟩ = some (.int .i64 a0_1) := bC BK275 1; have hcz11_2 : w10.cell? ⟨gb275, 2, none⟩ = some (.int .i64 a0_2) := bC BK275 2; have hcz11_3 : w10.cell? ⟨gb275, 3, none⟩ = some (.int .i64 a0_3) := bC BK275 3; have hfz11_0 := blk_frozen BK275.out 0; have hfz11_1 := blk_frozen BK275.out 1; have hfz11_2 := blk_frozen BK275.out 2; have hfz11_3 := blk_frozen BK275.out 3) | ((with_reducible refine gate_callee (f := 66) rfl ?_); refine gL (some 5) Try.func66 #[.int .i64 a0_0, .int .i64 1, .int .i64 20] ?_; (with_reducible refine (impl_InRange.calls a0_0 1 20 true _ A2.out).mono ?_); rintro e w' ⟨rfl, ⟨nd, rfl⟩⟩; refine ⟨_, rfl, ?_⟩) | (go_at_call 66; (with_reducible refine (impl_InRange.calls a0_1 1 3 true _ A4.out).mono ?_); rintro e w' ⟨rfl, ⟨nd, rfl⟩⟩) | (go_at_call 66; (with_reducible refine (impl_InRange.calls a0_2 0 3 true _ A6.out).mono ?_); rintro e w' ⟨rfl, ⟨nd, rfl⟩⟩) | (go_at_call 66; (with_reducible refine (impl_InRange.calls a0_3 0 3 true _ A8.out).mono ?_); rintro e w' ⟨rfl, ⟨nd, rfl⟩⟩))
     go_ret
     exact ⟨rA, bG⟩
    ·
     replace c9 := Bool.eq_false_iff.mpr c9
     subst c9
     have H1 : (some false) = some r := by rw [if_neg (show ¬ (false = true) by decide)] at H; exact H
     clear H
     have H := H1
     clear H1
     obtain rfl := Option.some.inj H
     go_enter Try.func146, Try.ntmps146
     go_wp2_with (first | ((with_reducible refine gate_dst (N := 1) rfl ?_); refine bE (N := 1) (cs := #[.int .i64 a0_0, .int .i64 a0_1, .int .i64 a0_2, .int .i64 a0_3]) (t := 89) ?_; intro gb275 hg w12 hbox hb; have n0_ := Aside0.mk (below_step bA hb); have n1_ := Aside0.mk (hbox); have n2_ := Aside0.mk ((by rw [hg]; exact (below_size bA) : w.heap.size ≤ gb275)); have n3_ := Aside0.mk ((by rw [hg]; exact (below_size bA) : w.heap.size ≤ gb275)); clear HB; have HB := n0_; have BK275 := n1_; have GW275 := n2_; have GE275 := n3_; clear n0_ n1_ n2_ n3_; clear hb hbox hg; have hcz13_0 : w12.cell? ⟨gb275, 0, none⟩ = some (.int .i64 a0_0) := bC BK275 0; have hcz13_1 : w12.cell? ⟨gb275, 1, none⟩ = some (.int .i64 a0_1) := bC BK275 1; have hcz13_2 : w12.cell? ⟨gb275, 2, none⟩ = some (.int .i64 a0_2) := bC BK275 2; have hcz13_3 : w12.cell? ⟨gb275, 3, none⟩ = some (.int .i64 a0_3) := bC BK275 3; have hfz13_0 := blk_frozen BK275.out 0; have hfz13_1 := blk_frozen BK275.out 1; have hfz13_2 := blk_frozen BK275.out 2; have hfz13_3 := blk_frozen BK275.out 3) | ((with_reducible refine gate_callee (f := 66) rfl ?_); refine gL (some 5) Try.func66 #[.int .i64 a0_0, .int .i64 1, .int .i64 20] ?_; (with_reducible refine (impl_InRange.calls a0_0 1 20 true _ A2.out).mono ?_); rintro e w' ⟨rfl, ⟨nd, rfl⟩⟩; refine ⟨_, rfl, ?_⟩) | (go_at_call 66; (with_reducible refine (impl_InRange.calls a0_1 1 3 true _ A4.out).mono ?_); rintro e w' ⟨rfl, ⟨nd, rfl⟩⟩) | (go_at_call 66; (with_reducible refine (impl_InRange.calls a0_2 0 3 true _ A6.out).mono ?_); rintro e w' ⟨rfl, ⟨nd, rfl⟩⟩) | (go_at_call 66; (with_reducible refine (impl_InRange.calls a0_3 0 3 false _ A8.out).mono ?_); rintro e w' ⟨rfl, ⟨nd, rfl⟩⟩))
     go_ret
     exact ⟨rA, bG⟩
   ·
    replace c7 := Bool.eq_false_iff.mpr c7
    subst c7
    have H1 : (some false) = some r := by rw [if_neg (show ¬ (false = true) by decide)] at H; exact H
    clear H
    have H := H1
    clear H1
    obtain rfl := Option.some.inj H
    go_enter Try.func146, Try.ntmps146
    go_wp2_with (first | ((with_reducible refine gate_dst (N := 1) rfl ?_); refine bE (N := 1) (cs := #[.int .i64 a0_0, .int .i64 a0_1, .int .i64 a0_2, .int .i64 a0_3]) (t := 89) ?_; intro gb275 hg w14 hbox hb; have n0_ := Aside0.mk (below_step bA hb); have n1_ := Aside0.mk (hbox); have n2_ := Aside0.mk ((by rw [hg]; exact (below_size bA) : w.heap.size ≤ gb275)); have n3_ := Aside0.mk ((by rw [hg]; exact (below_size bA) : w.heap.size ≤ gb275)); clear HB; have HB := n0_; have BK275 := n1_; have GW275 := n2_; have GE275 := n3_; clear n0_ n1_ n2_ n3_; clear hb hbox hg; have hcz15_0 : w14.cell? ⟨gb275, 0, none⟩ = some (.int .i64 a0_0) := bC BK275 0; have hcz15_1 : w14.cell? ⟨gb275, 1, none⟩ = some (.int .i64 a0_1) := bC BK275 1; have hcz15_2 : w14.cell? ⟨gb275, 2, none⟩ = some (.int .i64 a0_2) := bC BK275 2; have hcz15_3 : w14.cell? ⟨gb275, 3, none⟩ = some (.int .i64 a0_3) := bC BK275 3; have hfz15_0 := blk_frozen BK275.out 0; have hfz15_1 := blk_frozen BK275.out 1; have hfz15_2 := blk_frozen BK275.out 2; have hfz15_3 := blk_frozen BK275.out 3) | ((with_reducible refine gate_callee (f := 66) rfl ?_); refine gL (some 5) Try.func66 #[.int .i64 a0_0, .int .i64 1, .int .i64 20] ?_; (with_reducible refine (impl_InRange.calls a0_0 1 20 true _ A2.out).mono ?_); rintro e w' ⟨rfl, ⟨nd, rfl⟩⟩; refine ⟨_, rfl, ?_⟩) | (go_at_call 66; (with_reducible refine (impl_InRange.calls a0_1 1 3 true _ A4.out).mono ?_); rintro e w' ⟨rfl, ⟨nd, rfl⟩⟩) | (go_at_call 66; (with_reducible refine (impl_InRange.calls a0_2 0 3 false _ A6.out).mono ?_); rintro e w' ⟨rfl, ⟨nd, rfl⟩⟩))
    go_ret
    exact ⟨rA, bG⟩
  ·
   replace c5 := Bool.eq_false_iff.mpr c5
   subst c5
   have H1 : (some false) = some r := by rw [if_neg (show ¬ (false = true) by decide)] at H; exact H
   clear H
   have H := H1
   clear H1
   obtain rfl := Option.some.inj H
   go_enter Try.func146, Try.ntmps146
   go_wp2_with (first | ((with_reducible refine gate_dst (N := 1) rfl ?_); refine bE (N := 1) (cs := #[.int .i64 a0_0, .int .i64 a0_1, .int .i64 a0_2, .int .i64 a0_3]) (t := 89) ?_; intro gb275 hg w16 hbox hb; have n0_ := Aside0.mk (below_step bA hb); have n1_ := Aside0.mk (hbox); have n2_ := Aside0.mk ((by rw [hg]; exact (below_size bA) : w.heap.size ≤ gb275)); have n3_ := Aside0.mk ((by rw [hg]; exact (below_size bA) : w.heap.size ≤ gb275)); clear HB; have HB := n0_; have BK275 := n1_; have GW275 := n2_; have GE275 := n3_; clear n0_ n1_ n2_ n3_; clear hb hbox hg; have hcz17_0 : w16.cell? ⟨gb275, 0, none⟩ = some (.int .i64 a0_0) := bC BK275 0; have hcz17_1 : w16.cell? ⟨gb275, 1, none⟩ = some (.int .i64 a0_1) := bC BK275 1; have hcz17_2 : w16.cell? ⟨gb275, 2, none⟩ = some (.int .i64 a0_2) := bC BK275 2; have hcz17_3 : w16.cell? ⟨gb275, 3, none⟩ = some (.int .i64 a0_3) := bC BK275 3; have hfz17_0 := blk_frozen BK275.out 0; have hfz17_1 := blk_frozen BK275.out 1; have hfz17_2 := blk_frozen BK275.out 2; have hfz17_3 := blk_frozen BK275.out 3) | ((with_reducible refine gate_callee (f := 66) rfl ?_); refine gL (some 5) Try.func66 #[.int .i64 a0_0, .int .i64 1, .int .i64 20] ?_; (with_reducible refine (impl_InRange.calls a0_0 1 20 true _ A2.out).mono ?_); rintro e w' ⟨rfl, ⟨nd, rfl⟩⟩; refine ⟨_, rfl, ?_⟩) | (go_at_call 66; (with_reducible refine (impl_InRange.calls a0_1 1 3 false _ A4.out).mono ?_); rintro e w' ⟨rfl, ⟨nd, rfl⟩⟩))
   go_ret
   exact ⟨rA, bG⟩
 ·
  replace c3 := Bool.eq_false_iff.mpr c3
  subst c3
  have H1 : (some false) = some r := by rw [if_neg (show ¬ (false = true) by decide)] at H; exact H
  clear H
  have H := H1
  clear H1
  obtain rfl := Option.some.inj H
  go_enter Try.func146, Try.ntmps146
  go_wp2_with (first | ((with_reducible refine gate_dst (N := 1) rfl ?_); refine bE (N := 1) (cs := #[.int .i64 a0_0, .int .i64 a0_1, .int .i64 a0_2, .int .i64 a0_3]) (t := 89) ?_; intro gb275 hg w18 hbox hb; have n0_ := Aside0.mk (below_step bA hb); have n1_ := Aside0.mk (hbox); have n2_ := Aside0.mk ((by rw [hg]; exact (below_size bA) : w.heap.size ≤ gb275)); have n3_ := Aside0.mk ((by rw [hg]; exact (below_size bA) : w.heap.size ≤ gb275)); clear HB; have HB := n0_; have BK275 := n1_; have GW275 := n2_; have GE275 := n3_; clear n0_ n1_ n2_ n3_; clear hb hbox hg; have hcz19_0 : w18.cell? ⟨gb275, 0, none⟩ = some (.int .i64 a0_0) := bC BK275 0; have hcz19_1 : w18.cell? ⟨gb275, 1, none⟩ = some (.int .i64 a0_1) := bC BK275 1; have hcz19_2 : w18.cell? ⟨gb275, 2, none⟩ = some (.int .i64 a0_2) := bC BK275 2; have hcz19_3 : w18.cell? ⟨gb275, 3, none⟩ = some (.int .i64 a0_3) := bC BK275 3; have hfz19_0 := blk_frozen BK275.out 0; have hfz19_1 := blk_frozen BK275.out 1; have hfz19_2 := blk_frozen BK275.out 2; have hfz19_3 := blk_frozen BK275.out 3) | ((with_reducible refine gate_callee (f := 66) rfl ?_); refine gL (some 5) Try.func66 #[.int .i64 a0_0, .int .i64 1, .int .i64 20] ?_; (with_reducible refine (impl_InRange.calls a0_0 1 20 false _ A2.out).mono ?_); rintro e w' ⟨rfl, ⟨nd, rfl⟩⟩; refine ⟨_, rfl, ?_⟩))
  go_ret
  exact ⟨rA, bG⟩

/-! ### impl_ArePaths: function 126 -/
def impl_ArePaths.l0 : Nat → List (S89) → List (S89) → Int → Int → Option (Bool)
 | 0, _, _, _, _ => none
 | k + 1, x0, x8, x9, x10 => if x10 < x9 then (if 0 ≤ x10 then (if x10 < (x8.length : Int) then ((impl_IsPath.f ((rd_T89 x8 x10).f0) ((rd_T89 x8 x10).f1) ((rd_T89 x8 x10).f2) ((rd_T89 x8 x10).f3)).bind fun t282 => (if t282 = true then (if x10 > 0 then (if 0 ≤ (wrap64 (x10 - 1)) then (if (wrap64 (x10 - 1)) < (x0.length : Int) then (if ((rd_T89 x8 x10).f0) ≤ ((rd_T89 x0 (wrap64 (x10 - 1))).f0) then (some false) else (impl_ArePaths.l0 k x0 x8 x9 (wrap64 (x10 + 1)))) else (none)) else (none)) else (impl_ArePaths.l0 k x0 x8 x9 (wrap64 (x10 + 1)))) else (some false))) else (none)) else (none)) else (some true)
def impl_ArePaths.f (k : Nat) (l0 : List (S89)) : Option (Bool) := if (l0.length : Int) > 12 then (some false) else (impl_ArePaths.l0 k l0 l0 (l0.length : Int) 0)
theorem impl_ArePaths.mono_l : ∀ k, (∀ y0 y1 y2 y3, LeO (impl_ArePaths.l0 k y0 y1 y2 y3) (impl_ArePaths.l0 (k + 1) y0 y1 y2 y3))
 | 0 => fun _ _ _ _ r h => by simp [impl_ArePaths.l0] at h
 | k + 1 => by
  have ih0 := impl_ArePaths.mono_l k
  ·
   intro y0 y1 y2 y3
   unfold impl_ArePaths.l0
   repeat' first | (with_reducible first | exact LeO.refl _ | exact LeO.none _ | refine LeO.ite ?_ ?_ | refine LeO.bind ?_ (fun _ => ?_) | exact ih0 _ _ _ _)
theorem impl_ArePaths.mono : ∀ a0 k, LeO (impl_ArePaths.f k a0) (impl_ArePaths.f (k + 1) a0) := by
 intro a0 k
 have ih0 := impl_ArePaths.mono_l k
 unfold impl_ArePaths.f
 repeat' first | (with_reducible first | exact LeO.refl _ | exact LeO.none _ | refine LeO.ite ?_ ?_ | refine LeO.bind ?_ (fun _ => ?_) | exact ih0 _ _ _ _)
def impl_ArePaths.T6 : Bool × List (List Nat × List Nat) := (true, [([], []), ([0], [0]), ([1], [1]), ([2, 1], [2]), ([3], [3]), ([4, 3], [3, 4]), ([5, 3, 3], [3, 5]), ([6], [6]), ([7, 6], [6, 7]), ([6], [6]), ([6], [6]), ([10, 6], [6, 10]), ([9, 11, 6], [6, 9, 11]), ([12, 6], [6, 12]), ([13, 6], [6, 13]), ([8, 14, 6], [6, 8, 14]), ([6, 15, 3], [3, 6, 15]), ([3, 16], [3, 16])])
def impl_ArePaths.B6 : List Nat := [0, 1, 3, 7, 15, 31, 63, 127, 255, 127, 127, 1151, 3711, 7807, 15999, 32767, 65535, 131071]
theorem impl_ArePaths.tab6 : rtab .any (opsOf Try.f126 6) = impl_ArePaths.T6 := by kernel_rfl
theorem impl_ArePaths.bits6 : waitsOk impl_ArePaths.T6.2 impl_ArePaths.B6 = true := by kernel_rfl
set_option maxHeartbeats 8000000 in
set_option maxRecDepth 100000 in
theorem impl_ArePaths.calls (k : Nat) (A0 : Option Addr) (c0 : Nat) (l0 : List (S89)) (r : Bool) (w : World) (hr0 : Kd.C k89 w A0 l0.length l0) (hc0 : l0.length ≤ c0) (h : impl_ArePaths.f k l0 = some r) :
  Calls Try.prog 126 #[.slice A0 l0.length c0] w fun e w' => e = .returned (.bool r) ∧ Below w.heap.size w w' := by
 have hu89 := Try.underlying89
 have HR0 := Aside0.mk hr0
 have HC0 := Aside0.mk hc0
 clear hr0 hc0
 have HB := Aside0.mk (Below.refl w.heap.size w)
 have H : (if (l0.length : Int) > 12 then (some false) else (impl_ArePaths.l0 k l0 l0 (l0.length : Int) 0)) = some r := h
 clear h
 by_cases c2 : (l0.length : Int) > 12
 ·
  rw [if_pos c2] at H
  have c2b0 := decide_eq_true c2
  have c2b1 : decide (12 < l0.length) = true := decide_eq_true (by omega)
  clear c2
  obtain rfl := Option.some.inj H
  go_enter Try.func126, Try.ntmps126
  go_wp2
  go_ret
  exact ⟨rA, bA⟩
 ·
  rw [if_neg c2] at H
  have c2b0 := decide_eq_false c2
  have c2b1 : decide (12 < l0.length) = false := decide_eq_false (by omega)
  clear c2
  have H' := Aside0.mk H
  clear H
  go_enter Try.func126, Try.ntmps126
  go_wp2
  go_loopg [10] k (fun kq v10 w' => ∃ (x10_1 : Int), v10 = .int .i64 x10_1 ∧ Aside0 (impl_ArePaths.l0 kq l0 l0 (l0.length : Int) x10_1 = some r) ∧ Aside0 (kq ≤ k) ∧ Aside0 (Below w.heap.size w w'))
  case atStart => exact ⟨(0), rS, H', ⟨Nat.le_refl _⟩, ⟨bA⟩⟩
  case round =>
   clear H'
   try clear c1
   try clear c2
   try clear c2b0
   try clear c2b1
   try clear p2
   obtain ⟨x10_1, rfl, HA, HK1, HB⟩ := hrel
   cases gk with
   | zero => exact absurd HA.out (by simp [impl_ArePaths.l0])
   | succ k1 =>
    have H := HA.out
    clear HA
    simp only [impl_ArePaths.l0] at H
    by_cases c3 : x10_1 < (l0.length : Int)
    ·
     rw [if_pos c3] at H
     have c3b0 := decide_eq_true c3
     clear c3
     have c4 : 0 ≤ x10_1 := ifN H
     replace H := ifT H
     have c4b0 := decide_eq_true c4
     clear c4
     have c5 : x10_1 < (l0.length : Int) := ifN H
     replace H := ifT H
     have c5b0 := decide_eq_true c5
     clear c5
     obtain ⟨t282, A6, H⟩ := bindE H
     try dsimp only at H
     by_cases c7 : t282 = true
     ·
      subst c7
      have H1 : (if x10_1 > 0 then (if 0 ≤ (wrap64 (x10_1 - 1)) then (if (wrap64 (x10_1 - 1)) < (l0.length : Int) then (if ((rd_T89 l0 x10_1).f0) ≤ ((rd_T89 l0 (wrap64 (x10_1 - 1))).f0) then (some false) else (impl_ArePaths.l0 k1 l0 l0 (l0.length : Int) (wrap64 (x10_1 + 1)))) else (none)) else (none)) else (impl_ArePaths.l0 k1 l0 l0 (l0.length : Int) (wrap64 (x10_1 + 1)))) = some r := by rw [if_pos rfl] at H; exact H
      clear H
      have H := H1
      clear H1
      by_cases c8 : x10_1 > 0
      ·
       rw [if_pos c8] at H
       have c8b0 := decide_eq_true c8
       clear c8
       obtain ⟨ji9, hji9⟩ : ∃ j_ : Int, (wrap64 (x10_1 - 1)) = j_ := ⟨_, rfl⟩
       replace H : (if 0 ≤ (ji9) then (if (ji9) < (l0.length : Int) then (if ((rd_T89 l0 x10_1).f0) ≤ ((rd_T89 l0 (ji9)).f0) then (some false) else (impl_ArePaths.l0 k1 l0 l0 (l0.length : Int) (wrap64 (x10_1 + 1)))) else (none)) else (none)) = some r := by first | (rw [hji9] at H; exact H) | (simp only [hji9] at H ⊢; exact H)
       (try rw [hji9] at A6)
       have hji9w : (IntKind.i64.wrap (x10_1 - 1)) = ji9 := (i64_w _).trans hji9
       have c10 : 0 ≤ (ji9) := ifN H
       replace H := ifT H
       have c10b0 := decide_eq_true c10
       clear c10
       have c11 : (ji9) < (l0.length : Int) := ifN H
       replace H := ifT H
       have c11b0 := decide_eq_true c11
       clear c11
       by_cases c12 : ((rd_T89 l0 x10_1).f0) ≤ ((rd_T89 l0 (ji9)).f0)
       ·
        rw [if_pos c12] at H
        have c12b0 := decide_eq_true c12
        clear c12
        obtain rfl := Option.some.inj H
        have p280 : 0 ≤ (x10_1 : Int) := dA
        have q280 : x10_1 < (l0.length : Int) := dA
        obtain ⟨ad280, e280, hx280_0, hx280_1, hx280_2, hx280_3⟩ := at_T89 HR0.out x10_1 p280 q280
        cases e280
        replace hx280_0 := hC HB hx280_0
        replace hx280_1 := hC HB hx280_1
        replace hx280_2 := hC HB hx280_2
        replace hx280_3 := hC HB hx280_3
        replace p280 := eq_true p280
        replace q280 := eq_true q280
        try go_wp2_with (first | ((with_reducible refine gate_dst (N := 4) rfl ?_); refine bE (N := 4) (cs := #[.int .i64 0, .int .i64 0, .int .i64 0, .int .i64 0]) (t := 89) ?_; intro gb281 hg w13 hbox hb; have n0_ := Aside0.mk (below_step bA hb); have n1_ := Aside0.mk (hbox); have n2_ := Aside0.mk ((by rw [hg]; exact (below_size bA) : w.heap.size ≤ gb281)); have n3_ := Aside0.mk ((by rw [hg]; exact (below_size bA) : w.heap.size ≤ gb281)); clear HB; have HB := n0_; have BK281 := n1_; have GW281 := n2_; have GE281 := n3_; clear n0_ n1_ n2_ n3_; clear hb hbox hg; obtain ⟨hcz14_0, hcz14_1, hcz14_2, hcz14_3, hfz14_0, hfz14_1, hfz14_2, hfz14_3⟩ := blkc4 BK281))
        have n0_ : Aside0 (((((w13.setCell ⟨gb281, 0, none⟩ (.int .i64 ((rd_T89 l0 x10_1).f0))).setCell ⟨gb281, 1, none⟩ (.int .i64 ((rd_T89 l0 x10_1).f1))).setCell ⟨gb281, 2, none⟩ (.int .i64 ((rd_T89 l0 x10_1).f2))).setCell ⟨gb281, 3, none⟩ (.int .i64 ((rd_T89 l0 x10_1).f3))).heap[gb281]? = some (.cells #[.int .i64 ((rd_T89 l0 x10_1).f0), .int .i64 ((rd_T89 l0 x10_1).f1), .int .i64 ((rd_T89 l0 x10_1).f2), .int .i64 ((rd_T89 l0 x10_1).f3)] 89 (0, 0))) := ⟨by (with_reducible repeat (first | refine blk_drewN ?_ _ | refine blk_drew ?_ | refine blk_alloc ?_ _)); refine blk_put (cs := #[.int .i64 ((rd_T89 l0 x10_1).f0), .int .i64 ((rd_T89 l0 x10_1).f1), .int .i64 ((rd_T89 l0 x10_1).f2), .int .i64 0]) ?_ 3 _ rfl; (with_reducible repeat (first | refine blk_drewN ?_ _ | refine blk_drew ?_ | refine blk_alloc ?_ _)); refine blk_put (cs := #[.int .i64 ((rd_T89 l0 x10_1).f0), .int .i64 ((rd_T89 l0 x10_1).f1), .int .i64 0, .int .i64 0]) ?_ 2 _ rfl; (with_reducible repeat (first | refine blk_drewN ?_ _ | refine blk_drew ?_ | refine blk_alloc ?_ _)); refine blk_put (cs := #[.int .i64 ((rd_T89 l0 x10_1).f0), .int .i64 0, .int .i64 0, .int .i64 0]) ?_ 1 _ rfl; (with_reducible repeat (first | refine blk_drewN ?_ _ | refine blk_drew ?_ | refine blk_alloc ?_ _)); refine blk_put (cs := #[.int .i64 0, .int .i64 0, .int .i64 0, .int .i64 0]) ?_ 0 _ rfl; (with_reducible repeat (first | refine blk_drewN ?_ _ | refine blk_drew ?_ | refine blk_alloc ?_ _)); exact BK281.out⟩
        have n1_ : Aside0 (Below w.heap.size w ((((w13.setCell ⟨gb281, 0, none⟩ (.int .i64 ((rd_T89 l0 x10_1).f0))).setCell ⟨gb281, 1, none⟩ (.int .i64 ((rd_T89 l0 x10_1).f1))).setCell ⟨gb281, 2, none⟩ (.int .i64 ((rd_T89 l0 x10_1).f2))).setCell ⟨gb281, 3, none⟩ (.int .i64 ((rd_T89 l0 x10_1).f3)))) := ⟨bG⟩
        (try clear BK281)
        (try clear HB)
        generalize ((((w13.setCell ⟨gb281, 0, none⟩ (.int .i64 ((rd_T89 l0 x10_1).f0))).setCell ⟨gb281, 1, none⟩ (.int .i64 ((rd_T89 l0 x10_1).f1))).setCell ⟨gb281, 2, none⟩ (.int .i64 ((rd_T89 l0 x10_1).f2))).setCell ⟨gb281, 3, none⟩ (.int .i64 ((rd_T89 l0 x10_1).f3))) = w15 at n0_ n1_ ⊢
        have BK281 := n0_
        have HB := n1_
        clear n0_ n1_
        replace BK281 := Aside0.mk (blk_drew BK281.out)
        have HBo := HB
        replace HB := Aside0.mk (below_drew1 HB.out)
        have p283 : 0 ≤ ((ji9) : Int) := dA
        have q283 : (ji9) < (l0.length : Int) := dA
        obtain ⟨ad283, e283, hx283_0, hx283_1, hx283_2, hx283_3⟩ := at_T89 HR0.out (ji9) p283 q283
        have hw283_3 := hx283_3
        have hw283_2 := hx283_2
        have hw283_1 := hx283_1
        have hw283_0 := hx283_0
        obtain rfl : ad280 = ad283 := (by injection e283)
        replace hx283_0 := hC HB hx283_0
        replace hx283_1 := hC HB hx283_1
        replace hx283_2 := hC HB hx283_2
        replace hx283_3 := hC HB hx283_3
        replace p283 := eq_true p283
        replace q283 := eq_true q283
        refine start_ (n := 18) (S := fun w' => w'.cell? ⟨gb281, 0, none⟩ = some (.int .i64 ((rd_T89 l0 x10_1).f0)) ∧ w'.cell? ⟨gb281, 1, none⟩ = some (.int .i64 ((rd_T89 l0 x10_1).f1)) ∧ w'.cell? ⟨gb281, 2, none⟩ = some (.int .i64 ((rd_T89 l0 x10_1).f2)) ∧ w'.cell? ⟨gb281, 3, none⟩ = some (.int .i64 ((rd_T89 l0 x10_1).f3)) ∧ w'.cell? (ad280.add (((ji9)).toNat * 4)) = some (.int .i64 ((rd_T89 l0 (ji9)).f0)) ∧ w'.cell? ⟨(ad280.add (((ji9)).toNat * 4)).block, (ad280.add (((ji9)).toNat * 4)).off + 1, none⟩ = some (.int .i64 ((rd_T89 l0 (ji9)).f1)) ∧ w'.cell? ⟨(ad280.add (((ji9)).toNat * 4)).block, (ad280.add (((ji9)).toNat * 4)).off + 2, none⟩ = some (.int .i64 ((rd_T89 l0 (ji9)).f2)) ∧ w'.cell? ⟨(ad280.add (((ji9)).toNat * 4)).block, (ad280.add (((ji9)).toNat * 4)).off + 3, none⟩ = some (.int .i64 ((rd_T89 l0 (ji9)).f3))) (ds := []) (mb 18 0) (by kernel_rfl) rfl rfl ⟨bC BK281 0, bC BK281 1, bC BK281 2, bC BK281 3, (hC HB hw283_0), (hC HB hw283_1), (hC HB hw283_2), (hC HB hw283_3)⟩ (fun hHeld => ?_); refine with_tabW impl_ArePaths.tab6 impl_ArePaths.bits6 (fun HT_ HW_ => ?_)
        generalize w15.drew = w16 at BK281 HB hx283_0 hx283_1 hx283_2 hx283_3 hHeld ⊢
        refine tA8 (i := 0) (N := some 15) (mb 18 1) HT_ HW_ hHeld ?_
        refine oA (i := 1) (N := some 16) (mb 18 3) HT_ (fun K hK => ?_)
        refine gA Try.func146 #[.agg #[.int .i64 ((rd_T89 l0 x10_1).f0), .int .i64 ((rd_T89 l0 x10_1).f1), .int .i64 ((rd_T89 l0 x10_1).f2), .int .i64 ((rd_T89 l0 x10_1).f3)]] ?_
        with_reducible refine (impl_IsPath.calls ((rd_T89 l0 x10_1).f0) ((rd_T89 l0 x10_1).f1) ((rd_T89 l0 x10_1).f2) ((rd_T89 l0 x10_1).f3) true _ A6.out).mono ?_
        rintro e w17 ⟨rfl, hb⟩
        refine ⟨_, rfl, ?_⟩
        replace BK281 := Aside0.mk (blk_below (g := gb281) (bK BK281) hb)
        replace HB := Aside0.mk (below_step bG hb)
        (try clear hb)
        (try clear hb2)
        (try clear hk)
        (try clear hi)
        refine hK.out _ _ ⟨bC BK281 0, bC BK281 1, bC BK281 2, bC BK281 3, (hC HB hw283_0), (hC HB hw283_1), (hC HB hw283_2), (hC HB hw283_3)⟩ (fun hHeld => ?_)
        clear hK K
        refine nB ?_
        refine pA (i := 2) (N := some 17) (mb 18 7) HT_ ?_
        refine pA (i := 3) (N := some 18) (mb 18 15) HT_ ?_
        refine pA (i := 4) (N := some 19) (mb 18 31) HT_ ?_
        refine pA (i := 5) (N := some 20) (mb 18 63) HT_ ?_
        refine pA (i := 6) (N := some 21) (mb 18 127) HT_ ?_
        refine pA (i := 7) (N := some 22) (mb 18 255) HT_ ?_
        refine pA (i := 9) (N := some 24) (mb 18 767) HT_ ?_
        refine pA (i := 10) (N := some 25) (mb 18 1791) HT_ ?_
        refine pA (i := 11) (N := some 26) (mb 18 3839) HT_ ?_
        refine pA (i := 12) (N := some 27) (mb 18 7935) HT_ ?_
        refine pA (i := 13) (N := some 28) (mb 18 16127) HT_ ?_
        refine tA8 (i := 8) (N := some 23) (mb 18 16383) HT_ HW_ hHeld ?_
        refine tA8 (i := 14) (N := some 29) (mb 18 32767) HT_ HW_ hHeld ?_
        refine pA (i := 15) (N := some 30) (mb 18 65535) HT_ ?_
        refine pA (i := 16) (N := some 31) (mb 18 131071) HT_ ?_
        refine pA (i := 17) (N := some 32) (mb 18 262143) HT_ ?_
        refine eA HT_ ?_
        try go_wp2
        go_ret
        exact ⟨by first | rfl | (simp [errW_none, errW_some] <;> rfl) | (simp only [← hji9]; first | rfl | (simp [errW_none, errW_some] <;> rfl)) | (simp [*, errW_none, errW_some] <;> rfl), bG⟩
       ·
        rw [if_neg c12] at H
        have c12b0 := decide_eq_false c12
        clear c12
        have H' := Aside0.mk H
        clear H
        have p280 : 0 ≤ (x10_1 : Int) := dA
        have q280 : x10_1 < (l0.length : Int) := dA
        obtain ⟨ad280, e280, hx280_0, hx280_1, hx280_2, hx280_3⟩ := at_T89 HR0.out x10_1 p280 q280
        cases e280
        replace hx280_0 := hC HB hx280_0
        replace hx280_1 := hC HB hx280_1
        replace hx280_2 := hC HB hx280_2
        replace hx280_3 := hC HB hx280_3
        replace p280 := eq_true p280
        replace q280 := eq_true q280
        try go_wp2_with (first | ((with_reducible refine gate_dst (N := 4) rfl ?_); refine bE (N := 4) (cs := #[.int .i64 0, .int .i64 0, .int .i64 0, .int .i64 0]) (t := 89) ?_; intro gb281 hg w18 hbox hb; have n0_ := Aside0.mk (below_step bA hb); have n1_ := Aside0.mk (hbox); have n2_ := Aside0.mk ((by rw [hg]; exact (below_size bA) : w.heap.size ≤ gb281)); have n3_ := Aside0.mk ((by rw [hg]; exact (below_size bA) : w.heap.size ≤ gb281)); clear HB; have HB := n0_; have BK281 := n1_; have GW281 := n2_; have GE281 := n3_; clear n0_ n1_ n2_ n3_; clear hb hbox hg; obtain ⟨hcz19_0, hcz19_1, hcz19_2, hcz19_3, hfz19_0, hfz19_1, hfz19_2, hfz19_3⟩ := blkc4 BK281))
        have n0_ : Aside0 (((((w18.setCell ⟨gb281, 0, none⟩ (.int .i64 ((rd_T89 l0 x10_1).f0))).setCell ⟨gb281, 1, none⟩ (.int .i64 ((rd_T89 l0 x10_1).f1))).setCell ⟨gb281, 2, none⟩ (.int .i64 ((rd_T89 l0 x10_1).f2))).setCell ⟨gb281, 3, none⟩ (.int .i64 ((rd_T89 l0 x10_1).f3))).heap[gb281]? = some (.cells #[.int .i64 ((rd_T89 l0 x10_1).f0), .int .i64 ((rd_T89 l0 x10_1).f1), .int .i64 ((rd_T89 l0 x10_1).f2), .int .i64 ((rd_T89 l0 x10_1).f3)] 89 (0, 0))) := ⟨by (with_reducible repeat (first | refine blk_drewN ?_ _ | refine blk_drew ?_ | refine blk_alloc ?_ _)); refine blk_put (cs := #[.int .i64 ((rd_T89 l0 x10_1).f0), .int .i64 ((rd_T89 l0 x10_1).f1), .int .i64 ((rd_T89 l0 x10_1).f2), .int .i64 0]) ?_ 3 _ rfl; (with_reducible repeat (first | refine blk_drewN ?_ _ | refine blk_drew ?_ | refine blk_alloc ?_ _)); refine blk_put (cs := #[.int .i64 ((rd_T89 l0 x10_1).f0), .int .i64 ((rd_T89 l0 x10_1).f1), .int .i64 0, .int .i64 0]) ?_ 2 _ rfl; (with_reducible repeat (first | refine blk_drewN ?_ _ | refine blk_drew ?_ | refine blk_alloc ?_ _)); refine blk_put (cs := #[.int .i64 ((rd_T89 l0 x10_1).f0), .int .i64 0, .int .i64 0, .int .i64 0]) ?_ 1 _ rfl; (with_reducible repeat (first | refine blk_drewN ?_ _ | refine blk_drew ?_ | refine blk_alloc ?_ _)); refine blk_put (cs := #[.int .i64 0, .int .i64 0, .int .i64 0, .int .i64 0]) ?_ 0 _ rfl; (with_reducible repeat (first | refine blk_drewN ?_ _ | refine blk_drew ?_ | refine blk_alloc ?_ _)); exact BK281.out⟩
        have n1_ : Aside0 (Below w.heap.size w ((((w18.setCell ⟨gb281, 0, none⟩ (.int .i64 ((rd_T89 l0 x10_1).f0))).setCell ⟨gb281, 1, none⟩ (.int .i64 ((rd_T89 l0 x10_1).f1))).setCell ⟨gb281, 2, none⟩ (.int .i64 ((rd_T89 l0 x10_1).f2))).setCell ⟨gb281, 3, none⟩ (.int .i64 ((rd_T89 l0 x10_1).f3)))) := ⟨bG⟩
        (try clear BK281)
        (try clear HB)
        generalize ((((w18.setCell ⟨gb281, 0, none⟩ (.int .i64 ((rd_T89 l0 x10_1).f0))).setCell ⟨gb281, 1, none⟩ (.int .i64 ((rd_T89 l0 x10_1).f1))).setCell ⟨gb281, 2, none⟩ (.int .i64 ((rd_T89 l0 x10_1).f2))).setCell ⟨gb281, 3, none⟩ (.int .i64 ((rd_T89 l0 x10_1).f3))) = w20 at n0_ n1_ ⊢
        have BK281 := n0_
        have HB := n1_
        clear n0_ n1_
        replace BK281 := Aside0.mk (blk_drew BK281.out)
        have HBo := HB
        replace HB := Aside0.mk (below_drew1 HB.out)
        have p283 : 0 ≤ ((ji9) : Int) := dA
        have q283 : (ji9) < (l0.length : Int) := dA
        obtain ⟨ad283, e283, hx283_0, hx283_1, hx283_2, hx283_3⟩ := at_T89 HR0.out (ji9) p283 q283
        have hw283_3 := hx283_3
        have hw283_2 := hx283_2
        have hw283_1 := hx283_1
        have hw283_0 := hx283_0
        obtain rfl : ad280 = ad283 := (by injection e283)
        replace hx283_0 := hC HB hx283_0
        replace hx283_1 := hC HB hx283_1
        replace hx283_2 := hC HB hx283_2
        replace hx283_3 := hC HB hx283_3
        replace p283 := eq_true p283
        replace q283 := eq_true q283
        refine start_ (n := 18) (S := fun w' => w'.cell? ⟨gb281, 0, none⟩ = some (.int .i64 ((rd_T89 l0 x10_1).f0)) ∧ w'.cell? ⟨gb281, 1, none⟩ = some (.int .i64 ((rd_T89 l0 x10_1).f1)) ∧ w'.cell? ⟨gb281, 2, none⟩ = some (.int .i64 ((rd_T89 l0 x10_1).f2)) ∧ w'.cell? ⟨gb281, 3, none⟩ = some (.int .i64 ((rd_T89 l0 x10_1).f3)) ∧ w'.cell? (ad280.add (((ji9)).toNat * 4)) = some (.int .i64 ((rd_T89 l0 (ji9)).f0)) ∧ w'.cell? ⟨(ad280.add (((ji9)).toNat * 4)).block, (ad280.add (((ji9)).toNat * 4)).off + 1, none⟩ = some (.int .i64 ((rd_T89 l0 (ji9)).f1)) ∧ w'.cell? ⟨(ad280.add (((ji9)).toNat * 4)).block, (ad280.add (((ji9)).toNat * 4)).off + 2, none⟩ = some (.int .i64 ((rd_T89 l0 (ji9)).f2)) ∧ w'.cell? ⟨(ad280.add (((ji9)).toNat * 4)).block, (ad280.add (((ji9)).toNat * 4)).off + 3, none⟩ = some (.int .i64 ((rd_T89 l0 (ji9)).f3))) (ds := []) (mb 18 0) (by kernel_rfl) rfl rfl ⟨bC BK281 0, bC BK281 1, bC BK281 2, bC BK281 3, (hC HB hw283_0), (hC HB hw283_1), (hC HB hw283_2), (hC HB hw283_3)⟩ (fun hHeld => ?_); refine with_tabW impl_ArePaths.tab6 impl_ArePaths.bits6 (fun HT_ HW_ => ?_)
        generalize w20.drew = w21 at BK281 HB hx283_0 hx283_1 hx283_2 hx283_3 hHeld ⊢
        refine tA8 (i := 0) (N := some 15) (mb 18 1) HT_ HW_ hHeld ?_
        refine oA (i := 1) (N := some 16) (mb 18 3) HT_ (fun K hK => ?_)
        refine gA Try.func146 #[.agg #[.int .i64 ((rd_T89 l0 x10_1).f0), .int .i64 ((rd_T89 l0 x10_1).f1), .int .i64 ((rd_T89 l0 x10_1).f2), .int .i64 ((rd_T89 l0 x10_1).f3)]] ?_
        with_reducible refine (impl_IsPath.calls ((rd_T89 l0 x10_1).f0) ((rd_T89 l0 x10_1).f1) ((rd_T89 l0 x10_1).f2) ((rd_T89 l0 x10_1).f3) true _ A6.out).mono ?_
        rintro e w22 ⟨rfl, hb⟩
        refine ⟨_, rfl, ?_⟩
        replace BK281 := Aside0.mk (blk_below (g := gb281) (bK BK281) hb)
        replace HB := Aside0.mk (below_step bG hb)
        (try clear hb)
        (try clear hb2)
        (try clear hk)
        (try clear hi)
        refine hK.out _ _ ⟨bC BK281 0, bC BK281 1, bC BK281 2, bC BK281 3, (hC HB hw283_0), (hC HB hw283_1), (hC HB hw283_2), (hC HB hw283_3)⟩ (fun hHeld => ?_)
        clear hK K
        refine nB ?_
        refine pA (i := 2) (N := some 17) (mb 18 7) HT_ ?_
        refine pA (i := 3) (N := some 18) (mb 18 15) HT_ ?_
        refine pA (i := 4) (N := some 19) (mb 18 31) HT_ ?_
        refine pA (i := 5) (N := some 20) (mb 18 63) HT_ ?_
        refine pA (i := 6) (N := some 21) (mb 18 127) HT_ ?_
        refine pA (i := 7) (N := some 22) (mb 18 255) HT_ ?_
        refine pA (i := 9) (N := some 24) (mb 18 767) HT_ ?_
        refine pA (i := 10) (N := some 25) (mb 18 1791) HT_ ?_
        refine pA (i := 11) (N := some 26) (mb 18 3839) HT_ ?_
        refine pA (i := 12) (N := some 27) (mb 18 7935) HT_ ?_
        refine pA (i := 13) (N := some 28) (mb 18 16127) HT_ ?_
        refine tA8 (i := 8) (N := some 23) (mb 18 16383) HT_ HW_ hHeld ?_
        refine tA8 (i := 14) (N := some 29) (mb 18 32767) HT_ HW_ hHeld ?_
        refine pA (i := 15) (N := some 30) (mb 18 65535) HT_ ?_
        refine pA (i := 16) (N := some 31) (mb 18 131071) HT_ ?_
        refine pA (i := 17) (N := some 32) (mb 18 262143) HT_ ?_
        refine eA HT_ ?_
        try go_wp2
        go_roundg k1
        case measure => have := HK1.out; omega
        case rel => exact ⟨(wrap64 (x10_1 + 1)), rS, H', ⟨by have := HK1.out; omega⟩, ⟨bG⟩⟩
      ·
       rw [if_neg c8] at H
       have c8b0 := decide_eq_false c8
       clear c8
       have H' := Aside0.mk H
       clear H
       have p280 : 0 ≤ (x10_1 : Int) := dA
       have q280 : x10_1 < (l0.length : Int) := dA
       obtain ⟨ad280, e280, hx280_0, hx280_1, hx280_2, hx280_3⟩ := at_T89 HR0.out x10_1 p280 q280
       cases e280
       replace hx280_0 := hC HB hx280_0
       replace hx280_1 := hC HB hx280_1
       replace hx280_2 := hC HB hx280_2
       replace hx280_3 := hC HB hx280_3
       replace p280 := eq_true p280
       replace q280 := eq_true q280
       try go_wp2_with (first | ((with_reducible refine gate_dst (N := 4) rfl ?_); refine bE (N := 4) (cs := #[.int .i64 0, .int .i64 0, .int .i64 0, .int .i64 0]) (t := 89) ?_; intro gb281 hg w23 hbox hb; have n0_ := Aside0.mk (below_step bA hb); have n1_ := Aside0.mk (hbox); have n2_ := Aside0.mk ((by rw [hg]; exact (below_size bA) : w.heap.size ≤ gb281)); have n3_ := Aside0.mk ((by rw [hg]; exact (below_size bA) : w.heap.size ≤ gb281)); clear HB; have HB := n0_; have BK281 := n1_; have GW281 := n2_; have GE281 := n3_; clear n0_ n1_ n2_ n3_; clear hb hbox hg; obtain ⟨hcz24_0, hcz24_1, hcz24_2, hcz24_3, hfz24_0, hfz24_1, hfz24_2, hfz24_3⟩ := blkc4 BK281))
       have n0_ : Aside0 (((((w23.setCell ⟨gb281, 0, none⟩ (.int .i64 ((rd_T89 l0 x10_1).f0))).setCell ⟨gb281, 1, none⟩ (.int .i64 ((rd_T89 l0 x10_1).f1))).setCell ⟨gb281, 2, none⟩ (.int .i64 ((rd_T89 l0 x10_1).f2))).setCell ⟨gb281, 3, none⟩ (.int .i64 ((rd_T89 l0 x10_1).f3))).heap[gb281]? = some (.cells #[.int .i64 ((rd_T89 l0 x10_1).f0), .int .i64 ((rd_T89 l0 x10_1).f1), .int .i64 ((rd_T89 l0 x10_1).f2), .int .i64 ((rd_T89 l0 x10_1).f3)] 89 (0, 0))) := ⟨by (with_reducible repeat (first | refine blk_drewN ?_ _ | refine blk_drew ?_ | refine blk_alloc ?_ _)); refine blk_put (cs := #[.int .i64 ((rd_T89 l0 x10_1).f0), .int .i64 ((rd_T89 l0 x10_1).f1), .int .i64 ((rd_T89 l0 x10_1).f2), .int .i64 0]) ?_ 3 _ rfl; (with_reducible repeat (first | refine blk_drewN ?_ _ | refine blk_drew ?_ | refine blk_alloc ?_ _)); refine blk_put (cs := #[.int .i64 ((rd_T89 l0 x10_1).f0), .int .i64 ((rd_T89 l0 x10_1).f1), .int .i64 0, .int .i64 0]) ?_ 2 _ rfl; (with_reducible repeat (first | refine blk_drewN ?_ _ | refine blk_drew ?_ | refine blk_alloc ?_ _)); refine blk_put (cs := #[.int .i64 ((rd_T89 l0 x10_1).f0), .int .i64 0, .int .i64 0, .int .i64 0]) ?_ 1 _ rfl; (with_reducible repeat (first | refine blk_drewN ?_ _ | refine blk_drew ?_ | refine blk_alloc ?_ _)); refine blk_put (cs := #[.int .i64 0, .int .i64 0, .int .i64 0, .int .i64 0]) ?_ 0 _ rfl; (with_reducible repeat (first | refine blk_drewN ?_ _ | refine blk_drew ?_ | refine blk_alloc ?_ _)); exact BK281.out⟩
       have n1_ : Aside0 (Below w.heap.size w ((((w23.setCell ⟨gb281, 0, none⟩ (.int .i64 ((rd_T89 l0 x10_1).f0))).setCell ⟨gb281, 1, none⟩ (.int .i64 ((rd_T89 l0 x10_1).f1))).setCell ⟨gb281, 2, none⟩ (.int .i64 ((rd_T89 l0 x10_1).f2))).setCell ⟨gb281, 3, none⟩ (.int .i64 ((rd_T89 l0 x10_1).f3)))) := ⟨bG⟩
       (try clear BK281)
       (try clear HB)
       generalize ((((w23.setCell ⟨gb281, 0, none⟩ (.int .i64 ((rd_T89 l0 x10_1).f0))).setCell ⟨gb281, 1, none⟩ (.int .i64 ((rd_T89 l0 x10_1).f1))).setCell ⟨gb281, 2, none⟩ (.int .i64 ((rd_T89 l0 x10_1).f2))).setCell ⟨gb281, 3, none⟩ (.int .i64 ((rd_T89 l0 x10_1).f3))) = w25 at n0_ n1_ ⊢
       have BK281 := n0_
       have HB := n1_
       clear n0_ n1_
       replace BK281 := Aside0.mk (blk_drew BK281.out)
       have HBo := HB
       replace HB := Aside0.mk (below_drew1 HB.out)
       refine start_ (n := 18) (S := fun w' => w'.cell? ⟨gb281, 0, none⟩ = some (.int .i64 ((rd_T89 l0 x10_1).f0)) ∧ w'.cell? ⟨gb281, 1, none⟩ = some (.int .i64 ((rd_T89 l0 x10_1).f1)) ∧ w'.cell? ⟨gb281, 2, none⟩ = some (.int .i64 ((rd_T89 l0 x10_1).f2)) ∧ w'.cell? ⟨gb281, 3, none⟩ = some (.int .i64 ((rd_T89 l0 x10_1).f3))) (ds := []) (mb 18 0) (by kernel_rfl) rfl rfl ⟨bC BK281 0, bC BK281 1, bC BK281 2, bC BK281 3⟩ (fun hHeld => ?_); refine with_tabW impl_ArePaths.tab6 impl_ArePaths.bits6 (fun HT_ HW_ => ?_)
       generalize w25.drew = w26 at BK281 HB hHeld ⊢
       refine tA4 (i := 0) (N := some 15) (mb 18 1) HT_ HW_ hHeld ?_
       refine oA (i := 1) (N := some 16) (mb 18 3) HT_ (fun K hK => ?_)
       refine gA Try.func146 #[.agg #[.int .i64 ((rd_T89 l0 x10_1).f0), .int .i64 ((rd_T89 l0 x10_1).f1), .int .i64 ((rd_T89 l0 x10_1).f2), .int .i64 ((rd_T89 l0 x10_1).f3)]] ?_
       with_reducible refine (impl_IsPath.calls ((rd_T89 l0 x10_1).f0) ((rd_T89 l0 x10_1).f1) ((rd_T89 l0 x10_1).f2) ((rd_T89 l0 x10_1).f3) true _ A6.out).mono ?_
       rintro e w27 ⟨rfl, hb⟩
       refine ⟨_, rfl, ?_⟩
       replace BK281 := Aside0.mk (blk_below (g := gb281) (bK BK281) hb)
       replace HB := Aside0.mk (below_step bG hb)
       (try clear hb)
       (try clear hb2)
       (try clear hk)
       (try clear hi)
       refine hK.out _ _ ⟨bC BK281 0, bC BK281 1, bC BK281 2, bC BK281 3⟩ (fun hHeld => ?_)
       clear hK K
       refine nB ?_
       refine pA (i := 2) (N := some 17) (mb 18 7) HT_ ?_
       refine pA (i := 3) (N := some 18) (mb 18 15) HT_ ?_
       refine pA (i := 4) (N := some 19) (mb 18 31) HT_ ?_
       refine pA (i := 5) (N := some 20) (mb 18 63) HT_ ?_
       refine pA (i := 6) (N := some 21) (mb 18 127) HT_ ?_
       refine pU (i := 7) (N := some 22) (mb 18 255) HT_ ?_
       refine pU (i := 8) (N := some 23) (mb 18 511) HT_ ?_
       refine pU (i := 9) (N := some 24) (mb 18 1023) HT_ ?_
       refine pU (i := 10) (N := some 25) (mb 18 2047) HT_ ?_
       refine pU (i := 11) (N := some 26) (mb 18 4095) HT_ ?_
       refine pU (i := 12) (N := some 27) (mb 18 8191) HT_ ?_
       refine pU (i := 13) (N := some 28) (mb 18 16383) HT_ ?_
       refine pU (i := 14) (N := some 29) (mb 18 32767) HT_ ?_
       refine pU (i := 15) (N := some 30) (mb 18 65535) HT_ ?_
       refine pA (i := 16) (N := some 31) (mb 18 131071) HT_ ?_
       refine pA (i := 17) (N := some 32) (mb 18 262143) HT_ ?_
       refine eA HT_ ?_
       try go_wp2
       go_roundg k1
       case measure => have := HK1.out; omega
       case rel => exact ⟨(wrap64 (x10_1 + 1)), rS, H', ⟨by have := HK1.out; omega⟩, ⟨bG⟩⟩
     ·
      replace c7 := Bool.eq_false_iff.mpr c7
      subst c7
      have H1 : (some false) = some r := by rw [if_neg (show ¬ (false = true) by decide)] at H; exact H
      clear H
      have H := H1
      clear H1
      obtain rfl := Option.some.inj H
      have p280 : 0 ≤ (x10_1 : Int) := dA
      have q280 : x10_1 < (l0.length : Int) := dA
      obtain ⟨ad280, e280, hx280_0, hx280_1, hx280_2, hx280_3⟩ := at_T89 HR0.out x10_1 p280 q280
      cases e280
      replace hx280_0 := hC HB hx280_0
      replace hx280_1 := hC HB hx280_1
      replace hx280_2 := hC HB hx280_2
      replace hx280_3 := hC HB hx280_3
      replace p280 := eq_true p280
      replace q280 := eq_true q280
      try go_wp2_with (first | ((with_reducible refine gate_dst (N := 4) rfl ?_); refine bE (N := 4) (cs := #[.int .i64 0, .int .i64 0, .int .i64 0, .int .i64 0]) (t := 89) ?_; intro gb281 hg w28 hbox hb; have n0_ := Aside0.mk (below_step bA hb); have n1_ := Aside0.mk (hbox); have n2_ := Aside0.mk ((by rw [hg]; exact (below_size bA) : w.heap.size ≤ gb281)); have n3_ := Aside0.mk ((by rw [hg]; exact (below_size bA) : w.heap.size ≤ gb281)); clear HB; have HB := n0_; have BK281 := n1_; have GW281 := n2_; have GE281 := n3_; clear n0_ n1_ n2_ n3_; clear hb hbox hg; obtain ⟨hcz29_0, hcz29_1, hcz29_2, hcz29_3, hfz29_0, hfz29_1, hfz29_2, hfz29_3⟩ := blkc4 BK281))
      have n0_ : Aside0 (((((w28.setCell ⟨gb281, 0, none⟩ (.int .i64 ((rd_T89 l0 x10_1).f0))).setCell ⟨gb281, 1, none⟩ (.int .i64 ((rd_T89 l0 x10_1).f1))).setCell ⟨gb281, 2, none⟩ (.int .i64 ((rd_T89 l0 x10_1).f2))).setCell ⟨gb281, 3, none⟩ (.int .i64 ((rd_T89 l0 x10_1).f3))).heap[gb281]? = some (.cells #[.int .i64 ((rd_T89 l0 x10_1).f0), .int .i64 ((rd_T89 l0 x10_1).f1), .int .i64 ((rd_T89 l0 x10_1).f2), .int .i64 ((rd_T89 l0 x10_1).f3)] 89 (0, 0))) := ⟨by (with_reducible repeat (first | refine blk_drewN ?_ _ | refine blk_drew ?_ | refine blk_alloc ?_ _)); refine blk_put (cs := #[.int .i64 ((rd_T89 l0 x10_1).f0), .int .i64 ((rd_T89 l0 x10_1).f1), .int .i64 ((rd_T89 l0 x10_1).f2), .int .i64 0]) ?_ 3 _ rfl; (with_reducible repeat (first | refine blk_drewN ?_ _ | refine blk_drew ?_ | refine blk_alloc ?_ _)); refine blk_put (cs := #[.int .i64 ((rd_T89 l0 x10_1).f0), .int .i64 ((rd_T89 l0 x10_1).f1), .int .i64 0, .int .i64 0]) ?_ 2 _ rfl; (with_reducible repeat (first | refine blk_drewN ?_ _ | refine blk_drew ?_ | refine blk_alloc ?_ _)); refine blk_put (cs := #[.int .i64 ((rd_T89 l0 x10_1).f0), .int .i64 0, .int .i64 0, .int .i64 0]) ?_ 1 _ rfl; (with_reducible repeat (first | refine blk_drewN ?_ _ | refine blk_drew ?_ | refine blk_alloc ?_ _)); refine blk_put (cs := #[.int .i64 0, .int .i64 0, .int .i64 0, .int .i64 0]) ?_ 0 _ rfl; (with_reducible repeat (first | refine blk_drewN ?_ _ | refine blk_drew ?_ | refine blk_alloc ?_ _)); exact BK281.out⟩
      have n1_ : Aside0 (Below w.heap.size w ((((w28.setCell ⟨gb281, 0, none⟩ (.int .i64 ((rd_T89 l0 x10_1).f0))).setCell ⟨gb281, 1, none⟩ (.int .i64 ((rd_T89 l0 x10_1).f1))).setCell ⟨gb281, 2, none⟩ (.int .i64 ((rd_T89 l0 x10_1).f2))).setCell ⟨gb281, 3, none⟩ (.int .i64 ((rd_T89 l0 x10_1).f3)))) := ⟨bG⟩
      (try clear BK281)
      (try clear HB)
      generalize ((((w28.setCell ⟨gb281, 0, none⟩ (.int .i64 ((rd_T89 l0 x10_1).f0))).setCell ⟨gb281, 1, none⟩ (.int .i64 ((rd_T89 l0 x10_1).f1))).setCell ⟨gb281, 2, none⟩ (.int .i64 ((rd_T89 l0 x10_1).f2))).setCell ⟨gb281, 3, none⟩ (.int .i64 ((rd_T89 l0 x10_1).f3))) = w30 at n0_ n1_ ⊢
      have BK281 := n0_
      have HB := n1_
      clear n0_ n1_
      replace BK281 := Aside0.mk (blk_drew BK281.out)
      have HBo := HB
      replace HB := Aside0.mk (below_drew1 HB.out)
      refine start_ (n := 18) (S := fun w' => w'.cell? ⟨gb281, 0, none⟩ = some (.int .i64 ((rd_T89 l0 x10_1).f0)) ∧ w'.cell? ⟨gb281, 1, none⟩ = some (.int .i64 ((rd_T89 l0 x10_1).f1)) ∧ w'.cell? ⟨gb281, 2, none⟩ = some (.int .i64 ((rd_T89 l0 x10_1).f2)) ∧ w'.cell? ⟨gb281, 3, none⟩ = some (.int .i64 ((rd_T89 l0 x10_1).f3))) (ds := []) (mb 18 0) (by kernel_rfl) rfl rfl ⟨bC BK281 0, bC BK281 1, bC BK281 2, bC BK281 3⟩ (fun hHeld => ?_); refine with_tabW impl_ArePaths.tab6 impl_ArePaths.bits6 (fun HT_ HW_ => ?_)
      generalize w30.drew = w31 at BK281 HB hHeld ⊢
      refine tA4 (i := 0) (N := some 15) (mb 18 1) HT_ HW_ hHeld ?_
      refine oA (i := 1) (N := some 16) (mb 18 3) HT_ (fun K hK => ?_)
      refine gA Try.func146 #[.agg #[.int .i64 ((rd_T89 l0 x10_1).f0), .int .i64 ((rd_T89 l0 x10_1).f1), .int .i64 ((rd_T89 l0 x10_1).f2), .int .i64 ((rd_T89 l0 x10_1).f3)]] ?_
      with_reducible refine (impl_IsPath.calls ((rd_T89 l0 x10_1).f0) ((rd_T89 l0 x10_1).f1) ((rd_T89 l0 x10_1).f2) ((rd_T89 l0 x10_1).f3) false _ A6.out).mono ?_
      rintro e w32 ⟨rfl, hb⟩
      refine ⟨_, rfl, ?_⟩
      replace BK281 := Aside0.mk (blk_below (g := gb281) (bK BK281) hb)
      replace HB := Aside0.mk (below_step bG hb)
      (try clear hb)
      (try clear hb2)
      (try clear hk)
      (try clear hi)
      refine hK.out _ _ ⟨bC BK281 0, bC BK281 1, bC BK281 2, bC BK281 3⟩ (fun hHeld => ?_)
      clear hK K
      refine nB ?_
      refine pA (i := 2) (N := some 17) (mb 18 7) HT_ ?_
      refine pA (i := 3) (N := some 18) (mb 18 15) HT_ ?_
      refine pU (i := 4) (N := some 19) (mb 18 31) HT_ ?_
      refine pU (i := 5) (N := some 20) (mb 18 63) HT_ ?_
      refine pU (i := 6) (N := some 21) (mb 18 127) HT_ ?_
      refine pU (i := 7) (N := some 22) (mb 18 255) HT_ ?_
      refine pU (i := 8) (N := some 23) (mb 18 511) HT_ ?_
      refine pU (i := 9) (N := some 24) (mb 18 1023) HT_ ?_
      refine pU (i := 10) (N := some 25) (mb 18 2047) HT_ ?_
      refine pU (i := 11) (N := some 26) (mb 18 4095) HT_ ?_
      refine pU (i := 12) (N := some 27) (mb 18 8191) HT_ ?_
      refine pU (i := 13) (N := some 28) (mb 18 16383) HT_ ?_
      refine pU (i := 14) (N := some 29) (mb 18 32767) HT_ ?_
      refine pU (i := 15) (N := some 30) (mb 18 65535) HT_ ?_
      refine pU (i := 16) (N := some 31) (mb 18 131071) HT_ ?_
      refine pA (i := 17) (N := some 32) (mb 18 262143) HT_ ?_
      refine eA HT_ ?_
      try go_wp2
      go_ret
      exact ⟨rA, bG⟩
    ·
     rw [if_neg c3] at H
     have c3b0 := decide_eq_false c3
     clear c3
     obtain rfl := Option.some.inj H
     go_wp2
     go_ret
     exact ⟨rA, bA⟩

/-! ### impl_Interleave: function 152 -/
def impl_Interleave.l0 : Nat → Int → Int → Int → Int → List Int → Int → Int → Option (Bool)
 | 0, _, _, _, _, _, _, _ => none
 | k + 1, x0, x1, x2, x3, x16, x17, x18 => if x18 < x17 then (if 0 ≤ x18 then (if x18 < (x16.length : Int) then ((impl_InRange.f (rd x16 x18) 0 7).bind fun t288 => (if t288 = true then (impl_Interleave.l0 k x0 x1 x2 x3 x16 x17 (wrap64 (x18 + 1))) else (some false))) else (none)) else (none)) else (if x0 = x1 then (some false) else (if x0 = x2 then (some false) else (if x0 = x3 then (some false) else (if x1 = x2 then (some false) else (if x1 = x3 then (some false) else (if x2 = x3 then (some false) else (some ((decide ((Int.tmod (wrap64 ((wrap64 (x2 - x0)) + 8)) 8) < (Int.tmod (wrap64 ((wrap64 (x1 - x0)) + 8)) 8))) != (decide ((Int.tmod (wrap64 ((wrap64 (x3 - x0)) + 8)) 8) < (Int.tmod (wrap64 ((wrap64 (x1 - x0)) + 8)) 8)))))))))))
def impl_Interleave.f (k : Nat) (a0 : Int) (a1 : Int) (a2 : Int) (a3 : Int) : Option (Bool) := (some (([a0, a1, a2, a3] : List Int) : List Int)).bind fun y284 => (impl_Interleave.l0 k a0 a1 a2 a3 y284 (y284.length : Int) 0)
theorem impl_Interleave.mono_l : ∀ k, (∀ y0 y1 y2 y3 y4 y5 y6, LeO (impl_Interleave.l0 k y0 y1 y2 y3 y4 y5 y6) (impl_Interleave.l0 (k + 1) y0 y1 y2 y3 y4 y5 y6))
 | 0 => fun _ _ _ _ _ _ _ r h => by simp [impl_Interleave.l0] at h
 | k + 1 => by
  have ih0 := impl_Interleave.mono_l k
  ·
   intro y0 y1 y2 y3 y4 y5 y6
   unfold impl_Interleave.l0
   repeat' first | (with_reducible first | exact LeO.refl _ | exact LeO.none _ | refine LeO.ite ?_ ?_ | refine LeO.bind ?_ (fun _ => ?_) | exact ih0 _ _ _ _ _ _ _)
theorem impl_Interleave.mono : ∀ a0 a1 a2 a3 k, LeO (impl_Interleave.f k a0 a1 a2 a3) (impl_Interleave.f (k + 1) a0 a1 a2 a3) := by
 intro a0 a1 a2 a3 k
 have ih0 := impl_Interleave.mono_l k
 unfold impl_Interleave.f
 repeat' first | (with_reducible first | exact LeO.refl _ | exact LeO.none _ | refine LeO.ite ?_ ?_ | refine LeO.bind ?_ (fun _ => ?_) | exact ih0 _ _ _ _ _ _ _)
set_option maxHeartbeats 8000000 in
set_option maxRecDepth 100000 in
theorem impl_Interleave.calls (k : Nat) (a0 : Int) (a1 : Int) (a2 : Int) (a3 : Int) (r : Bool) (w : World) (h : impl_Interleave.f k a0 a1 a2 a3 = some r) :
  Calls Try.prog 152 #[.int .i64 a0, .int .i64 a1, .int .i64 a2, .int .i64 a3] w fun e w' => e = .returned (.bool r) ∧ Below w.heap.size w w' := by
 have HB := Aside0.mk (Below.refl w.heap.size w)
 have H : ((some (([a0, a1, a2, a3] : List Int) : List Int)).bind fun y284 => (impl_Interleave.l0 k a0 a1 a2 a3 y284 (y284.length : Int) 0)) = some r := h
 clear h
 obtain ⟨y284, hy284⟩ : ∃ y_ : List Int, y_ = (([a0, a1, a2, a3] : List Int)) := ⟨_, rfl⟩
 replace H : (impl_Interleave.l0 k a0 a1 a2 a3 y284 (y284.length : Int) 0) = some r := by first | (rw [hy284]; with_reducible exact H) | (have H2_ := (Option.bind_some _ _).symm.trans H; rw [hy284]; with_reducible exact H2_) | (have H2_ := (Option.bind_some _ _).symm.trans H; with_reducible exact H2_) | with_reducible exact H | (rw [hy284]; exact H) | exact H
 have Ny284 := Aside0.mk hy284
 clear hy284
 have H' := Aside0.mk H
 clear H
 go_enter Try.func152, Try.ntmps152
 go_wp2_with (first | ((with_reducible refine gate_dst (N := 16) rfl ?_); refine Kd.R_lit (Kd.int .i64) _ 3 ?hg (N := 16) ?hd (xs := ([a0, a1, a2, a3] : List Int)) (inner := [.int .i64 a0, .int .i64 a1, .int .i64 a2, .int .i64 a3]) (ok := fun _ => True) (okp := fun _ => True) ?hr ?hp (fun _ hk => hk) trivial (Below.refl _ _) (Nat.le_refl _) (by simp) ?_; (case hd => rfl); (case hg => rfl); (case hr => first | (go_simp; done) | (go_simp; rfl)); (case hp => exact (Reps.one (show Kd.M (Kd.int .i64) _ _ _ a0 [.int .i64 a0] from rfl) (Reps.one (show Kd.M (Kd.int .i64) _ _ _ a1 [.int .i64 a1] from rfl) (Reps.one (show Kd.M (Kd.int .i64) _ _ _ a2 [.int .i64 a2] from rfl) (Reps.one (show Kd.M (Kd.int .i64) _ _ _ a3 [.int .i64 a3] from rfl) (Reps.none _ _)))))); intro v285 w5 ho6 hb hg_ hnew_; clear hg_ hnew_; (first | rw [← Ny284.out] at ho6 | (simp only [Int.reduceToNat] at ho6; rw [← Ny284.out] at ho6)); have HO286 := Aside0.mk (Kd.R_lower ho6 (below_size bA)); replace HB := Aside0.mk (below_step bA hb); clear hb ho6; obtain ⟨Ao7, co7, eo7⟩ := Kd.R_slice HO286.out; subst eo7))
 go_loopg [18] k (fun kq v18 w' => ∃ (x18_1 : Int), v18 = .int .i64 x18_1 ∧ Aside0 (impl_Interleave.l0 kq a0 a1 a2 a3 y284 (y284.length : Int) x18_1 = some r) ∧ Aside0 (kq ≤ k) ∧ Aside0 (Kd.R (Kd.int .i64) 3 w' w.heap.size (fun _ => True) (.slice Ao7 y284.length co7) y284) ∧ Aside0 (Below w.heap.size w w'))
 case atStart => exact ⟨(0), rS, H', ⟨Nat.le_refl _⟩, ⟨rK HO286⟩, ⟨bA⟩⟩
 case round =>
  clear H'
  try clear c1
  try clear p2
  obtain ⟨x18_1, rfl, HA, HK1, HO_16, HB⟩ := hrel
  cases gk with
  | zero => exact absurd HA.out (by simp [impl_Interleave.l0])
  | succ k1 =>
   have H := HA.out
   clear HA
   simp only [impl_Interleave.l0] at H
   by_cases c8 : x18_1 < (y284.length : Int)
   ·
    rw [if_pos c8] at H
    have c8b0 := decide_eq_true c8
    clear c8
    have c9 : 0 ≤ x18_1 := ifN H
    replace H := ifT H
    have c9b0 := decide_eq_true c9
    clear c9
    have c10 : x18_1 < (y284.length : Int) := ifN H
    replace H := ifT H
    have c10b0 := decide_eq_true c10
    clear c10
    obtain ⟨t288, A11, H⟩ := bindE H
    try dsimp only at H
    by_cases c12 : t288 = true
    ·
     subst c12
     have H1 : (impl_Interleave.l0 k1 a0 a1 a2 a3 y284 (y284.length : Int) (wrap64 (x18_1 + 1))) = some r := by rw [if_pos rfl] at H; exact H
     clear H
     have H := H1
     clear H1
     have H' := Aside0.mk H
     clear H
     have p287 : 0 ≤ (x18_1 : Int) := dA
     have q287 : x18_1 < (y284.length : Int) := dA
     obtain ⟨ad287, e287, hx287_0⟩ := Kd.at_int (Kd.R_reads' HO_16.out).2.2 x18_1 p287 q287
     cases e287
     replace p287 := eq_true p287
     replace q287 := eq_true q287
     go_wp2_with (first | ((with_reducible refine gate_callee (f := 66) rfl ?_); refine gL (some 23) Try.func66 #[.int .i64 (rd y284 x18_1), .int .i64 0, .int .i64 7] ?_; (with_reducible refine (impl_InRange.calls (rd y284 x18_1) 0 7 true _ A11.out).mono ?_); rintro e w' ⟨rfl, ⟨nd, rfl⟩⟩; refine ⟨_, rfl, ?_⟩))
     go_roundg k1
     case measure => have := HK1.out; omega
     case rel => exact ⟨(wrap64 (x18_1 + 1)), rS, H', ⟨by have := HK1.out; omega⟩, ⟨rK HO_16⟩, ⟨bA⟩⟩
    ·
     replace c12 := Bool.eq_false_iff.mpr c12
     subst c12
     have H1 : (some false) = some r := by rw [if_neg (show ¬ (false = true) by decide)] at H; exact H
     clear H
     have H := H1
     clear H1
     obtain rfl := Option.some.inj H
     have p287 : 0 ≤ (x18_1 : Int) := dA
     have q287 : x18_1 < (y284.length : Int) := dA
     obtain ⟨ad287, e287, hx287_0⟩ := Kd.at_int (Kd.R_reads' HO_16.out).2.2 x18_1 p287 q287
     cases e287
     replace p287 := eq_true p287
     replace q287 := eq_true q287
     go_wp2_with (first | ((with_reducible refine gate_callee (f := 66) rfl ?_); refine gL (some 23) Try.func66 #[.int .i64 (rd y284 x18_1), .int .i64 0, .int .i64 7] ?_; (with_reducible refine (impl_InRange.calls (rd y284 x18_1) 0 7 false _ A11.out).mono ?_); rintro e w' ⟨rfl, ⟨nd, rfl⟩⟩; refine ⟨_, rfl, ?_⟩))
     go_ret
     exact ⟨rA, bA⟩
   ·
    rw [if_neg c8] at H
    have c8b0 := decide_eq_false c8
    clear c8
    by_cases c13 : a0 = a1
    ·
     rw [if_pos c13] at H
     have c13b0 : (a0 == a1) = true := beq_iff_eq.mpr c13
     have c13b1 : (a0 != a1) = false := bne_eq_false_iff_eq.mpr c13
     clear c13
     obtain rfl := Option.some.inj H
     go_wp2
     go_ret
     exact ⟨rA, bA⟩
    ·
     rw [if_neg c13] at H
     have c13b0 : (a0 == a1) = false := beq_eq_false_iff_ne.mpr c13
     have c13b1 : (a0 != a1) = true := bne_iff_ne.mpr c13
     by_cases c14 : a0 = a2
     ·
      rw [if_pos c14] at H
      have c14b0 : (a0 == a2) = true := beq_iff_eq.mpr c14
      have c14b1 : (a0 != a2) = false := bne_eq_false_iff_eq.mpr c14
      clear c14
      obtain rfl := Option.some.inj H
      go_wp2
      go_ret
      exact ⟨rA, bA⟩
     ·
      rw [if_neg c14] at H
      have c14b0 : (a0 == a2) = false := beq_eq_false_iff_ne.mpr c14
      have c14b1 : (a0 != a2) = true := bne_iff_ne.mpr c14
      by_cases c15 : a0 = a3
      ·
       rw [if_pos c15] at H
       have c15b0 : (a0 == a3) = true := beq_iff_eq.mpr c15
       have c15b1 : (a0 != a3) = false := bne_eq_false_iff_eq.mpr c15
       clear c15
       obtain rfl := Option.some.inj H
       go_wp2
       go_ret
       exact ⟨rA, bA⟩
      ·
       rw [if_neg c15] at H
       have c15b0 : (a0 == a3) = false := beq_eq_false_iff_ne.mpr c15
       have c15b1 : (a0 != a3) = true := bne_iff_ne.mpr c15
       by_cases c16 : a1 = a2
       ·
        rw [if_pos c16] at H
        have c16b0 : (a1 == a2) = true := beq_iff_eq.mpr c16
        have c16b1 : (a1 != a2) = false := bne_eq_false_iff_eq.mpr c16
        clear c16
        obtain rfl := Option.some.inj H
        go_wp2
        go_ret
        exact ⟨rA, bA⟩
       ·
        rw [if_neg c16] at H
        have c16b0 : (a1 == a2) = false := beq_eq_false_iff_ne.mpr c16
        have c16b1 : (a1 != a2) = true := bne_iff_ne.mpr c16
        by_cases c17 : a1 = a3
        ·
         rw [if_pos c17] at H
         have c17b0 : (a1 == a3) = true := beq_iff_eq.mpr c17
         have c17b1 : (a1 != a3) = false := bne_eq_false_iff_eq.mpr c17
         clear c17
         obtain rfl := Option.some.inj H
         go_wp2
         go_ret
         exact ⟨rA, bA⟩
        ·
         rw [if_neg c17] at H
         have c17b0 : (a1 == a3) = false := beq_eq_false_iff_ne.mpr c17
         have c17b1 : (a1 != a3) = true := bne_iff_ne.mpr c17
         by_cases c18 : a2 = a3
         ·
          rw [if_pos c18] at H
          have c18b0 : (a2 == a3) = true := beq_iff_eq.mpr c18
          have c18b1 : (a2 != a3) = false := bne_eq_false_iff_eq.mpr c18
          clear c18
          obtain rfl := Option.some.inj H
          go_wp2
          go_ret
          exact ⟨rA, bA⟩
         ·
          rw [if_neg c18] at H
          have c18b0 : (a2 == a3) = false := beq_eq_false_iff_ne.mpr c18
          have c18b1 : (a2 != a3) = true := bne_iff_ne.mpr c18
          obtain rfl := Option.some.inj H
          go_wp2
          go_ret
          exact ⟨rA, bA⟩

/-! ### impl_InPlace: function 153 -/
def impl_InPlace.f (a0 : Int) : Option (Int) := (impl_InRange.f a0 0 3).bind fun t289 => (if t289 = true then (some (wrap64 (2 * a0))) else (some (-1)))
set_option maxHeartbeats 8000000 in
set_option maxRecDepth 100000 in
theorem impl_InPlace.calls (a0 : Int) (r : Int) (w : World) (h : impl_InPlace.f a0 = some r) :
  Calls Try.prog 153 #[.int .i64 a0] w fun e w' => e = .returned (.int .i64 r) ∧ Drawn0 w w' := by
 have H : ((impl_InRange.f a0 0 3).bind fun t289 => (if t289 = true then (some (wrap64 (2 * a0))) else (some (-1)))) = some r := h
 clear h
 obtain ⟨t289, A2, H⟩ := bindE H
 try dsimp only at H
 by_cases c3 : t289 = true
 ·
  subst c3
  have H1 : (some (wrap64 (2 * a0))) = some r := by rw [if_pos rfl] at H; exact H
  clear H
  have H := H1
  clear H1
  obtain rfl := Option.some.inj H
  go_enter Try.func153, Try.ntmps153
  go_wp2_with (first | ((with_reducible refine gate_callee (f := 66) rfl ?_); refine gL (some 4) Try.func66 #[.int .i64 a0, .int .i64 0, .int .i64 3] ?_; (with_reducible refine (impl_InRange.calls a0 0 3 true _ A2.out).mono ?_); rintro e w' ⟨rfl, ⟨nd, rfl⟩⟩; refine ⟨_, rfl, ?_⟩))
  go_ret
  exact ⟨by first | rfl | (simp; done) | (simp [*]; done), by repeat (first | exact Drawn0.refl _ | apply Drawn0.step)⟩
 ·
  replace c3 := Bool.eq_false_iff.mpr c3
  subst c3
  have H1 : (some (-1)) = some r := by rw [if_neg (show ¬ (false = true) by decide)] at H; exact H
  clear H
  have H := H1
  clear H1
  obtain rfl := Option.some.inj H
  go_enter Try.func153, Try.ntmps153
  go_wp2_with (first | ((with_reducible refine gate_callee (f := 66) rfl ?_); refine gL (some 4) Try.func66 #[.int .i64 a0, .int .i64 0, .int .i64 3] ?_; (with_reducible refine (impl_InRange.calls a0 0 3 false _ A2.out).mono ?_); rintro e w' ⟨rfl, ⟨nd, rfl⟩⟩; refine ⟨_, rfl, ?_⟩))
  go_ret
  exact ⟨by first | rfl | (simp; done) | (simp [*]; done), by repeat (first | exact Drawn0.refl _ | apply Drawn0.step)⟩

/-! ### impl_OutPlace: function 154 -/
def impl_OutPlace.f (a0 : Int) : Option (Int) := (impl_InRange.f a0 0 3).bind fun t290 => (if t290 = true then (some (wrap64 ((wrap64 (2 * a0)) + 1))) else (some (-1)))
set_option maxHeartbeats 8000000 in
set_option maxRecDepth 100000 in
theorem impl_OutPlace.calls (a0 : Int) (r : Int) (w : World) (h : impl_OutPlace.f a0 = some r) :
  Calls Try.prog 154 #[.int .i64 a0] w fun e w' => e = .returned (.int .i64 r) ∧ Drawn0 w w' := by
 have H : ((impl_InRange.f a0 0 3).bind fun t290 => (if t290 = true then (some (wrap64 ((wrap64 (2 * a0)) + 1))) else (some (-1)))) = some r := h
 clear h
 obtain ⟨t290, A2, H⟩ := bindE H
 try dsimp only at H
 by_cases c3 : t290 = true
 ·
  subst c3
  have H1 : (some (wrap64 ((wrap64 (2 * a0)) + 1))) = some r := by rw [if_pos rfl] at H; exact H
  clear H
  have H := H1
  clear H1
  obtain rfl := Option.some.inj H
  go_enter Try.func154, Try.ntmps154
  go_wp2_with (first | ((with_reducible refine gate_callee (f := 66) rfl ?_); refine gL (some 4) Try.func66 #[.int .i64 a0, .int .i64 0, .int .i64 3] ?_; (with_reducible refine (impl_InRange.calls a0 0 3 true _ A2.out).mono ?_); rintro e w' ⟨rfl, ⟨nd, rfl⟩⟩; refine ⟨_, rfl, ?_⟩))
  go_ret
  exact ⟨by first | rfl | (simp; done) | (simp [*]; done), by repeat (first | exact Drawn0.refl _ | apply Drawn0.step)⟩
 ·
  replace c3 := Bool.eq_false_iff.mpr c3
  subst c3
  have H1 : (some (-1)) = some r := by rw [if_neg (show ¬ (false = true) by decide)] at H; exact H
  clear H
  have H := H1
  clear H1
  obtain rfl := Option.some.inj H
  go_enter Try.func154, Try.ntmps154
  go_wp2_with (first | ((with_reducible refine gate_callee (f := 66) rfl ?_); refine gL (some 4) Try.func66 #[.int .i64 a0, .int .i64 0, .int .i64 3] ?_; (with_reducible refine (impl_InRange.calls a0 0 3 false _ A2.out).mono ?_); rintro e w' ⟨rfl, ⟨nd, rfl⟩⟩; refine ⟨_, rfl, ?_⟩))
  go_ret
  exact ⟨by first | rfl | (simp; done) | (simp [*]; done), by repeat (first | exact Drawn0.refl _ | apply Drawn0.step)⟩

end Go.Proofs.Ytdkmmefmhfbgkaa.P
