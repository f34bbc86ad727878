/- Printed by myprint.py (wip/tools) over the kit's print: what Go's functions compute, and that they do. Lean checks it. -/
import Derived.Test.YtjgonpcajedkjaaF0
import Derived.Test.YtjgonpcajedkjaaFX00
import Derived.Test.YtjgonpcajedkjaaFX00b
import Derived.Test.YtjgonpcajedkjaaFX00d
namespace Go.Proofs.Ytjgonpcajedkjaa.P
open Go.RowKit Go.Proofs.YtjgonpcajedkjaaW.PrintWords Go.Proofs.YtjgonpcajedkjaaW.PrintLast Go.Proofs.YtjgonpcajedkjaaW.PrintMore Go.Proofs.Ytjgonpcajedkjaa.Sq
attribute [local go_sem] max2_int min2_int max_two min_two max_three min_three max_four min_four
set_option linter.unusedVariables false
set_option linter.unusedSimpArgs false

/-! ### laws_FnQueues: function 5 -/
mutual
def laws_FnQueues.l0 : Nat → List Int → List Int → List Bool → List Int → List Bool → Int → Option (Bool)
 | 0, _, _, _, _, _, _ => none
 | k + 1, x0, x3, x4, x5, x6, x7 => if x7 < (x4.length : Int) then (if x6.length < 140737488355328 then (laws_FnQueues.l0 k x0 x3 x4 x5 (x6 ++ [true]) (wrap64 (x7 + 1))) else (none)) else ((impl_QueueRun.f k x3 x6).bind fun t672 => (if (x5.length : Int) = (t672.length : Int) then (laws_FnQueues.l1 k x0 x3 x4 x5 t672 0) else (none)))
def laws_FnQueues.l1 : Nat → List Int → List Int → List Bool → List Int → List Int → Int → Option (Bool)
 | 0, _, _, _, _, _, _ => none
 | k + 1, x0, x3, x4, x5, x8, x9 => if x9 < (x5.length : Int) then (if x9 > 0 then (if 0 ≤ (wrap64 (x9 - 1)) then (if (wrap64 (x9 - 1)) < (x5.length : Int) then (if 0 ≤ x9 then (if (rd x5 x9) < 0 then (none) else (if (rd x5 x9) > 10000 then (none) else (if x9 < (x8.length : Int) then (if (rd x8 x9) > (rd x5 x9) then (none) else (if x9 < (x3.length : Int) then (if x9 < (x4.length : Int) then ((impl_QueueStep.f k (rd x5 (wrap64 (x9 - 1))) (rd x3 x9) (rdOf false x4 x9)).bind fun t683 => (if (rd x5 x9) = t683 then (laws_FnQueues.l1 k x0 x3 x4 x5 x8 (wrap64 (x9 + 1))) else (none))) else (none)) else (none))) else (none)))) else (none)) else (none)) else (none)) else (if 0 ≤ x9 then (if (rd x5 x9) < 0 then (none) else (if (rd x5 x9) > 10000 then (none) else (if x9 < (x8.length : Int) then (if (rd x8 x9) > (rd x5 x9) then (none) else (if x9 < (x3.length : Int) then (if x9 < (x4.length : Int) then ((impl_QueueStep.f k 0 (rd x3 x9) (rdOf false x4 x9)).bind fun t691 => (if (rd x5 x9) = t691 then (laws_FnQueues.l1 k x0 x3 x4 x5 x8 (wrap64 (x9 + 1))) else (none))) else (none)) else (none))) else (none)))) else (none))) else ((impl_TotalWait.f k x8).bind fun t692 => ((impl_TotalWait.f k x5).bind fun t693 => (if t692 > t693 then (laws_FnQueues.j2 k x0 true) else ((impl_IsServed.f x5).bind fun t694 => (if (x5.length : Int) = 0 then (laws_FnQueues.j2 k x0 (t694 != true)) else (if 0 ≤ (wrap64 ((x5.length : Int) - 1)) then (if (wrap64 ((x5.length : Int) - 1)) < (x5.length : Int) then (laws_FnQueues.j2 k x0 (t694 != ((rd x5 (wrap64 ((x5.length : Int) - 1))) == 0))) else (none)) else (none)))))))
def laws_FnQueues.j2 : Nat → List Int → Bool → Option (Bool)
 | 0, _, _ => none
 | k + 1, x0, x120 => if x120 = true then (none) else ((spec_DrawOpenIn.f k x0).bind fun bt696 => ((impl_OpenIn.f k bt696.1 bt696.2.1 bt696.2.2.1 bt696.2.2.2.1 bt696.2.2.2.2).bind fun t705 => (laws_FnQueues.l2 k bt696.1 bt696.2.1 bt696.2.2.1 bt696.2.2.2.1 bt696.2.2.2.2 t705 0)))
def laws_FnQueues.l2 : Nat → List (S50) → List (S85) → Int → Int → Int → List Bool → Int → Option (Bool)
 | 0, _, _, _, _, _, _, _ => none
 | k + 1, x11, x12, x13, x14, x15, x16, x17 => if x17 < (x16.length : Int) then (laws_FnQueues.j4 k x11 x12 x13 x14 x15 x16 x17 (decide (x17 < 100))) else (laws_FnQueues.j4 k x11 x12 x13 x14 x15 x16 x17 false)
def laws_FnQueues.j4 : Nat → List (S50) → List (S85) → Int → Int → Int → List Bool → Int → Bool → Option (Bool)
 | 0, _, _, _, _, _, _, _, _ => none
 | k + 1, x11, x12, x13, x14, x15, x16, x17, x142 => if x142 = true then (if 0 ≤ x17 then (if x17 < (x16.length : Int) then ((impl_LightAt.f k x11 x12 (wrap64 (x14 + x17)) x13).bind fun t709 => (if ((rdOf false x16 x17) != (t709 == 1)) = true then (none) else (laws_FnQueues.l2 k x11 x12 x13 x14 x15 x16 (wrap64 (x17 + 1))))) else (none)) else (none)) else (if (x16.length : Int) = 0 then (some true) else (some ((x16.length : Int) == x15)))
end
def laws_FnQueues.f (k : Nat) (l0 : List Int) : Option (Bool) := (laws_big.f l0).bind fun t656 => (if t656 = true then (some true) else ((spec_DrawQueueRun.f k l0).bind fun bt657 => ((impl_QueueRun.f k bt657.1 bt657.2).bind fun t663 => (laws_FnQueues.l0 k l0 bt657.1 bt657.2 t663 (([] : List Bool)) 0))))
theorem laws_FnQueues.mono_l : ∀ k, (∀ y0 y1 y2 y3 y4 y5, LeO (laws_FnQueues.l0 k y0 y1 y2 y3 y4 y5) (laws_FnQueues.l0 (k + 1) y0 y1 y2 y3 y4 y5)) ∧ (∀ y0 y1 y2 y3 y4 y5, LeO (laws_FnQueues.l1 k y0 y1 y2 y3 y4 y5) (laws_FnQueues.l1 (k + 1) y0 y1 y2 y3 y4 y5)) ∧ (∀ y0 y1, LeO (laws_FnQueues.j2 k y0 y1) (laws_FnQueues.j2 (k + 1) y0 y1)) ∧ (∀ y0 y1 y2 y3 y4 y5 y6, LeO (laws_FnQueues.l2 k y0 y1 y2 y3 y4 y5 y6) (laws_FnQueues.l2 (k + 1) y0 y1 y2 y3 y4 y5 y6)) ∧ (∀ y0 y1 y2 y3 y4 y5 y6 y7, LeO (laws_FnQueues.j4 k y0 y1 y2 y3 y4 y5 y6 y7) (laws_FnQueues.j4 (k + 1) y0 y1 y2 y3 y4 y5 y6 y7))
 | 0 => ⟨fun _ _ _ _ _ _ r h => by simp [laws_FnQueues.l0] at h, fun _ _ _ _ _ _ r h => by simp [laws_FnQueues.l1] at h, fun _ _ r h => by simp [laws_FnQueues.j2] at h, fun _ _ _ _ _ _ _ r h => by simp [laws_FnQueues.l2] at h, fun _ _ _ _ _ _ _ _ r h => by simp [laws_FnQueues.j4] at h⟩
 | k + 1 => by
  obtain ⟨ih0, ih1, ih2, ih3, ih4⟩ := laws_FnQueues.mono_l k
  refine ⟨?_, ?_, ?_, ?_, ?_⟩
  ·
   intro y0 y1 y2 y3 y4 y5
   unfold laws_FnQueues.l0
   repeat' first | (with_reducible first | exact LeO.refl _ | exact LeO.none _ | refine LeO.ite ?_ ?_ | refine LeO.bind ?_ (fun _ => ?_) | exact ih0 _ _ _ _ _ _ | exact ih1 _ _ _ _ _ _ | exact ih2 _ _ | exact ih3 _ _ _ _ _ _ _ | exact ih4 _ _ _ _ _ _ _ _ | exact impl_LightAt.mono _ _ _ _ _ | exact impl_OpenIn.mono _ _ _ _ _ _ | exact impl_QueueRun.mono _ _ _ | exact impl_QueueStep.mono _ _ _ _ | exact impl_TotalWait.mono _ _ | exact spec_DrawOpenIn.mono _ _ | exact spec_DrawQueueRun.mono _ _)
  ·
   intro y0 y1 y2 y3 y4 y5
   unfold laws_FnQueues.l1
   repeat' first | (with_reducible first | exact LeO.refl _ | exact LeO.none _ | refine LeO.ite ?_ ?_ | refine LeO.bind ?_ (fun _ => ?_) | exact ih0 _ _ _ _ _ _ | exact ih1 _ _ _ _ _ _ | exact ih2 _ _ | exact ih3 _ _ _ _ _ _ _ | exact ih4 _ _ _ _ _ _ _ _ | exact impl_LightAt.mono _ _ _ _ _ | exact impl_OpenIn.mono _ _ _ _ _ _ | exact impl_QueueRun.mono _ _ _ | exact impl_QueueStep.mono _ _ _ _ | exact impl_TotalWait.mono _ _ | exact spec_DrawOpenIn.mono _ _ | exact spec_DrawQueueRun.mono _ _)
  ·
   intro y0 y1
   unfold laws_FnQueues.j2
   repeat' first | (with_reducible first | exact LeO.refl _ | exact LeO.none _ | refine LeO.ite ?_ ?_ | refine LeO.bind ?_ (fun _ => ?_) | exact ih0 _ _ _ _ _ _ | exact ih1 _ _ _ _ _ _ | exact ih2 _ _ | exact ih3 _ _ _ _ _ _ _ | exact ih4 _ _ _ _ _ _ _ _ | exact impl_LightAt.mono _ _ _ _ _ | exact impl_OpenIn.mono _ _ _ _ _ _ | exact impl_QueueRun.mono _ _ _ | exact impl_QueueStep.mono _ _ _ _ | exact impl_TotalWait.mono _ _ | exact spec_DrawOpenIn.mono _ _ | exact spec_DrawQueueRun.mono _ _)
  ·
   intro y0 y1 y2 y3 y4 y5 y6
   unfold laws_FnQueues.l2
   repeat' first | (with_reducible first | exact LeO.refl _ | exact LeO.none _ | refine LeO.ite ?_ ?_ | refine LeO.bind ?_ (fun _ => ?_) | exact ih0 _ _ _ _ _ _ | exact ih1 _ _ _ _ _ _ | exact ih2 _ _ | exact ih3 _ _ _ _ _ _ _ | exact ih4 _ _ _ _ _ _ _ _ | exact impl_LightAt.mono _ _ _ _ _ | exact impl_OpenIn.mono _ _ _ _ _ _ | exact impl_QueueRun.mono _ _ _ | exact impl_QueueStep.mono _ _ _ _ | exact impl_TotalWait.mono _ _ | exact spec_DrawOpenIn.mono _ _ | exact spec_DrawQueueRun.mono _ _)
  ·
   intro y0 y1 y2 y3 y4 y5 y6 y7
   unfold laws_FnQueues.j4
   repeat' first | (with_reducible first | exact LeO.refl _ | exact LeO.none _ | refine LeO.ite ?_ ?_ | refine LeO.bind ?_ (fun _ => ?_) | exact ih0 _ _ _ _ _ _ | exact ih1 _ _ _ _ _ _ | exact ih2 _ _ | exact ih3 _ _ _ _ _ _ _ | exact ih4 _ _ _ _ _ _ _ _ | exact impl_LightAt.mono _ _ _ _ _ | exact impl_OpenIn.mono _ _ _ _ _ _ | exact impl_QueueRun.mono _ _ _ | exact impl_QueueStep.mono _ _ _ _ | exact impl_TotalWait.mono _ _ | exact spec_DrawOpenIn.mono _ _ | exact spec_DrawQueueRun.mono _ _)
theorem laws_FnQueues.mono : ∀ a0 k, LeO (laws_FnQueues.f k a0) (laws_FnQueues.f (k + 1) a0) := by
 intro a0 k
 obtain ⟨ih0, ih1, ih2, ih3, ih4⟩ := laws_FnQueues.mono_l k
 unfold laws_FnQueues.f
 repeat' first | (with_reducible first | exact LeO.refl _ | exact LeO.none _ | refine LeO.ite ?_ ?_ | refine LeO.bind ?_ (fun _ => ?_) | exact ih0 _ _ _ _ _ _ | exact ih1 _ _ _ _ _ _ | exact ih2 _ _ | exact ih3 _ _ _ _ _ _ _ | exact ih4 _ _ _ _ _ _ _ _ | exact impl_LightAt.mono _ _ _ _ _ | exact impl_OpenIn.mono _ _ _ _ _ _ | exact impl_QueueRun.mono _ _ _ | exact impl_QueueStep.mono _ _ _ _ | exact impl_TotalWait.mono _ _ | exact spec_DrawOpenIn.mono _ _ | exact spec_DrawQueueRun.mono _ _)
def laws_FnQueues.T19 : Bool × List (List Nat × List Nat) := (true, [([], []), ([], []), ([0, 1], [0, 1]), ([2], [2]), ([3], [3]), ([4], [4]), ([5], [5]), ([5], [5]), ([6, 7, 5], [5, 6, 7]), ([8, 5], [5, 8]), ([9, 5], [5, 9]), ([5, 10], [5, 10]), ([11, 5], [11]), ([12], [12]), ([12], [12]), ([13, 14, 12], [12, 13, 14]), ([15, 12], [12, 15]), ([12], [12]), ([12], [12]), ([17, 18, 12], [12, 17, 18]), ([19, 12], [12, 19]), ([16, 20, 12], [12, 16, 20]), ([12, 21], [12, 21]), ([22, 12], [22]), ([23], [23]), ([23], [23]), ([24, 25, 23], [23, 24, 25]), ([26, 23], [23, 26]), ([23], [23]), ([23], [23]), ([23], [23]), ([29, 30, 23], [23, 29, 30]), ([31, 23], [23, 31]), ([23], [23]), ([23], [23]), ([33, 34, 23], [23, 33, 34]), ([35, 23], [23, 35]), ([28, 32, 36, 23, 23], [23, 28, 32, 36]), ([27, 37, 23], [23, 27, 37]), ([23, 38], [23, 38])])
def laws_FnQueues.B19 : List Nat := [0, 0, 3, 7, 15, 31, 63, 63, 255, 511, 1023, 2047, 4095, 8191, 8191, 32767, 65535, 8191, 8191, 401407, 925695, 2097151, 4194303, 8388607, 16777215, 16777215, 67108863, 134217727, 16777215, 16777215, 16777215, 1627389951, 3774873599, 16777215, 16777215, 25786580991, 60146319359, 137187295231, 274877906943, 549755813887]
theorem laws_FnQueues.tab19 : rtab .any (opsOf Try.f5 19) = laws_FnQueues.T19 := by kernel_rfl
theorem laws_FnQueues.bits19 : waitsOk laws_FnQueues.T19.2 laws_FnQueues.B19 = true := by kernel_rfl
def laws_FnQueues.T28 : Bool × List (List Nat × List Nat) := (true, [([], []), ([], []), ([0, 1], [0, 1]), ([2], [2]), ([], []), ([], []), ([], []), ([], []), ([6, 7], [6, 7]), ([], []), ([4, 5, 8, 9], [4, 5, 8, 9]), ([10], [10]), ([3, 11], [3, 11])])
def laws_FnQueues.B28 : List Nat := [0, 0, 3, 7, 0, 0, 0, 0, 192, 0, 1008, 2032, 4095]
theorem laws_FnQueues.tab28 : rtab .any (opsOf Try.f5 28) = laws_FnQueues.T28 := by kernel_rfl
theorem laws_FnQueues.bits28 : waitsOk laws_FnQueues.T28.2 laws_FnQueues.B28 = true := by kernel_rfl
set_option maxHeartbeats 8000000 in
set_option maxRecDepth 100000 in
theorem laws_FnQueues.calls (k : Nat) (A0 : Option Addr) (c0 : Nat) (l0 : List Int) (r : Bool) (w : World) (hr0 : Kd.C (Kd.int .u8) w A0 l0.length l0) (hc0 : l0.length ≤ c0) (h : laws_FnQueues.f k l0 = some r) :
  Calls Try.prog 5 #[.slice A0 l0.length c0] w fun e w' => e = .returned (.bool r) ∧ Below w.heap.size w w' := by
 have HR0 := Aside0.mk hr0
 have HC0 := Aside0.mk hc0
 clear hr0 hc0
 have HB := Aside0.mk (Below.refl w.heap.size w)
 have H : ((laws_big.f l0).bind fun t656 => (if t656 = true then (some true) else ((spec_DrawQueueRun.f k l0).bind fun bt657 => ((impl_QueueRun.f k bt657.1 bt657.2).bind fun t663 => (laws_FnQueues.l0 k l0 bt657.1 bt657.2 t663 (([] : List Bool)) 0))))) = some r := h
 clear h
 obtain ⟨t656, A2, H⟩ := bindE H
 try dsimp only at H
 by_cases c3 : t656 = true
 ·
  subst c3
  have H1 : (some true) = some r := by rw [if_pos rfl] at H; exact H
  clear H
  have H := H1
  clear H1
  obtain rfl := Option.some.inj H
  go_enter Try.func5, Try.ntmps5
  go_wp2_with (first | ((with_reducible refine gate_callee (f := 10) rfl ?_); refine gL (some 19) Try.func10 #[.slice A0 l0.length c0] ?_; (with_reducible refine (laws_big.calls _ _ l0 true _ ?side1 ?side2 A2.out).mono ?_); (case side1 => exact cO HR0); (case side2 => exact HC0.out); rintro e w' ⟨rfl, ⟨nd, rfl⟩⟩; refine ⟨_, rfl, ?_⟩))
  go_ret
  exact ⟨rA, bA⟩
 ·
  replace c3 := Bool.eq_false_iff.mpr c3
  subst c3
  have H1 : ((spec_DrawQueueRun.f k l0).bind fun bt657 => ((impl_QueueRun.f k bt657.1 bt657.2).bind fun t663 => (laws_FnQueues.l0 k l0 bt657.1 bt657.2 t663 (([] : List Bool)) 0))) = some r := by rw [if_neg (show ¬ (false = true) by decide)] at H; exact H
  clear H
  have H := H1
  clear H1
  obtain ⟨⟨t657, t658⟩, A4, H⟩ := bindE H
  try dsimp only at H
  obtain ⟨t663, A5, H⟩ := bindE H
  try dsimp only at H
  obtain ⟨y666, hy666⟩ : ∃ y_ : List Bool, y_ = (([] : List Bool)) := ⟨_, rfl⟩
  replace H : (laws_FnQueues.l0 k l0 t657 t658 t663 y666 0) = some r := rH H hy666
  have Ny666 := Aside0.mk hy666
  clear hy666
  have H' := Aside0.mk H
  clear H
  go_enter Try.func5, Try.ntmps5
  go_wp2_with (first | ((with_reducible refine gate_callee (f := 10) rfl ?_); refine gL (some 19) Try.func10 #[.slice A0 l0.length c0] ?_; (with_reducible refine (laws_big.calls _ _ l0 false _ ?side1 ?side2 A2.out).mono ?_); (case side1 => exact cO HR0); (case side2 => exact HC0.out); rintro e w' ⟨rfl, ⟨nd, rfl⟩⟩; refine ⟨_, rfl, ?_⟩) | ((with_reducible refine gate_callee (f := 34) rfl ?_); refine gL (some 22) Try.func34 #[.slice A0 l0.length c0] ?_; (with_reducible refine (spec_DrawQueueRun.calls k _ _ l0 t657 t658 _ ?side1 ?side2 A4.out).mono ?_); (case side1 => exact cO HR0); (case side2 => exact HC0.out); rintro e w6 ⟨v659, v661, rfl, ho0, ho1, hb⟩; refine ⟨_, rfl, ?_⟩; have HO660 := Aside0.mk (Kd.R_lower ho0 (below_size bA)); have HO662 := Aside0.mk (Kd.R_lower ho1 (below_size bA)); replace HB := Aside0.mk (below_step bA hb); (try clear hb); (try clear ho0); (try clear ho1); obtain ⟨Ao7, co7, eo7⟩ := Kd.R_slice HO660.out; subst eo7; obtain ⟨Ao8, co8, eo8⟩ := Kd.R_slice HO662.out; subst eo8) | ((with_reducible refine gate_callee (f := 35) rfl ?_); refine gL (some 27) Try.func35 #[.slice Ao7 t657.length co7, .slice Ao8 t658.length co8] ?_; (with_reducible refine (impl_QueueRun.calls k _ _ t657 _ _ t658 t663 _ ?side1 ?side2 ?side3 ?side4 A5.out).mono ?_); (case side1 => exact cO ⟨(Kd.R_reads' HO660.out).2.2⟩); (case side2 => exact (Kd.R_reads' HO660.out).2.1); (case side3 => exact cO ⟨(Kd.R_reads' HO662.out).2.2⟩); (case side4 => exact (Kd.R_reads' HO662.out).2.1); rintro e w9 ⟨v664, rfl, ho0, hb⟩; refine ⟨_, rfl, ?_⟩; replace HO662 := Aside0.mk (Kd.R_below (rK HO662) hb); have HO665 := Aside0.mk (Kd.R_lower (Kd.R_new' ho0 (Kd.R_lt (rK HO660))) (below_size bA)); replace HO660 := Aside0.mk (Kd.R_elder' (rK HO660) (Kd.R_base ho0) hb); replace HB := Aside0.mk (below_step bA hb); (try clear hb); (try clear ho0)) | ((with_reducible refine gate_dst (N := 28) rfl ?_); (try (refine gate_guard (by rfl) ?_; dsimp only)); refine Kd.R_lit Kd.bool _ 4 ?hg (N := 28) ?hd (xs := ([] : List Bool)) (inner := []) (ok := fun _ => True) (okp := fun _ => True) ?hr ?hp (fun _ hk => hk) trivial (Below.refl _ _) (Nat.le_refl _) (by simp) ?_; (case hd => rfl); (case hg => rfl); (case hr => first | (go_simp; done) | (go_simp; rfl)); (case hp => exact (Reps.none _ _)); intro v667 w10 ho11 hb hg_ hnew_; clear hg_ hnew_; (first | rw [← Ny666.out] at ho11 | (simp only [Int.reduceToNat] at ho11; rw [← Ny666.out] at ho11)); replace HO660 := Aside0.mk (Kd.R_below (rK HO660) hb); replace HO665 := Aside0.mk (Kd.R_below (rK HO665) hb); have HO668 := Aside0.mk (Kd.R_lower (Kd.R_new' ho11 (Kd.R_lt (rK HO662))) (below_size bA)); replace HO662 := Aside0.mk (Kd.R_elder' (rK HO662) (Kd.R_base ho11) hb); replace HB := Aside0.mk (below_step bA hb); clear hb ho11))
  go_loopg [6, 7] k (fun kq v6 v7 w' => ∃ (x6_1 : List Bool) (x7_1 : Int), v7 = .int .i64 x7_1 ∧ Aside0 (laws_FnQueues.l0 kq l0 t657 t658 t663 x6_1 x7_1 = some r) ∧ Aside0 (kq ≤ k) ∧ Aside0 (Kd.R (Kd.int .i64) 3 w' w.heap.size (fun k_ => some k_ ≠ (v664 : Value).ownBlock) (.slice Ao7 t657.length co7) t657) ∧ Aside0 (Kd.R Kd.bool 4 w' w.heap.size (fun k_ => some k_ ≠ (v6 : Value).ownBlock) (.slice Ao8 t658.length co8) t658) ∧ Aside0 (Kd.R (Kd.int .i64) 3 w' w.heap.size (fun k_ => some k_ ≠ ((.slice Ao7 t657.length co7) : Value).ownBlock) v664 t663) ∧ Aside0 (Kd.R Kd.bool 4 w' w.heap.size (fun k_ => some k_ ≠ ((.slice Ao8 t658.length co8) : Value).ownBlock) v6 x6_1) ∧ Aside0 (Below w.heap.size w w'))
  case atStart => exact ⟨(y666), (0), rS, H', ⟨Nat.le_refl _⟩, ⟨by (with_reducible repeat (first | apply Kd.R_alloc | apply Kd.R_drewN | apply Kd.R_drew)); exact Kd.R_mono HO660.out (fun _ hk => hk.2)⟩, ⟨by (with_reducible repeat (first | apply Kd.R_alloc | apply Kd.R_drewN | apply Kd.R_drew)); exact Kd.R_mono HO662.out (fun _ hk => hk.2)⟩, ⟨by (with_reducible repeat (first | apply Kd.R_alloc | apply Kd.R_drewN | apply Kd.R_drew)); exact Kd.R_mono HO665.out (fun _ hk => hk.2)⟩, ⟨by (with_reducible repeat (first | apply Kd.R_alloc | apply Kd.R_drewN | apply Kd.R_drew)); exact Kd.R_mono HO668.out (fun _ hk => hk.2)⟩, ⟨bA⟩⟩
  case round =>
   clear H'
   try clear c1
   try clear p2
   try clear c3
   try clear c5
   try clear c10
   obtain ⟨x6_1, x7_1, rfl, HA, HK1, HO_3, HO_4, HO_5, HO_6, HB⟩ := hrel
   cases gk with
   | zero => exact absurd HA.out (by simp [laws_FnQueues.l0])
   | succ k1 =>
    have H := HA.out
    clear HA
    simp only [laws_FnQueues.l0] at H
    by_cases c12 : x7_1 < (t658.length : Int)
    ·
     rw [if_pos c12] at H
     have c12b0 := decide_eq_true c12
     clear c12
     have c13 : x6_1.length < 140737488355328 := ifN H
     replace H := ifT H
     have LMc13 := Aside0.mk c13
     clear c13
     obtain ⟨y669, hy669⟩ : ∃ y_ : List Bool, y_ = (x6_1 ++ [true]) := ⟨_, rfl⟩
     replace H : (laws_FnQueues.l0 k1 l0 t657 t658 t663 y669 (wrap64 (x7_1 + 1))) = some r := rH H hy669
     have Ny669 := Aside0.mk hy669
     clear hy669
     have H' := Aside0.mk H
     clear H
     go_wp2_with (first | ((with_reducible refine gate_builtin (b := .append) (xs := #[.tmp 35, .tmp 36]) rfl ?_); (try (refine gate_guard (by rfl) ?_; dsimp only)); at_builtin; refine Kd.R_append Kd.bool (w0 := w) w.heap.size rfl (.tmp 35) (.tmp 36) 56 4 (.bool false) 1 rfl Try.underlying56 info4 rfl (by decide) (by omega) u6 x6_1 true [.bool true] (fun k_ => some k_ ≠ (.slice Ao8 t658.length co8 : Value).ownBlock) (fun _ => False) rfl rfl ?aP (fun _ hk => hk.elim) ?aF ?aO ?aB ?aS ?aL ?_; (case aP => exact rfl); (case aB => exact bA); (case aF => exact (fun k_ hk => Kd.fresh' (Kd.R_lt (rK HO_4)) k_ hk)); (case aO => exact (rK HO_6)); (case aS => exact (below_size bA)); (case aL => have := LMc13.out; omega); intro v670 w14 ho hb hg hat; rw [← Ny669.out] at ho; have n0_ := Aside0.mk (Kd.R_over' (rK HO_3) (Kd.R_typed (rK HO_6)) (by decide) hg); have n1_ := Aside0.mk (Kd.R_after (ok := (fun _ => True)) (by (with_reducible repeat (first | apply Kd.R_alloc | apply Kd.R_drewN | apply Kd.R_drew)); exact Kd.R_mono HO_4.out (fun _ hk => ⟨trivial, hk⟩)) hg hat); have n2_ := Aside0.mk (Kd.R_over' (rK HO_5) (Kd.R_typed (rK HO_6)) (by decide) hg); have n3_ := Aside0.mk (hb); have n4_ := Aside0.mk (ho); clear HO_3; clear HO_4; clear HO_5; clear HB; clear HO_6; have HO_3 := n0_; have HO_4 := n1_; have HO_5 := n2_; have HB := n3_; have HO671 := n4_; clear n0_ n1_ n2_ n3_ n4_; clear ho hb hg hat))
     go_roundg k1
     case measure => have := HK1.out; omega
     case rel => exact ⟨(y669), (wrap64 (x7_1 + 1)), rS, H', ⟨by have := HK1.out; omega⟩, ⟨rK HO_3⟩, ⟨by (with_reducible repeat (first | apply Kd.R_alloc | apply Kd.R_drewN | apply Kd.R_drew)); exact Kd.R_mono HO_4.out (fun _ hk => hk.2)⟩, ⟨rK HO_5⟩, ⟨rK HO671⟩, ⟨bA⟩⟩
    ·
     rw [if_neg c12] at H
     have c12b0 := decide_eq_false c12
     clear c12
     obtain ⟨t672, A15, H⟩ := bindE H
     try dsimp only at H
     have c16 : (t663.length : Int) = (t672.length : Int) := ifN H
     replace H := ifT H
     have c16b0 : ((t663.length : Int) == (t672.length : Int)) = true := beq_iff_eq.mpr c16
     have c16b1 : ((t663.length : Int) != (t672.length : Int)) = false := bne_eq_false_iff_eq.mpr c16
     have c16b2 : (t663.length == t672.length) = true := by first | simpa using c16 | (simp at c16 ⊢; omega)
     clear c16
     have H' := Aside0.mk H
     clear H
     obtain ⟨Ao17, co17, eo17⟩ := Kd.R_slice HO_6.out
     subst eo17
     go_wp2_with (first | ((with_reducible refine gate_callee (f := 35) rfl ?_); refine gL (some 40) Try.func35 #[.slice Ao7 t657.length co7, .slice Ao17 x6_1.length co17] ?_; (with_reducible refine (impl_QueueRun.calls k1 _ _ t657 _ _ x6_1 t672 _ ?side1 ?side2 ?side3 ?side4 A15.out).mono ?_); (case side1 => exact cO ⟨(Kd.R_reads' HO_3.out).2.2⟩); (case side2 => exact (Kd.R_reads' HO_3.out).2.1); (case side3 => exact cO ⟨(Kd.R_reads' HO_6.out).2.2⟩); (case side4 => exact (Kd.R_reads' HO_6.out).2.1); rintro e w18 ⟨v673, rfl, ho0, hb⟩; refine ⟨_, rfl, ?_⟩; replace HO_4 := Aside0.mk (Kd.R_below (rK HO_4) hb); replace HO_6 := Aside0.mk (Kd.R_below (rK HO_6) hb); have HO674 := Aside0.mk (Kd.R_lower (Kd.R_new' (Kd.R_new' ho0 (Kd.R_lt (rK HO_3))) (Kd.R_lt (rK HO_5))) (below_size bA)); replace HO_3 := Aside0.mk (Kd.R_elder' (rK HO_3) (Kd.R_base ho0) hb); replace HO_5 := Aside0.mk (Kd.R_elder' (rK HO_5) (Kd.R_base ho0) hb); replace HB := Aside0.mk (below_step bA hb); (try clear hb); (try clear ho0); obtain ⟨Ao19, co19, eo19⟩ := Kd.R_slice HO_5.out; subst eo19; obtain ⟨Ao20, co20, eo20⟩ := Kd.R_slice HO674.out; subst eo20))
     go_loopg [9] k1 (fun kq v9 w' => ∃ (x9_2 : Int), v9 = .int .i64 x9_2 ∧ Aside0 (laws_FnQueues.l1 kq l0 t657 t658 t663 t672 x9_2 = some r) ∧ Aside0 (kq ≤ k1) ∧ Aside0 (Kd.R (Kd.int .i64) 3 w' w.heap.size (fun k_ => some k_ ≠ ((.slice Ao19 t663.length co19) : Value).ownBlock ∧ some k_ ≠ ((.slice Ao20 t672.length co20) : Value).ownBlock) (.slice Ao7 t657.length co7) t657) ∧ Aside0 (Kd.R Kd.bool 4 w' w.heap.size (fun _ => True) (.slice Ao8 t658.length co8) t658) ∧ Aside0 (Kd.R (Kd.int .i64) 3 w' w.heap.size (fun k_ => some k_ ≠ ((.slice Ao7 t657.length co7) : Value).ownBlock ∧ some k_ ≠ ((.slice Ao20 t672.length co20) : Value).ownBlock) (.slice Ao19 t663.length co19) t663) ∧ Aside0 (Kd.R (Kd.int .i64) 3 w' w.heap.size (fun k_ => some k_ ≠ ((.slice Ao7 t657.length co7) : Value).ownBlock ∧ some k_ ≠ ((.slice Ao19 t663.length co19) : Value).ownBlock) (.slice Ao20 t672.length co20) t672) ∧ Aside0 (Below w.heap.size w w'))
     case atStart => exact ⟨(0), rS, H', ⟨Nat.le_refl _⟩, ⟨rK HO_3⟩, ⟨by (with_reducible repeat (first | apply Kd.R_alloc | apply Kd.R_drewN | apply Kd.R_drew)); exact Kd.R_mono HO_4.out (fun _ hk => trivial)⟩, ⟨rK HO_5⟩, ⟨by (with_reducible repeat (first | apply Kd.R_alloc | apply Kd.R_drewN | apply Kd.R_drew)); exact Kd.R_mono HO674.out (fun _ hk => ⟨hk.1.2, hk.2⟩)⟩, ⟨bA⟩⟩
     case round =>
      clear H'
      try clear c1
      try clear p2
      try clear c3
      try clear c5
      try clear p6
      try clear c10
      try clear c12
      try clear c12b0
      try clear c13
      try clear c16
      try clear c16b0
      try clear c16b1
      try clear c16b2
      try clear p2
      obtain ⟨x9_2, rfl, HA, HK2, HO_3, HO_4, HO_5, HO_8, HB⟩ := hrel
      cases gk with
      | zero => exact absurd HA.out (by simp [laws_FnQueues.l1])
      | succ k2 =>
       have H := HA.out
       clear HA
       simp only [laws_FnQueues.l1] at H
       by_cases c21 : x9_2 < (t663.length : Int)
       ·
        rw [if_pos c21] at H
        have c21b0 := decide_eq_true c21
        clear c21
        by_cases c22 : x9_2 > 0
        ·
         rw [if_pos c22] at H
         have c22b0 := decide_eq_true c22
         clear c22
         obtain ⟨ji23, hji23⟩ : ∃ j_ : Int, (wrap64 (x9_2 - 1)) = j_ := ⟨_, rfl⟩
         replace H : (if 0 ≤ (ji23) then (if (ji23) < (t663.length : Int) then (if 0 ≤ x9_2 then (if (rd t663 x9_2) < 0 then (none) else (if (rd t663 x9_2) > 10000 then (none) else (if x9_2 < (t672.length : Int) then (if (rd t672 x9_2) > (rd t663 x9_2) then (none) else (if x9_2 < (t657.length : Int) then (if x9_2 < (t658.length : Int) then ((impl_QueueStep.f k2 (rd t663 (ji23)) (rd t657 x9_2) (rdOf false t658 x9_2)).bind fun t683 => (if (rd t663 x9_2) = t683 then (laws_FnQueues.l1 k2 l0 t657 t658 t663 t672 (wrap64 (x9_2 + 1))) else (none))) else (none)) else (none))) else (none)))) else (none)) else (none)) else (none)) = some r := by first | (rw [hji23] at H; exact H) | (simp only [hji23] at H ⊢; exact H)
         have hji23w : (IntKind.i64.wrap (x9_2 - 1)) = ji23 := (i64_w _).trans hji23
         have c24 : 0 ≤ (ji23) := ifN H
         replace H := ifT H
         have c24b0 := decide_eq_true c24
         clear c24
         have c25 : (ji23) < (t663.length : Int) := ifN H
         replace H := ifT H
         have c25b0 := decide_eq_true c25
         clear c25
         have c26 : 0 ≤ x9_2 := ifN H
         replace H := ifT H
         have c26b0 := decide_eq_true c26
         clear c26
         by_cases c27 : (rd t663 x9_2) < 0
         ·
          rw [if_pos c27] at H
          have c27b0 := decide_eq_true c27
          clear c27
          exact absurd H (by simp)
         ·
          rw [if_neg c27] at H
          have c27b0 := decide_eq_false c27
          clear c27
          by_cases c28 : (rd t663 x9_2) > 10000
          ·
           rw [if_pos c28] at H
           have c28b0 := decide_eq_true c28
           clear c28
           exact absurd H (by simp)
          ·
           rw [if_neg c28] at H
           have c28b0 := decide_eq_false c28
           clear c28
           have c29 : x9_2 < (t672.length : Int) := ifN H
           replace H := ifT H
           have c29b0 := decide_eq_true c29
           clear c29
           by_cases c30 : (rd t672 x9_2) > (rd t663 x9_2)
           ·
            rw [if_pos c30] at H
            have c30b0 := decide_eq_true c30
            clear c30
            exact absurd H (by simp)
           ·
            rw [if_neg c30] at H
            have c30b0 := decide_eq_false c30
            clear c30
            have c31 : x9_2 < (t657.length : Int) := ifN H
            replace H := ifT H
            have c31b0 := decide_eq_true c31
            clear c31
            have c32 : x9_2 < (t658.length : Int) := ifN H
            replace H := ifT H
            have c32b0 := decide_eq_true c32
            clear c32
            obtain ⟨t683, A33, H⟩ := bindE H
            try dsimp only at H
            have c34 : (rd t663 x9_2) = t683 := ifN H
            replace H := ifT H
            have c34b0 : ((rd t663 x9_2) == t683) = true := beq_iff_eq.mpr c34
            have c34b1 : ((rd t663 x9_2) != t683) = false := bne_eq_false_iff_eq.mpr c34
            clear c34
            have H' := Aside0.mk H
            clear H
            have p675 : 0 ≤ ((ji23) : Int) := dA
            have q675 : (ji23) < (t663.length : Int) := dA
            obtain ⟨ad675, e675, hx675_0⟩ := Kd.at_int (Kd.R_reads' HO_5.out).2.2 (ji23) p675 q675
            cases e675
            replace p675 := eq_true p675
            replace q675 := eq_true q675
            try go_wp2
            replace HO_3 := Aside0.mk (Kd.R_drew HO_3.out)
            replace HO_4 := Aside0.mk (Kd.R_drew HO_4.out)
            replace HO_5 := Aside0.mk (Kd.R_drew HO_5.out)
            replace HO_8 := Aside0.mk (Kd.R_drew HO_8.out)
            have HBo := HB
            replace HB := Aside0.mk (below_drew1 HB.out)
            have p676 : 0 ≤ (x9_2 : Int) := dA
            have q676 : x9_2 < (t663.length : Int) := dA
            obtain ⟨ad676, e676, hx676_0⟩ := Kd.at_int (Kd.R_reads' HO_5.out).2.2 x9_2 p676 q676
            obtain rfl : ad675 = ad676 := (by injection e676)
            replace p676 := eq_true p676
            replace q676 := eq_true q676
            have p677 : 0 ≤ (x9_2 : Int) := dA
            have q677 : x9_2 < (t663.length : Int) := dA
            obtain ⟨ad677, e677, hx677_0⟩ := Kd.at_int (Kd.R_reads' HO_5.out).2.2 x9_2 p677 q677
            obtain rfl : ad675 = ad677 := (by injection e677)
            replace p677 := eq_true p677
            replace q677 := eq_true q677
            have p678 : 0 ≤ (x9_2 : Int) := dA
            have q678 : x9_2 < (t672.length : Int) := dA
            obtain ⟨ad678, e678, hx678_0⟩ := Kd.at_int (Kd.R_reads' HO_8.out).2.2 x9_2 p678 q678
            cases e678
            replace p678 := eq_true p678
            replace q678 := eq_true q678
            have p679 : 0 ≤ (x9_2 : Int) := dA
            have q679 : x9_2 < (t663.length : Int) := dA
            obtain ⟨ad679, e679, hx679_0⟩ := Kd.at_int (Kd.R_reads' HO_5.out).2.2 x9_2 p679 q679
            obtain rfl : ad675 = ad679 := (by injection e679)
            replace p679 := eq_true p679
            replace q679 := eq_true q679
            have p680 : 0 ≤ (x9_2 : Int) := dA
            have q680 : x9_2 < (t663.length : Int) := dA
            obtain ⟨ad680, e680, hx680_0⟩ := Kd.at_int (Kd.R_reads' HO_5.out).2.2 x9_2 p680 q680
            obtain rfl : ad675 = ad680 := (by injection e680)
            replace p680 := eq_true p680
            replace q680 := eq_true q680
            have p681 : 0 ≤ (x9_2 : Int) := dA
            have q681 : x9_2 < (t657.length : Int) := dA
            obtain ⟨ad681, e681, hx681_0⟩ := Kd.at_int (Kd.R_reads' HO_3.out).2.2 x9_2 p681 q681
            cases e681
            replace p681 := eq_true p681
            replace q681 := eq_true q681
            have p682 : 0 ≤ (x9_2 : Int) := dA
            have q682 : x9_2 < (t658.length : Int) := dA
            obtain ⟨ad682, e682, hx682_0⟩ := Kd.at_bool (Kd.R_reads' HO_4.out).2.2 x9_2 p682 q682
            cases e682
            replace p682 := eq_true p682
            replace q682 := eq_true q682
            refine start_ (n := 40) (S := fun w' => w'.cell? (ad675.add (x9_2).toNat) = some (.int .i64 (rd t663 x9_2)) ∧ w'.cell? (ad675.add (x9_2).toNat) = some (.int .i64 (rd t663 x9_2)) ∧ w'.cell? (ad678.add (x9_2).toNat) = some (.int .i64 (rd t672 x9_2)) ∧ w'.cell? (ad675.add (x9_2).toNat) = some (.int .i64 (rd t663 x9_2)) ∧ w'.cell? (ad675.add (x9_2).toNat) = some (.int .i64 (rd t663 x9_2)) ∧ w'.cell? (ad681.add (x9_2).toNat) = some (.int .i64 (rd t657 x9_2)) ∧ w'.cell? (ad682.add (x9_2).toNat) = some (.bool (rdOf false t658 x9_2))) (ds := []) (mb 40 0) (by kernel_rfl) rfl rfl ⟨hx676_0, hx677_0, hx678_0, hx679_0, hx680_0, hx681_0, hx682_0⟩ (fun hHeld => ?_); refine with_tabW laws_FnQueues.tab19 laws_FnQueues.bits19 (fun HT_ HW_ => ?_)
            generalize wr.drew = w35 at HO_3 HO_4 HO_5 HO_8 HB hx676_0 hx677_0 hx678_0 hx679_0 hx680_0 hx681_0 hx682_0 hHeld ⊢
            refine pa 0 59 (mb 40 1) HT_ ?_
            refine pa 1 60 (mb 40 3) HT_ ?_
            refine pa 2 61 (mb 40 7) HT_ ?_
            refine ta7 3 62 (mb 40 15) HT_ HW_ hHeld ?_
            refine pa 4 63 (mb 40 31) HT_ ?_
            refine pa 5 64 (mb 40 63) HT_ ?_
            refine pa 6 65 (mb 40 127) HT_ ?_
            refine pa 7 66 (mb 40 255) HT_ ?_
            refine pa 8 67 (mb 40 511) HT_ ?_
            refine ta7 9 68 (mb 40 1023) HT_ HW_ hHeld ?_
            refine pa 10 69 (mb 40 2047) HT_ ?_
            refine pa 11 70 (mb 40 4095) HT_ ?_
            refine pa 12 71 (mb 40 8191) HT_ ?_
            refine pa 13 72 (mb 40 16383) HT_ ?_
            refine pa 14 73 (mb 40 32767) HT_ ?_
            refine pa 15 74 (mb 40 65535) HT_ ?_
            refine pa 17 76 (mb 40 196607) HT_ ?_
            refine pa 18 77 (mb 40 458751) HT_ ?_
            refine pa 19 78 (mb 40 983039) HT_ ?_
            refine ta7 16 75 (mb 40 1048575) HT_ HW_ hHeld ?_
            refine ta7 20 79 (mb 40 2097151) HT_ HW_ hHeld ?_
            refine pa 21 80 (mb 40 4194303) HT_ ?_
            refine pa 22 81 (mb 40 8388607) HT_ ?_
            refine pa 23 82 (mb 40 16777215) HT_ ?_
            refine pa 24 83 (mb 40 33554431) HT_ ?_
            refine pa 25 84 (mb 40 67108863) HT_ ?_
            refine pa 26 85 (mb 40 134217727) HT_ ?_
            refine pa 28 87 (mb 40 402653183) HT_ ?_
            refine pa 29 88 (mb 40 939524095) HT_ ?_
            refine pa 30 89 (mb 40 2013265919) HT_ ?_
            refine pa 31 90 (mb 40 4160749567) HT_ ?_
            refine pa 33 92 (mb 40 12750684159) HT_ ?_
            refine pa 34 93 (mb 40 29930553343) HT_ ?_
            refine pa 35 94 (mb 40 64290291711) HT_ ?_
            refine ta7 27 86 (mb 40 64424509439) HT_ HW_ hHeld ?_
            refine ta7 32 91 (mb 40 68719476735) HT_ HW_ hHeld ?_
            refine ta7 36 95 (mb 40 137438953471) HT_ HW_ hHeld ?_
            refine oa 37 96 (mb 40 274877906943) HT_ (fun K hK => ?_)
            refine goes_ Try.func36 (by kernel_rfl) rfl #[.int .i64 (rd t663 (ji23)), .int .i64 (rd t657 x9_2), .bool (rdOf false t658 x9_2)] (by rfl) rfl rfl (by (try simp only [List.map_toArray, List.map_cons, List.map_nil]); first | done | (simp only [hji23]; rfl) | rfl | (simp only [List.length_drop, List.length_take]; rfl)) ?_
            with_reducible refine (impl_QueueStep.calls k2 (rd t663 (ji23)) (rd t657 x9_2) (rdOf false t658 x9_2) t683 _ A33.out).mono ?_
            rintro e w36 ⟨rfl, hb⟩
            have HS0_ := (hb.cell (World.block_lt_of_cell? _ _ (hHeld.1))).trans (hHeld.1)
            have HS1_ := (hb.cell (World.block_lt_of_cell? _ _ (hHeld.2.1))).trans (hHeld.2.1)
            have HS2_ := (hb.cell (World.block_lt_of_cell? _ _ (hHeld.2.2.1))).trans (hHeld.2.2.1)
            have HS3_ := (hb.cell (World.block_lt_of_cell? _ _ (hHeld.2.2.2.1))).trans (hHeld.2.2.2.1)
            have HS4_ := (hb.cell (World.block_lt_of_cell? _ _ (hHeld.2.2.2.2.1))).trans (hHeld.2.2.2.2.1)
            have HS5_ := (hb.cell (World.block_lt_of_cell? _ _ (hHeld.2.2.2.2.2.1))).trans (hHeld.2.2.2.2.2.1)
            have HS6_ := (hb.cell (World.block_lt_of_cell? _ _ (hHeld.2.2.2.2.2.2))).trans (hHeld.2.2.2.2.2.2)
            refine ⟨_, rfl, ?_⟩
            replace HO_3 := Aside0.mk (Kd.R_below (rK HO_3) hb)
            replace HO_4 := Aside0.mk (Kd.R_below (rK HO_4) hb)
            replace HO_5 := Aside0.mk (Kd.R_below (rK HO_5) hb)
            replace HO_8 := Aside0.mk (Kd.R_below (rK HO_8) hb)
            replace HB := Aside0.mk (below_step bA hb)
            (try clear hb)
            (try clear hb2)
            (try clear hk)
            (try clear hi)
            refine hK.out _ _ ⟨HS0_, HS1_, HS2_, HS3_, HS4_, HS5_, HS6_⟩ (fun hHeld => ?_)
            clear hK K
            refine nB ?_
            refine pa 38 97 (mb 40 549755813887) HT_ ?_
            refine pa 39 98 (mb 40 1099511627775) HT_ ?_
            refine eA HT_ ?_
            try go_wp2
            go_roundg k2
            case measure => have := HK1.out; have := HK2.out; omega
            case rel => exact ⟨(wrap64 (x9_2 + 1)), rS, H', ⟨by have := HK1.out; have := HK2.out; omega⟩, ⟨rK HO_3⟩, ⟨rK HO_4⟩, ⟨rK HO_5⟩, ⟨rK HO_8⟩, ⟨bA⟩⟩
        ·
         rw [if_neg c22] at H
         have c22b0 := decide_eq_false c22
         clear c22
         have c37 : 0 ≤ x9_2 := ifN H
         replace H := ifT H
         have c37b0 := decide_eq_true c37
         clear c37
         by_cases c38 : (rd t663 x9_2) < 0
         ·
          rw [if_pos c38] at H
          have c38b0 := decide_eq_true c38
          clear c38
          exact absurd H (by simp)
         ·
          rw [if_neg c38] at H
          have c38b0 := decide_eq_false c38
          clear c38
          by_cases c39 : (rd t663 x9_2) > 10000
          ·
           rw [if_pos c39] at H
           have c39b0 := decide_eq_true c39
           clear c39
           exact absurd H (by simp)
          ·
           rw [if_neg c39] at H
           have c39b0 := decide_eq_false c39
           clear c39
           have c40 : x9_2 < (t672.length : Int) := ifN H
           replace H := ifT H
           have c40b0 := decide_eq_true c40
           clear c40
           by_cases c41 : (rd t672 x9_2) > (rd t663 x9_2)
           ·
            rw [if_pos c41] at H
            have c41b0 := decide_eq_true c41
            clear c41
            exact absurd H (by simp)
           ·
            rw [if_neg c41] at H
            have c41b0 := decide_eq_false c41
            clear c41
            have c42 : x9_2 < (t657.length : Int) := ifN H
            replace H := ifT H
            have c42b0 := decide_eq_true c42
            clear c42
            have c43 : x9_2 < (t658.length : Int) := ifN H
            replace H := ifT H
            have c43b0 := decide_eq_true c43
            clear c43
            obtain ⟨t691, A44, H⟩ := bindE H
            try dsimp only at H
            have c45 : (rd t663 x9_2) = t691 := ifN H
            replace H := ifT H
            have c45b0 : ((rd t663 x9_2) == t691) = true := beq_iff_eq.mpr c45
            have c45b1 : ((rd t663 x9_2) != t691) = false := bne_eq_false_iff_eq.mpr c45
            clear c45
            have H' := Aside0.mk H
            clear H
            try go_wp2
            replace HO_3 := Aside0.mk (Kd.R_drew HO_3.out)
            replace HO_4 := Aside0.mk (Kd.R_drew HO_4.out)
            replace HO_5 := Aside0.mk (Kd.R_drew HO_5.out)
            replace HO_8 := Aside0.mk (Kd.R_drew HO_8.out)
            have HBo := HB
            replace HB := Aside0.mk (below_drew1 HB.out)
            have p684 : 0 ≤ (x9_2 : Int) := dA
            have q684 : x9_2 < (t663.length : Int) := dA
            obtain ⟨ad684, e684, hx684_0⟩ := Kd.at_int (Kd.R_reads' HO_5.out).2.2 x9_2 p684 q684
            cases e684
            replace p684 := eq_true p684
            replace q684 := eq_true q684
            have p685 : 0 ≤ (x9_2 : Int) := dA
            have q685 : x9_2 < (t663.length : Int) := dA
            obtain ⟨ad685, e685, hx685_0⟩ := Kd.at_int (Kd.R_reads' HO_5.out).2.2 x9_2 p685 q685
            obtain rfl : ad684 = ad685 := (by injection e685)
            replace p685 := eq_true p685
            replace q685 := eq_true q685
            have p686 : 0 ≤ (x9_2 : Int) := dA
            have q686 : x9_2 < (t672.length : Int) := dA
            obtain ⟨ad686, e686, hx686_0⟩ := Kd.at_int (Kd.R_reads' HO_8.out).2.2 x9_2 p686 q686
            cases e686
            replace p686 := eq_true p686
            replace q686 := eq_true q686
            have p687 : 0 ≤ (x9_2 : Int) := dA
            have q687 : x9_2 < (t663.length : Int) := dA
            obtain ⟨ad687, e687, hx687_0⟩ := Kd.at_int (Kd.R_reads' HO_5.out).2.2 x9_2 p687 q687
            obtain rfl : ad684 = ad687 := (by injection e687)
            replace p687 := eq_true p687
            replace q687 := eq_true q687
            have p688 : 0 ≤ (x9_2 : Int) := dA
            have q688 : x9_2 < (t663.length : Int) := dA
            obtain ⟨ad688, e688, hx688_0⟩ := Kd.at_int (Kd.R_reads' HO_5.out).2.2 x9_2 p688 q688
            obtain rfl : ad684 = ad688 := (by injection e688)
            replace p688 := eq_true p688
            replace q688 := eq_true q688
            have p689 : 0 ≤ (x9_2 : Int) := dA
            have q689 : x9_2 < (t657.length : Int) := dA
            obtain ⟨ad689, e689, hx689_0⟩ := Kd.at_int (Kd.R_reads' HO_3.out).2.2 x9_2 p689 q689
            cases e689
            replace p689 := eq_true p689
            replace q689 := eq_true q689
            have p690 : 0 ≤ (x9_2 : Int) := dA
            have q690 : x9_2 < (t658.length : Int) := dA
            obtain ⟨ad690, e690, hx690_0⟩ := Kd.at_bool (Kd.R_reads' HO_4.out).2.2 x9_2 p690 q690
            cases e690
            replace p690 := eq_true p690
            replace q690 := eq_true q690
            refine start_ (n := 40) (S := fun w' => w'.cell? (ad684.add (x9_2).toNat) = some (.int .i64 (rd t663 x9_2)) ∧ w'.cell? (ad684.add (x9_2).toNat) = some (.int .i64 (rd t663 x9_2)) ∧ w'.cell? (ad686.add (x9_2).toNat) = some (.int .i64 (rd t672 x9_2)) ∧ w'.cell? (ad684.add (x9_2).toNat) = some (.int .i64 (rd t663 x9_2)) ∧ w'.cell? (ad684.add (x9_2).toNat) = some (.int .i64 (rd t663 x9_2)) ∧ w'.cell? (ad689.add (x9_2).toNat) = some (.int .i64 (rd t657 x9_2)) ∧ w'.cell? (ad690.add (x9_2).toNat) = some (.bool (rdOf false t658 x9_2))) (ds := []) (mb 40 0) (by kernel_rfl) rfl rfl ⟨hx684_0, hx685_0, hx686_0, hx687_0, hx688_0, hx689_0, hx690_0⟩ (fun hHeld => ?_); refine with_tabW laws_FnQueues.tab19 laws_FnQueues.bits19 (fun HT_ HW_ => ?_)
            generalize wr.drew = w46 at HO_3 HO_4 HO_5 HO_8 HB hx684_0 hx685_0 hx686_0 hx687_0 hx688_0 hx689_0 hx690_0 hHeld ⊢
            refine pa 0 59 (mb 40 1) HT_ ?_
            refine pa 1 60 (mb 40 3) HT_ ?_
            refine pa 2 61 (mb 40 7) HT_ ?_
            refine ta7 3 62 (mb 40 15) HT_ HW_ hHeld ?_
            refine pa 4 63 (mb 40 31) HT_ ?_
            refine pa 5 64 (mb 40 63) HT_ ?_
            refine pa 6 65 (mb 40 127) HT_ ?_
            refine pa 7 66 (mb 40 255) HT_ ?_
            refine pa 8 67 (mb 40 511) HT_ ?_
            refine ta7 9 68 (mb 40 1023) HT_ HW_ hHeld ?_
            refine pa 10 69 (mb 40 2047) HT_ ?_
            refine pa 11 70 (mb 40 4095) HT_ ?_
            refine pa 12 71 (mb 40 8191) HT_ ?_
            refine pa 13 72 (mb 40 16383) HT_ ?_
            refine pa 14 73 (mb 40 32767) HT_ ?_
            refine pa 15 74 (mb 40 65535) HT_ ?_
            refine pa 17 76 (mb 40 196607) HT_ ?_
            refine pa 18 77 (mb 40 458751) HT_ ?_
            refine pa 19 78 (mb 40 983039) HT_ ?_
            refine ta7 16 75 (mb 40 1048575) HT_ HW_ hHeld ?_
            refine ta7 20 79 (mb 40 2097151) HT_ HW_ hHeld ?_
            refine pa 21 80 (mb 40 4194303) HT_ ?_
            refine pa 22 81 (mb 40 8388607) HT_ ?_
            refine pa 23 82 (mb 40 16777215) HT_ ?_
            refine pa 24 83 (mb 40 33554431) HT_ ?_
            refine pa 25 84 (mb 40 67108863) HT_ ?_
            refine pa 26 85 (mb 40 134217727) HT_ ?_
            refine pa 28 87 (mb 40 402653183) HT_ ?_
            refine pa 29 88 (mb 40 939524095) HT_ ?_
            refine pa 30 89 (mb 40 2013265919) HT_ ?_
            refine pa 31 90 (mb 40 4160749567) HT_ ?_
            refine pa 33 92 (mb 40 12750684159) HT_ ?_
            refine pa 34 93 (mb 40 29930553343) HT_ ?_
            refine pa 35 94 (mb 40 64290291711) HT_ ?_
            refine ta7 27 86 (mb 40 64424509439) HT_ HW_ hHeld ?_
            refine ta7 32 91 (mb 40 68719476735) HT_ HW_ hHeld ?_
            refine ta7 36 95 (mb 40 137438953471) HT_ HW_ hHeld ?_
            refine oa 37 96 (mb 40 274877906943) HT_ (fun K hK => ?_)
            refine gA Try.func36 #[.int .i64 0, .int .i64 (rd t657 x9_2), .bool (rdOf false t658 x9_2)] ?_
            with_reducible refine (impl_QueueStep.calls k2 0 (rd t657 x9_2) (rdOf false t658 x9_2) t691 _ A44.out).mono ?_
            rintro e w47 ⟨rfl, hb⟩
            have HS0_ := (hb.cell (World.block_lt_of_cell? _ _ (hHeld.1))).trans (hHeld.1)
            have HS1_ := (hb.cell (World.block_lt_of_cell? _ _ (hHeld.2.1))).trans (hHeld.2.1)
            have HS2_ := (hb.cell (World.block_lt_of_cell? _ _ (hHeld.2.2.1))).trans (hHeld.2.2.1)
            have HS3_ := (hb.cell (World.block_lt_of_cell? _ _ (hHeld.2.2.2.1))).trans (hHeld.2.2.2.1)
            have HS4_ := (hb.cell (World.block_lt_of_cell? _ _ (hHeld.2.2.2.2.1))).trans (hHeld.2.2.2.2.1)
            have HS5_ := (hb.cell (World.block_lt_of_cell? _ _ (hHeld.2.2.2.2.2.1))).trans (hHeld.2.2.2.2.2.1)
            have HS6_ := (hb.cell (World.block_lt_of_cell? _ _ (hHeld.2.2.2.2.2.2))).trans (hHeld.2.2.2.2.2.2)
            refine ⟨_, rfl, ?_⟩
            replace HO_3 := Aside0.mk (Kd.R_below (rK HO_3) hb)
            replace HO_4 := Aside0.mk (Kd.R_below (rK HO_4) hb)
            replace HO_5 := Aside0.mk (Kd.R_below (rK HO_5) hb)
            replace HO_8 := Aside0.mk (Kd.R_below (rK HO_8) hb)
            replace HB := Aside0.mk (below_step bA hb)
            (try clear hb)
            (try clear hb2)
            (try clear hk)
            (try clear hi)
            refine hK.out _ _ ⟨HS0_, HS1_, HS2_, HS3_, HS4_, HS5_, HS6_⟩ (fun hHeld => ?_)
            clear hK K
            refine nB ?_
            refine pa 38 97 (mb 40 549755813887) HT_ ?_
            refine pa 39 98 (mb 40 1099511627775) HT_ ?_
            refine eA HT_ ?_
            try go_wp2
            go_roundg k2
            case measure => have := HK1.out; have := HK2.out; omega
            case rel => exact ⟨(wrap64 (x9_2 + 1)), rS, H', ⟨by have := HK1.out; have := HK2.out; omega⟩, ⟨rK HO_3⟩, ⟨rK HO_4⟩, ⟨rK HO_5⟩, ⟨rK HO_8⟩, ⟨bA⟩⟩
       ·
        rw [if_neg c21] at H
        have c21b0 := decide_eq_false c21
        clear c21
        have HC48 := Aside0.mk H
        clear H
        go_upto_region 21 with (fail)
        go_cut [120] (fun v120 wc => ∃ (kq : Nat) (x120_47 : Bool), v120 = .bool x120_47 ∧ Aside0 (laws_FnQueues.j2 kq l0 x120_47 = some r) ∧ Aside0 (kq ≤ k2) ∧ Aside0 (Below w.heap.size w wc))
        case first =>
         have H := HC48.out
         clear HC48
         obtain ⟨t692, A49, H⟩ := bindE H
         try dsimp only at H
         obtain ⟨t693, A50, H⟩ := bindE H
         try dsimp only at H
         by_cases c51 : t692 > t693
         ·
          rw [if_pos c51] at H
          have c51b0 := decide_eq_true c51
          clear c51
          (first | rw [c51b0] | (simp only [i64_w, i32_w]; rw [c51b0]) | skip)
          have H' := Aside0.mk H
          clear H
          go_wp2_with (first | ((with_reducible refine gate_callee (f := 37) rfl ?_); refine gL (some 100) Try.func37 #[.slice Ao20 t672.length co20] ?_; (with_reducible refine (impl_TotalWait.calls k2 _ _ t672 t692 _ ?side1 ?side2 A49.out).mono ?_); (case side1 => exact cO ⟨(Kd.R_reads' HO_8.out).2.2⟩); (case side2 => exact (Kd.R_reads' HO_8.out).2.1); rintro e w52 ⟨rfl, hb⟩; refine ⟨_, rfl, ?_⟩; replace HO_3 := Aside0.mk (Kd.R_below (rK HO_3) hb); replace HO_4 := Aside0.mk (Kd.R_below (rK HO_4) hb); replace HO_5 := Aside0.mk (Kd.R_below (rK HO_5) hb); replace HO_8 := Aside0.mk (Kd.R_below (rK HO_8) hb); replace HB := Aside0.mk (below_step bA hb); (try clear hb)) | ((with_reducible refine gate_callee (f := 37) rfl ?_); refine gL (some 102) Try.func37 #[.slice Ao19 t663.length co19] ?_; (with_reducible refine (impl_TotalWait.calls k2 _ _ t663 t693 _ ?side1 ?side2 A50.out).mono ?_); (case side1 => exact cO ⟨(Kd.R_reads' HO_5.out).2.2⟩); (case side2 => exact (Kd.R_reads' HO_5.out).2.1); rintro e w53 ⟨rfl, hb⟩; refine ⟨_, rfl, ?_⟩; replace HO_3 := Aside0.mk (Kd.R_below (rK HO_3) hb); replace HO_4 := Aside0.mk (Kd.R_below (rK HO_4) hb); replace HO_5 := Aside0.mk (Kd.R_below (rK HO_5) hb); replace HO_8 := Aside0.mk (Kd.R_below (rK HO_8) hb); replace HB := Aside0.mk (below_step bA hb); (try clear hb)))
          go_meet
          case rel => exact ⟨_, (true), rS, H', ⟨by have := HK1.out; have := HK2.out; first | omega | exact Nat.le_refl _⟩, ⟨bA⟩⟩
         ·
          rw [if_neg c51] at H
          have c51b0 := decide_eq_false c51
          clear c51
          (first | rw [c51b0] | (simp only [i64_w, i32_w]; rw [c51b0]) | skip)
          obtain ⟨t694, A54, H⟩ := bindE H
          try dsimp only at H
          by_cases c55 : (t663.length : Int) = 0
          ·
           rw [if_pos c55] at H
           have c55b0 : ((t663.length : Int) == 0) = true := beq_iff_eq.mpr c55
           have c55b1 : ((t663.length : Int) != 0) = false := bne_eq_false_iff_eq.mpr c55
           clear c55
           have H' := Aside0.mk H
           clear H
           go_wp2_with (first | ((with_reducible refine gate_callee (f := 37) rfl ?_); refine gL (some 100) Try.func37 #[.slice Ao20 t672.length co20] ?_; (with_reducible refine (impl_TotalWait.calls k2 _ _ t672 t692 _ ?side1 ?side2 A49.out).mono ?_); (case side1 => exact cO ⟨(Kd.R_reads' HO_8.out).2.2⟩); (case side2 => exact (Kd.R_reads' HO_8.out).2.1); rintro e w56 ⟨rfl, hb⟩; refine ⟨_, rfl, ?_⟩; replace HO_3 := Aside0.mk (Kd.R_below (rK HO_3) hb); replace HO_4 := Aside0.mk (Kd.R_below (rK HO_4) hb); replace HO_5 := Aside0.mk (Kd.R_below (rK HO_5) hb); replace HO_8 := Aside0.mk (Kd.R_below (rK HO_8) hb); replace HB := Aside0.mk (below_step bA hb); (try clear hb)) | ((with_reducible refine gate_callee (f := 37) rfl ?_); refine gL (some 102) Try.func37 #[.slice Ao19 t663.length co19] ?_; (with_reducible refine (impl_TotalWait.calls k2 _ _ t663 t693 _ ?side1 ?side2 A50.out).mono ?_); (case side1 => exact cO ⟨(Kd.R_reads' HO_5.out).2.2⟩); (case side2 => exact (Kd.R_reads' HO_5.out).2.1); rintro e w57 ⟨rfl, hb⟩; refine ⟨_, rfl, ?_⟩; replace HO_3 := Aside0.mk (Kd.R_below (rK HO_3) hb); replace HO_4 := Aside0.mk (Kd.R_below (rK HO_4) hb); replace HO_5 := Aside0.mk (Kd.R_below (rK HO_5) hb); replace HO_8 := Aside0.mk (Kd.R_below (rK HO_8) hb); replace HB := Aside0.mk (below_step bA hb); (try clear hb)) | (go_at_call 38; (with_reducible refine (impl_IsServed.calls _ _ t663 t694 _ ?side1 ?side2 A54.out).mono ?_); (case side1 => exact cO ⟨(Kd.R_reads' HO_5.out).2.2⟩); (case side2 => exact (Kd.R_reads' HO_5.out).2.1); rintro e w' ⟨rfl, ⟨nd, rfl⟩⟩))
           go_meet
           case rel => exact ⟨_, ((t694 != true)), rS, H', ⟨by have := HK1.out; have := HK2.out; first | omega | exact Nat.le_refl _⟩, ⟨bA⟩⟩
          ·
           rw [if_neg c55] at H
           have c55b0 : ((t663.length : Int) == 0) = false := beq_eq_false_iff_ne.mpr c55
           have c55b1 : ((t663.length : Int) != 0) = true := bne_iff_ne.mpr c55
           have c55b2 : ¬ (t663 = []) := fun h_ => c55 (by rw [h_]; rfl)
           obtain ⟨ji58, hji58⟩ : ∃ j_ : Int, (wrap64 ((t663.length : Int) - 1)) = j_ := ⟨_, rfl⟩
           replace H : (if 0 ≤ (ji58) then (if (ji58) < (t663.length : Int) then (laws_FnQueues.j2 k2 l0 (t694 != ((rd t663 (ji58)) == 0))) else (none)) else (none)) = some r := by first | (rw [hji58] at H; exact H) | (simp only [hji58] at H ⊢; exact H)
           (try rw [hji58] at A49)
           (try rw [hji58] at A50)
           (try rw [hji58] at A54)
           have hji58w : (IntKind.i64.wrap ((t663.length : Int) - 1)) = ji58 := (i64_w _).trans hji58
           have c59 : 0 ≤ (ji58) := ifN H
           replace H := ifT H
           have c59b0 := decide_eq_true c59
           clear c59
           have c60 : (ji58) < (t663.length : Int) := ifN H
           replace H := ifT H
           have c60b0 := decide_eq_true c60
           clear c60
           have H' := Aside0.mk H
           clear H
           go_wp2_with (first | ((with_reducible refine gate_callee (f := 37) rfl ?_); refine gL (some 100) Try.func37 #[.slice Ao20 t672.length co20] ?_; (with_reducible refine (impl_TotalWait.calls k2 _ _ t672 t692 _ ?side1 ?side2 A49.out).mono ?_); (case side1 => exact cO ⟨(Kd.R_reads' HO_8.out).2.2⟩); (case side2 => exact (Kd.R_reads' HO_8.out).2.1); rintro e w61 ⟨rfl, hb⟩; refine ⟨_, rfl, ?_⟩; replace HO_3 := Aside0.mk (Kd.R_below (rK HO_3) hb); replace HO_4 := Aside0.mk (Kd.R_below (rK HO_4) hb); replace HO_5 := Aside0.mk (Kd.R_below (rK HO_5) hb); replace HO_8 := Aside0.mk (Kd.R_below (rK HO_8) hb); replace HB := Aside0.mk (below_step bA hb); (try clear hb)) | ((with_reducible refine gate_callee (f := 37) rfl ?_); refine gL (some 102) Try.func37 #[.slice Ao19 t663.length co19] ?_; (with_reducible refine (impl_TotalWait.calls k2 _ _ t663 t693 _ ?side1 ?side2 A50.out).mono ?_); (case side1 => exact cO ⟨(Kd.R_reads' HO_5.out).2.2⟩); (case side2 => exact (Kd.R_reads' HO_5.out).2.1); rintro e w62 ⟨rfl, hb⟩; refine ⟨_, rfl, ?_⟩; replace HO_3 := Aside0.mk (Kd.R_below (rK HO_3) hb); replace HO_4 := Aside0.mk (Kd.R_below (rK HO_4) hb); replace HO_5 := Aside0.mk (Kd.R_below (rK HO_5) hb); replace HO_8 := Aside0.mk (Kd.R_below (rK HO_8) hb); replace HB := Aside0.mk (below_step bA hb); (try clear hb)) | (go_at_call 38; (with_reducible refine (impl_IsServed.calls _ _ t663 t694 _ ?side1 ?side2 A54.out).mono ?_); (case side1 => exact cO ⟨(Kd.R_reads' HO_5.out).2.2⟩); (case side2 => exact (Kd.R_reads' HO_5.out).2.1); rintro e w' ⟨rfl, ⟨nd, rfl⟩⟩; have p695 : 0 ≤ ((ji58) : Int) := dA; have q695 : (ji58) < (t663.length : Int) := dA; obtain ⟨ad695, e695, hx695_0⟩ := Kd.at_int (Kd.R_reads' HO_5.out).2.2 (ji58) p695 q695; cases e695; replace p695 := eq_true p695; replace q695 := eq_true q695))
           go_meet
           case rel => exact ⟨_, ((t694 != ((rd t663 (ji58)) == 0))), (by first | rfl | (simp; done) | (simp only [← hji58] <;> (first | rfl | simp)) | (simp [*]; done)), H', ⟨by have := HK1.out; have := HK2.out; first | omega | exact Nat.le_refl _⟩, ⟨bA⟩⟩
        case rest =>
         clear HC48
         try clear c2
         try clear p2
         try clear c3
         try clear c4
         try clear c5
         try clear c6
         try clear p6
         try clear q6
         try clear hx6
         try clear c21
         try clear c21b0
         try clear c22
         try clear c22b0
         try clear c36
         try clear c37
         try clear c37b0
         try clear c38
         try clear c38b0
         try clear c39
         try clear c39b0
         try clear c40
         try clear c40b0
         try clear c41
         try clear c41b0
         try clear c42
         try clear c42b0
         try clear c43
         try clear c43b0
         try clear c45
         try clear c45b0
         try clear c45b1
         try clear c51
         try clear c51b0
         try clear c55
         try clear c55b0
         try clear c55b1
         try clear c55b2
         try clear c59
         try clear c59b0
         try clear c60
         try clear c60b0
         try clear hx684_0
         try clear hx685_0
         try clear hx686_0
         try clear hx687_0
         try clear hx688_0
         try clear hx689_0
         try clear hx690_0
         try clear hx695_0
         try clear p684
         try clear p685
         try clear p686
         try clear p687
         try clear p688
         try clear p689
         try clear p690
         try clear p695
         try clear q684
         try clear q685
         try clear q686
         try clear q687
         try clear q688
         try clear q689
         try clear q690
         try clear q695
         obtain ⟨kq, x120_47, rfl, HA, HJ47, HB⟩ := hcut
         cases kq with
         | zero => exact absurd HA.out (by simp [laws_FnQueues.j2])
         | succ kj47 =>
          have H := HA.out
          clear HA
          simp only [laws_FnQueues.j2] at H
          have c63 := ifN' H
          replace H := ifT' H
          replace c63 := Bool.eq_false_iff.mpr c63
          subst c63
          obtain ⟨⟨t696, t699, t702, t703, t704⟩, A64, H⟩ := bindE H
          try dsimp only at H
          obtain ⟨t705, A65, H⟩ := bindE H
          try dsimp only at H
          have H' := Aside0.mk H
          clear H
          go_wp2_with (first | ((with_reducible refine gate_callee (f := 39) rfl ?_); refine gL (some 123) Try.func39 #[.slice A0 l0.length c0] ?_; (with_reducible refine (spec_DrawOpenIn.calls kj47 _ _ l0 t696 t699 t702 t703 t704 _ ?side1 ?side2 A64.out).mono ?_); (case side1 => exact cB HR0); (case side2 => exact HC0.out); rintro e w66 ⟨v697, v700, rfl, ho0, ho1, hb⟩; refine ⟨_, rfl, ?_⟩; have HO698 := Aside0.mk (Kd.R_lower (Kd.R_mono (ok' := fun k_ => True) ho0 (fun _ hk_ => trivial)) (below_size bA)); have HO701 := Aside0.mk (Kd.V_lower (Kd.V_mono (ok' := fun k_ => some k_ ≠ (v697 : Value).ownBlock) ho1 (fun k_ hk_ => hk_.2)) (below_size bA)); replace HB := Aside0.mk (below_step bA hb); (try clear hb); (try clear ho0); (try clear ho1); obtain ⟨Ao67, co67, eo67⟩ := Kd.R_slice HO698.out; subst eo67; obtain ⟨Ao68, co68, eo68⟩ := Kd.V_slice HO701.out; subst eo68) | ((with_reducible refine gate_callee (f := 40) rfl ?_); refine gL (some 134) Try.func40 #[.slice Ao67 t696.length co67, .slice Ao68 t699.length co68, .int .i64 t702, .int .i64 t703, .int .i64 t704] ?_; (with_reducible refine (impl_OpenIn.calls kj47 _ _ t696 _ _ t699 t702 t703 t704 t705 _ ?side1 ?side2 ?side3 ?side4 A65.out).mono ?_); (case side1 => exact cO ⟨(Kd.R_reads' HO698.out).2.2⟩); (case side2 => exact (Kd.R_reads' HO698.out).2.1); (case side3 => repeat (first | exact (Kd.V_reads' HO701.out).2.2 | (with_reducible refine Kd.C_alloc ?_ _) | (with_reducible refine Kd.C_drewN ?_ _) | (with_reducible refine Kd.C_drew ?_))); (case side4 => exact (Kd.V_reads' HO701.out).2.1); rintro e w69 ⟨v706, rfl, ho0, hb⟩; refine ⟨_, rfl, ?_⟩; have n0_ := Aside0.mk (Kd.R_below (rK HO698) hb); have n1_ := Aside0.mk (Kd.V_elder' (by (with_reducible repeat (first | apply Kd.V_alloc | apply Kd.V_drewN | apply Kd.V_drew)); exact HO701.out) (Kd.R_base ho0) hb); have n2_ := Aside0.mk (Kd.R_lower ho0 (below_size bA)); have n3_ := Aside0.mk (below_step bA hb); clear HO698; clear HO701; clear HB; have HO698 := n0_; have HO701 := n1_; have HO707 := n2_; have HB := n3_; clear n0_ n1_ n2_ n3_; (try clear hb); (try clear ho0)))
          go_loopg [17] kj47 (fun kq v17 w' => ∃ (x17_4 : Int), v17 = .int .i64 x17_4 ∧ Aside0 (laws_FnQueues.l2 kq t696 t699 t702 t703 t704 t705 x17_4 = some r) ∧ Aside0 (kq ≤ kj47) ∧ Aside0 (Kd.R k50 50 w' w.heap.size (fun _ => True) (.slice Ao67 t696.length co67) t696) ∧ Aside0 (Kd.V k85 85 w' w.heap.size (fun k_ => some k_ ≠ ((.slice Ao67 t696.length co67) : Value).ownBlock ∧ some k_ ≠ (v706 : Value).ownBlock) (.slice Ao68 t699.length co68) t699) ∧ Aside0 (Kd.R Kd.bool 4 w' w.heap.size (fun _ => True) v706 t705) ∧ Aside0 (Below w.heap.size w w'))
          case atStart => exact ⟨(0), rS, H', ⟨Nat.le_refl _⟩, ⟨rK HO698⟩, ⟨by (with_reducible repeat (first | apply Kd.V_alloc | apply Kd.V_drewN | apply Kd.V_drew)); exact HO701.out⟩, ⟨rK HO707⟩, ⟨bA⟩⟩
          case round =>
           clear H'
           try clear c2
           try clear p2
           try clear c3
           try clear c4
           try clear c5
           try clear c6
           try clear p6
           try clear q6
           try clear hx6
           try clear c21
           try clear c21b0
           try clear c22
           try clear c22b0
           try clear c36
           try clear c37
           try clear c37b0
           try clear c38
           try clear c38b0
           try clear c39
           try clear c39b0
           try clear c40
           try clear c40b0
           try clear c41
           try clear c41b0
           try clear c42
           try clear c42b0
           try clear c43
           try clear c43b0
           try clear c45
           try clear c45b0
           try clear c45b1
           try clear c51
           try clear c51b0
           try clear c55
           try clear c55b0
           try clear c55b1
           try clear c55b2
           try clear c59
           try clear c59b0
           try clear c60
           try clear c60b0
           try clear c63
           try clear p64
           try clear p68
           try clear q68
           try clear hx68
           try clear p69
           try clear q69
           try clear hx69
           try clear hx684_0
           try clear hx685_0
           try clear hx686_0
           try clear hx687_0
           try clear hx688_0
           try clear hx689_0
           try clear hx690_0
           try clear hx695_0
           try clear p2
           try clear p6
           try clear p684
           try clear p685
           try clear p686
           try clear p687
           try clear p688
           try clear p689
           try clear p690
           try clear p695
           try clear q6
           try clear q684
           try clear q685
           try clear q686
           try clear q687
           try clear q688
           try clear q689
           try clear q690
           try clear q695
           obtain ⟨x17_4, rfl, HA, HK4, HO_11, HO_12, HO_16, HB⟩ := hrel
           cases gk with
           | zero => exact absurd HA.out (by simp [laws_FnQueues.l2])
           | succ k4 =>
            have H := HA.out
            clear HA
            simp only [laws_FnQueues.l2] at H
            have HC70 := Aside0.mk H
            clear H
            go_upto_region 26 with (fail)
            go_cut [142] (fun v142 wc => ∃ (kq : Nat) (x142_69 : Bool), v142 = .bool x142_69 ∧ Aside0 (laws_FnQueues.j4 kq t696 t699 t702 t703 t704 t705 x17_4 x142_69 = some r) ∧ Aside0 (kq ≤ k4) ∧ Aside0 (Kd.R k50 50 wc w.heap.size (fun _ => True) (.slice Ao67 t696.length co67) t696) ∧ Aside0 (Kd.V k85 85 wc w.heap.size (fun k_ => some k_ ≠ ((.slice Ao67 t696.length co67) : Value).ownBlock ∧ some k_ ≠ (v706 : Value).ownBlock) (.slice Ao68 t699.length co68) t699) ∧ Aside0 (Kd.R Kd.bool 4 wc w.heap.size (fun _ => True) v706 t705) ∧ Aside0 (Below w.heap.size w wc))
            case first =>
             have H := HC70.out
             clear HC70
             by_cases c71 : x17_4 < (t705.length : Int)
             ·
              rw [if_pos c71] at H
              have c71b0 := decide_eq_true c71
              clear c71
              (first | rw [c71b0] | (simp only [i64_w, i32_w]; rw [c71b0]) | skip)
              have H' := Aside0.mk H
              clear H
              obtain ⟨Ao72, co72, eo72⟩ := Kd.R_slice HO_16.out
              subst eo72
              go_wp2
              go_meet
              case rel => exact ⟨_, (decide (x17_4 < 100)), rS, H', ⟨by have := HK1.out; have := HK2.out; have := HJ47.out; have := HK4.out; first | omega | exact Nat.le_refl _⟩, ⟨rK HO_11⟩, ⟨by (with_reducible repeat (first | apply Kd.V_alloc | apply Kd.V_drewN | apply Kd.V_drew)); exact HO_12.out⟩, ⟨rK HO_16⟩, ⟨bA⟩⟩
             ·
              rw [if_neg c71] at H
              have c71b0 := decide_eq_false c71
              clear c71
              (first | rw [c71b0] | (simp only [i64_w, i32_w]; rw [c71b0]) | skip)
              have H' := Aside0.mk H
              clear H
              obtain ⟨Ao73, co73, eo73⟩ := Kd.R_slice HO_16.out
              subst eo73
              go_wp2
              go_meet
              case rel => exact ⟨_, (false), rS, H', ⟨by have := HK1.out; have := HK2.out; have := HJ47.out; have := HK4.out; first | omega | exact Nat.le_refl _⟩, ⟨rK HO_11⟩, ⟨by (with_reducible repeat (first | apply Kd.V_alloc | apply Kd.V_drewN | apply Kd.V_drew)); exact HO_12.out⟩, ⟨rK HO_16⟩, ⟨bA⟩⟩
            case rest =>
             clear HC70
             try clear c2
             try clear p2
             try clear c3
             try clear c4
             try clear c5
             try clear c6
             try clear p6
             try clear q6
             try clear hx6
             try clear c7
             try clear c21
             try clear c21b0
             try clear c22
             try clear c22b0
             try clear c36
             try clear c37
             try clear c37b0
             try clear c38
             try clear c38b0
             try clear c39
             try clear c39b0
             try clear c40
             try clear c40b0
             try clear c41
             try clear c41b0
             try clear c42
             try clear c42b0
             try clear c43
             try clear c43b0
             try clear c45
             try clear c45b0
             try clear c45b1
             try clear c51
             try clear c51b0
             try clear c55
             try clear c55b0
             try clear c55b1
             try clear c55b2
             try clear c59
             try clear c59b0
             try clear c60
             try clear c60b0
             try clear c63
             try clear p64
             try clear p68
             try clear q68
             try clear hx68
             try clear p69
             try clear q69
             try clear hx69
             try clear c71
             try clear c71b0
             try clear hx684_0
             try clear hx685_0
             try clear hx686_0
             try clear hx687_0
             try clear hx688_0
             try clear hx689_0
             try clear hx690_0
             try clear hx695_0
             try clear p2
             try clear p6
             try clear p64
             try clear p68
             try clear p684
             try clear p685
             try clear p686
             try clear p687
             try clear p688
             try clear p689
             try clear p69
             try clear p690
             try clear p695
             try clear q6
             try clear q68
             try clear q684
             try clear q685
             try clear q686
             try clear q687
             try clear q688
             try clear q689
             try clear q69
             try clear q690
             try clear q695
             obtain ⟨kq, x142_69, rfl, HA, HJ69, HO_11, HO_12, HO_16, HB⟩ := hcut
             cases kq with
             | zero => exact absurd HA.out (by simp [laws_FnQueues.j4])
             | succ kj69 =>
              have H := HA.out
              clear HA
              simp only [laws_FnQueues.j4] at H
              by_cases c74 : x142_69 = true
              ·
               subst c74
               have H1 : (if 0 ≤ x17_4 then (if x17_4 < (t705.length : Int) then ((impl_LightAt.f kj69 t696 t699 (wrap64 (t703 + x17_4)) t702).bind fun t709 => (if ((rdOf false t705 x17_4) != (t709 == 1)) = true then (none) else (laws_FnQueues.l2 kj69 t696 t699 t702 t703 t704 t705 (wrap64 (x17_4 + 1))))) else (none)) else (none)) = some r := by rw [if_pos rfl] at H; exact H
               clear H
               have H := H1
               clear H1
               have c75 : 0 ≤ x17_4 := ifN H
               replace H := ifT H
               have c75b0 := decide_eq_true c75
               clear c75
               have c76 : x17_4 < (t705.length : Int) := ifN H
               replace H := ifT H
               have c76b0 := decide_eq_true c76
               clear c76
               obtain ⟨t709, A77, H⟩ := bindE H
               try dsimp only at H
               have c78 : ¬ (((rdOf false t705 x17_4) != (t709 == 1)) = true) := ifN' H
               replace H := ifT' H
               have c78b0 : ((rdOf false t705 x17_4) != (t709 == 1)) = false := by simpa using c78
               (try (have c78b1 : decide ((rdOf false t705 x17_4) = (t709 == 1)) = true := by simpa using c78))
               (try (have c78b2 : ((rdOf false t705 x17_4) == (t709 == 1)) = true := by simpa using c78))
               clear c78
               have H' := Aside0.mk H
               clear H
               try go_wp2
               replace HO_11 := Aside0.mk (Kd.R_drew HO_11.out)
               replace HO_12 := Aside0.mk (Kd.V_drew HO_12.out)
               replace HO_16 := Aside0.mk (Kd.R_drew HO_16.out)
               have HBo := HB
               replace HB := Aside0.mk (below_drew1 HB.out)
               obtain ⟨Ao80, co80, eo80⟩ := Kd.R_slice HO_16.out
               (first | subst eo80 | (injection eo80 with f1_ f2_ f3_; have f4_ := f1_.symm; have f5_ := f3_.symm; clear f1_ f2_ f3_; subst f4_; subst f5_))
               have p708 : 0 ≤ (x17_4 : Int) := dA
               have q708 : x17_4 < (t705.length : Int) := dA
               obtain ⟨ad708, e708, hx708_0⟩ := Kd.at_bool (Kd.R_reads' HO_16.out).2.2 x17_4 p708 q708
               cases e708
               replace p708 := eq_true p708
               replace q708 := eq_true q708
               refine start_ (n := 13) (S := fun w' => w'.cell? (ad708.add (x17_4).toNat) = some (.bool (rdOf false t705 x17_4))) (ds := []) (mb 13 0) (by kernel_rfl) rfl rfl (hx708_0) (fun hHeld => ?_); refine with_tabW laws_FnQueues.tab28 laws_FnQueues.bits28 (fun HT_ HW_ => ?_)
               generalize wc.drew = w79 at HO_11 HO_12 HO_16 HB hx708_0 hHeld ⊢
               refine pa 0 145 (mb 13 1) HT_ ?_
               refine pa 1 146 (mb 13 3) HT_ ?_
               refine pa 2 147 (mb 13 7) HT_ ?_
               refine pa 4 149 (mb 13 23) HT_ ?_
               refine pa 5 150 (mb 13 55) HT_ ?_
               refine pa 6 151 (mb 13 119) HT_ ?_
               refine pa 7 152 (mb 13 247) HT_ ?_
               refine pa 8 153 (mb 13 503) HT_ ?_
               refine pa 9 154 (mb 13 1015) HT_ ?_
               refine take_ (i := 3) (N := some 148) (v := ?_) (a' := ?_) (mb 13 1023) rfl rfl (take_ofW HT_.out HW_.out (by kernel_rfl)) (fun _ _ _ h => h) (Or.inl ⟨by rfl, ?_⟩) hHeld ?_ ?_
               rotate_left
               ·
                intro w' s0
                go_simp
                with_reducible rfl
               rotate_left
               ·
                simp only [Act.put, List.setIfInBounds_toArray, List.set_cons_zero, List.set_cons_succ, i64_w, i32_w]
                rfl
               refine oa 10 155 (mb 13 2047) HT_ (fun K hK => ?_)
               refine gA Try.func14 #[.slice Ao67 t696.length co67, .slice Ao68 t699.length co68, .int .i64 (wrap64 (t703 + x17_4)), .int .i64 t702] ?_
               with_reducible refine (impl_LightAt.calls kj69 _ _ t696 _ _ t699 (wrap64 (t703 + x17_4)) t702 t709 _ ?side1 ?side2 ?side3 ?side4 A77.out).mono ?_
               (case side1 => exact cO ⟨(Kd.R_reads' HO_11.out).2.2⟩)
               (case side2 => exact (Kd.R_reads' HO_11.out).2.1)
               (case side3 => repeat (first | exact (Kd.V_reads' HO_12.out).2.2 | (with_reducible refine Kd.C_alloc ?_ _) | (with_reducible refine Kd.C_drewN ?_ _) | (with_reducible refine Kd.C_drew ?_)))
               (case side4 => exact (Kd.V_reads' HO_12.out).2.1)
               rintro e w81 ⟨rfl, hb⟩
               have HS0_ := (hb.cell (World.block_lt_of_cell? _ _ (hHeld))).trans (hHeld)
               refine ⟨_, rfl, ?_⟩
               replace HO_11 := Aside0.mk (Kd.R_below (rK HO_11) hb)
               replace HO_12 := Aside0.mk (Kd.V_below (by (with_reducible repeat (first | apply Kd.V_alloc | apply Kd.V_drewN | apply Kd.V_drew)); exact HO_12.out) hb)
               replace HO_16 := Aside0.mk (Kd.R_below (rK HO_16) hb)
               replace HB := Aside0.mk (below_step bA hb)
               (try clear hb)
               (try clear hb2)
               (try clear hk)
               (try clear hi)
               refine hK.out _ _ (HS0_) (fun hHeld => ?_)
               clear hK K
               refine nB ?_
               refine pa 11 156 (mb 13 4095) HT_ ?_
               refine pa 12 157 (mb 13 8191) HT_ ?_
               refine eA HT_ ?_
               try go_wp2
               go_roundg kj69
               case measure => have := HK1.out; have := HK2.out; have := HJ47.out; have := HK4.out; have := HJ69.out; omega
               case rel => exact ⟨(wrap64 (x17_4 + 1)), rS, H', ⟨by have := HK1.out; have := HK2.out; have := HJ47.out; have := HK4.out; have := HJ69.out; omega⟩, ⟨rK HO_11⟩, ⟨by (with_reducible repeat (first | apply Kd.V_alloc | apply Kd.V_drewN | apply Kd.V_drew)); exact HO_12.out⟩, ⟨rK HO_16⟩, ⟨bA⟩⟩
              ·
               replace c74 := Bool.eq_false_iff.mpr c74
               subst c74
               have H1 : (if (t705.length : Int) = 0 then (some true) else (some ((t705.length : Int) == t704))) = some r := by rw [if_neg (show ¬ (false = true) by decide)] at H; exact H
               clear H
               have H := H1
               clear H1
               by_cases c82 : (t705.length : Int) = 0
               ·
                rw [if_pos c82] at H
                have c82b0 : ((t705.length : Int) == 0) = true := beq_iff_eq.mpr c82
                have c82b1 : ((t705.length : Int) != 0) = false := bne_eq_false_iff_eq.mpr c82
                clear c82
                obtain rfl := Option.some.inj H
                obtain ⟨Ao83, co83, eo83⟩ := Kd.R_slice HO_16.out
                subst eo83
                go_wp2
                go_ret
                exact ⟨rA, bA⟩
               ·
                rw [if_neg c82] at H
                have c82b0 : ((t705.length : Int) == 0) = false := beq_eq_false_iff_ne.mpr c82
                have c82b1 : ((t705.length : Int) != 0) = true := bne_iff_ne.mpr c82
                have c82b2 : ¬ (t705 = []) := fun h_ => c82 (by rw [h_]; rfl)
                obtain rfl := Option.some.inj H
                obtain ⟨Ao84, co84, eo84⟩ := Kd.R_slice HO_16.out
                subst eo84
                go_wp2
                go_ret
                exact ⟨rA, bA⟩

end Go.Proofs.Ytjgonpcajedkjaa.P
