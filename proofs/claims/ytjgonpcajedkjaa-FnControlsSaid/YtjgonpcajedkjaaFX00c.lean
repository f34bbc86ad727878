/- Printed by myprint.py (wip/tools) over the kit's print: what Go's functions compute, and that they do. Lean checks it. -/
import Derived.Test.YtjgonpcajedkjaaF0
import Derived.Test.YtjgonpcajedkjaaFX00
import Derived.Test.YtjgonpcajedkjaaFX00b
namespace Go.Proofs.Ytjgonpcajedkjaa.P
open Go.RowKit Go.Proofs.YtjgonpcajedkjaaW.PrintWords Go.Proofs.YtjgonpcajedkjaaW.PrintLast Go.Proofs.YtjgonpcajedkjaaW.PrintMore Go.Proofs.Ytjgonpcajedkjaa.Sq
attribute [local go_sem] max2_int min2_int max_two min_two max_three min_three max_four min_four
set_option linter.unusedVariables false
set_option linter.unusedSimpArgs false

/-! ### spec_l14Draw: function 164 -/
def spec_l14Draw.l0 : Nat → List (S50) → Int → List Int → Int → Int → List Int → Int → List Int → Int → Option (List Int × Int × List Int × Int × Int × Int)
 | 0, _, _, _, _, _, _, _, _, _ => none
 | k + 1, x1, x7, x1000, x1001, x1002, x424000, x424001, x424002, x424003 => if x7 > 0 then ((spec_TickControl.f k x1 x424000 x424001 x424002 x424003).bind fun bt443 => (spec_l14Draw.l0 k x1 (wrap64 (x7 - 1)) x1000 x1001 x1002 bt443.1 bt443.2.1 bt443.2.2.1 bt443.2.2.2)) else (some (x424000, x424001, x424002, x424003, x1001, x1002))
def spec_l14Draw.f (k : Nat) (s0_0 : List Int) (s0_1 : Int) (s0_2 : Int) (l1 : List (S50)) : Option (List Int × Int × List Int × Int × Int × Int) := (spec_StagesOf.f k l1).bind fun t404 => (if (t404.length : Int) = 0 then (some ((([1] : List Int)), 0, ([] : List Int), 0, s0_1, s0_2)) else ((some (([] : List Int) : List Int)).bind fun y410 => ((spec_l1Below.f s0_0 s0_1 s0_2 (t404.length : Int)).bind fun bt413 => (if 0 ≤ bt413.1 then (if bt413.1 < (t404.length : Int) then (if y410.length + (rd_L4 t404 bt413.1).length < 17592186044416 then ((some (y410 ++ (rd_L4 t404 bt413.1) : List Int)).bind fun y417 => ((spec_l1Below.f s0_0 bt413.2.1 bt413.2.2 12).bind fun bt420 => ((spec_l1Once.f s0_0 bt420.2.1 bt420.2.2 3).bind fun bt424 => (if bt424.1 = true then ((spec_l1Below.f s0_0 bt424.2.1 bt424.2.2 (t404.length : Int)).bind fun bt427 => (if 0 ≤ bt427.1 then (if bt427.1 < (t404.length : Int) then ((spec_AskStage.f k l1 y417 bt420.1 ([] : List Int) 0 (rd_L4 t404 bt427.1)).bind fun bt431 => ((spec_l1Below.f s0_0 bt427.2.1 bt427.2.2 3).bind fun bt440 => (spec_l14Draw.l0 k l1 bt440.1 s0_0 bt440.2.1 bt440.2.2 bt431.1 bt431.2.1 bt431.2.2.1 bt431.2.2.2.1))) else (none)) else (none))) else (some (y417, bt420.1, ([] : List Int), 0, bt424.2.1, bt424.2.2)))))) else (none)) else (none)) else (none)))))
theorem spec_l14Draw.mono_l : ∀ k, (∀ y0 y1 y2 y3 y4 y5 y6 y7 y8, LeO (spec_l14Draw.l0 k y0 y1 y2 y3 y4 y5 y6 y7 y8) (spec_l14Draw.l0 (k + 1) y0 y1 y2 y3 y4 y5 y6 y7 y8))
 | 0 => fun _ _ _ _ _ _ _ _ _ r h => by simp [spec_l14Draw.l0] at h
 | k + 1 => by
  have ih0 := spec_l14Draw.mono_l k
  ·
   intro y0 y1 y2 y3 y4 y5 y6 y7 y8
   unfold spec_l14Draw.l0
   exact mz4 ih0 spec_AskStage.mono spec_StagesOf.mono spec_TickControl.mono
theorem spec_l14Draw.mono : ∀ a0 a1 a2 a3 k, LeO (spec_l14Draw.f k a0 a1 a2 a3) (spec_l14Draw.f (k + 1) a0 a1 a2 a3) := by
 intro a0 a1 a2 a3 k
 have ih0 := spec_l14Draw.mono_l k
 unfold spec_l14Draw.f
 exact mz4 ih0 spec_AskStage.mono spec_StagesOf.mono spec_TickControl.mono
def spec_l14Draw.T6 : Bool × List (List Nat × List Nat) := (true, [([], []), ([], []), ([], []), ([], []), ([], []), ([4], [4]), ([3, 5], [3, 5]), ([2, 6], [2, 6]), ([7], [7]), ([0, 1, 8, 6], [0, 1, 8]), ([9], [9]), ([10], [10]), ([10], [10]), ([11, 9, 0, 1, 2, 3, 4, 5, 6, 7, 8, 9, 10, 11], [11])])
def spec_l14Draw.B6 : List Nat := [0, 0, 0, 0, 0, 16, 56, 124, 252, 511, 1023, 2047, 2047, 4095]
theorem spec_l14Draw.tab6 : rtab .any (opsOf Try.f164 6) = spec_l14Draw.T6 := by kernel_rfl
theorem spec_l14Draw.bits6 : waitsOk spec_l14Draw.T6.2 spec_l14Draw.B6 = true := by kernel_rfl
set_option maxHeartbeats 8000000 in
set_option maxRecDepth 100000 in
theorem spec_l14Draw.calls (k : Nat) (g : Nat) (s0_0 : List Int) (s0_1 : Int) (s0_2 : Int) (A1 : Option Addr) (c1 : Nat) (l1 : List (S50)) (r1 : List Int) (r2 : Int) (r3 : List Int) (r4 : Int) (r5 : Int) (r6 : Int) (w0 w : World) (hI : IsS138 w0 w g s0_0 s0_1 s0_2) (hB : Below w0.heap.size w0 w) (hr1 : ∀ W_, KeepBut w W_ g none → Kd.C k50 W_ A1 l1.length l1) (hc1 : l1.length ≤ c1) (h : spec_l14Draw.f k s0_0 s0_1 s0_2 l1 = some (r1, r2, r3, r4, r5, r6)) :
  Calls Try.prog 164 #[.pointer (some ⟨g, 0, none⟩), .slice A1 l1.length c1] w fun e w' => ∃ v0_ v2_ : Value, e = .returned (.agg #[v0_, .int .i64 r2, v2_, .int .i64 r4]) ∧ Kd.R (Kd.int .i64) 3 w' w.heap.size (n1 v2_) v0_ r1 ∧ Kd.R (Kd.int .i64) 3 w' w.heap.size (n1 v0_) v2_ r3 ∧ IsS138 w0 w' g s0_0 r5 r6 ∧ Below w0.heap.size w0 w' ∧ KeepBut w w' g none := by
 have hu66 := Try.underlying66
 have HR1 := Aside0.mk hr1
 have HC1 := Aside0.mk hc1
 clear hr1 hc1
 have HI0 := Aside0.mk hI
 have HK := Aside0.mk (KeepBut.refl w g none)
 have HL := Aside0.mk hB.size
 clear hI
 have HW0 := Aside0.mk hB.size
 have HB := Aside0.mk hB
 clear hB
 have H : ((spec_StagesOf.f k l1).bind fun t404 => (if (t404.length : Int) = 0 then (some ((([1] : List Int)), 0, ([] : List Int), 0, s0_1, s0_2)) else ((some (([] : List Int) : List Int)).bind fun y410 => ((spec_l1Below.f s0_0 s0_1 s0_2 (t404.length : Int)).bind fun bt413 => (if 0 ≤ bt413.1 then (if bt413.1 < (t404.length : Int) then (if y410.length + (rd_L4 t404 bt413.1).length < 17592186044416 then ((some (y410 ++ (rd_L4 t404 bt413.1) : List Int)).bind fun y417 => ((spec_l1Below.f s0_0 bt413.2.1 bt413.2.2 12).bind fun bt420 => ((spec_l1Once.f s0_0 bt420.2.1 bt420.2.2 3).bind fun bt424 => (if bt424.1 = true then ((spec_l1Below.f s0_0 bt424.2.1 bt424.2.2 (t404.length : Int)).bind fun bt427 => (if 0 ≤ bt427.1 then (if bt427.1 < (t404.length : Int) then ((spec_AskStage.f k l1 y417 bt420.1 ([] : List Int) 0 (rd_L4 t404 bt427.1)).bind fun bt431 => ((spec_l1Below.f s0_0 bt427.2.1 bt427.2.2 3).bind fun bt440 => (spec_l14Draw.l0 k l1 bt440.1 s0_0 bt440.2.1 bt440.2.2 bt431.1 bt431.2.1 bt431.2.2.1 bt431.2.2.2.1))) else (none)) else (none))) else (some (y417, bt420.1, ([] : List Int), 0, bt424.2.1, bt424.2.2)))))) else (none)) else (none)) else (none)))))) = some (r1, r2, r3, r4, r5, r6) := h
 clear h
 obtain ⟨t404, A3, H⟩ := bindE H
 try dsimp only at H
 by_cases c4 : (t404.length : Int) = 0
 ·
  rw [if_pos c4] at H
  have c4b0 : ((t404.length : Int) == 0) = true := beq_iff_eq.mpr c4
  have c4b1 : ((t404.length : Int) != 0) = false := bne_eq_false_iff_eq.mpr c4
  clear c4
  obtain ⟨y407, hy407⟩ : ∃ y_ : List Int, y_ = (([1] : List Int)) := ⟨_, rfl⟩
  replace H : (some (y407, 0, ([] : List Int), 0, s0_1, s0_2)) = some (r1, r2, r3, r4, r5, r6) := rH H hy407
  have Ny407 := Aside0.mk hy407
  clear hy407
  simp only [Option.some.injEq, Prod.mk.injEq] at H
  obtain ⟨rfl, rfl, rfl, rfl, rfl, rfl⟩ := H
  go_enter Try.func164, Try.ntmps164
  go_wp2_with (first | ((with_reducible refine gate_dst (N := 4) rfl ?_); refine bE (N := 4) (cs := #[.slice none 0 0, .int .i64 0, .slice none 0 0, .int .i64 0]) (t := 66) ?_; intro gb403 hg w5 hbox hb; have n0_ := Aside0.mk (IsS138.below (by exact sI1380 HI0.out) hb); have n1_ := Aside0.mk (KeepBut.trans (by exact sK0 HK.out) (KeepBut.of_below hb g none) (.inl rfl)); have n2_ := Aside0.mk (below_step (by exact sB1 HB.out (IsS138.ge HI0.out)) hb); have n3_ := Aside0.mk (hbox); have n4_ := Aside0.mk ((by rw [hg]; exact (keep_size (w := w) (g := g) (row := none) (by exact sK0 HK.out)) : w.heap.size ≤ gb403)); have n5_ := Aside0.mk ((Nat.le_trans HW0.out (by rw [hg]; exact (keep_size (w := w) (g := g) (row := none) (by exact sK0 HK.out)) : w.heap.size ≤ gb403) : w0.heap.size ≤ gb403)); have n6_ := Aside0.mk ((by rw [hg]; exact Nat.ne_of_lt (IsS138.lt (show IsS138 w0 _ g s0_0 s0_1 s0_2 from by exact sI1380 HI0.out)) : g ≠ gb403)); have n7_ := Aside0.mk ((by rw [hg]; exact Nat.ne_of_gt (IsS138.lt (show IsS138 w0 _ g s0_0 s0_1 s0_2 from by exact sI1380 HI0.out)) : gb403 ≠ g)); clear HI0; clear HK; clear HB; have HI0 := n0_; have HK := n1_; have HB := n2_; have BK403 := n3_; have GW403 := n4_; have GE403 := n5_; have NB0_403 := n6_; have NB403_0 := n7_; clear n0_ n1_ n2_ n3_ n4_ n5_ n6_ n7_; clear hb hbox hg) | ((with_reducible refine gate_callee (f := 96) rfl ?_); refine gL (some 9) Try.func96 #[.slice A1 l1.length c1] ?_; (with_reducible refine (spec_StagesOf.calls k _ _ l1 t404 _ ?_ ?_ A3.out).mono ?_); exact Kd.C_foot_now HR1.out (by exact sK1 HK.out GW403.out); exact HC1.out; rintro e w6 ⟨v405, rfl, ho0, hb⟩; refine ⟨_, rfl, ?_⟩; have HO406 := Aside0.mk (Kd.S_lower ho0 (keep_size (w := w) (g := g) (row := none) (by exact sK1 HK.out GW403.out))); replace BK403 := kb BK403 hb; replace HK := Aside0.mk (KeepBut.trans (by exact sK1 HK.out GW403.out) (KeepBut.of_below hb g none) (.inl rfl)); replace HB := Aside0.mk (below_step (by exact sB2 HB.out (IsS138.ge HI0.out) GE403.out) hb); replace HI0 := Aside0.mk (IsS138.below (by exact sI1381 HI0.out NB0_403.out) hb); (try clear hb); (try clear ho0); obtain ⟨Ao7, co7, eo7⟩ := Kd.S_slice HO406.out; subst eo7) | ((with_reducible refine gate_dst (N := 13) rfl ?_); refine Kd.R_lit (Kd.int .i64) _ 3 ?hg (N := 13) ?hd (xs := ([1] : List Int)) (inner := [.int .i64 1]) (ok := fun _ => True) (okp := fun _ => True) ?hr ?hp (fun _ hk => hk) trivial (Below.refl _ _) (Nat.le_refl _) (by simp) ?_; (case hd => rfl); (case hg => rfl); (case hr => first | (go_simp; done) | (go_simp; rfl)); (case hp => exact (Reps.one (show Kd.M (Kd.int .i64) _ _ _ 1 [.int .i64 1] from rfl) (Reps.none _ _))); intro v408 w8 ho9 hb hg_ hnew_; clear hg_ hnew_; (first | rw [← Ny407.out] at ho9 | (simp only [Int.reduceToNat] at ho9; rw [← Ny407.out] at ho9)); replace HO406 := se HO406 ho9 hb; have HO409 := Aside0.mk (Kd.R_lower ho9 (keep_size (w := w) (g := g) (row := none) (by exact sK1 HK.out GW403.out))); replace BK403 := kb BK403 hb; replace HK := Aside0.mk (KeepBut.trans (by exact sK1 HK.out GW403.out) (KeepBut.of_below hb g none) (.inl rfl)); replace HB := Aside0.mk (below_step (by exact sB2 HB.out (IsS138.ge HI0.out) GE403.out) hb); replace HI0 := Aside0.mk (IsS138.below (by exact sI1381 HI0.out NB0_403.out) hb); clear hb ho9; obtain ⟨Ao10, co10, eo10⟩ := Kd.R_slice HO409.out; subst eo10; have hnb11 := NB403_0.out; have hnc11 := NB0_403.out; obtain ⟨_, _, _, _, _, _, _, _⟩ := blkc4 BK403))
  refine bodyPost_ret (results_cell_row rfl _ _ gb403 66 #[.slice Ao10 y407.length co10, .int .i64 0, .slice none 0 0, .int .i64 0] (0, 0) _ rfl (kp BK403) Try.underlying66 rfl (by kernel_rfl)) rfl ?_
  exact ⟨_, _, rA, Kd.R_mono (rf HO409 BK403) (fun _ hk => (by simp [Value.ownBlock])), by first | exact Kd.R_nil _ _ _ _ _ | exact Kd.N_nil _ _ _ _ _ | exact Kd.V_nil _ _ _ _ _ | exact Kd.Q_nil _ _ _ _ _ | exact Kd.S_nil _ _ _ _ _, by exact sI1381 HI0.out NB0_403.out, by exact sB2 HB.out (IsS138.ge HI0.out) GE403.out, by exact sK1 HK.out GW403.out⟩
 rw [if_neg c4] at H
 have c4b0 : ((t404.length : Int) == 0) = false := beq_eq_false_iff_ne.mpr c4
 have c4b1 : ((t404.length : Int) != 0) = true := bne_iff_ne.mpr c4
 have c4b2 : ¬ (t404 = []) := fun h_ => c4 (by rw [h_]; rfl)
 obtain ⟨y410, hy410⟩ : ∃ y_ : List Int, y_ = (([] : List Int)) := ⟨_, rfl⟩
 replace H : ((spec_l1Below.f s0_0 s0_1 s0_2 (t404.length : Int)).bind fun bt413 => (if 0 ≤ bt413.1 then (if bt413.1 < (t404.length : Int) then (if y410.length + (rd_L4 t404 bt413.1).length < 17592186044416 then ((some (y410 ++ (rd_L4 t404 bt413.1) : List Int)).bind fun y417 => ((spec_l1Below.f s0_0 bt413.2.1 bt413.2.2 12).bind fun bt420 => ((spec_l1Once.f s0_0 bt420.2.1 bt420.2.2 3).bind fun bt424 => (if bt424.1 = true then ((spec_l1Below.f s0_0 bt424.2.1 bt424.2.2 (t404.length : Int)).bind fun bt427 => (if 0 ≤ bt427.1 then (if bt427.1 < (t404.length : Int) then ((spec_AskStage.f k l1 y417 bt420.1 ([] : List Int) 0 (rd_L4 t404 bt427.1)).bind fun bt431 => ((spec_l1Below.f s0_0 bt427.2.1 bt427.2.2 3).bind fun bt440 => (spec_l14Draw.l0 k l1 bt440.1 s0_0 bt440.2.1 bt440.2.2 bt431.1 bt431.2.1 bt431.2.2.1 bt431.2.2.2.1))) else (none)) else (none))) else (some (y417, bt420.1, ([] : List Int), 0, bt424.2.1, bt424.2.2)))))) else (none)) else (none)) else (none))) = some (r1, r2, r3, r4, r5, r6) := rH H hy410
 have Ny410 := Aside0.mk hy410
 clear hy410
 obtain ⟨⟨t413, t414, t415⟩, A13, H⟩ := bindE H
 try dsimp only at H
 have c14 : 0 ≤ t413 := ifN H
 replace H := ifT H
 have c14b0 := decide_eq_true c14
 clear c14
 have c15 : t413 < (t404.length : Int) := ifN H
 replace H := ifT H
 have c15b0 := decide_eq_true c15
 clear c15
 have c16 : y410.length + (rd_L4 t404 t413).length < 17592186044416 := ifN H
 replace H := ifT H
 have LMc16 := Aside0.mk c16
 clear c16
 obtain ⟨y417, hy417⟩ : ∃ y_ : List Int, y_ = (y410 ++ (rd_L4 t404 t413)) := ⟨_, rfl⟩
 replace H : ((spec_l1Below.f s0_0 t414 t415 12).bind fun bt420 => ((spec_l1Once.f s0_0 bt420.2.1 bt420.2.2 3).bind fun bt424 => (if bt424.1 = true then ((spec_l1Below.f s0_0 bt424.2.1 bt424.2.2 (t404.length : Int)).bind fun bt427 => (if 0 ≤ bt427.1 then (if bt427.1 < (t404.length : Int) then ((spec_AskStage.f k l1 y417 bt420.1 ([] : List Int) 0 (rd_L4 t404 bt427.1)).bind fun bt431 => ((spec_l1Below.f s0_0 bt427.2.1 bt427.2.2 3).bind fun bt440 => (spec_l14Draw.l0 k l1 bt440.1 s0_0 bt440.2.1 bt440.2.2 bt431.1 bt431.2.1 bt431.2.2.1 bt431.2.2.2.1))) else (none)) else (none))) else (some (y417, bt420.1, ([] : List Int), 0, bt424.2.1, bt424.2.2))))) = some (r1, r2, r3, r4, r5, r6) := rH H hy417
 have Ny417 := Aside0.mk hy417
 clear hy417
 obtain ⟨⟨t420, t421, t422⟩, A17, H⟩ := bindE H
 try dsimp only at H
 obtain ⟨⟨t424, t425, t426⟩, A18, H⟩ := bindE H
 try dsimp only at H
 by_cases c19 : t424 = true
 ·
  subst c19
  have H1 : ((spec_l1Below.f s0_0 t425 t426 (t404.length : Int)).bind fun bt427 => (if 0 ≤ bt427.1 then (if bt427.1 < (t404.length : Int) then ((spec_AskStage.f k l1 y417 t420 ([] : List Int) 0 (rd_L4 t404 bt427.1)).bind fun bt431 => ((spec_l1Below.f s0_0 bt427.2.1 bt427.2.2 3).bind fun bt440 => (spec_l14Draw.l0 k l1 bt440.1 s0_0 bt440.2.1 bt440.2.2 bt431.1 bt431.2.1 bt431.2.2.1 bt431.2.2.2.1))) else (none)) else (none))) = some (r1, r2, r3, r4, r5, r6) := by rw [if_pos rfl] at H; exact H
  clear H
  have H := H1
  clear H1
  obtain ⟨⟨t427, t428, t429⟩, A20, H⟩ := bindE H
  try dsimp only at H
  have c21 : 0 ≤ t427 := ifN H
  replace H := ifT H
  have c21b0 := decide_eq_true c21
  clear c21
  have c22 : t427 < (t404.length : Int) := ifN H
  replace H := ifT H
  have c22b0 := decide_eq_true c22
  clear c22
  obtain ⟨⟨t431, t434, t435, t438, t439⟩, A23, H⟩ := bindE H
  try dsimp only at H
  obtain ⟨⟨t440, t441, t442⟩, A24, H⟩ := bindE H
  try dsimp only at H
  have H' := Aside0.mk H
  clear H
  go_enter Try.func164, Try.ntmps164
  try go_wp2_with (first | ((with_reducible refine gate_dst (N := 4) rfl ?_); refine bE (N := 4) (cs := #[.slice none 0 0, .int .i64 0, .slice none 0 0, .int .i64 0]) (t := 66) ?_; intro gb403 hg w25 hbox hb; have n0_ := Aside0.mk (IsS138.below (by exact sI1380 HI0.out) hb); have n1_ := Aside0.mk (KeepBut.trans (by exact sK0 HK.out) (KeepBut.of_below hb g none) (.inl rfl)); have n2_ := Aside0.mk (below_step (by exact sB1 HB.out (IsS138.ge HI0.out)) hb); have n3_ := Aside0.mk (hbox); have n4_ := Aside0.mk ((by rw [hg]; exact (keep_size (w := w) (g := g) (row := none) (by exact sK0 HK.out)) : w.heap.size ≤ gb403)); have n5_ := Aside0.mk ((Nat.le_trans HW0.out (by rw [hg]; exact (keep_size (w := w) (g := g) (row := none) (by exact sK0 HK.out)) : w.heap.size ≤ gb403) : w0.heap.size ≤ gb403)); have n6_ := Aside0.mk ((by rw [hg]; exact Nat.ne_of_lt (IsS138.lt (show IsS138 w0 _ g s0_0 s0_1 s0_2 from by exact sI1380 HI0.out)) : g ≠ gb403)); have n7_ := Aside0.mk ((by rw [hg]; exact Nat.ne_of_gt (IsS138.lt (show IsS138 w0 _ g s0_0 s0_1 s0_2 from by exact sI1380 HI0.out)) : gb403 ≠ g)); clear HI0; clear HK; clear HB; have HI0 := n0_; have HK := n1_; have HB := n2_; have BK403 := n3_; have GW403 := n4_; have GE403 := n5_; have NB0_403 := n6_; have NB403_0 := n7_; clear n0_ n1_ n2_ n3_ n4_ n5_ n6_ n7_; clear hb hbox hg) | ((with_reducible refine gate_callee (f := 96) rfl ?_); refine gL (some 9) Try.func96 #[.slice A1 l1.length c1] ?_; (with_reducible refine (spec_StagesOf.calls k _ _ l1 t404 _ ?_ ?_ A3.out).mono ?_); exact Kd.C_foot_now HR1.out (by exact sK1 HK.out GW403.out); exact HC1.out; rintro e w26 ⟨v405, rfl, ho0, hb⟩; refine ⟨_, rfl, ?_⟩; have HO406 := Aside0.mk (Kd.S_lower ho0 (keep_size (w := w) (g := g) (row := none) (by exact sK1 HK.out GW403.out))); replace BK403 := kb BK403 hb; replace HK := Aside0.mk (KeepBut.trans (by exact sK1 HK.out GW403.out) (KeepBut.of_below hb g none) (.inl rfl)); replace HB := Aside0.mk (below_step (by exact sB2 HB.out (IsS138.ge HI0.out) GE403.out) hb); replace HI0 := Aside0.mk (IsS138.below (by exact sI1381 HI0.out NB0_403.out) hb); (try clear hb); (try clear ho0); obtain ⟨Ao27, co27, eo27⟩ := Kd.S_slice HO406.out; subst eo27) | ((with_reducible refine gate_dst (N := 15) rfl ?_); refine Kd.R_lit (Kd.int .i64) _ 3 ?hg (N := 15) ?hd (xs := ([] : List Int)) (inner := []) (ok := fun _ => True) (okp := fun _ => True) ?hr ?hp (fun _ hk => hk) trivial (Below.refl _ _) (Nat.le_refl _) (by simp) ?_; (case hd => rfl); (case hg => rfl); (case hr => first | (go_simp; done) | (go_simp; rfl)); (case hp => exact (Reps.none _ _)); intro v411 w28 ho29 hb hg_ hnew_; clear hg_ hnew_; (first | rw [← Ny410.out] at ho29 | (simp only [Int.reduceToNat] at ho29; rw [← Ny410.out] at ho29)); replace HO406 := se HO406 ho29 hb; have HO412 := Aside0.mk (Kd.R_lower ho29 (keep_size (w := w) (g := g) (row := none) (by exact sK1 HK.out GW403.out))); replace BK403 := kb BK403 hb; replace HK := Aside0.mk (KeepBut.trans (by exact sK1 HK.out GW403.out) (KeepBut.of_below hb g none) (.inl rfl)); replace HB := Aside0.mk (below_step (by exact sB2 HB.out (IsS138.ge HI0.out) GE403.out) hb); replace HI0 := Aside0.mk (IsS138.below (by exact sI1381 HI0.out NB0_403.out) hb); clear hb ho29) | ((with_reducible refine gate_callee (f := 84) rfl ?_); refine gL (some 20) Try.func84 #[.pointer (some ⟨g, 0, none⟩), .int .i64 (t404.length : Int)] ?_; (with_reducible refine (spec_l1Below.calls g s0_0 s0_1 s0_2 (t404.length : Int) t413 t414 t415 w0 _ ?_ ?_ A13.out).mono ?_); exact sI1381 HI0.out NB0_403.out; exact sB2 HB.out (IsS138.ge HI0.out) GE403.out; rintro e w30 ⟨rfl, hi, hb, hk⟩; refine ⟨_, rfl, ?_⟩; replace BK403 := Aside0.mk (KeepBut.blk hk (g' := gb403) (o := .cells #[.slice none 0 0, .int .i64 0, .slice none 0 0, .int .i64 0] 66 (0, 0)) (bK BK403) NB403_0.out (by simp)); replace HO406 := Aside0.mk (Kd.S_mono (Kd.S_keep (IsS138.apartS (show IsS138 w0 _ g s0_0 s0_1 s0_2 from by exact sI1381 HI0.out NB0_403.out) (sK HO406) (by decide)) hk (fun _ h => h.2)) (fun _ h => h.1)); replace HO412 := Aside0.mk (Kd.R_mono (Kd.R_keep (IsS138.apart (show IsS138 w0 _ g s0_0 s0_1 s0_2 from by exact sI1381 HI0.out NB0_403.out) (rK HO412) (by decide)) hk (fun _ h => h.2)) (fun _ h => h.1)); replace HK := Aside0.mk (KeepBut.trans (by exact sK1 HK.out GW403.out) hk (.inl rfl)); replace HB := Aside0.mk (hb); replace HI0 := Aside0.mk (hi); (try clear hb); (try clear hk); (try clear hi); have p416 : 0 ≤ (t413 : Int) := dA; have q416 : t413 < (t404.length : Int) := dA; obtain ⟨ad416, A416_0, c416_0, e416, hx416_0, hl416_0, hi416_0⟩ := at_L4 (Kd.S_reads' HO406.out).2.2 t413 p416 q416; cases e416; obtain ⟨ce416, hce416, hMe416, hcc416⟩ := Kd.S_get HO406.out [] t413 p416 (by first | exact q416 | exact dA | (have e_ := (Kd.S_reads' HO406.out).1; omega)); obtain ⟨ve416_0, rfl, ge416_0⟩ := hMe416; have hv416_0 := hcc416 0 _ rfl; rw [Nat.add_zero, show ((Kd.slice 3 (Kd.int .i64))).sz = 1 from rfl, Nat.mul_one] at hv416_0; replace hv416_0 := Option.some.inj (hv416_0.symm.trans hx416_0); rw [hv416_0] at ge416_0; have HL416_0 := Aside0.mk (show Kd.R (Kd.int .i64) 3 _ _ _ _ (rd_L4 t404 t413) from ge416_0); clear hv416_0 ge416_0; clear hcc416 hce416; have HR416_0 := Aside0.mk hi416_0; have HC416_0 := Aside0.mk hl416_0; clear hi416_0 hl416_0; replace p416 := eq_true p416; replace q416 := eq_true q416) | ((with_reducible refine gate_builtin (b := .append) (xs := #[.tmp 15, .tmp 22]) rfl ?_); at_builtin; refine Kd.R_append_rows (Kd.int .i64) w.heap.size rfl (.tmp 15) (.tmp 22) 35 3 (.int .i64 0) 8 rfl Try.underlying35 info3 rfl (by decide) (by omega) v411 y410 (rd_L4 t404 t413) _ _ _ (fun _ => True) (fun _ => False) rfl rfl ?aO ?aR (fun _ _ h => h) (fun _ h => h.elim) ?aF (Below.refl _ _) ?aS ?aL ?_; (case aR => repeat (first | exact (by repeat (first | (with_reducible exact HR416_0.out) | (with_reducible refine Kd.C_alloc ?_ _) | (with_reducible refine Kd.C_drewN ?_ _) | (with_reducible refine Kd.C_drew ?_) | exact HR416_0.out)) | (with_reducible refine Kd.C_alloc ?_ _) | (with_reducible refine Kd.C_drewN ?_ _) | (with_reducible refine Kd.C_drew ?_))); (case aF => exact (fun _ _ => trivial)); (case aO => exact (rK HO412)); (case aS => exact (keep_size (w := w) (g := g) (row := none) (by exact sK1 HK.out GW403.out))); (case aL => have := LMc16.out; omega); intro v418 w31 ho hb hg hat; rw [← Ny417.out] at ho; have n0_ := Aside0.mk (IsS138.grown (by exact sI1381 HI0.out NB0_403.out) hg (IsS138.own_ne HI0.out HO412.out (by decide))); have n1_ := Aside0.mk (blk_grown (g := gb403) (o := .cells #[.slice none 0 0, .int .i64 0, .slice none 0 0, .int .i64 0] 66 (0, 0)) (bK BK403) hg (Kd.R_ne HO412.out BK403.out (by decide))); have n2_ := Aside0.mk (Kd.S_after (ok := (fun _ => True)) (sK HO406) hg hat); have n3_ := Aside0.mk (Kd.R_after (ok := (n1 (.slice (some ad416) t404.length co27))) (by (with_reducible repeat (first | apply Kd.R_alloc | apply Kd.R_drewN | apply Kd.R_drew)); exact Kd.R_mono HL416_0.out (fun _ hk => ⟨hk.2, hk.1.2⟩)) hg hat); have n4_ := Aside0.mk (below_weaken (by exact sB2 HB.out (IsS138.ge HI0.out) GE403.out) HL.out hb); have n5_ := Aside0.mk (KeepBut.trans (by exact sK1 HK.out GW403.out) (KeepBut.of_grown hg g) (Kd.R_base2 HO412.out)); have n6_ := Aside0.mk (ho); clear HI0; clear BK403; clear HO406; clear HL416_0; clear HB; clear HK; clear HO412; have HI0 := n0_; have BK403 := n1_; have HO406 := n2_; have HL416_0 := n3_; have HB := n4_; have HK := n5_; have HO419 := n6_; clear n0_ n1_ n2_ n3_ n4_ n5_ n6_; clear ho hb hg hat) | ((with_reducible refine gate_callee (f := 84) rfl ?_); refine gL (some 25) Try.func84 #[.pointer (some ⟨g, 0, none⟩), .int .i64 12] ?_; (with_reducible refine (spec_l1Below.calls g s0_0 t414 t415 12 t420 t421 t422 w0 _ ?_ ?_ A17.out).mono ?_); exact sI1381 HI0.out NB0_403.out; exact sB2 HB.out (IsS138.ge HI0.out) GE403.out; rintro e w32 ⟨rfl, hi, hb, hk⟩; refine ⟨_, rfl, ?_⟩; have n0_ := Aside0.mk (KeepBut.blk hk (g' := gb403) (o := .cells #[.slice none 0 0, .int .i64 0, .slice none 0 0, .int .i64 0] 66 (0, 0)) (bK BK403) NB403_0.out (by simp)); have n1_ := Aside0.mk (Kd.S_mono (Kd.S_keep (IsS138.apartS (show IsS138 w0 _ g s0_0 t414 t415 from by exact sI1381 HI0.out NB0_403.out) (sK HO406) (by decide)) hk (fun _ h => h.2)) (fun _ h => h.1)); have n2_ := Aside0.mk (Kd.R_mono (Kd.R_keep (IsS138.apart (show IsS138 w0 _ g s0_0 t414 t415 from by exact sI1381 HI0.out NB0_403.out) (by (with_reducible repeat (first | apply Kd.R_alloc | apply Kd.R_drewN | apply Kd.R_drew)); exact HL416_0.out) (by decide)) hk (fun _ h => h.2)) (fun _ h => h.1)); have n3_ := Aside0.mk (Kd.R_mono (Kd.R_keep (IsS138.apart (show IsS138 w0 _ g s0_0 t414 t415 from by exact sI1381 HI0.out NB0_403.out) (rK HO419) (by decide)) hk (fun _ h => h.2)) (fun _ h => h.1)); have n4_ := Aside0.mk (KeepBut.trans (by exact sK1 HK.out GW403.out) hk (.inl rfl)); have n5_ := Aside0.mk (hb); have n6_ := Aside0.mk (hi); clear BK403; clear HO406; clear HL416_0; clear HO419; clear HK; clear HB; clear HI0; have BK403 := n0_; have HO406 := n1_; have HL416_0 := n2_; have HO419 := n3_; have HK := n4_; have HB := n5_; have HI0 := n6_; clear n0_ n1_ n2_ n3_ n4_ n5_ n6_; (try clear hb); (try clear hk); (try clear hi); obtain ⟨Ao33, co33, eo33⟩ := Kd.R_slice HO419.out; subst eo33) | ((with_reducible refine gate_dst (N := 6) rfl ?_); refine bE (N := 6) (cs := #[.slice none 0 0, .int .i64 0, .slice none 0 0, .int .i64 0]) (t := 66) ?_; intro gb423 hg w34 hbox hb; have n0_ := sb HO406 hb; have n1_ := Aside0.mk (Kd.R_below (by (with_reducible repeat (first | apply Kd.R_alloc | apply Kd.R_drewN | apply Kd.R_drew)); exact HL416_0.out) hb); have n2_ := rb HO419 hb; have n3_ := Aside0.mk (IsS138.below (by exact sI1381 HI0.out NB0_403.out) hb); have n4_ := kb BK403 hb; have n5_ := Aside0.mk (KeepBut.trans (by exact sK1 HK.out GW403.out) (KeepBut.of_below hb g none) (.inl rfl)); have n6_ := Aside0.mk (below_step (by exact sB2 HB.out (IsS138.ge HI0.out) GE403.out) hb); have n7_ := Aside0.mk (hbox); have n8_ := Aside0.mk ((by rw [hg]; exact (keep_size (w := w) (g := g) (row := none) (by exact sK1 HK.out GW403.out)) : w.heap.size ≤ gb423)); have n9_ := Aside0.mk ((Nat.le_trans HW0.out (by rw [hg]; exact (keep_size (w := w) (g := g) (row := none) (by exact sK1 HK.out GW403.out)) : w.heap.size ≤ gb423) : w0.heap.size ≤ gb423)); have n10_ := nl BK403 hg; have n11_ := nr BK403 hg; have n12_ := Aside0.mk ((by rw [hg]; exact Nat.ne_of_lt (IsS138.lt (show IsS138 w0 _ g s0_0 t421 t422 from by exact sI1381 HI0.out NB0_403.out)) : g ≠ gb423)); have n13_ := Aside0.mk ((by rw [hg]; exact Nat.ne_of_gt (IsS138.lt (show IsS138 w0 _ g s0_0 t421 t422 from by exact sI1381 HI0.out NB0_403.out)) : gb423 ≠ g)); clear HO406; clear HL416_0; clear HO419; clear HI0; clear BK403; clear HK; clear HB; have HO406 := n0_; have HL416_0 := n1_; have HO419 := n2_; have HI0 := n3_; have BK403 := n4_; have HK := n5_; have HB := n6_; have BK423 := n7_; have GW423 := n8_; have GE423 := n9_; have NB403_423 := n10_; have NB423_403 := n11_; have NB0_423 := n12_; have NB423_0 := n13_; clear n0_ n1_ n2_ n3_ n4_ n5_ n6_ n7_ n8_ n9_ n10_ n11_ n12_ n13_; clear hb hbox hg; have hnb35 := NB423_403.out; have hnc35 := NB403_423.out; have hnb36 := NB423_0.out; have hnc36 := NB0_423.out; obtain ⟨_, _, _, _, _, _, _, _⟩ := blkc4 BK423) | ((with_reducible refine gate_callee (f := 93) rfl ?_); refine gL (some 28) Try.func93 #[.pointer (some ⟨g, 0, none⟩), .int .i64 3] ?_; (with_reducible refine (spec_l1Once.calls g s0_0 t421 t422 3 true t425 t426 w0 _ ?_ ?_ A18.out).mono ?_); exact sI1382 HI0.out NB0_403.out NB0_423.out; exact sB3 HB.out (IsS138.ge HI0.out) GE403.out GE423.out; rintro e w38 ⟨rfl, hi, hb, hk⟩; refine ⟨_, rfl, ?_⟩; have n0_ := Aside0.mk (KeepBut.blk hk (g' := gb403) (o := .cells #[.slice none 0 0, .int .i64 0, .slice none 0 0, .int .i64 0] 66 (0, 0)) (kf BK403 NB403_423) NB403_0.out (by simp)); have n1_ := Aside0.mk (Kd.S_mono (Kd.S_keep (IsS138.apartS (show IsS138 w0 _ g s0_0 t421 t422 from by exact sI1382 HI0.out NB0_403.out NB0_423.out) (sf HO406 BK423) (by decide)) hk (fun _ h => h.2)) (fun _ h => h.1)); have n2_ := Aside0.mk (Kd.R_mono (Kd.R_keep (IsS138.apart (show IsS138 w0 _ g s0_0 t421 t422 from by exact sI1382 HI0.out NB0_403.out NB0_423.out) (by (with_reducible repeat (first | apply Kd.R_alloc | apply Kd.R_drewN | apply Kd.R_drew)); exact (Kd.R_mono (Kd.R_far (p := ⟨gb423, 3, none⟩) (Kd.R_far (p := ⟨gb423, 2, none⟩) (Kd.R_far (p := ⟨gb423, 1, none⟩) (Kd.R_far (p := ⟨gb423, 0, none⟩) (Kd.R_types HL416_0.out BK423.out (by decide)) (fun _ hk => hk.2) (.slice Ao33 y417.length co33)) (fun _ hk => hk.2) (.int .i64 t420)) (fun _ hk => hk.2) (.slice none 0 0)) (fun _ hk => hk.2) (.int .i64 0)) (fun _ h_ => h_.1))) (by decide)) hk (fun _ h => h.2)) (fun _ h => h.1)); have n3_ := Aside0.mk (Kd.R_mono (Kd.R_keep (IsS138.apart (show IsS138 w0 _ g s0_0 t421 t422 from by exact sI1382 HI0.out NB0_403.out NB0_423.out) (rf HO419 BK423) (by decide)) hk (fun _ h => h.2)) (fun _ h => h.1)); have n4_ := Aside0.mk (KeepBut.blk hk (g' := gb423) (o := .cells #[.slice Ao33 y417.length co33, .int .i64 t420, .slice none 0 0, .int .i64 0] 66 (0, 0)) (kp BK423) NB423_0.out (by simp)); have n5_ := Aside0.mk (KeepBut.trans (by exact sK2 HK.out GW403.out GW423.out) hk (.inl rfl)); have n6_ := Aside0.mk (hb); have n7_ := Aside0.mk (hi); clear BK403; clear HO406; clear HL416_0; clear HO419; clear BK423; clear HK; clear HB; clear HI0; have BK403 := n0_; have HO406 := n1_; have HL416_0 := n2_; have HO419 := n3_; have BK423 := n4_; have HK := n5_; have HB := n6_; have HI0 := n7_; clear n0_ n1_ n2_ n3_ n4_ n5_ n6_ n7_; (try clear hb); (try clear hk); (try clear hi)))
  replace HO406 := ds HO406
  replace HL416_0 := Aside0.mk (Kd.R_drew HL416_0.out)
  replace HO419 := dr HO419
  replace BK403 := dk BK403
  replace BK423 := dk BK423
  replace HI0 := Aside0.mk (IsS138.drew HI0.out)
  replace HK := Aside0.mk (keep_drew HK.out)
  have HBo := HB
  replace HB := db HB
  obtain ⟨p430, q430⟩ : 0 ≤ (t427 : Int) ∧ t427 < (t404.length : Int) := ⟨dA, dA⟩
  obtain ⟨ad430, A430_0, c430_0, e430, hx430_0, hl430_0, hi430_0⟩ := at_L4 (Kd.S_reads' HO406.out).2.2 t427 p430 q430
  obtain rfl : ad416 = ad430 := (by injection e430)
  obtain ⟨ce430, hce430, hMe430, hcc430⟩ := Kd.S_get HO406.out [] t427 p430 (by first | exact q430 | exact dA | (have e_ := (Kd.S_reads' HO406.out).1; omega))
  obtain ⟨ve430_0, rfl, ge430_0⟩ := hMe430
  have hv430_0 := hcc430 0 _ rfl
  rw [Nat.add_zero, show ((Kd.slice 3 (Kd.int .i64))).sz = 1 from rfl, Nat.mul_one] at hv430_0
  replace hv430_0 := Option.some.inj (hv430_0.symm.trans hx430_0)
  rw [hv430_0] at ge430_0
  have HL430_0 := Aside0.mk (show Kd.R (Kd.int .i64) 3 _ _ _ _ (rd_L4 t404 t427) from ge430_0)
  clear hv430_0 ge430_0
  clear hcc430 hce430
  have HR430_0 := Aside0.mk hi430_0
  have HC430_0 := Aside0.mk hl430_0
  clear hi430_0 hl430_0
  obtain ⟨p430, q430⟩ := eT p430 q430
  refine sw (ds := [13]) 14 (mb 14 0) spec_l14Draw.tab6 spec_l14Draw.bits6 (h4c BK423 (h1 hx430_0)) (fun hHeld HT_ HW_ => ?_)
  generalize w38.drew = w39 at HO406 HL416_0 HO419 BK403 BK423 HI0 HK HB HL430_0 HR430_0 hx430_0 hHeld ⊢
  refine pa 0 30 (mb 14 1) HT_ ?_
  refine pa 2 32 (mb 14 5) HT_ ?_
  refine pa 3 33 (mb 14 13) HT_ ?_
  refine pa 4 34 (mb 14 29) HT_ ?_
  refine pa 5 35 (mb 14 61) HT_ ?_
  refine ta5 1 31 (mb 14 63) HT_ HW_ hHeld ?_
  refine oa 6 36 (mb 14 127) HT_ (fun K hK => ?_)
  refine gA Try.func84 #[.pointer (some ⟨g, 0, none⟩), .int .i64 (t404.length : Int)] ?_
  with_reducible refine (spec_l1Below.calls g s0_0 t425 t426 (t404.length : Int) t427 t428 t429 w0 _ ?side1 ?side2 A20.out).mono ?_
  (case side1 => exact sI1382 HI0.out NB0_403.out NB0_423.out)
  (case side2 => exact sB3 HB.out (IsS138.ge HI0.out) GE403.out GE423.out)
  rintro e w40 ⟨rfl, hi, hb, hk⟩
  have HS4_ := keep_cell hk (hHeld.2.2.2.2) (by first | (rw [add_block]; exact Kd.own_blk (IsS138.own_neS HI0.out HO406.out (by decide))) | (show (Addr.add _ _).block ≠ _; rw [add_block]; exact Kd.own_blk (IsS138.own_neS HI0.out HO406.out (by decide))) | exact Kd.own_blk (IsS138.own_neS HI0.out HO406.out (by decide)))
  refine ⟨_, rfl, ?_⟩
  replace BK403 := Aside0.mk (KeepBut.blk hk (g' := gb403) (o := .cells #[.slice none 0 0, .int .i64 0, .slice none 0 0, .int .i64 0] 66 (0, 0)) (bK BK403) NB403_0.out (by simp))
  replace HO406 := Aside0.mk (Kd.S_mono (Kd.S_keep (IsS138.apartS (show IsS138 w0 _ g s0_0 t425 t426 from by exact sI1382 HI0.out NB0_403.out NB0_423.out) (sK HO406) (by decide)) hk (fun _ h => h.2)) (fun _ h => h.1))
  replace HL416_0 := Aside0.mk (Kd.R_mono (Kd.R_keep (IsS138.apart (show IsS138 w0 _ g s0_0 t425 t426 from by exact sI1382 HI0.out NB0_403.out NB0_423.out) (by (with_reducible repeat (first | apply Kd.R_alloc | apply Kd.R_drewN | apply Kd.R_drew)); exact HL416_0.out) (by decide)) hk (fun _ h => h.2)) (fun _ h => h.1))
  replace HO419 := Aside0.mk (Kd.R_mono (Kd.R_keep (IsS138.apart (show IsS138 w0 _ g s0_0 t425 t426 from by exact sI1382 HI0.out NB0_403.out NB0_423.out) (rK HO419) (by decide)) hk (fun _ h => h.2)) (fun _ h => h.1))
  replace BK423 := Aside0.mk (KeepBut.blk hk (g' := gb423) (o := .cells #[.slice Ao33 y417.length co33, .int .i64 t420, .slice none 0 0, .int .i64 0] 66 (0, 0)) (bK BK423) NB423_0.out (by simp))
  replace HK := Aside0.mk (KeepBut.trans (by exact sK2 HK.out GW403.out GW423.out) hk (.inl rfl))
  replace HL430_0 := Aside0.mk (Kd.R_mono (Kd.R_keep (IsS138.apart (show IsS138 w0 _ g s0_0 t425 t426 from by exact sI1382 HI0.out NB0_403.out NB0_423.out) (by (with_reducible repeat (first | apply Kd.R_alloc | apply Kd.R_drewN | apply Kd.R_drew)); exact HL430_0.out) (by decide)) hk (fun _ h => h.2)) (fun _ h => h.1))
  replace HR430_0 := Aside0.mk (Kd.R_reads' HL430_0.out).2.2
  replace HB := Aside0.mk (hb)
  replace HI0 := Aside0.mk (hi)
  (try clear hb)
  (try clear hb2)
  (try clear hk)
  (try clear hi)
  refine hK.out _ _ (cm4 BK423 HS4_) (fun hHeld => ?_)
  clear hK K
  refine nB ?_
  refine pa 7 37 (mb 14 255) HT_ ?_
  refine ta5 8 38 (mb 14 511) HT_ HW_ hHeld ?_
  refine oa 9 39 (mb 14 1023) HT_ (fun K hK => ?_)
  refine gA Try.func181 #[.slice A1 l1.length c1, .agg #[.slice Ao33 y417.length co33, .int .i64 t420, .slice none 0 0, .int .i64 0], .slice A430_0 (rd_L4 t404 t427).length c430_0] ?_
  refine (spec_AskStage.calls k _ _ l1 _ _ y417 t420 _ _ ([] : List Int) 0 _ _ (rd_L4 t404 t427) t431 t434 t435 t438 t439 _ ?side1 ?side2 ?side3 ?side4 ?side5 ?side6 ?side7 ?side8 A23.out).mono ?_
  (case side1 => exact Kd.C_foot_now HR1.out (by exact sK2 HK.out GW403.out GW423.out))
  (case side2 => exact HC1.out)
  (case side3 => exact cO ⟨(Kd.R_reads' HO419.out).2.2⟩)
  (case side4 => exact (Kd.R_reads' HO419.out).2.1)
  (case side5 => exact Kd.C_nil _ _)
  (case side6 => exact Nat.le_refl _)
  (case side7 => repeat (first | exact (by repeat (first | (with_reducible exact HR430_0.out) | (with_reducible refine Kd.C_alloc ?_ _) | (with_reducible refine Kd.C_drewN ?_ _) | (with_reducible refine Kd.C_drew ?_) | exact HR430_0.out)) | (with_reducible refine Kd.C_alloc ?_ _) | (with_reducible refine Kd.C_drewN ?_ _) | (with_reducible refine Kd.C_drew ?_)))
  (case side8 => exact HC430_0.out)
  rintro e w41 ⟨v432, v436, rfl, ho0, ho1, hb⟩
  have HS4_ := (hb.cell (World.block_lt_of_cell? _ _ (hHeld.2.2.2.2))).trans (hHeld.2.2.2.2)
  refine ⟨_, rfl, ?_⟩
  replace HO406 := Aside0.mk (Kd.S_mono (Kd.S_told (Kd.S_told (Kd.S_old (sK HO406) hb) (Kd.R_base ho0)) (Kd.R_base ho1)) (fun _ h_ => h_.1))
  have HO433 := Aside0.mk (Kd.R_lower (Kd.R_new' (Kd.R_new' (Kd.R_new' ho0 (Kd.R_lt (by (with_reducible repeat (first | apply Kd.R_alloc | apply Kd.R_drewN | apply Kd.R_drew)); exact HL416_0.out))) (Kd.R_lt (rK HO419))) (Kd.R_lt (by (with_reducible repeat (first | apply Kd.R_alloc | apply Kd.R_drewN | apply Kd.R_drew)); exact HL430_0.out))) (keep_size (w := w) (g := g) (row := none) (by exact sK2 HK.out GW403.out GW423.out)))
  have HO437 := Aside0.mk (Kd.R_lower (Kd.R_new' (Kd.R_new' (Kd.R_new' ho1 (Kd.R_lt (by (with_reducible repeat (first | apply Kd.R_alloc | apply Kd.R_drewN | apply Kd.R_drew)); exact HL416_0.out))) (Kd.R_lt (rK HO419))) (Kd.R_lt (by (with_reducible repeat (first | apply Kd.R_alloc | apply Kd.R_drewN | apply Kd.R_drew)); exact HL430_0.out))) (keep_size (w := w) (g := g) (row := none) (by exact sK2 HK.out GW403.out GW423.out)))
  replace HL416_0 := Aside0.mk (Kd.R_mono (Kd.R_told (Kd.R_told (Kd.R_old (by (with_reducible repeat (first | apply Kd.R_alloc | apply Kd.R_drewN | apply Kd.R_drew)); exact HL416_0.out) hb) (Kd.R_base ho0)) (Kd.R_base ho1)) (fun _ h_ => h_.1))
  replace HO419 := rt2 HO419 hb ho0 ho1
  replace HL430_0 := Aside0.mk (Kd.R_mono (Kd.R_told (Kd.R_told (Kd.R_old (by (with_reducible repeat (first | apply Kd.R_alloc | apply Kd.R_drewN | apply Kd.R_drew)); exact HL430_0.out) hb) (Kd.R_base ho0)) (Kd.R_base ho1)) (fun _ h_ => h_.1))
  replace BK403 := kb BK403 hb
  replace BK423 := kb BK423 hb
  replace HR430_0 := Aside0.mk (Kd.C_below (by repeat (first | (with_reducible exact HR430_0.out) | (with_reducible refine Kd.C_alloc ?_ _) | (with_reducible refine Kd.C_drewN ?_ _) | (with_reducible refine Kd.C_drew ?_) | exact HR430_0.out)) hb)
  replace HK := Aside0.mk (KeepBut.trans (by exact sK2 HK.out GW403.out GW423.out) (KeepBut.of_below hb g none) (.inl rfl))
  replace HB := Aside0.mk (below_step (by exact sB3 HB.out (IsS138.ge HI0.out) GE403.out GE423.out) hb)
  replace HI0 := Aside0.mk (IsS138.below (by exact sI1382 HI0.out NB0_403.out NB0_423.out) hb)
  (try clear hb)
  (try clear hb2)
  (try clear hk)
  (try clear hi)
  (try clear ho0)
  (try clear ho1)
  obtain ⟨Ao42, co42, eo42⟩ := Kd.R_slice HO433.out
  (first | subst eo42 | (injection eo42 with f1_ f2_ f3_; have f4_ := f1_.symm; have f5_ := f3_.symm; clear f1_ f2_ f3_; subst f4_; subst f5_))
  obtain ⟨Ao45, co45, eo45⟩ := Kd.R_slice HO437.out
  (first | subst eo45 | (injection eo45 with f1_ f2_ f3_; have f4_ := f1_.symm; have f5_ := f3_.symm; clear f1_ f2_ f3_; subst f4_; subst f5_))
  refine hK.out _ _ (cm4 BK423 HS4_) (fun hHeld => ?_)
  clear hK K
  refine nB ?_
  refine pa 10 29 (mb 14 2047) HT_ ?_
  refine pa 11 40 (mb 14 4095) HT_ ?_
  refine pa 12 41 (mb 14 8191) HT_ ?_
  refine last_ (i := 13) (N := none) (mb 14 16383) rfl rfl (one_of HT_.out (by kernel_rfl)) (by decide) (fun K hK => ?_)
  have hs43 : w41.cell? ⟨gb423, 0, none⟩ = some (.slice Ao33 y417.length co33) := bC BK423 0
  have hfs43 := blk_frozen BK423.out 0
  have hns43_0 := NB403_423.out
  have hms43_0 := NB423_403.out
  have hs44 : w41.cell? ⟨gb423, 1, none⟩ = some (.int .i64 t420) := bC BK423 1
  have hfs44 := blk_frozen BK423.out 1
  have hns44_0 := NB403_423.out
  have hms44_0 := NB423_403.out
  have hs46 : w41.cell? ⟨gb423, 2, none⟩ = some (.slice none 0 0) := bC BK423 2
  have hfs46 := blk_frozen BK423.out 2
  have hns46_0 := NB403_423.out
  have hms46_0 := NB423_403.out
  have hs47 : w41.cell? ⟨gb423, 3, none⟩ = some (.int .i64 0) := bC BK423 3
  have hfs47 := blk_frozen BK423.out 3
  have hns47_0 := NB403_423.out
  have hms47_0 := NB423_403.out
  refine skip_ (w1 := ?_) (by rfl) rfl ?_ ?_
  rotate_left
  ·
   go_simp
   rfl
  refine hK.out _ _ ?_
  clear hK K
  refine eA HT_ ?_
  try go_wp2_with (first | ((with_reducible refine gate_callee (f := 84) rfl ?_); refine gL (some 43) Try.func84 #[.pointer (some ⟨g, 0, none⟩), .int .i64 3] ?_; (with_reducible refine (spec_l1Below.calls g s0_0 t428 t429 3 t440 t441 t442 w0 _ ?_ ?_ A24.out).mono ?_); exact sI1382 HI0.out NB0_403.out NB0_423.out; exact sB3 HB.out (IsS138.ge HI0.out) GE403.out GE423.out; rintro e w48 ⟨rfl, hi, hb, hk⟩; refine ⟨_, rfl, ?_⟩; have n0_ := Aside0.mk (KeepBut.blk hk (g' := gb403) (o := .cells #[.slice none 0 0, .int .i64 0, .slice none 0 0, .int .i64 0] 66 (0, 0)) (kf BK403 NB403_423) NB403_0.out (by simp)); have n1_ := Aside0.mk (Kd.S_mono (Kd.S_keep (IsS138.apartS (show IsS138 w0 _ g s0_0 t428 t429 from by exact sI1382 HI0.out NB0_403.out NB0_423.out) (sf HO406 BK423) (by decide)) hk (fun _ h => h.2)) (fun _ h => h.1)); have n2_ := Aside0.mk (Kd.R_mono (Kd.R_keep (IsS138.apart (show IsS138 w0 _ g s0_0 t428 t429 from by exact sI1382 HI0.out NB0_403.out NB0_423.out) (by (with_reducible repeat (first | apply Kd.R_alloc | apply Kd.R_drewN | apply Kd.R_drew)); exact (Kd.R_mono (Kd.R_far (p := ⟨gb423, 3, none⟩) (Kd.R_far (p := ⟨gb423, 2, none⟩) (Kd.R_far (p := ⟨gb423, 1, none⟩) (Kd.R_far (p := ⟨gb423, 0, none⟩) (Kd.R_types HL416_0.out BK423.out (by decide)) (fun _ hk => hk.2) (.slice Ao42 t431.length co42)) (fun _ hk => hk.2) (.int .i64 t434)) (fun _ hk => hk.2) (.slice Ao45 t435.length co45)) (fun _ hk => hk.2) (.int .i64 t438)) (fun _ h_ => h_.1))) (by decide)) hk (fun _ h => h.2)) (fun _ h => h.1)); have n3_ := Aside0.mk (Kd.R_mono (Kd.R_keep (IsS138.apart (show IsS138 w0 _ g s0_0 t428 t429 from by exact sI1382 HI0.out NB0_403.out NB0_423.out) (rf HO419 BK423) (by decide)) hk (fun _ h => h.2)) (fun _ h => h.1)); have n4_ := Aside0.mk (KeepBut.blk hk (g' := gb423) (o := .cells #[.slice Ao42 t431.length co42, .int .i64 t434, .slice Ao45 t435.length co45, .int .i64 t438] 66 (0, 0)) (kp BK423) NB423_0.out (by simp)); have n5_ := Aside0.mk (Kd.R_mono (Kd.R_keep (IsS138.apart (show IsS138 w0 _ g s0_0 t428 t429 from by exact sI1382 HI0.out NB0_403.out NB0_423.out) (by (with_reducible repeat (first | apply Kd.R_alloc | apply Kd.R_drewN | apply Kd.R_drew)); exact (Kd.R_mono (Kd.R_far (p := ⟨gb423, 3, none⟩) (Kd.R_far (p := ⟨gb423, 2, none⟩) (Kd.R_far (p := ⟨gb423, 1, none⟩) (Kd.R_far (p := ⟨gb423, 0, none⟩) (Kd.R_types HL430_0.out BK423.out (by decide)) (fun _ hk => hk.2) (.slice Ao42 t431.length co42)) (fun _ hk => hk.2) (.int .i64 t434)) (fun _ hk => hk.2) (.slice Ao45 t435.length co45)) (fun _ hk => hk.2) (.int .i64 t438)) (fun _ h_ => h_.1))) (by decide)) hk (fun _ h => h.2)) (fun _ h => h.1)); have n6_ := Aside0.mk (Kd.R_mono (Kd.R_keep (IsS138.apart (show IsS138 w0 _ g s0_0 t428 t429 from by exact sI1382 HI0.out NB0_403.out NB0_423.out) (rf HO433 BK423) (by decide)) hk (fun _ h => h.2)) (fun _ h => h.1)); have n7_ := Aside0.mk (Kd.R_mono (Kd.R_keep (IsS138.apart (show IsS138 w0 _ g s0_0 t428 t429 from by exact sI1382 HI0.out NB0_403.out NB0_423.out) (rf HO437 BK423) (by decide)) hk (fun _ h => h.2)) (fun _ h => h.1)); have n8_ := Aside0.mk (KeepBut.trans (by exact sK2 HK.out GW403.out GW423.out) hk (.inl rfl)); have n9_ := Aside0.mk (hb); have n10_ := Aside0.mk (hi); clear BK403; clear HO406; clear HL416_0; clear HO419; clear BK423; clear HL430_0; clear HO433; clear HO437; clear HK; clear HB; clear HI0; have BK403 := n0_; have HO406 := n1_; have HL416_0 := n2_; have HO419 := n3_; have BK423 := n4_; have HL430_0 := n5_; have HO433 := n6_; have HO437 := n7_; have HK := n8_; have HB := n9_; have HI0 := n10_; clear n0_ n1_ n2_ n3_ n4_ n5_ n6_ n7_ n8_ n9_ n10_; (try clear hb); (try clear hk); (try clear hi)))
  go_loopg [7] k (fun kq v7 w' => ∃ (x7_1 : Int) (x424000_1 : List Int) (x424001_1 : Int) (x424002_1 : List Int) (x424003_1 : Int) (u424000 : Value) (u424002 : Value), v7 = .int .i64 x7_1 ∧ Aside0 (spec_l14Draw.l0 kq l1 x7_1 s0_0 t441 t442 x424000_1 x424001_1 x424002_1 x424003_1 = some (r1, r2, r3, r4, r5, r6)) ∧ Aside0 (kq ≤ k) ∧ Aside0 (Kd.R (Kd.int .i64) 3 w' w.heap.size (n1 u424002) u424000 x424000_1) ∧ Aside0 (Kd.R (Kd.int .i64) 3 w' w.heap.size (n1 u424000) u424002 x424002_1) ∧ Aside0 (w'.heap[gb403]? = some (.cells #[(.slice none 0 0), .int .i64 0, (.slice none 0 0), .int .i64 0] 66 (0, 0))) ∧ Aside0 (w'.heap[gb423]? = some (.cells #[u424000, .int .i64 x424001_1, u424002, .int .i64 x424003_1] 66 (0, 0))) ∧ Aside0 (IsS138 w0 w' g s0_0 t441 t442) ∧ Aside0 (KeepBut w w' g none) ∧ Aside0 (Below w0.heap.size w0 w'))
  case atStart => exact ⟨(t440), (t431), (t434), (t435), (t438), (.slice Ao42 t431.length co42), (.slice Ao45 t435.length co45), rS, H', ⟨Nat.le_refl _⟩, ⟨rm HO433 (fun _ hk => hk.1.1.1)⟩, ⟨rm HO437 (fun _ hk => hk.1.1.1)⟩, ⟨bK BK403⟩, ⟨bK BK423⟩, ⟨by exact sI1382 HI0.out NB0_403.out NB0_423.out⟩, ⟨by exact sK2 HK.out GW403.out GW423.out⟩, ⟨by exact sB3 HB.out (IsS138.ge HI0.out) GE403.out GE423.out⟩⟩
  case round =>
   clear H'
   obtain ⟨x7_1, x424000_1, x424001_1, x424002_1, x424003_1, u424000, u424002, rfl, HA, HK1, HO_424000, HO_424002, BK403, BK423, HI0, HK, HB⟩ := hrel
   cases gk with
   | zero => exact absurd HA.out (by simp [spec_l14Draw.l0])
   | succ k1 =>
    have H := HA.out
    clear HA
    simp only [spec_l14Draw.l0] at H
    by_cases c49 : x7_1 > 0
    ·
     rw [if_pos c49] at H
     have c49b0 := decide_eq_true c49
     clear c49
     obtain ⟨⟨t443, t446, t447, t450⟩, A50, H⟩ := bindE H
     try dsimp only at H
     have H' := Aside0.mk H
     clear H
     have hnb51 := NB423_403.out
     have hnc51 := NB403_423.out
     have hnb52 := NB423_0.out
     have hnc52 := NB0_423.out
     obtain ⟨_, _, _, _, _, _, _, _⟩ := blkc4 BK423
     obtain ⟨Ao54, co54, eo54⟩ := Kd.R_slice HO_424000.out
     subst eo54
     obtain ⟨Ao55, co55, eo55⟩ := Kd.R_slice HO_424002.out
     subst eo55
     go_wp2_with (first | ((with_reducible refine gate_callee (f := 182) rfl ?_); refine gL (some 50) Try.func182 #[.slice A1 l1.length c1, .agg #[.slice Ao54 x424000_1.length co54, .int .i64 x424001_1, .slice Ao55 x424002_1.length co55, .int .i64 x424003_1]] ?_; (with_reducible refine (spec_TickControl.calls k1 _ _ l1 _ _ x424000_1 x424001_1 _ _ x424002_1 x424003_1 t443 t446 t447 t450 _ ?_ ?_ ?_ ?_ ?_ ?_ A50.out).mono ?_); exact Kd.C_foot_now HR1.out (by exact sK2 HK.out GW403.out GW423.out); exact HC1.out; exact cO ⟨(Kd.R_reads' HO_424000.out).2.2⟩; exact (Kd.R_reads' HO_424000.out).2.1; exact cO ⟨(Kd.R_reads' HO_424002.out).2.2⟩; exact (Kd.R_reads' HO_424002.out).2.1; rintro e w56 ⟨v444, v448, rfl, ho0, ho1, hb⟩; refine ⟨_, rfl, ?_⟩; have HO445 := Aside0.mk (Kd.R_lower (Kd.R_new' (Kd.R_new' ho0 (Kd.R_lt (rK HO_424000))) (Kd.R_lt (rK HO_424002))) (keep_size (w := w) (g := g) (row := none) (by exact sK2 HK.out GW403.out GW423.out))); have HO449 := Aside0.mk (Kd.R_lower (Kd.R_new' (Kd.R_new' ho1 (Kd.R_lt (rK HO_424000))) (Kd.R_lt (rK HO_424002))) (keep_size (w := w) (g := g) (row := none) (by exact sK2 HK.out GW403.out GW423.out))); replace HO_424000 := rt2 HO_424000 hb ho0 ho1; replace HO_424002 := rt2 HO_424002 hb ho0 ho1; replace BK403 := kb BK403 hb; replace BK423 := kb BK423 hb; replace HK := Aside0.mk (KeepBut.trans (by exact sK2 HK.out GW403.out GW423.out) (KeepBut.of_below hb g none) (.inl rfl)); replace HB := Aside0.mk (below_step (by exact sB3 HB.out (IsS138.ge HI0.out) GE403.out GE423.out) hb); replace HI0 := Aside0.mk (IsS138.below (by exact sI1382 HI0.out NB0_403.out NB0_423.out) hb); (try clear hb); (try clear ho0); (try clear ho1); obtain ⟨Ao57, co57, eo57⟩ := Kd.R_slice HO445.out; subst eo57; obtain ⟨_, _, _, _, _, _, _, _⟩ := blkc4 BK423; obtain ⟨Ao59, co59, eo59⟩ := Kd.R_slice HO449.out; subst eo59))
     go_roundg k1
     case measure => have := HK1.out; omega
     case rel => exact ⟨(wrap64 (x7_1 - 1)), (t443), (t446), (t447), (t450), (.slice Ao57 t443.length co57), (.slice Ao59 t447.length co59), rS, H', ⟨by have := HK1.out; omega⟩, ⟨Kd.R_mono (rf HO445 BK423) (fun _ hk => hk.1.1)⟩, ⟨Kd.R_mono (rf HO449 BK423) (fun _ hk => hk.1.1)⟩, ⟨kf BK403 NB403_423⟩, ⟨kp BK423⟩, ⟨by exact sI1382 HI0.out NB0_403.out NB0_423.out⟩, ⟨by exact sK2 HK.out GW403.out GW423.out⟩, ⟨by exact sB3 HB.out (IsS138.ge HI0.out) GE403.out GE423.out⟩⟩
    rw [if_neg c49] at H
    have c49b0 := decide_eq_false c49
    clear c49
    simp only [Option.some.injEq, Prod.mk.injEq] at H
    obtain ⟨rfl, rfl, rfl, rfl, rfl, rfl⟩ := H
    have hnb60 := NB423_403.out
    have hnc60 := NB403_423.out
    have hnb61 := NB423_0.out
    have hnc61 := NB0_423.out
    obtain ⟨_, _, _, _, _, _, _, _⟩ := blkc4 BK423
    obtain ⟨Ao63, co63, eo63⟩ := Kd.R_slice HO_424000.out
    subst eo63
    have hnb64 := NB403_0.out
    have hnc64 := NB0_403.out
    obtain ⟨_, _, _, _, _, _, _, _⟩ := blkc4 BK403
    obtain ⟨Ao66, co66, eo66⟩ := Kd.R_slice HO_424002.out
    subst eo66
    go_wp2
    refine bodyPost_ret (results_cell_row rfl _ _ gb403 66 #[.slice Ao63 x424000_1.length co63, .int .i64 x424001_1, .slice Ao66 x424002_1.length co66, .int .i64 x424003_1] (0, 0) _ rfl (kp BK403) Try.underlying66 rfl (by kernel_rfl)) rfl ?_
    exact ⟨_, _, rA, rf HO_424000 BK403, rf HO_424002 BK403, by exact sI1382 HI0.out NB0_403.out NB0_423.out, by exact sB3 HB.out (IsS138.ge HI0.out) GE403.out GE423.out, by exact sK2 HK.out GW403.out GW423.out⟩
 replace c19 := Bool.eq_false_iff.mpr c19
 subst c19
 have H1 : (some (y417, t420, ([] : List Int), 0, t425, t426)) = some (r1, r2, r3, r4, r5, r6) := by rw [if_neg (show ¬ (false = true) by decide)] at H; exact H
 clear H
 have H := H1
 clear H1
 simp only [Option.some.injEq, Prod.mk.injEq] at H
 obtain ⟨rfl, rfl, rfl, rfl, rfl, rfl⟩ := H
 go_enter Try.func164, Try.ntmps164
 go_wp2_with (first | ((with_reducible refine gate_dst (N := 4) rfl ?_); refine bE (N := 4) (cs := #[.slice none 0 0, .int .i64 0, .slice none 0 0, .int .i64 0]) (t := 66) ?_; intro gb403 hg w67 hbox hb; have n0_ := Aside0.mk (IsS138.below (by exact sI1380 HI0.out) hb); have n1_ := Aside0.mk (KeepBut.trans (by exact sK0 HK.out) (KeepBut.of_below hb g none) (.inl rfl)); have n2_ := Aside0.mk (below_step (by exact sB1 HB.out (IsS138.ge HI0.out)) hb); have n3_ := Aside0.mk (hbox); have n4_ := Aside0.mk ((by rw [hg]; exact (keep_size (w := w) (g := g) (row := none) (by exact sK0 HK.out)) : w.heap.size ≤ gb403)); have n5_ := Aside0.mk ((Nat.le_trans HW0.out (by rw [hg]; exact (keep_size (w := w) (g := g) (row := none) (by exact sK0 HK.out)) : w.heap.size ≤ gb403) : w0.heap.size ≤ gb403)); have n6_ := Aside0.mk ((by rw [hg]; exact Nat.ne_of_lt (IsS138.lt (show IsS138 w0 _ g s0_0 s0_1 s0_2 from by exact sI1380 HI0.out)) : g ≠ gb403)); have n7_ := Aside0.mk ((by rw [hg]; exact Nat.ne_of_gt (IsS138.lt (show IsS138 w0 _ g s0_0 s0_1 s0_2 from by exact sI1380 HI0.out)) : gb403 ≠ g)); clear HI0; clear HK; clear HB; have HI0 := n0_; have HK := n1_; have HB := n2_; have BK403 := n3_; have GW403 := n4_; have GE403 := n5_; have NB0_403 := n6_; have NB403_0 := n7_; clear n0_ n1_ n2_ n3_ n4_ n5_ n6_ n7_; clear hb hbox hg) | ((with_reducible refine gate_callee (f := 96) rfl ?_); refine gL (some 9) Try.func96 #[.slice A1 l1.length c1] ?_; (with_reducible refine (spec_StagesOf.calls k _ _ l1 t404 _ ?_ ?_ A3.out).mono ?_); exact Kd.C_foot_now HR1.out (by exact sK1 HK.out GW403.out); exact HC1.out; rintro e w68 ⟨v405, rfl, ho0, hb⟩; refine ⟨_, rfl, ?_⟩; have HO406 := Aside0.mk (Kd.S_lower ho0 (keep_size (w := w) (g := g) (row := none) (by exact sK1 HK.out GW403.out))); replace BK403 := kb BK403 hb; replace HK := Aside0.mk (KeepBut.trans (by exact sK1 HK.out GW403.out) (KeepBut.of_below hb g none) (.inl rfl)); replace HB := Aside0.mk (below_step (by exact sB2 HB.out (IsS138.ge HI0.out) GE403.out) hb); replace HI0 := Aside0.mk (IsS138.below (by exact sI1381 HI0.out NB0_403.out) hb); (try clear hb); (try clear ho0); obtain ⟨Ao69, co69, eo69⟩ := Kd.S_slice HO406.out; subst eo69) | ((with_reducible refine gate_dst (N := 15) rfl ?_); refine Kd.R_lit (Kd.int .i64) _ 3 ?hg (N := 15) ?hd (xs := ([] : List Int)) (inner := []) (ok := fun _ => True) (okp := fun _ => True) ?hr ?hp (fun _ hk => hk) trivial (Below.refl _ _) (Nat.le_refl _) (by simp) ?_; (case hd => rfl); (case hg => rfl); (case hr => first | (go_simp; done) | (go_simp; rfl)); (case hp => exact (Reps.none _ _)); intro v411 w70 ho71 hb hg_ hnew_; clear hg_ hnew_; (first | rw [← Ny410.out] at ho71 | (simp only [Int.reduceToNat] at ho71; rw [← Ny410.out] at ho71)); replace HO406 := se HO406 ho71 hb; have HO412 := Aside0.mk (Kd.R_lower ho71 (keep_size (w := w) (g := g) (row := none) (by exact sK1 HK.out GW403.out))); replace BK403 := kb BK403 hb; replace HK := Aside0.mk (KeepBut.trans (by exact sK1 HK.out GW403.out) (KeepBut.of_below hb g none) (.inl rfl)); replace HB := Aside0.mk (below_step (by exact sB2 HB.out (IsS138.ge HI0.out) GE403.out) hb); replace HI0 := Aside0.mk (IsS138.below (by exact sI1381 HI0.out NB0_403.out) hb); clear hb ho71) | ((with_reducible refine gate_callee (f := 84) rfl ?_); refine gL (some 20) Try.func84 #[.pointer (some ⟨g, 0, none⟩), .int .i64 (t404.length : Int)] ?_; (with_reducible refine (spec_l1Below.calls g s0_0 s0_1 s0_2 (t404.length : Int) t413 t414 t415 w0 _ ?_ ?_ A13.out).mono ?_); exact sI1381 HI0.out NB0_403.out; exact sB2 HB.out (IsS138.ge HI0.out) GE403.out; rintro e w72 ⟨rfl, hi, hb, hk⟩; refine ⟨_, rfl, ?_⟩; replace BK403 := Aside0.mk (KeepBut.blk hk (g' := gb403) (o := .cells #[.slice none 0 0, .int .i64 0, .slice none 0 0, .int .i64 0] 66 (0, 0)) (bK BK403) NB403_0.out (by simp)); replace HO406 := Aside0.mk (Kd.S_mono (Kd.S_keep (IsS138.apartS (show IsS138 w0 _ g s0_0 s0_1 s0_2 from by exact sI1381 HI0.out NB0_403.out) (sK HO406) (by decide)) hk (fun _ h => h.2)) (fun _ h => h.1)); replace HO412 := Aside0.mk (Kd.R_mono (Kd.R_keep (IsS138.apart (show IsS138 w0 _ g s0_0 s0_1 s0_2 from by exact sI1381 HI0.out NB0_403.out) (rK HO412) (by decide)) hk (fun _ h => h.2)) (fun _ h => h.1)); replace HK := Aside0.mk (KeepBut.trans (by exact sK1 HK.out GW403.out) hk (.inl rfl)); replace HB := Aside0.mk (hb); replace HI0 := Aside0.mk (hi); (try clear hb); (try clear hk); (try clear hi); have p416 : 0 ≤ (t413 : Int) := dA; have q416 : t413 < (t404.length : Int) := dA; obtain ⟨ad416, A416_0, c416_0, e416, hx416_0, hl416_0, hi416_0⟩ := at_L4 (Kd.S_reads' HO406.out).2.2 t413 p416 q416; cases e416; obtain ⟨ce416, hce416, hMe416, hcc416⟩ := Kd.S_get HO406.out [] t413 p416 (by first | exact q416 | exact dA | (have e_ := (Kd.S_reads' HO406.out).1; omega)); obtain ⟨ve416_0, rfl, ge416_0⟩ := hMe416; have hv416_0 := hcc416 0 _ rfl; rw [Nat.add_zero, show ((Kd.slice 3 (Kd.int .i64))).sz = 1 from rfl, Nat.mul_one] at hv416_0; replace hv416_0 := Option.some.inj (hv416_0.symm.trans hx416_0); rw [hv416_0] at ge416_0; have HL416_0 := Aside0.mk (show Kd.R (Kd.int .i64) 3 _ _ _ _ (rd_L4 t404 t413) from ge416_0); clear hv416_0 ge416_0; clear hcc416 hce416; have HR416_0 := Aside0.mk hi416_0; have HC416_0 := Aside0.mk hl416_0; clear hi416_0 hl416_0; replace p416 := eq_true p416; replace q416 := eq_true q416) | ((with_reducible refine gate_builtin (b := .append) (xs := #[.tmp 15, .tmp 22]) rfl ?_); at_builtin; refine Kd.R_append_rows (Kd.int .i64) w.heap.size rfl (.tmp 15) (.tmp 22) 35 3 (.int .i64 0) 8 rfl Try.underlying35 info3 rfl (by decide) (by omega) v411 y410 (rd_L4 t404 t413) _ _ _ (fun _ => True) (fun _ => False) rfl rfl ?aO ?aR (fun _ _ h => h) (fun _ h => h.elim) ?aF (Below.refl _ _) ?aS ?aL ?_; (case aR => repeat (first | exact (by repeat (first | (with_reducible exact HR416_0.out) | (with_reducible refine Kd.C_alloc ?_ _) | (with_reducible refine Kd.C_drewN ?_ _) | (with_reducible refine Kd.C_drew ?_) | exact HR416_0.out)) | (with_reducible refine Kd.C_alloc ?_ _) | (with_reducible refine Kd.C_drewN ?_ _) | (with_reducible refine Kd.C_drew ?_))); (case aF => exact (fun _ _ => trivial)); (case aO => exact (rK HO412)); (case aS => exact (keep_size (w := w) (g := g) (row := none) (by exact sK1 HK.out GW403.out))); (case aL => have := LMc16.out; omega); intro v418 w73 ho hb hg hat; rw [← Ny417.out] at ho; have n0_ := Aside0.mk (IsS138.grown (by exact sI1381 HI0.out NB0_403.out) hg (IsS138.own_ne HI0.out HO412.out (by decide))); have n1_ := Aside0.mk (blk_grown (g := gb403) (o := .cells #[.slice none 0 0, .int .i64 0, .slice none 0 0, .int .i64 0] 66 (0, 0)) (bK BK403) hg (Kd.R_ne HO412.out BK403.out (by decide))); have n2_ := Aside0.mk (Kd.S_after (ok := (fun _ => True)) (sK HO406) hg hat); have n3_ := Aside0.mk (Kd.R_after (ok := (n1 (.slice (some ad416) t404.length co69))) (by (with_reducible repeat (first | apply Kd.R_alloc | apply Kd.R_drewN | apply Kd.R_drew)); exact Kd.R_mono HL416_0.out (fun _ hk => ⟨hk.2, hk.1.2⟩)) hg hat); have n4_ := Aside0.mk (below_weaken (by exact sB2 HB.out (IsS138.ge HI0.out) GE403.out) HL.out hb); have n5_ := Aside0.mk (KeepBut.trans (by exact sK1 HK.out GW403.out) (KeepBut.of_grown hg g) (Kd.R_base2 HO412.out)); have n6_ := Aside0.mk (ho); clear HI0; clear BK403; clear HO406; clear HL416_0; clear HB; clear HK; clear HO412; have HI0 := n0_; have BK403 := n1_; have HO406 := n2_; have HL416_0 := n3_; have HB := n4_; have HK := n5_; have HO419 := n6_; clear n0_ n1_ n2_ n3_ n4_ n5_ n6_; clear ho hb hg hat) | ((with_reducible refine gate_callee (f := 84) rfl ?_); refine gL (some 25) Try.func84 #[.pointer (some ⟨g, 0, none⟩), .int .i64 12] ?_; (with_reducible refine (spec_l1Below.calls g s0_0 t414 t415 12 t420 t421 t422 w0 _ ?_ ?_ A17.out).mono ?_); exact sI1381 HI0.out NB0_403.out; exact sB2 HB.out (IsS138.ge HI0.out) GE403.out; rintro e w74 ⟨rfl, hi, hb, hk⟩; refine ⟨_, rfl, ?_⟩; have n0_ := Aside0.mk (KeepBut.blk hk (g' := gb403) (o := .cells #[.slice none 0 0, .int .i64 0, .slice none 0 0, .int .i64 0] 66 (0, 0)) (bK BK403) NB403_0.out (by simp)); have n1_ := Aside0.mk (Kd.S_mono (Kd.S_keep (IsS138.apartS (show IsS138 w0 _ g s0_0 t414 t415 from by exact sI1381 HI0.out NB0_403.out) (sK HO406) (by decide)) hk (fun _ h => h.2)) (fun _ h => h.1)); have n2_ := Aside0.mk (Kd.R_mono (Kd.R_keep (IsS138.apart (show IsS138 w0 _ g s0_0 t414 t415 from by exact sI1381 HI0.out NB0_403.out) (by (with_reducible repeat (first | apply Kd.R_alloc | apply Kd.R_drewN | apply Kd.R_drew)); exact HL416_0.out) (by decide)) hk (fun _ h => h.2)) (fun _ h => h.1)); have n3_ := Aside0.mk (Kd.R_mono (Kd.R_keep (IsS138.apart (show IsS138 w0 _ g s0_0 t414 t415 from by exact sI1381 HI0.out NB0_403.out) (rK HO419) (by decide)) hk (fun _ h => h.2)) (fun _ h => h.1)); have n4_ := Aside0.mk (KeepBut.trans (by exact sK1 HK.out GW403.out) hk (.inl rfl)); have n5_ := Aside0.mk (hb); have n6_ := Aside0.mk (hi); clear BK403; clear HO406; clear HL416_0; clear HO419; clear HK; clear HB; clear HI0; have BK403 := n0_; have HO406 := n1_; have HL416_0 := n2_; have HO419 := n3_; have HK := n4_; have HB := n5_; have HI0 := n6_; clear n0_ n1_ n2_ n3_ n4_ n5_ n6_; (try clear hb); (try clear hk); (try clear hi); obtain ⟨Ao75, co75, eo75⟩ := Kd.R_slice HO419.out; subst eo75) | ((with_reducible refine gate_dst (N := 6) rfl ?_); refine bE (N := 6) (cs := #[.slice none 0 0, .int .i64 0, .slice none 0 0, .int .i64 0]) (t := 66) ?_; intro gb423 hg w76 hbox hb; have n0_ := sb HO406 hb; have n1_ := Aside0.mk (Kd.R_below (by (with_reducible repeat (first | apply Kd.R_alloc | apply Kd.R_drewN | apply Kd.R_drew)); exact HL416_0.out) hb); have n2_ := rb HO419 hb; have n3_ := Aside0.mk (IsS138.below (by exact sI1381 HI0.out NB0_403.out) hb); have n4_ := kb BK403 hb; have n5_ := Aside0.mk (KeepBut.trans (by exact sK1 HK.out GW403.out) (KeepBut.of_below hb g none) (.inl rfl)); have n6_ := Aside0.mk (below_step (by exact sB2 HB.out (IsS138.ge HI0.out) GE403.out) hb); have n7_ := Aside0.mk (hbox); have n8_ := Aside0.mk ((by rw [hg]; exact (keep_size (w := w) (g := g) (row := none) (by exact sK1 HK.out GW403.out)) : w.heap.size ≤ gb423)); have n9_ := Aside0.mk ((Nat.le_trans HW0.out (by rw [hg]; exact (keep_size (w := w) (g := g) (row := none) (by exact sK1 HK.out GW403.out)) : w.heap.size ≤ gb423) : w0.heap.size ≤ gb423)); have n10_ := nl BK403 hg; have n11_ := nr BK403 hg; have n12_ := Aside0.mk ((by rw [hg]; exact Nat.ne_of_lt (IsS138.lt (show IsS138 w0 _ g s0_0 t421 t422 from by exact sI1381 HI0.out NB0_403.out)) : g ≠ gb423)); have n13_ := Aside0.mk ((by rw [hg]; exact Nat.ne_of_gt (IsS138.lt (show IsS138 w0 _ g s0_0 t421 t422 from by exact sI1381 HI0.out NB0_403.out)) : gb423 ≠ g)); clear HO406; clear HL416_0; clear HO419; clear HI0; clear BK403; clear HK; clear HB; have HO406 := n0_; have HL416_0 := n1_; have HO419 := n2_; have HI0 := n3_; have BK403 := n4_; have HK := n5_; have HB := n6_; have BK423 := n7_; have GW423 := n8_; have GE423 := n9_; have NB403_423 := n10_; have NB423_403 := n11_; have NB0_423 := n12_; have NB423_0 := n13_; clear n0_ n1_ n2_ n3_ n4_ n5_ n6_ n7_ n8_ n9_ n10_ n11_ n12_ n13_; clear hb hbox hg; have hnb77 := NB423_403.out; have hnc77 := NB403_423.out; have hnb78 := NB423_0.out; have hnc78 := NB0_423.out; obtain ⟨_, _, _, _, _, _, _, _⟩ := blkc4 BK423) | ((with_reducible refine gate_callee (f := 93) rfl ?_); refine gL (some 28) Try.func93 #[.pointer (some ⟨g, 0, none⟩), .int .i64 3] ?_; (with_reducible refine (spec_l1Once.calls g s0_0 t421 t422 3 false t425 t426 w0 _ ?_ ?_ A18.out).mono ?_); exact sI1382 HI0.out NB0_403.out NB0_423.out; exact sB3 HB.out (IsS138.ge HI0.out) GE403.out GE423.out; rintro e w80 ⟨rfl, hi, hb, hk⟩; refine ⟨_, rfl, ?_⟩; have n0_ := Aside0.mk (KeepBut.blk hk (g' := gb403) (o := .cells #[.slice none 0 0, .int .i64 0, .slice none 0 0, .int .i64 0] 66 (0, 0)) (kf BK403 NB403_423) NB403_0.out (by simp)); have n1_ := Aside0.mk (Kd.S_mono (Kd.S_keep (IsS138.apartS (show IsS138 w0 _ g s0_0 t421 t422 from by exact sI1382 HI0.out NB0_403.out NB0_423.out) (sf HO406 BK423) (by decide)) hk (fun _ h => h.2)) (fun _ h => h.1)); have n2_ := Aside0.mk (Kd.R_mono (Kd.R_keep (IsS138.apart (show IsS138 w0 _ g s0_0 t421 t422 from by exact sI1382 HI0.out NB0_403.out NB0_423.out) (by (with_reducible repeat (first | apply Kd.R_alloc | apply Kd.R_drewN | apply Kd.R_drew)); exact (Kd.R_mono (Kd.R_far (p := ⟨gb423, 3, none⟩) (Kd.R_far (p := ⟨gb423, 2, none⟩) (Kd.R_far (p := ⟨gb423, 1, none⟩) (Kd.R_far (p := ⟨gb423, 0, none⟩) (Kd.R_types HL416_0.out BK423.out (by decide)) (fun _ hk => hk.2) (.slice Ao75 y417.length co75)) (fun _ hk => hk.2) (.int .i64 t420)) (fun _ hk => hk.2) (.slice none 0 0)) (fun _ hk => hk.2) (.int .i64 0)) (fun _ h_ => h_.1))) (by decide)) hk (fun _ h => h.2)) (fun _ h => h.1)); have n3_ := Aside0.mk (Kd.R_mono (Kd.R_keep (IsS138.apart (show IsS138 w0 _ g s0_0 t421 t422 from by exact sI1382 HI0.out NB0_403.out NB0_423.out) (rf HO419 BK423) (by decide)) hk (fun _ h => h.2)) (fun _ h => h.1)); have n4_ := Aside0.mk (KeepBut.blk hk (g' := gb423) (o := .cells #[.slice Ao75 y417.length co75, .int .i64 t420, .slice none 0 0, .int .i64 0] 66 (0, 0)) (kp BK423) NB423_0.out (by simp)); have n5_ := Aside0.mk (KeepBut.trans (by exact sK2 HK.out GW403.out GW423.out) hk (.inl rfl)); have n6_ := Aside0.mk (hb); have n7_ := Aside0.mk (hi); clear BK403; clear HO406; clear HL416_0; clear HO419; clear BK423; clear HK; clear HB; clear HI0; have BK403 := n0_; have HO406 := n1_; have HL416_0 := n2_; have HO419 := n3_; have BK423 := n4_; have HK := n5_; have HB := n6_; have HI0 := n7_; clear n0_ n1_ n2_ n3_ n4_ n5_ n6_ n7_; (try clear hb); (try clear hk); (try clear hi); obtain ⟨_, _, _, _, _, _, _, _⟩ := blkc4 BK423; have hnb82 := NB403_0.out; have hnc82 := NB0_403.out; obtain ⟨_, _, _, _, _, _, _, _⟩ := blkc4 BK403))
 refine bodyPost_ret (results_cell_row rfl _ _ gb403 66 #[.slice Ao75 y417.length co75, .int .i64 t420, .slice none 0 0, .int .i64 0] (0, 0) _ rfl (kp BK403) Try.underlying66 rfl (by kernel_rfl)) rfl ?_
 exact ⟨_, _, rA, Kd.R_mono (rf HO419 BK403) (fun _ hk => (by simp [Value.ownBlock])), by first | exact Kd.R_nil _ _ _ _ _ | exact Kd.N_nil _ _ _ _ _ | exact Kd.V_nil _ _ _ _ _ | exact Kd.Q_nil _ _ _ _ _ | exact Kd.S_nil _ _ _ _ _, by exact sI1382 HI0.out NB0_403.out NB0_423.out, by exact sB3 HB.out (IsS138.ge HI0.out) GE403.out GE423.out, by exact sK2 HK.out GW403.out GW423.out⟩

/-! ### spec_l14Any: function 136 -/
def spec_l14Any.f (k : Nat) (s0_0 : List Int) (s0_1 : Int) (s0_2 : Int) : Option ((List (S50)) × List Int × Int × List Int × Int × Int × Int) := (spec_l5Any.f k s0_0 s0_1 s0_2).bind fun bt452 => ((spec_l14Draw.f k s0_0 bt452.2.1 bt452.2.2 bt452.1).bind fun bt457 => ((spec_l1Below.f s0_0 bt457.2.2.2.2.1 bt457.2.2.2.2.2 10).bind fun bt468 => (if bt468.1 = 0 then ((spec_l1Int.f s0_0 bt468.2.1 bt468.2.2 (([(-1), 1000000, 1000001] : List Int))).bind fun bt474 => (some (bt452.1, bt457.1, bt474.1, bt457.2.2.1, bt457.2.2.2.1, bt474.2.1, bt474.2.2))) else (if bt468.1 = 1 then ((spec_l1Int.f s0_0 bt468.2.1 bt468.2.2 (([(-1), 1, 9] : List Int))).bind fun bt480 => (some (bt452.1, bt457.1, bt457.2.1, bt457.2.2.1, bt480.1, bt480.2.1, bt480.2.2))) else (if bt468.1 = 2 then (some (bt452.1, bt457.1, bt457.2.1, (([1] : List Int)), bt457.2.2.2.1, bt468.2.1, bt468.2.2)) else (if bt468.1 = 3 then (some (bt452.1, (([] : List Int)), bt457.2.1, bt457.2.2.1, bt457.2.2.2.1, bt468.2.1, bt468.2.2)) else (some (bt452.1, bt457.1, bt457.2.1, bt457.2.2.1, bt457.2.2.2.1, bt468.2.1, bt468.2.2))))))))
theorem spec_l14Any.mono : ∀ a0 a1 a2 k, LeO (spec_l14Any.f k a0 a1 a2) (spec_l14Any.f (k + 1) a0 a1 a2) := by
 intro a0 a1 a2 k
 unfold spec_l14Any.f
 exact mz2 spec_l14Draw.mono spec_l5Any.mono
set_option maxHeartbeats 8000000 in
set_option maxRecDepth 100000 in
theorem spec_l14Any.calls (k : Nat) (g : Nat) (s0_0 : List Int) (s0_1 : Int) (s0_2 : Int) (r1 : List (S50)) (r2 : List Int) (r3 : Int) (r4 : List Int) (r5 : Int) (r6 : Int) (r7 : Int) (w0 w : World) (hI : IsS138 w0 w g s0_0 s0_1 s0_2) (hB : Below w0.heap.size w0 w) (h : spec_l14Any.f k s0_0 s0_1 s0_2 = some (r1, r2, r3, r4, r5, r6, r7)) :
  Calls Try.prog 136 #[.pointer (some ⟨g, 0, none⟩)] w fun e w' => ∃ v0_ v1_ v3_ : Value, e = .returned (.tuple #[v0_, .agg #[v1_, .int .i64 r3, v3_, .int .i64 r5]]) ∧ Kd.R k50 50 w' w.heap.size (fun _ => True) v0_ r1 ∧ Kd.R (Kd.int .i64) 3 w' w.heap.size (n1 v3_) v1_ r2 ∧ Kd.R (Kd.int .i64) 3 w' w.heap.size (n1 v1_) v3_ r4 ∧ IsS138 w0 w' g s0_0 r6 r7 ∧ Below w0.heap.size w0 w' ∧ KeepBut w w' g none := by
 have hu66 := Try.underlying66
 have HI0 := Aside0.mk hI
 have HK := Aside0.mk (KeepBut.refl w g none)
 have HL := Aside0.mk hB.size
 clear hI
 have HW0 := Aside0.mk hB.size
 have HB := Aside0.mk hB
 clear hB
 have H : ((spec_l5Any.f k s0_0 s0_1 s0_2).bind fun bt452 => ((spec_l14Draw.f k s0_0 bt452.2.1 bt452.2.2 bt452.1).bind fun bt457 => ((spec_l1Below.f s0_0 bt457.2.2.2.2.1 bt457.2.2.2.2.2 10).bind fun bt468 => (if bt468.1 = 0 then ((spec_l1Int.f s0_0 bt468.2.1 bt468.2.2 (([(-1), 1000000, 1000001] : List Int))).bind fun bt474 => (some (bt452.1, bt457.1, bt474.1, bt457.2.2.1, bt457.2.2.2.1, bt474.2.1, bt474.2.2))) else (if bt468.1 = 1 then ((spec_l1Int.f s0_0 bt468.2.1 bt468.2.2 (([(-1), 1, 9] : List Int))).bind fun bt480 => (some (bt452.1, bt457.1, bt457.2.1, bt457.2.2.1, bt480.1, bt480.2.1, bt480.2.2))) else (if bt468.1 = 2 then (some (bt452.1, bt457.1, bt457.2.1, (([1] : List Int)), bt457.2.2.2.1, bt468.2.1, bt468.2.2)) else (if bt468.1 = 3 then (some (bt452.1, (([] : List Int)), bt457.2.1, bt457.2.2.1, bt457.2.2.2.1, bt468.2.1, bt468.2.2)) else (some (bt452.1, bt457.1, bt457.2.1, bt457.2.2.1, bt457.2.2.2.1, bt468.2.1, bt468.2.2))))))))) = some (r1, r2, r3, r4, r5, r6, r7) := h
 clear h
 obtain ⟨⟨t452, t455, t456⟩, A2, H⟩ := bindE H
 try dsimp only at H
 obtain ⟨⟨t457, t460, t461, t464, t465, t466⟩, A3, H⟩ := bindE H
 try dsimp only at H
 obtain ⟨⟨t468, t469, t470⟩, A4, H⟩ := bindE H
 try dsimp only at H
 by_cases c5 : t468 = 0
 ·
  rw [if_pos c5] at H
  have c5b0 : (t468 == 0) = true := beq_iff_eq.mpr c5
  have c5b1 : (t468 != 0) = false := bne_eq_false_iff_eq.mpr c5
  clear c5
  obtain ⟨y471, hy471⟩ : ∃ y_ : List Int, y_ = (([(-1), 1000000, 1000001] : List Int)) := ⟨_, rfl⟩
  replace H : ((spec_l1Int.f s0_0 t469 t470 y471).bind fun bt474 => (some (t452, t457, bt474.1, t461, t464, bt474.2.1, bt474.2.2))) = some (r1, r2, r3, r4, r5, r6, r7) := rH H hy471
  have Ny471 := Aside0.mk hy471
  clear hy471
  obtain ⟨⟨t474, t475, t476⟩, A6, H⟩ := bindE H
  try dsimp only at H
  simp only [Option.some.injEq, Prod.mk.injEq] at H
  obtain ⟨rfl, rfl, rfl, rfl, rfl, rfl, rfl⟩ := H
  go_enter Try.func136, Try.ntmps136
  try go_wp2_with (first | ((with_reducible refine gate_dst (N := 3) rfl ?_); refine bE (N := 3) (cs := #[.slice none 0 0, .int .i64 0, .slice none 0 0, .int .i64 0]) (t := 66) ?_; intro gb451 hg w7 hbox hb; have n0_ := Aside0.mk (IsS138.below (by exact sI1380 HI0.out) hb); have n1_ := Aside0.mk (KeepBut.trans (by exact sK0 HK.out) (KeepBut.of_below hb g none) (.inl rfl)); have n2_ := Aside0.mk (below_step (by exact sB1 HB.out (IsS138.ge HI0.out)) hb); have n3_ := Aside0.mk (hbox); have n4_ := Aside0.mk ((by rw [hg]; exact (keep_size (w := w) (g := g) (row := none) (by exact sK0 HK.out)) : w.heap.size ≤ gb451)); have n5_ := Aside0.mk ((Nat.le_trans HW0.out (by rw [hg]; exact (keep_size (w := w) (g := g) (row := none) (by exact sK0 HK.out)) : w.heap.size ≤ gb451) : w0.heap.size ≤ gb451)); have n6_ := Aside0.mk ((by rw [hg]; exact Nat.ne_of_lt (IsS138.lt (show IsS138 w0 _ g s0_0 s0_1 s0_2 from by exact sI1380 HI0.out)) : g ≠ gb451)); have n7_ := Aside0.mk ((by rw [hg]; exact Nat.ne_of_gt (IsS138.lt (show IsS138 w0 _ g s0_0 s0_1 s0_2 from by exact sI1380 HI0.out)) : gb451 ≠ g)); clear HI0; clear HK; clear HB; have HI0 := n0_; have HK := n1_; have HB := n2_; have BK451 := n3_; have GW451 := n4_; have GE451 := n5_; have NB0_451 := n6_; have NB451_0 := n7_; clear n0_ n1_ n2_ n3_ n4_ n5_ n6_ n7_; clear hb hbox hg) | ((with_reducible refine gate_callee (f := 125) rfl ?_); refine gL (some 7) Try.func125 #[.pointer (some ⟨g, 0, none⟩)] ?_; (with_reducible refine (spec_l5Any.calls k g s0_0 s0_1 s0_2 t452 t455 t456 w0 _ ?_ ?_ A2.out).mono ?_); exact sI1381 HI0.out NB0_451.out; exact sB2 HB.out (IsS138.ge HI0.out) GE451.out; rintro e w8 ⟨v453, rfl, ho0, hi, hb, hk⟩; refine ⟨_, rfl, ?_⟩; replace BK451 := Aside0.mk (KeepBut.blk hk (g' := gb451) (o := .cells #[.slice none 0 0, .int .i64 0, .slice none 0 0, .int .i64 0] 66 (0, 0)) (bK BK451) NB451_0.out (by simp)); have HO454 := Aside0.mk (Kd.R_lower ho0 (keep_size (w := w) (g := g) (row := none) (by exact sK1 HK.out GW451.out))); replace HK := Aside0.mk (KeepBut.trans (by exact sK1 HK.out GW451.out) hk (.inl rfl)); replace HB := Aside0.mk (hb); replace HI0 := Aside0.mk (hi); (try clear hb); (try clear hk); (try clear hi); (try clear ho0); obtain ⟨Ao9, co9, eo9⟩ := Kd.R_slice HO454.out; subst eo9) | ((with_reducible refine gate_callee (f := 164) rfl ?_); refine gL (some 10) Try.func164 #[.pointer (some ⟨g, 0, none⟩), .slice Ao9 t452.length co9] ?_; (with_reducible refine (spec_l14Draw.calls k g s0_0 t455 t456 _ _ t452 t457 t460 t461 t464 t465 t466 w0 _ ?_ ?_ ?_ ?_ A3.out).mono ?_); exact sI1381 HI0.out NB0_451.out; exact sB2 HB.out (IsS138.ge HI0.out) GE451.out; exact Kd.C_foot_own (IsS138.apart (show IsS138 w0 _ g s0_0 t455 t456 from by exact sI1381 HI0.out NB0_451.out) (rK HO454) (by decide)) (fun _ h_ => h_.2); exact (Kd.R_reads' HO454.out).2.1; rintro e w10 ⟨v458, v462, rfl, ho0, ho1, hi, hb, hk⟩; refine ⟨_, rfl, ?_⟩; replace BK451 := Aside0.mk (KeepBut.blk hk (g' := gb451) (o := .cells #[.slice none 0 0, .int .i64 0, .slice none 0 0, .int .i64 0] 66 (0, 0)) (bK BK451) NB451_0.out (by simp)); replace HO454 := Aside0.mk (Kd.R_mono (Kd.R_keep (IsS138.apart (show IsS138 w0 _ g s0_0 t455 t456 from by exact sI1381 HI0.out NB0_451.out) (rK HO454) (by decide)) hk (fun _ h => h.2)) (fun _ h => h.1)); have HO459 := Aside0.mk (Kd.R_lower ho0 (keep_size (w := w) (g := g) (row := none) (by exact sK1 HK.out GW451.out))); have HO463 := Aside0.mk (Kd.R_lower ho1 (keep_size (w := w) (g := g) (row := none) (by exact sK1 HK.out GW451.out))); replace HK := Aside0.mk (KeepBut.trans (by exact sK1 HK.out GW451.out) hk (.inl rfl)); replace HB := Aside0.mk (hb); replace HI0 := Aside0.mk (hi); (try clear hb); (try clear hk); (try clear hi); (try clear ho0); (try clear ho1)) | ((with_reducible refine gate_dst (N := 5) rfl ?_); refine bE (N := 5) (cs := #[.slice none 0 0, .int .i64 0, .slice none 0 0, .int .i64 0]) (t := 66) ?_; intro gb467 hg w11 hbox hb; have n0_ := rb HO454 hb; have n1_ := rb HO459 hb; have n2_ := rb HO463 hb; have n3_ := Aside0.mk (IsS138.below (by exact sI1381 HI0.out NB0_451.out) hb); have n4_ := kb BK451 hb; have n5_ := Aside0.mk (KeepBut.trans (by exact sK1 HK.out GW451.out) (KeepBut.of_below hb g none) (.inl rfl)); have n6_ := Aside0.mk (below_step (by exact sB2 HB.out (IsS138.ge HI0.out) GE451.out) hb); have n7_ := Aside0.mk (hbox); have n8_ := Aside0.mk ((by rw [hg]; exact (keep_size (w := w) (g := g) (row := none) (by exact sK1 HK.out GW451.out)) : w.heap.size ≤ gb467)); have n9_ := Aside0.mk ((Nat.le_trans HW0.out (by rw [hg]; exact (keep_size (w := w) (g := g) (row := none) (by exact sK1 HK.out GW451.out)) : w.heap.size ≤ gb467) : w0.heap.size ≤ gb467)); have n10_ := nl BK451 hg; have n11_ := nr BK451 hg; have n12_ := Aside0.mk ((by rw [hg]; exact Nat.ne_of_lt (IsS138.lt (show IsS138 w0 _ g s0_0 t465 t466 from by exact sI1381 HI0.out NB0_451.out)) : g ≠ gb467)); have n13_ := Aside0.mk ((by rw [hg]; exact Nat.ne_of_gt (IsS138.lt (show IsS138 w0 _ g s0_0 t465 t466 from by exact sI1381 HI0.out NB0_451.out)) : gb467 ≠ g)); clear HO454; clear HO459; clear HO463; clear HI0; clear BK451; clear HK; clear HB; have HO454 := n0_; have HO459 := n1_; have HO463 := n2_; have HI0 := n3_; have BK451 := n4_; have HK := n5_; have HB := n6_; have BK467 := n7_; have GW467 := n8_; have GE467 := n9_; have NB451_467 := n10_; have NB467_451 := n11_; have NB0_467 := n12_; have NB467_0 := n13_; clear n0_ n1_ n2_ n3_ n4_ n5_ n6_ n7_ n8_ n9_ n10_ n11_ n12_ n13_; clear hb hbox hg; obtain ⟨Ao12, co12, eo12⟩ := Kd.R_slice HO459.out; subst eo12; have hnb13 := NB467_451.out; have hnc13 := NB451_467.out; have hnb14 := NB467_0.out; have hnc14 := NB0_467.out; obtain ⟨_, _, _, _, _, _, _, _⟩ := blkc4 BK467; obtain ⟨Ao16, co16, eo16⟩ := Kd.R_slice HO463.out; subst eo16) | ((with_reducible refine gate_callee (f := 84) rfl ?_); refine gL (some 12) Try.func84 #[.pointer (some ⟨g, 0, none⟩), .int .i64 10] ?_; (with_reducible refine (spec_l1Below.calls g s0_0 t465 t466 10 t468 t469 t470 w0 _ ?_ ?_ A4.out).mono ?_); exact sI1382 HI0.out NB0_451.out NB0_467.out; exact sB3 HB.out (IsS138.ge HI0.out) GE451.out GE467.out; rintro e w17 ⟨rfl, hi, hb, hk⟩; refine ⟨_, rfl, ?_⟩; replace BK451 := Aside0.mk (KeepBut.blk hk (g' := gb451) (o := .cells #[.slice none 0 0, .int .i64 0, .slice none 0 0, .int .i64 0] 66 (0, 0)) (kf BK451 NB451_467) NB451_0.out (by simp)); replace HO454 := Aside0.mk (Kd.R_mono (Kd.R_keep (IsS138.apart (show IsS138 w0 _ g s0_0 t465 t466 from by exact sI1382 HI0.out NB0_451.out NB0_467.out) (rf HO454 BK467) (by decide)) hk (fun _ h => h.2)) (fun _ h => h.1)); replace HO459 := Aside0.mk (Kd.R_mono (Kd.R_keep (IsS138.apart (show IsS138 w0 _ g s0_0 t465 t466 from by exact sI1382 HI0.out NB0_451.out NB0_467.out) (rf HO459 BK467) (by decide)) hk (fun _ h => h.2)) (fun _ h => h.1)); replace HO463 := Aside0.mk (Kd.R_mono (Kd.R_keep (IsS138.apart (show IsS138 w0 _ g s0_0 t465 t466 from by exact sI1382 HI0.out NB0_451.out NB0_467.out) (rf HO463 BK467) (by decide)) hk (fun _ h => h.2)) (fun _ h => h.1)); replace BK467 := Aside0.mk (KeepBut.blk hk (g' := gb467) (o := .cells #[.slice Ao12 t457.length co12, .int .i64 t460, .slice Ao16 t461.length co16, .int .i64 t464] 66 (0, 0)) (kp BK467) NB467_0.out (by simp)); replace HK := Aside0.mk (KeepBut.trans (by exact sK2 HK.out GW451.out GW467.out) hk (.inl rfl)); replace HB := Aside0.mk (hb); replace HI0 := Aside0.mk (hi); (try clear hb); (try clear hk); (try clear hi)) | ((with_reducible refine gate_dst (N := 16) rfl ?_); refine Kd.R_lit (Kd.int .i64) _ 3 ?hg (N := 16) ?hd (xs := ([(-1), 1000000, 1000001] : List Int)) (inner := [.int .i64 (-1), .int .i64 1000000, .int .i64 1000001]) (ok := fun _ => True) (okp := fun _ => True) ?hr ?hp (fun _ hk => hk) trivial (Below.refl _ _) (Nat.le_refl _) (by simp) ?_; (case hd => rfl); (case hg => rfl); (case hr => first | (go_simp; done) | (go_simp; rfl)); (case hp => exact (Reps.one (show Kd.M (Kd.int .i64) _ _ _ (-1) [.int .i64 (-1)] from rfl) (Reps.one (show Kd.M (Kd.int .i64) _ _ _ 1000000 [.int .i64 1000000] from rfl) (Reps.one (show Kd.M (Kd.int .i64) _ _ _ 1000001 [.int .i64 1000001] from rfl) (Reps.none _ _))))); intro v472 w18 ho19 hb hg_ hnew_; clear hg_ hnew_; (first | rw [← Ny471.out] at ho19 | (simp only [Int.reduceToNat] at ho19; rw [← Ny471.out] at ho19)); replace HO454 := rb HO454 hb; have HO473 := Aside0.mk (Kd.R_lower (Kd.R_new' (Kd.R_new' ho19 (Kd.R_lt (rK HO459))) (Kd.R_lt (rK HO463))) (keep_size (w := w) (g := g) (row := none) (by exact sK2 HK.out GW451.out GW467.out))); replace HO459 := re HO459 ho19 hb; replace HO463 := re HO463 ho19 hb; replace BK451 := kb BK451 hb; replace BK467 := kb BK467 hb; replace HK := Aside0.mk (KeepBut.trans (by exact sK2 HK.out GW451.out GW467.out) (KeepBut.of_below hb g none) (.inl rfl)); replace HB := Aside0.mk (below_step (by exact sB3 HB.out (IsS138.ge HI0.out) GE451.out GE467.out) hb); replace HI0 := Aside0.mk (IsS138.below (by exact sI1382 HI0.out NB0_451.out NB0_467.out) hb); clear hb ho19; obtain ⟨Ao20, co20, eo20⟩ := Kd.R_slice HO473.out; subst eo20) | ((with_reducible refine gate_callee (f := 94) rfl ?_); refine gL (some 17) Try.func94 #[.pointer (some ⟨g, 0, none⟩), .slice Ao20 y471.length co20] ?_; (with_reducible refine (spec_l1Int.calls g s0_0 t469 t470 _ _ y471 t474 t475 t476 w0 _ ?_ ?_ ?_ ?_ ?_ A6.out).mono ?_); exact sI1382 HI0.out NB0_451.out NB0_467.out; exact sB3 HB.out (IsS138.ge HI0.out) GE451.out GE467.out; exact cO ⟨(Kd.R_reads' HO473.out).2.2⟩; exact (Kd.R_reads' HO473.out).2.1; exact far_slice (IsS138.own_ne HI0.out HO473.out (by decide)); rintro e w21 ⟨rfl, hi, hb, hk⟩; refine ⟨_, rfl, ?_⟩; replace BK451 := Aside0.mk (KeepBut.blk hk (g' := gb451) (o := .cells #[.slice none 0 0, .int .i64 0, .slice none 0 0, .int .i64 0] 66 (0, 0)) (bK BK451) NB451_0.out (by simp)); replace HO454 := Aside0.mk (Kd.R_mono (Kd.R_keep (IsS138.apart (show IsS138 w0 _ g s0_0 t469 t470 from by exact sI1382 HI0.out NB0_451.out NB0_467.out) (rK HO454) (by decide)) hk (fun _ h => h.2)) (fun _ h => h.1)); replace HO459 := Aside0.mk (Kd.R_mono (Kd.R_keep (IsS138.apart (show IsS138 w0 _ g s0_0 t469 t470 from by exact sI1382 HI0.out NB0_451.out NB0_467.out) (rK HO459) (by decide)) hk (fun _ h => h.2)) (fun _ h => h.1)); replace HO463 := Aside0.mk (Kd.R_mono (Kd.R_keep (IsS138.apart (show IsS138 w0 _ g s0_0 t469 t470 from by exact sI1382 HI0.out NB0_451.out NB0_467.out) (rK HO463) (by decide)) hk (fun _ h => h.2)) (fun _ h => h.1)); replace BK467 := Aside0.mk (KeepBut.blk hk (g' := gb467) (o := .cells #[.slice Ao12 t457.length co12, .int .i64 t460, .slice Ao16 t461.length co16, .int .i64 t464] 66 (0, 0)) (bK BK467) NB467_0.out (by simp)); replace HO473 := Aside0.mk (Kd.R_mono (Kd.R_keep (IsS138.apart (show IsS138 w0 _ g s0_0 t469 t470 from by exact sI1382 HI0.out NB0_451.out NB0_467.out) (rK HO473) (by decide)) hk (fun _ h => h.2)) (fun _ h => h.1)); replace HK := Aside0.mk (KeepBut.trans (by exact sK2 HK.out GW451.out GW467.out) hk (.inl rfl)); replace HB := Aside0.mk (hb); replace HI0 := Aside0.mk (hi); (try clear hb); (try clear hk); (try clear hi); obtain ⟨_, _, _, _, _, _, _, _⟩ := blkc4 BK467))
  have n0_ : Aside0 (Kd.R k50 50 (w21.setCell ⟨gb467, 1, none⟩ (.int .i64 t474)) w.heap.size (fun _ => True) (.slice Ao9 t452.length co9) t452) := ⟨Kd.R_mono (rf HO454 BK467) (fun _ hk => trivial)⟩
  have n1_ : Aside0 (Kd.R (Kd.int .i64) 3 (w21.setCell ⟨gb467, 1, none⟩ (.int .i64 t474)) w.heap.size (n2 (.slice Ao16 t461.length co16) (.slice Ao20 y471.length co20)) (.slice Ao12 t457.length co12) t457) := ⟨Kd.R_mono (rf HO459 BK467) (fun _ hk => ⟨hk.1, hk.2⟩)⟩
  have n2_ : Aside0 (Kd.R (Kd.int .i64) 3 (w21.setCell ⟨gb467, 1, none⟩ (.int .i64 t474)) w.heap.size (n2 (.slice Ao12 t457.length co12) (.slice Ao20 y471.length co20)) (.slice Ao16 t461.length co16) t461) := ⟨Kd.R_mono (rf HO463 BK467) (fun _ hk => ⟨hk.1, hk.2⟩)⟩
  have n3_ : Aside0 (Kd.R (Kd.int .i64) 3 (w21.setCell ⟨gb467, 1, none⟩ (.int .i64 t474)) w.heap.size (n2 (.slice Ao12 t457.length co12) (.slice Ao16 t461.length co16)) (.slice Ao20 y471.length co20) y471) := ⟨Kd.R_mono (rf HO473 BK467) (fun _ hk => ⟨hk.1.2, hk.2⟩)⟩
  have n4_ : Aside0 ((w21.setCell ⟨gb467, 1, none⟩ (.int .i64 t474)).heap[gb451]? = some (.cells #[.slice none 0 0, .int .i64 0, .slice none 0 0, .int .i64 0] 66 (0, 0))) := ⟨kf BK451 NB451_467⟩
  have n5_ : Aside0 ((w21.setCell ⟨gb467, 1, none⟩ (.int .i64 t474)).heap[gb467]? = some (.cells #[.slice Ao12 t457.length co12, .int .i64 t474, .slice Ao16 t461.length co16, .int .i64 t464] 66 (0, 0))) := ⟨kp BK467⟩
  have n6_ : Aside0 (IsS138 w0 (w21.setCell ⟨gb467, 1, none⟩ (.int .i64 t474)) g s0_0 t475 t476) := ⟨by exact sI1382 HI0.out NB0_451.out NB0_467.out⟩
  have n7_ : Aside0 (KeepBut w (w21.setCell ⟨gb467, 1, none⟩ (.int .i64 t474)) g none) := ⟨by exact sK2 HK.out GW451.out GW467.out⟩
  have n8_ : Aside0 (Below w0.heap.size w0 (w21.setCell ⟨gb467, 1, none⟩ (.int .i64 t474))) := ⟨by exact sB3 HB.out (IsS138.ge HI0.out) GE451.out GE467.out⟩
  (try clear HO454)
  (try clear HO459)
  (try clear HO463)
  (try clear HO473)
  (try clear BK451)
  (try clear BK467)
  (try clear HI0)
  (try clear HK)
  (try clear HB)
  generalize (w21.setCell ⟨gb467, 1, none⟩ (.int .i64 t474)) = w23 at n0_ n1_ n2_ n3_ n4_ n5_ n6_ n7_ n8_ ⊢
  have HO454 := n0_
  have HO459 := n1_
  have HO463 := n2_
  have HO473 := n3_
  have BK451 := n4_
  have BK467 := n5_
  have HI0 := n6_
  have HK := n7_
  have HB := n8_
  clear n0_ n1_ n2_ n3_ n4_ n5_ n6_ n7_ n8_
  replace HO454 := dr HO454
  replace HO459 := dr HO459
  replace HO463 := dr HO463
  replace HO473 := dr HO473
  replace BK451 := dk BK451
  replace BK467 := dk BK467
  replace HI0 := Aside0.mk (IsS138.drew HI0.out)
  replace HK := Aside0.mk (keep_drew HK.out)
  have HBo := HB
  replace HB := db HB
  refine start_ (n := 4) (S := fun w' => w'.cell? ⟨gb467, 0, none⟩ = some (.slice Ao12 t457.length co12) ∧ w'.cell? ⟨gb467, 1, none⟩ = some (.int .i64 t474) ∧ w'.cell? ⟨gb467, 2, none⟩ = some (.slice Ao16 t461.length co16) ∧ w'.cell? ⟨gb467, 3, none⟩ = some (.int .i64 t464)) (ds := []) (mb 4 0) (by kernel_rfl) rfl rfl (cn4 BK467) (fun hHeld => ?_)
  generalize w23.drew = w24 at HO454 HO459 HO463 HO473 BK451 BK467 HI0 HK HB hHeld ⊢
  refine pure_ (i := 0) (N := some 33) (v := ?_) (a' := ?_) (mb 4 1) rfl rfl (by kernel_rfl) (fun _ _ _ h => h) (Or.inl ⟨by rfl, ?_⟩) ?_ ?_
  rotate_left
  ·
   intro w'
   go_simp
   with_reducible rfl
  rotate_left
  ·
   simp only [Act.put, List.setIfInBounds_toArray, List.set_cons_zero, List.set_cons_succ, i64_w, i32_w]
   rfl
  refine pure_ (i := 2) (N := some 2) (v := ?_) (a' := ?_) (mb 4 5) rfl rfl (by kernel_rfl) (fun _ _ _ h => h) (Or.inl ⟨by rfl, ?_⟩) ?_ ?_
  rotate_left
  ·
   intro w'
   go_simp
   with_reducible rfl
  rotate_left
  ·
   simp only [Act.put, List.setIfInBounds_toArray, List.set_cons_zero, List.set_cons_succ, i64_w, i32_w]
   rfl
  refine take_ (i := 1) (N := some 34) (v := ?_) (a' := ?_) (mb 4 7) rfl rfl (by kernel_rfl) (fun _ _ _ h => h) (Or.inl ⟨by rfl, ?_⟩) hHeld ?_ ?_
  rotate_left
  ·
   rintro w' ⟨s0, s1, s2, s3⟩
   go_simp
   with_reducible rfl
  rotate_left
  ·
   simp only [Act.put, List.setIfInBounds_toArray, List.set_cons_zero, List.set_cons_succ, i64_w, i32_w]
   rfl
  refine one_ (i := 3) (N := none) (mb 4 15) rfl rfl (by kernel_rfl) (by decide) (fun K hK => ?_)
  have hs25 : w24.cell? ⟨gb451, 0, none⟩ = some (.slice none 0 0) := bC BK451 0
  have hfs25 := blk_frozen BK451.out 0
  have hns25_1 := NB467_451.out
  have hms25_1 := NB451_467.out
  have hs26 : w24.cell? ⟨gb451, 1, none⟩ = some (.int .i64 0) := bC BK451 1
  have hfs26 := blk_frozen BK451.out 1
  have hns26_1 := NB467_451.out
  have hms26_1 := NB451_467.out
  have hs27 : w24.cell? ⟨gb451, 2, none⟩ = some (.slice none 0 0) := bC BK451 2
  have hfs27 := blk_frozen BK451.out 2
  have hns27_1 := NB467_451.out
  have hms27_1 := NB451_467.out
  have hs28 : w24.cell? ⟨gb451, 3, none⟩ = some (.int .i64 0) := bC BK451 3
  have hfs28 := blk_frozen BK451.out 3
  have hns28_1 := NB467_451.out
  have hms28_1 := NB451_467.out
  refine skip_ (w1 := ?_) (by rfl) rfl ?_ ?_
  rotate_left
  ·
   go_simp
   rfl
  refine hK.out _ _ ⟨((cell_far (p := ⟨gb451, _, none⟩) NB467_451.out _).trans (((cell_far (p := ⟨gb451, _, none⟩) NB467_451.out _).trans (((cell_far (p := ⟨gb451, _, none⟩) NB467_451.out _).trans (((cell_far (p := ⟨gb451, _, none⟩) NB467_451.out _).trans (hHeld.1)))))))), ((cell_far (p := ⟨gb451, _, none⟩) NB467_451.out _).trans (((cell_far (p := ⟨gb451, _, none⟩) NB467_451.out _).trans (((cell_far (p := ⟨gb451, _, none⟩) NB467_451.out _).trans (((cell_far (p := ⟨gb451, _, none⟩) NB467_451.out _).trans (hHeld.2.1)))))))), ((cell_far (p := ⟨gb451, _, none⟩) NB467_451.out _).trans (((cell_far (p := ⟨gb451, _, none⟩) NB467_451.out _).trans (((cell_far (p := ⟨gb451, _, none⟩) NB467_451.out _).trans (((cell_far (p := ⟨gb451, _, none⟩) NB467_451.out _).trans (hHeld.2.2.1)))))))), ((cell_far (p := ⟨gb451, _, none⟩) NB467_451.out _).trans (((cell_far (p := ⟨gb451, _, none⟩) NB467_451.out _).trans (((cell_far (p := ⟨gb451, _, none⟩) NB467_451.out _).trans (((cell_far (p := ⟨gb451, _, none⟩) NB467_451.out _).trans (hHeld.2.2.2))))))))⟩ (fun hHeld => ?_)
  clear hK K
  refine done_ (by kernel_rfl) ?_
  try go_wp2
  refine bodyPost_ret (results_tc rfl _ _ gb451 66 #[.slice Ao12 t457.length co12, .int .i64 t474, .slice Ao16 t461.length co16, .int .i64 t464] (0, 0) _ rfl (kp BK451) Try.underlying66 rfl (by kernel_rfl)) rfl ?_
  exact ⟨_, _, _, rA, Kd.R_mono (rf HO454 BK451) (fun _ hk => trivial), Kd.R_mono (rf HO459 BK451) (fun _ hk => hk.1), Kd.R_mono (rf HO463 BK451) (fun _ hk => hk.1), by exact sI1382 HI0.out NB0_451.out NB0_467.out, by exact sB3 HB.out (IsS138.ge HI0.out) GE451.out GE467.out, by exact sK2 HK.out GW451.out GW467.out⟩
 rw [if_neg c5] at H
 have c5b0 : (t468 == 0) = false := beq_eq_false_iff_ne.mpr c5
 have c5b1 : (t468 != 0) = true := bne_iff_ne.mpr c5
 by_cases c29 : t468 = 1
 ·
  rw [if_pos c29] at H
  have c29b0 : (t468 == 1) = true := beq_iff_eq.mpr c29
  have c29b1 : (t468 != 1) = false := bne_eq_false_iff_eq.mpr c29
  clear c29
  obtain ⟨y477, hy477⟩ : ∃ y_ : List Int, y_ = (([(-1), 1, 9] : List Int)) := ⟨_, rfl⟩
  replace H : ((spec_l1Int.f s0_0 t469 t470 y477).bind fun bt480 => (some (t452, t457, t460, t461, bt480.1, bt480.2.1, bt480.2.2))) = some (r1, r2, r3, r4, r5, r6, r7) := rH H hy477
  have Ny477 := Aside0.mk hy477
  clear hy477
  obtain ⟨⟨t480, t481, t482⟩, A30, H⟩ := bindE H
  try dsimp only at H
  simp only [Option.some.injEq, Prod.mk.injEq] at H
  obtain ⟨rfl, rfl, rfl, rfl, rfl, rfl, rfl⟩ := H
  go_enter Try.func136, Try.ntmps136
  try go_wp2_with (first | ((with_reducible refine gate_dst (N := 3) rfl ?_); refine bE (N := 3) (cs := #[.slice none 0 0, .int .i64 0, .slice none 0 0, .int .i64 0]) (t := 66) ?_; intro gb451 hg w31 hbox hb; have n0_ := Aside0.mk (IsS138.below (by exact sI1380 HI0.out) hb); have n1_ := Aside0.mk (KeepBut.trans (by exact sK0 HK.out) (KeepBut.of_below hb g none) (.inl rfl)); have n2_ := Aside0.mk (below_step (by exact sB1 HB.out (IsS138.ge HI0.out)) hb); have n3_ := Aside0.mk (hbox); have n4_ := Aside0.mk ((by rw [hg]; exact (keep_size (w := w) (g := g) (row := none) (by exact sK0 HK.out)) : w.heap.size ≤ gb451)); have n5_ := Aside0.mk ((Nat.le_trans HW0.out (by rw [hg]; exact (keep_size (w := w) (g := g) (row := none) (by exact sK0 HK.out)) : w.heap.size ≤ gb451) : w0.heap.size ≤ gb451)); have n6_ := Aside0.mk ((by rw [hg]; exact Nat.ne_of_lt (IsS138.lt (show IsS138 w0 _ g s0_0 s0_1 s0_2 from by exact sI1380 HI0.out)) : g ≠ gb451)); have n7_ := Aside0.mk ((by rw [hg]; exact Nat.ne_of_gt (IsS138.lt (show IsS138 w0 _ g s0_0 s0_1 s0_2 from by exact sI1380 HI0.out)) : gb451 ≠ g)); clear HI0; clear HK; clear HB; have HI0 := n0_; have HK := n1_; have HB := n2_; have BK451 := n3_; have GW451 := n4_; have GE451 := n5_; have NB0_451 := n6_; have NB451_0 := n7_; clear n0_ n1_ n2_ n3_ n4_ n5_ n6_ n7_; clear hb hbox hg) | ((with_reducible refine gate_callee (f := 125) rfl ?_); refine gL (some 7) Try.func125 #[.pointer (some ⟨g, 0, none⟩)] ?_; (with_reducible refine (spec_l5Any.calls k g s0_0 s0_1 s0_2 t452 t455 t456 w0 _ ?_ ?_ A2.out).mono ?_); exact sI1381 HI0.out NB0_451.out; exact sB2 HB.out (IsS138.ge HI0.out) GE451.out; rintro e w32 ⟨v453, rfl, ho0, hi, hb, hk⟩; refine ⟨_, rfl, ?_⟩; replace BK451 := Aside0.mk (KeepBut.blk hk (g' := gb451) (o := .cells #[.slice none 0 0, .int .i64 0, .slice none 0 0, .int .i64 0] 66 (0, 0)) (bK BK451) NB451_0.out (by simp)); have HO454 := Aside0.mk (Kd.R_lower ho0 (keep_size (w := w) (g := g) (row := none) (by exact sK1 HK.out GW451.out))); replace HK := Aside0.mk (KeepBut.trans (by exact sK1 HK.out GW451.out) hk (.inl rfl)); replace HB := Aside0.mk (hb); replace HI0 := Aside0.mk (hi); (try clear hb); (try clear hk); (try clear hi); (try clear ho0); obtain ⟨Ao33, co33, eo33⟩ := Kd.R_slice HO454.out; subst eo33) | ((with_reducible refine gate_callee (f := 164) rfl ?_); refine gL (some 10) Try.func164 #[.pointer (some ⟨g, 0, none⟩), .slice Ao33 t452.length co33] ?_; (with_reducible refine (spec_l14Draw.calls k g s0_0 t455 t456 _ _ t452 t457 t460 t461 t464 t465 t466 w0 _ ?_ ?_ ?_ ?_ A3.out).mono ?_); exact sI1381 HI0.out NB0_451.out; exact sB2 HB.out (IsS138.ge HI0.out) GE451.out; exact Kd.C_foot_own (IsS138.apart (show IsS138 w0 _ g s0_0 t455 t456 from by exact sI1381 HI0.out NB0_451.out) (rK HO454) (by decide)) (fun _ h_ => h_.2); exact (Kd.R_reads' HO454.out).2.1; rintro e w34 ⟨v458, v462, rfl, ho0, ho1, hi, hb, hk⟩; refine ⟨_, rfl, ?_⟩; replace BK451 := Aside0.mk (KeepBut.blk hk (g' := gb451) (o := .cells #[.slice none 0 0, .int .i64 0, .slice none 0 0, .int .i64 0] 66 (0, 0)) (bK BK451) NB451_0.out (by simp)); replace HO454 := Aside0.mk (Kd.R_mono (Kd.R_keep (IsS138.apart (show IsS138 w0 _ g s0_0 t455 t456 from by exact sI1381 HI0.out NB0_451.out) (rK HO454) (by decide)) hk (fun _ h => h.2)) (fun _ h => h.1)); have HO459 := Aside0.mk (Kd.R_lower ho0 (keep_size (w := w) (g := g) (row := none) (by exact sK1 HK.out GW451.out))); have HO463 := Aside0.mk (Kd.R_lower ho1 (keep_size (w := w) (g := g) (row := none) (by exact sK1 HK.out GW451.out))); replace HK := Aside0.mk (KeepBut.trans (by exact sK1 HK.out GW451.out) hk (.inl rfl)); replace HB := Aside0.mk (hb); replace HI0 := Aside0.mk (hi); (try clear hb); (try clear hk); (try clear hi); (try clear ho0); (try clear ho1)) | ((with_reducible refine gate_dst (N := 5) rfl ?_); refine bE (N := 5) (cs := #[.slice none 0 0, .int .i64 0, .slice none 0 0, .int .i64 0]) (t := 66) ?_; intro gb467 hg w35 hbox hb; have n0_ := rb HO454 hb; have n1_ := rb HO459 hb; have n2_ := rb HO463 hb; have n3_ := Aside0.mk (IsS138.below (by exact sI1381 HI0.out NB0_451.out) hb); have n4_ := kb BK451 hb; have n5_ := Aside0.mk (KeepBut.trans (by exact sK1 HK.out GW451.out) (KeepBut.of_below hb g none) (.inl rfl)); have n6_ := Aside0.mk (below_step (by exact sB2 HB.out (IsS138.ge HI0.out) GE451.out) hb); have n7_ := Aside0.mk (hbox); have n8_ := Aside0.mk ((by rw [hg]; exact (keep_size (w := w) (g := g) (row := none) (by exact sK1 HK.out GW451.out)) : w.heap.size ≤ gb467)); have n9_ := Aside0.mk ((Nat.le_trans HW0.out (by rw [hg]; exact (keep_size (w := w) (g := g) (row := none) (by exact sK1 HK.out GW451.out)) : w.heap.size ≤ gb467) : w0.heap.size ≤ gb467)); have n10_ := nl BK451 hg; have n11_ := nr BK451 hg; have n12_ := Aside0.mk ((by rw [hg]; exact Nat.ne_of_lt (IsS138.lt (show IsS138 w0 _ g s0_0 t465 t466 from by exact sI1381 HI0.out NB0_451.out)) : g ≠ gb467)); have n13_ := Aside0.mk ((by rw [hg]; exact Nat.ne_of_gt (IsS138.lt (show IsS138 w0 _ g s0_0 t465 t466 from by exact sI1381 HI0.out NB0_451.out)) : gb467 ≠ g)); clear HO454; clear HO459; clear HO463; clear HI0; clear BK451; clear HK; clear HB; have HO454 := n0_; have HO459 := n1_; have HO463 := n2_; have HI0 := n3_; have BK451 := n4_; have HK := n5_; have HB := n6_; have BK467 := n7_; have GW467 := n8_; have GE467 := n9_; have NB451_467 := n10_; have NB467_451 := n11_; have NB0_467 := n12_; have NB467_0 := n13_; clear n0_ n1_ n2_ n3_ n4_ n5_ n6_ n7_ n8_ n9_ n10_ n11_ n12_ n13_; clear hb hbox hg; obtain ⟨Ao36, co36, eo36⟩ := Kd.R_slice HO459.out; subst eo36; have hnb37 := NB467_451.out; have hnc37 := NB451_467.out; have hnb38 := NB467_0.out; have hnc38 := NB0_467.out; obtain ⟨_, _, _, _, _, _, _, _⟩ := blkc4 BK467; obtain ⟨Ao40, co40, eo40⟩ := Kd.R_slice HO463.out; subst eo40) | ((with_reducible refine gate_callee (f := 84) rfl ?_); refine gL (some 12) Try.func84 #[.pointer (some ⟨g, 0, none⟩), .int .i64 10] ?_; (with_reducible refine (spec_l1Below.calls g s0_0 t465 t466 10 t468 t469 t470 w0 _ ?_ ?_ A4.out).mono ?_); exact sI1382 HI0.out NB0_451.out NB0_467.out; exact sB3 HB.out (IsS138.ge HI0.out) GE451.out GE467.out; rintro e w41 ⟨rfl, hi, hb, hk⟩; refine ⟨_, rfl, ?_⟩; replace BK451 := Aside0.mk (KeepBut.blk hk (g' := gb451) (o := .cells #[.slice none 0 0, .int .i64 0, .slice none 0 0, .int .i64 0] 66 (0, 0)) (kf BK451 NB451_467) NB451_0.out (by simp)); replace HO454 := Aside0.mk (Kd.R_mono (Kd.R_keep (IsS138.apart (show IsS138 w0 _ g s0_0 t465 t466 from by exact sI1382 HI0.out NB0_451.out NB0_467.out) (rf HO454 BK467) (by decide)) hk (fun _ h => h.2)) (fun _ h => h.1)); replace HO459 := Aside0.mk (Kd.R_mono (Kd.R_keep (IsS138.apart (show IsS138 w0 _ g s0_0 t465 t466 from by exact sI1382 HI0.out NB0_451.out NB0_467.out) (rf HO459 BK467) (by decide)) hk (fun _ h => h.2)) (fun _ h => h.1)); replace HO463 := Aside0.mk (Kd.R_mono (Kd.R_keep (IsS138.apart (show IsS138 w0 _ g s0_0 t465 t466 from by exact sI1382 HI0.out NB0_451.out NB0_467.out) (rf HO463 BK467) (by decide)) hk (fun _ h => h.2)) (fun _ h => h.1)); replace BK467 := Aside0.mk (KeepBut.blk hk (g' := gb467) (o := .cells #[.slice Ao36 t457.length co36, .int .i64 t460, .slice Ao40 t461.length co40, .int .i64 t464] 66 (0, 0)) (kp BK467) NB467_0.out (by simp)); replace HK := Aside0.mk (KeepBut.trans (by exact sK2 HK.out GW451.out GW467.out) hk (.inl rfl)); replace HB := Aside0.mk (hb); replace HI0 := Aside0.mk (hi); (try clear hb); (try clear hk); (try clear hi)) | ((with_reducible refine gate_dst (N := 22) rfl ?_); refine Kd.R_lit (Kd.int .i64) _ 3 ?hg (N := 22) ?hd (xs := ([(-1), 1, 9] : List Int)) (inner := [.int .i64 (-1), .int .i64 1, .int .i64 9]) (ok := fun _ => True) (okp := fun _ => True) ?hr ?hp (fun _ hk => hk) trivial (Below.refl _ _) (Nat.le_refl _) (by simp) ?_; (case hd => rfl); (case hg => rfl); (case hr => first | (go_simp; done) | (go_simp; rfl)); (case hp => exact (Reps.one (show Kd.M (Kd.int .i64) _ _ _ (-1) [.int .i64 (-1)] from rfl) (Reps.one (show Kd.M (Kd.int .i64) _ _ _ 1 [.int .i64 1] from rfl) (Reps.one (show Kd.M (Kd.int .i64) _ _ _ 9 [.int .i64 9] from rfl) (Reps.none _ _))))); intro v478 w42 ho43 hb hg_ hnew_; clear hg_ hnew_; (first | rw [← Ny477.out] at ho43 | (simp only [Int.reduceToNat] at ho43; rw [← Ny477.out] at ho43)); replace HO454 := rb HO454 hb; have HO479 := Aside0.mk (Kd.R_lower (Kd.R_new' (Kd.R_new' ho43 (Kd.R_lt (rK HO459))) (Kd.R_lt (rK HO463))) (keep_size (w := w) (g := g) (row := none) (by exact sK2 HK.out GW451.out GW467.out))); replace HO459 := re HO459 ho43 hb; replace HO463 := re HO463 ho43 hb; replace BK451 := kb BK451 hb; replace BK467 := kb BK467 hb; replace HK := Aside0.mk (KeepBut.trans (by exact sK2 HK.out GW451.out GW467.out) (KeepBut.of_below hb g none) (.inl rfl)); replace HB := Aside0.mk (below_step (by exact sB3 HB.out (IsS138.ge HI0.out) GE451.out GE467.out) hb); replace HI0 := Aside0.mk (IsS138.below (by exact sI1382 HI0.out NB0_451.out NB0_467.out) hb); clear hb ho43; obtain ⟨Ao44, co44, eo44⟩ := Kd.R_slice HO479.out; subst eo44) | ((with_reducible refine gate_callee (f := 94) rfl ?_); refine gL (some 23) Try.func94 #[.pointer (some ⟨g, 0, none⟩), .slice Ao44 y477.length co44] ?_; (with_reducible refine (spec_l1Int.calls g s0_0 t469 t470 _ _ y477 t480 t481 t482 w0 _ ?_ ?_ ?_ ?_ ?_ A30.out).mono ?_); exact sI1382 HI0.out NB0_451.out NB0_467.out; exact sB3 HB.out (IsS138.ge HI0.out) GE451.out GE467.out; exact cO ⟨(Kd.R_reads' HO479.out).2.2⟩; exact (Kd.R_reads' HO479.out).2.1; exact far_slice (IsS138.own_ne HI0.out HO479.out (by decide)); rintro e w45 ⟨rfl, hi, hb, hk⟩; refine ⟨_, rfl, ?_⟩; replace BK451 := Aside0.mk (KeepBut.blk hk (g' := gb451) (o := .cells #[.slice none 0 0, .int .i64 0, .slice none 0 0, .int .i64 0] 66 (0, 0)) (bK BK451) NB451_0.out (by simp)); replace HO454 := Aside0.mk (Kd.R_mono (Kd.R_keep (IsS138.apart (show IsS138 w0 _ g s0_0 t469 t470 from by exact sI1382 HI0.out NB0_451.out NB0_467.out) (rK HO454) (by decide)) hk (fun _ h => h.2)) (fun _ h => h.1)); replace HO459 := Aside0.mk (Kd.R_mono (Kd.R_keep (IsS138.apart (show IsS138 w0 _ g s0_0 t469 t470 from by exact sI1382 HI0.out NB0_451.out NB0_467.out) (rK HO459) (by decide)) hk (fun _ h => h.2)) (fun _ h => h.1)); replace HO463 := Aside0.mk (Kd.R_mono (Kd.R_keep (IsS138.apart (show IsS138 w0 _ g s0_0 t469 t470 from by exact sI1382 HI0.out NB0_451.out NB0_467.out) (rK HO463) (by decide)) hk (fun _ h => h.2)) (fun _ h => h.1)); replace BK467 := Aside0.mk (KeepBut.blk hk (g' := gb467) (o := .cells #[.slice Ao36 t457.length co36, .int .i64 t460, .slice Ao40 t461.length co40, .int .i64 t464] 66 (0, 0)) (bK BK467) NB467_0.out (by simp)); replace HO479 := Aside0.mk (Kd.R_mono (Kd.R_keep (IsS138.apart (show IsS138 w0 _ g s0_0 t469 t470 from by exact sI1382 HI0.out NB0_451.out NB0_467.out) (rK HO479) (by decide)) hk (fun _ h => h.2)) (fun _ h => h.1)); replace HK := Aside0.mk (KeepBut.trans (by exact sK2 HK.out GW451.out GW467.out) hk (.inl rfl)); replace HB := Aside0.mk (hb); replace HI0 := Aside0.mk (hi); (try clear hb); (try clear hk); (try clear hi); obtain ⟨_, _, _, _, _, _, _, _⟩ := blkc4 BK467))
  have n0_ : Aside0 (Kd.R k50 50 (w45.setCell ⟨gb467, 3, none⟩ (.int .i64 t480)) w.heap.size (fun _ => True) (.slice Ao33 t452.length co33) t452) := ⟨Kd.R_mono (rf HO454 BK467) (fun _ hk => trivial)⟩
  have n1_ : Aside0 (Kd.R (Kd.int .i64) 3 (w45.setCell ⟨gb467, 3, none⟩ (.int .i64 t480)) w.heap.size (n2 (.slice Ao40 t461.length co40) (.slice Ao44 y477.length co44)) (.slice Ao36 t457.length co36) t457) := ⟨Kd.R_mono (rf HO459 BK467) (fun _ hk => ⟨hk.1, hk.2⟩)⟩
  have n2_ : Aside0 (Kd.R (Kd.int .i64) 3 (w45.setCell ⟨gb467, 3, none⟩ (.int .i64 t480)) w.heap.size (n2 (.slice Ao36 t457.length co36) (.slice Ao44 y477.length co44)) (.slice Ao40 t461.length co40) t461) := ⟨Kd.R_mono (rf HO463 BK467) (fun _ hk => ⟨hk.1, hk.2⟩)⟩
  have n3_ : Aside0 (Kd.R (Kd.int .i64) 3 (w45.setCell ⟨gb467, 3, none⟩ (.int .i64 t480)) w.heap.size (n2 (.slice Ao36 t457.length co36) (.slice Ao40 t461.length co40)) (.slice Ao44 y477.length co44) y477) := ⟨Kd.R_mono (rf HO479 BK467) (fun _ hk => ⟨hk.1.2, hk.2⟩)⟩
  have n4_ : Aside0 ((w45.setCell ⟨gb467, 3, none⟩ (.int .i64 t480)).heap[gb451]? = some (.cells #[.slice none 0 0, .int .i64 0, .slice none 0 0, .int .i64 0] 66 (0, 0))) := ⟨kf BK451 NB451_467⟩
  have n5_ : Aside0 ((w45.setCell ⟨gb467, 3, none⟩ (.int .i64 t480)).heap[gb467]? = some (.cells #[.slice Ao36 t457.length co36, .int .i64 t460, .slice Ao40 t461.length co40, .int .i64 t480] 66 (0, 0))) := ⟨kp BK467⟩
  have n6_ : Aside0 (IsS138 w0 (w45.setCell ⟨gb467, 3, none⟩ (.int .i64 t480)) g s0_0 t481 t482) := ⟨by exact sI1382 HI0.out NB0_451.out NB0_467.out⟩
  have n7_ : Aside0 (KeepBut w (w45.setCell ⟨gb467, 3, none⟩ (.int .i64 t480)) g none) := ⟨by exact sK2 HK.out GW451.out GW467.out⟩
  have n8_ : Aside0 (Below w0.heap.size w0 (w45.setCell ⟨gb467, 3, none⟩ (.int .i64 t480))) := ⟨by exact sB3 HB.out (IsS138.ge HI0.out) GE451.out GE467.out⟩
  (try clear HO454)
  (try clear HO459)
  (try clear HO463)
  (try clear HO479)
  (try clear BK451)
  (try clear BK467)
  (try clear HI0)
  (try clear HK)
  (try clear HB)
  generalize (w45.setCell ⟨gb467, 3, none⟩ (.int .i64 t480)) = w47 at n0_ n1_ n2_ n3_ n4_ n5_ n6_ n7_ n8_ ⊢
  have HO454 := n0_
  have HO459 := n1_
  have HO463 := n2_
  have HO479 := n3_
  have BK451 := n4_
  have BK467 := n5_
  have HI0 := n6_
  have HK := n7_
  have HB := n8_
  clear n0_ n1_ n2_ n3_ n4_ n5_ n6_ n7_ n8_
  replace HO454 := dr HO454
  replace HO459 := dr HO459
  replace HO463 := dr HO463
  replace HO479 := dr HO479
  replace BK451 := dk BK451
  replace BK467 := dk BK467
  replace HI0 := Aside0.mk (IsS138.drew HI0.out)
  replace HK := Aside0.mk (keep_drew HK.out)
  have HBo := HB
  replace HB := db HB
  refine start_ (n := 4) (S := fun w' => w'.cell? ⟨gb467, 0, none⟩ = some (.slice Ao36 t457.length co36) ∧ w'.cell? ⟨gb467, 1, none⟩ = some (.int .i64 t460) ∧ w'.cell? ⟨gb467, 2, none⟩ = some (.slice Ao40 t461.length co40) ∧ w'.cell? ⟨gb467, 3, none⟩ = some (.int .i64 t480)) (ds := []) (mb 4 0) (by kernel_rfl) rfl rfl (cn4 BK467) (fun hHeld => ?_)
  generalize w47.drew = w48 at HO454 HO459 HO463 HO479 BK451 BK467 HI0 HK HB hHeld ⊢
  refine pure_ (i := 0) (N := some 33) (v := ?_) (a' := ?_) (mb 4 1) rfl rfl (by kernel_rfl) (fun _ _ _ h => h) (Or.inl ⟨by rfl, ?_⟩) ?_ ?_
  rotate_left
  ·
   intro w'
   go_simp
   with_reducible rfl
  rotate_left
  ·
   simp only [Act.put, List.setIfInBounds_toArray, List.set_cons_zero, List.set_cons_succ, i64_w, i32_w]
   rfl
  refine pure_ (i := 2) (N := some 2) (v := ?_) (a' := ?_) (mb 4 5) rfl rfl (by kernel_rfl) (fun _ _ _ h => h) (Or.inl ⟨by rfl, ?_⟩) ?_ ?_
  rotate_left
  ·
   intro w'
   go_simp
   with_reducible rfl
  rotate_left
  ·
   simp only [Act.put, List.setIfInBounds_toArray, List.set_cons_zero, List.set_cons_succ, i64_w, i32_w]
   rfl
  refine take_ (i := 1) (N := some 34) (v := ?_) (a' := ?_) (mb 4 7) rfl rfl (by kernel_rfl) (fun _ _ _ h => h) (Or.inl ⟨by rfl, ?_⟩) hHeld ?_ ?_
  rotate_left
  ·
   rintro w' ⟨s0, s1, s2, s3⟩
   go_simp
   with_reducible rfl
  rotate_left
  ·
   simp only [Act.put, List.setIfInBounds_toArray, List.set_cons_zero, List.set_cons_succ, i64_w, i32_w]
   rfl
  refine one_ (i := 3) (N := none) (mb 4 15) rfl rfl (by kernel_rfl) (by decide) (fun K hK => ?_)
  have hs49 : w48.cell? ⟨gb451, 0, none⟩ = some (.slice none 0 0) := bC BK451 0
  have hfs49 := blk_frozen BK451.out 0
  have hns49_1 := NB467_451.out
  have hms49_1 := NB451_467.out
  have hs50 : w48.cell? ⟨gb451, 1, none⟩ = some (.int .i64 0) := bC BK451 1
  have hfs50 := blk_frozen BK451.out 1
  have hns50_1 := NB467_451.out
  have hms50_1 := NB451_467.out
  have hs51 : w48.cell? ⟨gb451, 2, none⟩ = some (.slice none 0 0) := bC BK451 2
  have hfs51 := blk_frozen BK451.out 2
  have hns51_1 := NB467_451.out
  have hms51_1 := NB451_467.out
  have hs52 : w48.cell? ⟨gb451, 3, none⟩ = some (.int .i64 0) := bC BK451 3
  have hfs52 := blk_frozen BK451.out 3
  have hns52_1 := NB467_451.out
  have hms52_1 := NB451_467.out
  refine skip_ (w1 := ?_) (by rfl) rfl ?_ ?_
  rotate_left
  ·
   go_simp
   rfl
  refine hK.out _ _ ⟨((cell_far (p := ⟨gb451, _, none⟩) NB467_451.out _).trans (((cell_far (p := ⟨gb451, _, none⟩) NB467_451.out _).trans (((cell_far (p := ⟨gb451, _, none⟩) NB467_451.out _).trans (((cell_far (p := ⟨gb451, _, none⟩) NB467_451.out _).trans (hHeld.1)))))))), ((cell_far (p := ⟨gb451, _, none⟩) NB467_451.out _).trans (((cell_far (p := ⟨gb451, _, none⟩) NB467_451.out _).trans (((cell_far (p := ⟨gb451, _, none⟩) NB467_451.out _).trans (((cell_far (p := ⟨gb451, _, none⟩) NB467_451.out _).trans (hHeld.2.1)))))))), ((cell_far (p := ⟨gb451, _, none⟩) NB467_451.out _).trans (((cell_far (p := ⟨gb451, _, none⟩) NB467_451.out _).trans (((cell_far (p := ⟨gb451, _, none⟩) NB467_451.out _).trans (((cell_far (p := ⟨gb451, _, none⟩) NB467_451.out _).trans (hHeld.2.2.1)))))))), ((cell_far (p := ⟨gb451, _, none⟩) NB467_451.out _).trans (((cell_far (p := ⟨gb451, _, none⟩) NB467_451.out _).trans (((cell_far (p := ⟨gb451, _, none⟩) NB467_451.out _).trans (((cell_far (p := ⟨gb451, _, none⟩) NB467_451.out _).trans (hHeld.2.2.2))))))))⟩ (fun hHeld => ?_)
  clear hK K
  refine done_ (by kernel_rfl) ?_
  try go_wp2
  refine bodyPost_ret (results_tc rfl _ _ gb451 66 #[.slice Ao36 t457.length co36, .int .i64 t460, .slice Ao40 t461.length co40, .int .i64 t480] (0, 0) _ rfl (kp BK451) Try.underlying66 rfl (by kernel_rfl)) rfl ?_
  exact ⟨_, _, _, rA, Kd.R_mono (rf HO454 BK451) (fun _ hk => trivial), Kd.R_mono (rf HO459 BK451) (fun _ hk => hk.1), Kd.R_mono (rf HO463 BK451) (fun _ hk => hk.1), by exact sI1382 HI0.out NB0_451.out NB0_467.out, by exact sB3 HB.out (IsS138.ge HI0.out) GE451.out GE467.out, by exact sK2 HK.out GW451.out GW467.out⟩
 rw [if_neg c29] at H
 have c29b0 : (t468 == 1) = false := beq_eq_false_iff_ne.mpr c29
 have c29b1 : (t468 != 1) = true := bne_iff_ne.mpr c29
 by_cases c53 : t468 = 2
 ·
  rw [if_pos c53] at H
  have c53b0 : (t468 == 2) = true := beq_iff_eq.mpr c53
  have c53b1 : (t468 != 2) = false := bne_eq_false_iff_eq.mpr c53
  clear c53
  obtain ⟨y483, hy483⟩ : ∃ y_ : List Int, y_ = (([1] : List Int)) := ⟨_, rfl⟩
  replace H : (some (t452, t457, t460, y483, t464, t469, t470)) = some (r1, r2, r3, r4, r5, r6, r7) := rH H hy483
  have Ny483 := Aside0.mk hy483
  clear hy483
  simp only [Option.some.injEq, Prod.mk.injEq] at H
  obtain ⟨rfl, rfl, rfl, rfl, rfl, rfl, rfl⟩ := H
  go_enter Try.func136, Try.ntmps136
  try go_wp2_with (first | ((with_reducible refine gate_dst (N := 3) rfl ?_); refine bE (N := 3) (cs := #[.slice none 0 0, .int .i64 0, .slice none 0 0, .int .i64 0]) (t := 66) ?_; intro gb451 hg w54 hbox hb; have n0_ := Aside0.mk (IsS138.below (by exact sI1380 HI0.out) hb); have n1_ := Aside0.mk (KeepBut.trans (by exact sK0 HK.out) (KeepBut.of_below hb g none) (.inl rfl)); have n2_ := Aside0.mk (below_step (by exact sB1 HB.out (IsS138.ge HI0.out)) hb); have n3_ := Aside0.mk (hbox); have n4_ := Aside0.mk ((by rw [hg]; exact (keep_size (w := w) (g := g) (row := none) (by exact sK0 HK.out)) : w.heap.size ≤ gb451)); have n5_ := Aside0.mk ((Nat.le_trans HW0.out (by rw [hg]; exact (keep_size (w := w) (g := g) (row := none) (by exact sK0 HK.out)) : w.heap.size ≤ gb451) : w0.heap.size ≤ gb451)); have n6_ := Aside0.mk ((by rw [hg]; exact Nat.ne_of_lt (IsS138.lt (show IsS138 w0 _ g s0_0 s0_1 s0_2 from by exact sI1380 HI0.out)) : g ≠ gb451)); have n7_ := Aside0.mk ((by rw [hg]; exact Nat.ne_of_gt (IsS138.lt (show IsS138 w0 _ g s0_0 s0_1 s0_2 from by exact sI1380 HI0.out)) : gb451 ≠ g)); clear HI0; clear HK; clear HB; have HI0 := n0_; have HK := n1_; have HB := n2_; have BK451 := n3_; have GW451 := n4_; have GE451 := n5_; have NB0_451 := n6_; have NB451_0 := n7_; clear n0_ n1_ n2_ n3_ n4_ n5_ n6_ n7_; clear hb hbox hg) | ((with_reducible refine gate_callee (f := 125) rfl ?_); refine gL (some 7) Try.func125 #[.pointer (some ⟨g, 0, none⟩)] ?_; (with_reducible refine (spec_l5Any.calls k g s0_0 s0_1 s0_2 t452 t455 t456 w0 _ ?_ ?_ A2.out).mono ?_); exact sI1381 HI0.out NB0_451.out; exact sB2 HB.out (IsS138.ge HI0.out) GE451.out; rintro e w55 ⟨v453, rfl, ho0, hi, hb, hk⟩; refine ⟨_, rfl, ?_⟩; replace BK451 := Aside0.mk (KeepBut.blk hk (g' := gb451) (o := .cells #[.slice none 0 0, .int .i64 0, .slice none 0 0, .int .i64 0] 66 (0, 0)) (bK BK451) NB451_0.out (by simp)); have HO454 := Aside0.mk (Kd.R_lower ho0 (keep_size (w := w) (g := g) (row := none) (by exact sK1 HK.out GW451.out))); replace HK := Aside0.mk (KeepBut.trans (by exact sK1 HK.out GW451.out) hk (.inl rfl)); replace HB := Aside0.mk (hb); replace HI0 := Aside0.mk (hi); (try clear hb); (try clear hk); (try clear hi); (try clear ho0); obtain ⟨Ao56, co56, eo56⟩ := Kd.R_slice HO454.out; subst eo56) | ((with_reducible refine gate_callee (f := 164) rfl ?_); refine gL (some 10) Try.func164 #[.pointer (some ⟨g, 0, none⟩), .slice Ao56 t452.length co56] ?_; (with_reducible refine (spec_l14Draw.calls k g s0_0 t455 t456 _ _ t452 t457 t460 t461 t464 t465 t466 w0 _ ?_ ?_ ?_ ?_ A3.out).mono ?_); exact sI1381 HI0.out NB0_451.out; exact sB2 HB.out (IsS138.ge HI0.out) GE451.out; exact Kd.C_foot_own (IsS138.apart (show IsS138 w0 _ g s0_0 t455 t456 from by exact sI1381 HI0.out NB0_451.out) (rK HO454) (by decide)) (fun _ h_ => h_.2); exact (Kd.R_reads' HO454.out).2.1; rintro e w57 ⟨v458, v462, rfl, ho0, ho1, hi, hb, hk⟩; refine ⟨_, rfl, ?_⟩; replace BK451 := Aside0.mk (KeepBut.blk hk (g' := gb451) (o := .cells #[.slice none 0 0, .int .i64 0, .slice none 0 0, .int .i64 0] 66 (0, 0)) (bK BK451) NB451_0.out (by simp)); replace HO454 := Aside0.mk (Kd.R_mono (Kd.R_keep (IsS138.apart (show IsS138 w0 _ g s0_0 t455 t456 from by exact sI1381 HI0.out NB0_451.out) (rK HO454) (by decide)) hk (fun _ h => h.2)) (fun _ h => h.1)); have HO459 := Aside0.mk (Kd.R_lower ho0 (keep_size (w := w) (g := g) (row := none) (by exact sK1 HK.out GW451.out))); have HO463 := Aside0.mk (Kd.R_lower ho1 (keep_size (w := w) (g := g) (row := none) (by exact sK1 HK.out GW451.out))); replace HK := Aside0.mk (KeepBut.trans (by exact sK1 HK.out GW451.out) hk (.inl rfl)); replace HB := Aside0.mk (hb); replace HI0 := Aside0.mk (hi); (try clear hb); (try clear hk); (try clear hi); (try clear ho0); (try clear ho1)) | ((with_reducible refine gate_dst (N := 5) rfl ?_); refine bE (N := 5) (cs := #[.slice none 0 0, .int .i64 0, .slice none 0 0, .int .i64 0]) (t := 66) ?_; intro gb467 hg w58 hbox hb; have n0_ := rb HO454 hb; have n1_ := rb HO459 hb; have n2_ := rb HO463 hb; have n3_ := Aside0.mk (IsS138.below (by exact sI1381 HI0.out NB0_451.out) hb); have n4_ := kb BK451 hb; have n5_ := Aside0.mk (KeepBut.trans (by exact sK1 HK.out GW451.out) (KeepBut.of_below hb g none) (.inl rfl)); have n6_ := Aside0.mk (below_step (by exact sB2 HB.out (IsS138.ge HI0.out) GE451.out) hb); have n7_ := Aside0.mk (hbox); have n8_ := Aside0.mk ((by rw [hg]; exact (keep_size (w := w) (g := g) (row := none) (by exact sK1 HK.out GW451.out)) : w.heap.size ≤ gb467)); have n9_ := Aside0.mk ((Nat.le_trans HW0.out (by rw [hg]; exact (keep_size (w := w) (g := g) (row := none) (by exact sK1 HK.out GW451.out)) : w.heap.size ≤ gb467) : w0.heap.size ≤ gb467)); have n10_ := nl BK451 hg; have n11_ := nr BK451 hg; have n12_ := Aside0.mk ((by rw [hg]; exact Nat.ne_of_lt (IsS138.lt (show IsS138 w0 _ g s0_0 t465 t466 from by exact sI1381 HI0.out NB0_451.out)) : g ≠ gb467)); have n13_ := Aside0.mk ((by rw [hg]; exact Nat.ne_of_gt (IsS138.lt (show IsS138 w0 _ g s0_0 t465 t466 from by exact sI1381 HI0.out NB0_451.out)) : gb467 ≠ g)); clear HO454; clear HO459; clear HO463; clear HI0; clear BK451; clear HK; clear HB; have HO454 := n0_; have HO459 := n1_; have HO463 := n2_; have HI0 := n3_; have BK451 := n4_; have HK := n5_; have HB := n6_; have BK467 := n7_; have GW467 := n8_; have GE467 := n9_; have NB451_467 := n10_; have NB467_451 := n11_; have NB0_467 := n12_; have NB467_0 := n13_; clear n0_ n1_ n2_ n3_ n4_ n5_ n6_ n7_ n8_ n9_ n10_ n11_ n12_ n13_; clear hb hbox hg; obtain ⟨Ao59, co59, eo59⟩ := Kd.R_slice HO459.out; subst eo59; have hnb60 := NB467_451.out; have hnc60 := NB451_467.out; have hnb61 := NB467_0.out; have hnc61 := NB0_467.out; obtain ⟨_, _, _, _, _, _, _, _⟩ := blkc4 BK467; obtain ⟨Ao63, co63, eo63⟩ := Kd.R_slice HO463.out; subst eo63) | ((with_reducible refine gate_callee (f := 84) rfl ?_); refine gL (some 12) Try.func84 #[.pointer (some ⟨g, 0, none⟩), .int .i64 10] ?_; (with_reducible refine (spec_l1Below.calls g s0_0 t465 t466 10 t468 t469 t470 w0 _ ?_ ?_ A4.out).mono ?_); exact sI1382 HI0.out NB0_451.out NB0_467.out; exact sB3 HB.out (IsS138.ge HI0.out) GE451.out GE467.out; rintro e w64 ⟨rfl, hi, hb, hk⟩; refine ⟨_, rfl, ?_⟩; replace BK451 := Aside0.mk (KeepBut.blk hk (g' := gb451) (o := .cells #[.slice none 0 0, .int .i64 0, .slice none 0 0, .int .i64 0] 66 (0, 0)) (kf BK451 NB451_467) NB451_0.out (by simp)); replace HO454 := Aside0.mk (Kd.R_mono (Kd.R_keep (IsS138.apart (show IsS138 w0 _ g s0_0 t465 t466 from by exact sI1382 HI0.out NB0_451.out NB0_467.out) (rf HO454 BK467) (by decide)) hk (fun _ h => h.2)) (fun _ h => h.1)); replace HO459 := Aside0.mk (Kd.R_mono (Kd.R_keep (IsS138.apart (show IsS138 w0 _ g s0_0 t465 t466 from by exact sI1382 HI0.out NB0_451.out NB0_467.out) (rf HO459 BK467) (by decide)) hk (fun _ h => h.2)) (fun _ h => h.1)); replace HO463 := Aside0.mk (Kd.R_mono (Kd.R_keep (IsS138.apart (show IsS138 w0 _ g s0_0 t465 t466 from by exact sI1382 HI0.out NB0_451.out NB0_467.out) (rf HO463 BK467) (by decide)) hk (fun _ h => h.2)) (fun _ h => h.1)); replace BK467 := Aside0.mk (KeepBut.blk hk (g' := gb467) (o := .cells #[.slice Ao59 t457.length co59, .int .i64 t460, .slice Ao63 t461.length co63, .int .i64 t464] 66 (0, 0)) (kp BK467) NB467_0.out (by simp)); replace HK := Aside0.mk (KeepBut.trans (by exact sK2 HK.out GW451.out GW467.out) hk (.inl rfl)); replace HB := Aside0.mk (hb); replace HI0 := Aside0.mk (hi); (try clear hb); (try clear hk); (try clear hi)) | ((with_reducible refine gate_dst (N := 27) rfl ?_); refine Kd.R_lit (Kd.int .i64) _ 3 ?hg (N := 27) ?hd (xs := ([1] : List Int)) (inner := [.int .i64 1]) (ok := fun _ => True) (okp := fun _ => True) ?hr ?hp (fun _ hk => hk) trivial (Below.refl _ _) (Nat.le_refl _) (by simp) ?_; (case hd => rfl); (case hg => rfl); (case hr => first | (go_simp; done) | (go_simp; rfl)); (case hp => exact (Reps.one (show Kd.M (Kd.int .i64) _ _ _ 1 [.int .i64 1] from rfl) (Reps.none _ _))); intro v484 w65 ho66 hb hg_ hnew_; clear hg_ hnew_; (first | rw [← Ny483.out] at ho66 | (simp only [Int.reduceToNat] at ho66; rw [← Ny483.out] at ho66)); replace HO454 := rb HO454 hb; have HO485 := Aside0.mk (Kd.R_lower (Kd.R_new' (Kd.R_new' ho66 (Kd.R_lt (rK HO459))) (Kd.R_lt (rK HO463))) (keep_size (w := w) (g := g) (row := none) (by exact sK2 HK.out GW451.out GW467.out))); replace HO459 := re HO459 ho66 hb; replace HO463 := re HO463 ho66 hb; replace BK451 := kb BK451 hb; replace BK467 := kb BK467 hb; replace HK := Aside0.mk (KeepBut.trans (by exact sK2 HK.out GW451.out GW467.out) (KeepBut.of_below hb g none) (.inl rfl)); replace HB := Aside0.mk (below_step (by exact sB3 HB.out (IsS138.ge HI0.out) GE451.out GE467.out) hb); replace HI0 := Aside0.mk (IsS138.below (by exact sI1382 HI0.out NB0_451.out NB0_467.out) hb); clear hb ho66; obtain ⟨Ao67, co67, eo67⟩ := Kd.R_slice HO485.out; subst eo67; obtain ⟨_, _, _, _, _, _, _, _⟩ := blkc4 BK467))
  have n0_ : Aside0 (Kd.R k50 50 (w65.setCell ⟨gb467, 2, none⟩ (.slice Ao67 y483.length co67)) w.heap.size (fun _ => True) (.slice Ao56 t452.length co56) t452) := ⟨Kd.R_mono (rf HO454 BK467) (fun _ hk => trivial)⟩
  have n1_ : Aside0 (Kd.R (Kd.int .i64) 3 (w65.setCell ⟨gb467, 2, none⟩ (.slice Ao67 y483.length co67)) w.heap.size (n2 (.slice Ao63 t461.length co63) (.slice Ao67 y483.length co67)) (.slice Ao59 t457.length co59) t457) := ⟨Kd.R_mono (rf HO459 BK467) (fun _ hk => ⟨hk.1, hk.2⟩)⟩
  have n2_ : Aside0 (Kd.R (Kd.int .i64) 3 (w65.setCell ⟨gb467, 2, none⟩ (.slice Ao67 y483.length co67)) w.heap.size (n2 (.slice Ao59 t457.length co59) (.slice Ao67 y483.length co67)) (.slice Ao63 t461.length co63) t461) := ⟨Kd.R_mono (rf HO463 BK467) (fun _ hk => ⟨hk.1, hk.2⟩)⟩
  have n3_ : Aside0 (Kd.R (Kd.int .i64) 3 (w65.setCell ⟨gb467, 2, none⟩ (.slice Ao67 y483.length co67)) w.heap.size (n2 (.slice Ao59 t457.length co59) (.slice Ao63 t461.length co63)) (.slice Ao67 y483.length co67) y483) := ⟨Kd.R_mono (rf HO485 BK467) (fun _ hk => ⟨hk.1.2, hk.2⟩)⟩
  have n4_ : Aside0 ((w65.setCell ⟨gb467, 2, none⟩ (.slice Ao67 y483.length co67)).heap[gb451]? = some (.cells #[.slice none 0 0, .int .i64 0, .slice none 0 0, .int .i64 0] 66 (0, 0))) := ⟨kf BK451 NB451_467⟩
  have n5_ : Aside0 ((w65.setCell ⟨gb467, 2, none⟩ (.slice Ao67 y483.length co67)).heap[gb467]? = some (.cells #[.slice Ao59 t457.length co59, .int .i64 t460, .slice Ao67 y483.length co67, .int .i64 t464] 66 (0, 0))) := ⟨kp BK467⟩
  have n6_ : Aside0 (IsS138 w0 (w65.setCell ⟨gb467, 2, none⟩ (.slice Ao67 y483.length co67)) g s0_0 t469 t470) := ⟨by exact sI1382 HI0.out NB0_451.out NB0_467.out⟩
  have n7_ : Aside0 (KeepBut w (w65.setCell ⟨gb467, 2, none⟩ (.slice Ao67 y483.length co67)) g none) := ⟨by exact sK2 HK.out GW451.out GW467.out⟩
  have n8_ : Aside0 (Below w0.heap.size w0 (w65.setCell ⟨gb467, 2, none⟩ (.slice Ao67 y483.length co67))) := ⟨by exact sB3 HB.out (IsS138.ge HI0.out) GE451.out GE467.out⟩
  (try clear HO454)
  (try clear HO459)
  (try clear HO463)
  (try clear HO485)
  (try clear BK451)
  (try clear BK467)
  (try clear HI0)
  (try clear HK)
  (try clear HB)
  generalize (w65.setCell ⟨gb467, 2, none⟩ (.slice Ao67 y483.length co67)) = w69 at n0_ n1_ n2_ n3_ n4_ n5_ n6_ n7_ n8_ ⊢
  have HO454 := n0_
  have HO459 := n1_
  have HO463 := n2_
  have HO485 := n3_
  have BK451 := n4_
  have BK467 := n5_
  have HI0 := n6_
  have HK := n7_
  have HB := n8_
  clear n0_ n1_ n2_ n3_ n4_ n5_ n6_ n7_ n8_
  replace HO454 := dr HO454
  replace HO459 := dr HO459
  replace HO463 := dr HO463
  replace HO485 := dr HO485
  replace BK451 := dk BK451
  replace BK467 := dk BK467
  replace HI0 := Aside0.mk (IsS138.drew HI0.out)
  replace HK := Aside0.mk (keep_drew HK.out)
  have HBo := HB
  replace HB := db HB
  refine start_ (n := 4) (S := fun w' => w'.cell? ⟨gb467, 0, none⟩ = some (.slice Ao59 t457.length co59) ∧ w'.cell? ⟨gb467, 1, none⟩ = some (.int .i64 t460) ∧ w'.cell? ⟨gb467, 2, none⟩ = some (.slice Ao67 y483.length co67) ∧ w'.cell? ⟨gb467, 3, none⟩ = some (.int .i64 t464)) (ds := []) (mb 4 0) (by kernel_rfl) rfl rfl (cn4 BK467) (fun hHeld => ?_)
  generalize w69.drew = w70 at HO454 HO459 HO463 HO485 BK451 BK467 HI0 HK HB hHeld ⊢
  refine pure_ (i := 0) (N := some 33) (v := ?_) (a' := ?_) (mb 4 1) rfl rfl (by kernel_rfl) (fun _ _ _ h => h) (Or.inl ⟨by rfl, ?_⟩) ?_ ?_
  rotate_left
  ·
   intro w'
   go_simp
   with_reducible rfl
  rotate_left
  ·
   simp only [Act.put, List.setIfInBounds_toArray, List.set_cons_zero, List.set_cons_succ, i64_w, i32_w]
   rfl
  refine pure_ (i := 2) (N := some 2) (v := ?_) (a' := ?_) (mb 4 5) rfl rfl (by kernel_rfl) (fun _ _ _ h => h) (Or.inl ⟨by rfl, ?_⟩) ?_ ?_
  rotate_left
  ·
   intro w'
   go_simp
   with_reducible rfl
  rotate_left
  ·
   simp only [Act.put, List.setIfInBounds_toArray, List.set_cons_zero, List.set_cons_succ, i64_w, i32_w]
   rfl
  refine take_ (i := 1) (N := some 34) (v := ?_) (a' := ?_) (mb 4 7) rfl rfl (by kernel_rfl) (fun _ _ _ h => h) (Or.inl ⟨by rfl, ?_⟩) hHeld ?_ ?_
  rotate_left
  ·
   rintro w' ⟨s0, s1, s2, s3⟩
   go_simp
   with_reducible rfl
  rotate_left
  ·
   simp only [Act.put, List.setIfInBounds_toArray, List.set_cons_zero, List.set_cons_succ, i64_w, i32_w]
   rfl
  refine one_ (i := 3) (N := none) (mb 4 15) rfl rfl (by kernel_rfl) (by decide) (fun K hK => ?_)
  have hs71 : w70.cell? ⟨gb451, 0, none⟩ = some (.slice none 0 0) := bC BK451 0
  have hfs71 := blk_frozen BK451.out 0
  have hns71_1 := NB467_451.out
  have hms71_1 := NB451_467.out
  have hs72 : w70.cell? ⟨gb451, 1, none⟩ = some (.int .i64 0) := bC BK451 1
  have hfs72 := blk_frozen BK451.out 1
  have hns72_1 := NB467_451.out
  have hms72_1 := NB451_467.out
  have hs73 : w70.cell? ⟨gb451, 2, none⟩ = some (.slice none 0 0) := bC BK451 2
  have hfs73 := blk_frozen BK451.out 2
  have hns73_1 := NB467_451.out
  have hms73_1 := NB451_467.out
  have hs74 : w70.cell? ⟨gb451, 3, none⟩ = some (.int .i64 0) := bC BK451 3
  have hfs74 := blk_frozen BK451.out 3
  have hns74_1 := NB467_451.out
  have hms74_1 := NB451_467.out
  refine skip_ (w1 := ?_) (by rfl) rfl ?_ ?_
  rotate_left
  ·
   go_simp
   rfl
  refine hK.out _ _ ⟨((cell_far (p := ⟨gb451, _, none⟩) NB467_451.out _).trans (((cell_far (p := ⟨gb451, _, none⟩) NB467_451.out _).trans (((cell_far (p := ⟨gb451, _, none⟩) NB467_451.out _).trans (((cell_far (p := ⟨gb451, _, none⟩) NB467_451.out _).trans (hHeld.1)))))))), ((cell_far (p := ⟨gb451, _, none⟩) NB467_451.out _).trans (((cell_far (p := ⟨gb451, _, none⟩) NB467_451.out _).trans (((cell_far (p := ⟨gb451, _, none⟩) NB467_451.out _).trans (((cell_far (p := ⟨gb451, _, none⟩) NB467_451.out _).trans (hHeld.2.1)))))))), ((cell_far (p := ⟨gb451, _, none⟩) NB467_451.out _).trans (((cell_far (p := ⟨gb451, _, none⟩) NB467_451.out _).trans (((cell_far (p := ⟨gb451, _, none⟩) NB467_451.out _).trans (((cell_far (p := ⟨gb451, _, none⟩) NB467_451.out _).trans (hHeld.2.2.1)))))))), ((cell_far (p := ⟨gb451, _, none⟩) NB467_451.out _).trans (((cell_far (p := ⟨gb451, _, none⟩) NB467_451.out _).trans (((cell_far (p := ⟨gb451, _, none⟩) NB467_451.out _).trans (((cell_far (p := ⟨gb451, _, none⟩) NB467_451.out _).trans (hHeld.2.2.2))))))))⟩ (fun hHeld => ?_)
  clear hK K
  refine done_ (by kernel_rfl) ?_
  try go_wp2
  refine bodyPost_ret (results_tc rfl _ _ gb451 66 #[.slice Ao59 t457.length co59, .int .i64 t460, .slice Ao67 y483.length co67, .int .i64 t464] (0, 0) _ rfl (kp BK451) Try.underlying66 rfl (by kernel_rfl)) rfl ?_
  exact ⟨_, _, _, rA, Kd.R_mono (rf HO454 BK451) (fun _ hk => trivial), Kd.R_mono (rf HO459 BK451) (fun _ hk => hk.2), Kd.R_mono (rf HO485 BK451) (fun _ hk => hk.1), by exact sI1382 HI0.out NB0_451.out NB0_467.out, by exact sB3 HB.out (IsS138.ge HI0.out) GE451.out GE467.out, by exact sK2 HK.out GW451.out GW467.out⟩
 rw [if_neg c53] at H
 have c53b0 : (t468 == 2) = false := beq_eq_false_iff_ne.mpr c53
 have c53b1 : (t468 != 2) = true := bne_iff_ne.mpr c53
 by_cases c75 : t468 = 3
 ·
  rw [if_pos c75] at H
  have c75b0 : (t468 == 3) = true := beq_iff_eq.mpr c75
  have c75b1 : (t468 != 3) = false := bne_eq_false_iff_eq.mpr c75
  clear c75
  obtain ⟨y486, hy486⟩ : ∃ y_ : List Int, y_ = (([] : List Int)) := ⟨_, rfl⟩
  replace H : (some (t452, y486, t460, t461, t464, t469, t470)) = some (r1, r2, r3, r4, r5, r6, r7) := rH H hy486
  have Ny486 := Aside0.mk hy486
  clear hy486
  simp only [Option.some.injEq, Prod.mk.injEq] at H
  obtain ⟨rfl, rfl, rfl, rfl, rfl, rfl, rfl⟩ := H
  go_enter Try.func136, Try.ntmps136
  try go_wp2_with (first | ((with_reducible refine gate_dst (N := 3) rfl ?_); refine bE (N := 3) (cs := #[.slice none 0 0, .int .i64 0, .slice none 0 0, .int .i64 0]) (t := 66) ?_; intro gb451 hg w76 hbox hb; have n0_ := Aside0.mk (IsS138.below (by exact sI1380 HI0.out) hb); have n1_ := Aside0.mk (KeepBut.trans (by exact sK0 HK.out) (KeepBut.of_below hb g none) (.inl rfl)); have n2_ := Aside0.mk (below_step (by exact sB1 HB.out (IsS138.ge HI0.out)) hb); have n3_ := Aside0.mk (hbox); have n4_ := Aside0.mk ((by rw [hg]; exact (keep_size (w := w) (g := g) (row := none) (by exact sK0 HK.out)) : w.heap.size ≤ gb451)); have n5_ := Aside0.mk ((Nat.le_trans HW0.out (by rw [hg]; exact (keep_size (w := w) (g := g) (row := none) (by exact sK0 HK.out)) : w.heap.size ≤ gb451) : w0.heap.size ≤ gb451)); have n6_ := Aside0.mk ((by rw [hg]; exact Nat.ne_of_lt (IsS138.lt (show IsS138 w0 _ g s0_0 s0_1 s0_2 from by exact sI1380 HI0.out)) : g ≠ gb451)); have n7_ := Aside0.mk ((by rw [hg]; exact Nat.ne_of_gt (IsS138.lt (show IsS138 w0 _ g s0_0 s0_1 s0_2 from by exact sI1380 HI0.out)) : gb451 ≠ g)); clear HI0; clear HK; clear HB; have HI0 := n0_; have HK := n1_; have HB := n2_; have BK451 := n3_; have GW451 := n4_; have GE451 := n5_; have NB0_451 := n6_; have NB451_0 := n7_; clear n0_ n1_ n2_ n3_ n4_ n5_ n6_ n7_; clear hb hbox hg) | ((with_reducible refine gate_callee (f := 125) rfl ?_); refine gL (some 7) Try.func125 #[.pointer (some ⟨g, 0, none⟩)] ?_; (with_reducible refine (spec_l5Any.calls k g s0_0 s0_1 s0_2 t452 t455 t456 w0 _ ?_ ?_ A2.out).mono ?_); exact sI1381 HI0.out NB0_451.out; exact sB2 HB.out (IsS138.ge HI0.out) GE451.out; rintro e w77 ⟨v453, rfl, ho0, hi, hb, hk⟩; refine ⟨_, rfl, ?_⟩; replace BK451 := Aside0.mk (KeepBut.blk hk (g' := gb451) (o := .cells #[.slice none 0 0, .int .i64 0, .slice none 0 0, .int .i64 0] 66 (0, 0)) (bK BK451) NB451_0.out (by simp)); have HO454 := Aside0.mk (Kd.R_lower ho0 (keep_size (w := w) (g := g) (row := none) (by exact sK1 HK.out GW451.out))); replace HK := Aside0.mk (KeepBut.trans (by exact sK1 HK.out GW451.out) hk (.inl rfl)); replace HB := Aside0.mk (hb); replace HI0 := Aside0.mk (hi); (try clear hb); (try clear hk); (try clear hi); (try clear ho0); obtain ⟨Ao78, co78, eo78⟩ := Kd.R_slice HO454.out; subst eo78) | ((with_reducible refine gate_callee (f := 164) rfl ?_); refine gL (some 10) Try.func164 #[.pointer (some ⟨g, 0, none⟩), .slice Ao78 t452.length co78] ?_; (with_reducible refine (spec_l14Draw.calls k g s0_0 t455 t456 _ _ t452 t457 t460 t461 t464 t465 t466 w0 _ ?_ ?_ ?_ ?_ A3.out).mono ?_); exact sI1381 HI0.out NB0_451.out; exact sB2 HB.out (IsS138.ge HI0.out) GE451.out; exact Kd.C_foot_own (IsS138.apart (show IsS138 w0 _ g s0_0 t455 t456 from by exact sI1381 HI0.out NB0_451.out) (rK HO454) (by decide)) (fun _ h_ => h_.2); exact (Kd.R_reads' HO454.out).2.1; rintro e w79 ⟨v458, v462, rfl, ho0, ho1, hi, hb, hk⟩; refine ⟨_, rfl, ?_⟩; replace BK451 := Aside0.mk (KeepBut.blk hk (g' := gb451) (o := .cells #[.slice none 0 0, .int .i64 0, .slice none 0 0, .int .i64 0] 66 (0, 0)) (bK BK451) NB451_0.out (by simp)); replace HO454 := Aside0.mk (Kd.R_mono (Kd.R_keep (IsS138.apart (show IsS138 w0 _ g s0_0 t455 t456 from by exact sI1381 HI0.out NB0_451.out) (rK HO454) (by decide)) hk (fun _ h => h.2)) (fun _ h => h.1)); have HO459 := Aside0.mk (Kd.R_lower ho0 (keep_size (w := w) (g := g) (row := none) (by exact sK1 HK.out GW451.out))); have HO463 := Aside0.mk (Kd.R_lower ho1 (keep_size (w := w) (g := g) (row := none) (by exact sK1 HK.out GW451.out))); replace HK := Aside0.mk (KeepBut.trans (by exact sK1 HK.out GW451.out) hk (.inl rfl)); replace HB := Aside0.mk (hb); replace HI0 := Aside0.mk (hi); (try clear hb); (try clear hk); (try clear hi); (try clear ho0); (try clear ho1)) | ((with_reducible refine gate_dst (N := 5) rfl ?_); refine bE (N := 5) (cs := #[.slice none 0 0, .int .i64 0, .slice none 0 0, .int .i64 0]) (t := 66) ?_; intro gb467 hg w80 hbox hb; have n0_ := rb HO454 hb; have n1_ := rb HO459 hb; have n2_ := rb HO463 hb; have n3_ := Aside0.mk (IsS138.below (by exact sI1381 HI0.out NB0_451.out) hb); have n4_ := kb BK451 hb; have n5_ := Aside0.mk (KeepBut.trans (by exact sK1 HK.out GW451.out) (KeepBut.of_below hb g none) (.inl rfl)); have n6_ := Aside0.mk (below_step (by exact sB2 HB.out (IsS138.ge HI0.out) GE451.out) hb); have n7_ := Aside0.mk (hbox); have n8_ := Aside0.mk ((by rw [hg]; exact (keep_size (w := w) (g := g) (row := none) (by exact sK1 HK.out GW451.out)) : w.heap.size ≤ gb467)); have n9_ := Aside0.mk ((Nat.le_trans HW0.out (by rw [hg]; exact (keep_size (w := w) (g := g) (row := none) (by exact sK1 HK.out GW451.out)) : w.heap.size ≤ gb467) : w0.heap.size ≤ gb467)); have n10_ := nl BK451 hg; have n11_ := nr BK451 hg; have n12_ := Aside0.mk ((by rw [hg]; exact Nat.ne_of_lt (IsS138.lt (show IsS138 w0 _ g s0_0 t465 t466 from by exact sI1381 HI0.out NB0_451.out)) : g ≠ gb467)); have n13_ := Aside0.mk ((by rw [hg]; exact Nat.ne_of_gt (IsS138.lt (show IsS138 w0 _ g s0_0 t465 t466 from by exact sI1381 HI0.out NB0_451.out)) : gb467 ≠ g)); clear HO454; clear HO459; clear HO463; clear HI0; clear BK451; clear HK; clear HB; have HO454 := n0_; have HO459 := n1_; have HO463 := n2_; have HI0 := n3_; have BK451 := n4_; have HK := n5_; have HB := n6_; have BK467 := n7_; have GW467 := n8_; have GE467 := n9_; have NB451_467 := n10_; have NB467_451 := n11_; have NB0_467 := n12_; have NB467_0 := n13_; clear n0_ n1_ n2_ n3_ n4_ n5_ n6_ n7_ n8_ n9_ n10_ n11_ n12_ n13_; clear hb hbox hg; obtain ⟨Ao81, co81, eo81⟩ := Kd.R_slice HO459.out; subst eo81; have hnb82 := NB467_451.out; have hnc82 := NB451_467.out; have hnb83 := NB467_0.out; have hnc83 := NB0_467.out; obtain ⟨_, _, _, _, _, _, _, _⟩ := blkc4 BK467; obtain ⟨Ao85, co85, eo85⟩ := Kd.R_slice HO463.out; subst eo85) | ((with_reducible refine gate_callee (f := 84) rfl ?_); refine gL (some 12) Try.func84 #[.pointer (some ⟨g, 0, none⟩), .int .i64 10] ?_; (with_reducible refine (spec_l1Below.calls g s0_0 t465 t466 10 t468 t469 t470 w0 _ ?_ ?_ A4.out).mono ?_); exact sI1382 HI0.out NB0_451.out NB0_467.out; exact sB3 HB.out (IsS138.ge HI0.out) GE451.out GE467.out; rintro e w86 ⟨rfl, hi, hb, hk⟩; refine ⟨_, rfl, ?_⟩; replace BK451 := Aside0.mk (KeepBut.blk hk (g' := gb451) (o := .cells #[.slice none 0 0, .int .i64 0, .slice none 0 0, .int .i64 0] 66 (0, 0)) (kf BK451 NB451_467) NB451_0.out (by simp)); replace HO454 := Aside0.mk (Kd.R_mono (Kd.R_keep (IsS138.apart (show IsS138 w0 _ g s0_0 t465 t466 from by exact sI1382 HI0.out NB0_451.out NB0_467.out) (rf HO454 BK467) (by decide)) hk (fun _ h => h.2)) (fun _ h => h.1)); replace HO459 := Aside0.mk (Kd.R_mono (Kd.R_keep (IsS138.apart (show IsS138 w0 _ g s0_0 t465 t466 from by exact sI1382 HI0.out NB0_451.out NB0_467.out) (rf HO459 BK467) (by decide)) hk (fun _ h => h.2)) (fun _ h => h.1)); replace HO463 := Aside0.mk (Kd.R_mono (Kd.R_keep (IsS138.apart (show IsS138 w0 _ g s0_0 t465 t466 from by exact sI1382 HI0.out NB0_451.out NB0_467.out) (rf HO463 BK467) (by decide)) hk (fun _ h => h.2)) (fun _ h => h.1)); replace BK467 := Aside0.mk (KeepBut.blk hk (g' := gb467) (o := .cells #[.slice Ao81 t457.length co81, .int .i64 t460, .slice Ao85 t461.length co85, .int .i64 t464] 66 (0, 0)) (kp BK467) NB467_0.out (by simp)); replace HK := Aside0.mk (KeepBut.trans (by exact sK2 HK.out GW451.out GW467.out) hk (.inl rfl)); replace HB := Aside0.mk (hb); replace HI0 := Aside0.mk (hi); (try clear hb); (try clear hk); (try clear hi)) | ((with_reducible refine gate_dst (N := 31) rfl ?_); refine Kd.R_lit (Kd.int .i64) _ 3 ?hg (N := 31) ?hd (xs := ([] : List Int)) (inner := []) (ok := fun _ => True) (okp := fun _ => True) ?hr ?hp (fun _ hk => hk) trivial (Below.refl _ _) (Nat.le_refl _) (by simp) ?_; (case hd => rfl); (case hg => rfl); (case hr => first | (go_simp; done) | (go_simp; rfl)); (case hp => exact (Reps.none _ _)); intro v487 w87 ho88 hb hg_ hnew_; clear hg_ hnew_; (first | rw [← Ny486.out] at ho88 | (simp only [Int.reduceToNat] at ho88; rw [← Ny486.out] at ho88)); replace HO454 := rb HO454 hb; have HO488 := Aside0.mk (Kd.R_lower (Kd.R_new' (Kd.R_new' ho88 (Kd.R_lt (rK HO459))) (Kd.R_lt (rK HO463))) (keep_size (w := w) (g := g) (row := none) (by exact sK2 HK.out GW451.out GW467.out))); replace HO459 := re HO459 ho88 hb; replace HO463 := re HO463 ho88 hb; replace BK451 := kb BK451 hb; replace BK467 := kb BK467 hb; replace HK := Aside0.mk (KeepBut.trans (by exact sK2 HK.out GW451.out GW467.out) (KeepBut.of_below hb g none) (.inl rfl)); replace HB := Aside0.mk (below_step (by exact sB3 HB.out (IsS138.ge HI0.out) GE451.out GE467.out) hb); replace HI0 := Aside0.mk (IsS138.below (by exact sI1382 HI0.out NB0_451.out NB0_467.out) hb); clear hb ho88; obtain ⟨Ao89, co89, eo89⟩ := Kd.R_slice HO488.out; subst eo89; obtain ⟨_, _, _, _, _, _, _, _⟩ := blkc4 BK467))
  have n0_ : Aside0 (Kd.R k50 50 (w87.setCell ⟨gb467, 0, none⟩ (.slice Ao89 y486.length co89)) w.heap.size (fun _ => True) (.slice Ao78 t452.length co78) t452) := ⟨Kd.R_mono (rf HO454 BK467) (fun _ hk => trivial)⟩
  have n1_ : Aside0 (Kd.R (Kd.int .i64) 3 (w87.setCell ⟨gb467, 0, none⟩ (.slice Ao89 y486.length co89)) w.heap.size (n2 (.slice Ao85 t461.length co85) (.slice Ao89 y486.length co89)) (.slice Ao81 t457.length co81) t457) := ⟨Kd.R_mono (rf HO459 BK467) (fun _ hk => ⟨hk.1, hk.2⟩)⟩
  have n2_ : Aside0 (Kd.R (Kd.int .i64) 3 (w87.setCell ⟨gb467, 0, none⟩ (.slice Ao89 y486.length co89)) w.heap.size (n2 (.slice Ao81 t457.length co81) (.slice Ao89 y486.length co89)) (.slice Ao85 t461.length co85) t461) := ⟨Kd.R_mono (rf HO463 BK467) (fun _ hk => ⟨hk.1, hk.2⟩)⟩
  have n3_ : Aside0 (Kd.R (Kd.int .i64) 3 (w87.setCell ⟨gb467, 0, none⟩ (.slice Ao89 y486.length co89)) w.heap.size (n2 (.slice Ao81 t457.length co81) (.slice Ao85 t461.length co85)) (.slice Ao89 y486.length co89) y486) := ⟨Kd.R_mono (rf HO488 BK467) (fun _ hk => ⟨hk.1.2, hk.2⟩)⟩
  have n4_ : Aside0 ((w87.setCell ⟨gb467, 0, none⟩ (.slice Ao89 y486.length co89)).heap[gb451]? = some (.cells #[.slice none 0 0, .int .i64 0, .slice none 0 0, .int .i64 0] 66 (0, 0))) := ⟨kf BK451 NB451_467⟩
  have n5_ : Aside0 ((w87.setCell ⟨gb467, 0, none⟩ (.slice Ao89 y486.length co89)).heap[gb467]? = some (.cells #[.slice Ao89 y486.length co89, .int .i64 t460, .slice Ao85 t461.length co85, .int .i64 t464] 66 (0, 0))) := ⟨kp BK467⟩
  have n6_ : Aside0 (IsS138 w0 (w87.setCell ⟨gb467, 0, none⟩ (.slice Ao89 y486.length co89)) g s0_0 t469 t470) := ⟨by exact sI1382 HI0.out NB0_451.out NB0_467.out⟩
  have n7_ : Aside0 (KeepBut w (w87.setCell ⟨gb467, 0, none⟩ (.slice Ao89 y486.length co89)) g none) := ⟨by exact sK2 HK.out GW451.out GW467.out⟩
  have n8_ : Aside0 (Below w0.heap.size w0 (w87.setCell ⟨gb467, 0, none⟩ (.slice Ao89 y486.length co89))) := ⟨by exact sB3 HB.out (IsS138.ge HI0.out) GE451.out GE467.out⟩
  (try clear HO454)
  (try clear HO459)
  (try clear HO463)
  (try clear HO488)
  (try clear BK451)
  (try clear BK467)
  (try clear HI0)
  (try clear HK)
  (try clear HB)
  generalize (w87.setCell ⟨gb467, 0, none⟩ (.slice Ao89 y486.length co89)) = w91 at n0_ n1_ n2_ n3_ n4_ n5_ n6_ n7_ n8_ ⊢
  have HO454 := n0_
  have HO459 := n1_
  have HO463 := n2_
  have HO488 := n3_
  have BK451 := n4_
  have BK467 := n5_
  have HI0 := n6_
  have HK := n7_
  have HB := n8_
  clear n0_ n1_ n2_ n3_ n4_ n5_ n6_ n7_ n8_
  replace HO454 := dr HO454
  replace HO459 := dr HO459
  replace HO463 := dr HO463
  replace HO488 := dr HO488
  replace BK451 := dk BK451
  replace BK467 := dk BK467
  replace HI0 := Aside0.mk (IsS138.drew HI0.out)
  replace HK := Aside0.mk (keep_drew HK.out)
  have HBo := HB
  replace HB := db HB
  refine start_ (n := 4) (S := fun w' => w'.cell? ⟨gb467, 0, none⟩ = some (.slice Ao89 y486.length co89) ∧ w'.cell? ⟨gb467, 1, none⟩ = some (.int .i64 t460) ∧ w'.cell? ⟨gb467, 2, none⟩ = some (.slice Ao85 t461.length co85) ∧ w'.cell? ⟨gb467, 3, none⟩ = some (.int .i64 t464)) (ds := []) (mb 4 0) (by kernel_rfl) rfl rfl (cn4 BK467) (fun hHeld => ?_)
  generalize w91.drew = w92 at HO454 HO459 HO463 HO488 BK451 BK467 HI0 HK HB hHeld ⊢
  refine pure_ (i := 0) (N := some 33) (v := ?_) (a' := ?_) (mb 4 1) rfl rfl (by kernel_rfl) (fun _ _ _ h => h) (Or.inl ⟨by rfl, ?_⟩) ?_ ?_
  rotate_left
  ·
   intro w'
   go_simp
   with_reducible rfl
  rotate_left
  ·
   simp only [Act.put, List.setIfInBounds_toArray, List.set_cons_zero, List.set_cons_succ, i64_w, i32_w]
   rfl
  refine pure_ (i := 2) (N := some 2) (v := ?_) (a' := ?_) (mb 4 5) rfl rfl (by kernel_rfl) (fun _ _ _ h => h) (Or.inl ⟨by rfl, ?_⟩) ?_ ?_
  rotate_left
  ·
   intro w'
   go_simp
   with_reducible rfl
  rotate_left
  ·
   simp only [Act.put, List.setIfInBounds_toArray, List.set_cons_zero, List.set_cons_succ, i64_w, i32_w]
   rfl
  refine take_ (i := 1) (N := some 34) (v := ?_) (a' := ?_) (mb 4 7) rfl rfl (by kernel_rfl) (fun _ _ _ h => h) (Or.inl ⟨by rfl, ?_⟩) hHeld ?_ ?_
  rotate_left
  ·
   rintro w' ⟨s0, s1, s2, s3⟩
   go_simp
   with_reducible rfl
  rotate_left
  ·
   simp only [Act.put, List.setIfInBounds_toArray, List.set_cons_zero, List.set_cons_succ, i64_w, i32_w]
   rfl
  refine one_ (i := 3) (N := none) (mb 4 15) rfl rfl (by kernel_rfl) (by decide) (fun K hK => ?_)
  have hs93 : w92.cell? ⟨gb451, 0, none⟩ = some (.slice none 0 0) := bC BK451 0
  have hfs93 := blk_frozen BK451.out 0
  have hns93_1 := NB467_451.out
  have hms93_1 := NB451_467.out
  have hs94 : w92.cell? ⟨gb451, 1, none⟩ = some (.int .i64 0) := bC BK451 1
  have hfs94 := blk_frozen BK451.out 1
  have hns94_1 := NB467_451.out
  have hms94_1 := NB451_467.out
  have hs95 : w92.cell? ⟨gb451, 2, none⟩ = some (.slice none 0 0) := bC BK451 2
  have hfs95 := blk_frozen BK451.out 2
  have hns95_1 := NB467_451.out
  have hms95_1 := NB451_467.out
  have hs96 : w92.cell? ⟨gb451, 3, none⟩ = some (.int .i64 0) := bC BK451 3
  have hfs96 := blk_frozen BK451.out 3
  have hns96_1 := NB467_451.out
  have hms96_1 := NB451_467.out
  refine skip_ (w1 := ?_) (by rfl) rfl ?_ ?_
  rotate_left
  ·
   go_simp
   rfl
  refine hK.out _ _ ⟨((cell_far (p := ⟨gb451, _, none⟩) NB467_451.out _).trans (((cell_far (p := ⟨gb451, _, none⟩) NB467_451.out _).trans (((cell_far (p := ⟨gb451, _, none⟩) NB467_451.out _).trans (((cell_far (p := ⟨gb451, _, none⟩) NB467_451.out _).trans (hHeld.1)))))))), ((cell_far (p := ⟨gb451, _, none⟩) NB467_451.out _).trans (((cell_far (p := ⟨gb451, _, none⟩) NB467_451.out _).trans (((cell_far (p := ⟨gb451, _, none⟩) NB467_451.out _).trans (((cell_far (p := ⟨gb451, _, none⟩) NB467_451.out _).trans (hHeld.2.1)))))))), ((cell_far (p := ⟨gb451, _, none⟩) NB467_451.out _).trans (((cell_far (p := ⟨gb451, _, none⟩) NB467_451.out _).trans (((cell_far (p := ⟨gb451, _, none⟩) NB467_451.out _).trans (((cell_far (p := ⟨gb451, _, none⟩) NB467_451.out _).trans (hHeld.2.2.1)))))))), ((cell_far (p := ⟨gb451, _, none⟩) NB467_451.out _).trans (((cell_far (p := ⟨gb451, _, none⟩) NB467_451.out _).trans (((cell_far (p := ⟨gb451, _, none⟩) NB467_451.out _).trans (((cell_far (p := ⟨gb451, _, none⟩) NB467_451.out _).trans (hHeld.2.2.2))))))))⟩ (fun hHeld => ?_)
  clear hK K
  refine done_ (by kernel_rfl) ?_
  try go_wp2
  refine bodyPost_ret (results_tc rfl _ _ gb451 66 #[.slice Ao89 y486.length co89, .int .i64 t460, .slice Ao85 t461.length co85, .int .i64 t464] (0, 0) _ rfl (kp BK451) Try.underlying66 rfl (by kernel_rfl)) rfl ?_
  exact ⟨_, _, _, rA, Kd.R_mono (rf HO454 BK451) (fun _ hk => trivial), Kd.R_mono (rf HO488 BK451) (fun _ hk => hk.2), Kd.R_mono (rf HO463 BK451) (fun _ hk => hk.2), by exact sI1382 HI0.out NB0_451.out NB0_467.out, by exact sB3 HB.out (IsS138.ge HI0.out) GE451.out GE467.out, by exact sK2 HK.out GW451.out GW467.out⟩
 rw [if_neg c75] at H
 have c75b0 : (t468 == 3) = false := beq_eq_false_iff_ne.mpr c75
 have c75b1 : (t468 != 3) = true := bne_iff_ne.mpr c75
 simp only [Option.some.injEq, Prod.mk.injEq] at H
 obtain ⟨rfl, rfl, rfl, rfl, rfl, rfl, rfl⟩ := H
 go_enter Try.func136, Try.ntmps136
 try go_wp2_with (first | ((with_reducible refine gate_dst (N := 3) rfl ?_); refine bE (N := 3) (cs := #[.slice none 0 0, .int .i64 0, .slice none 0 0, .int .i64 0]) (t := 66) ?_; intro gb451 hg w97 hbox hb; have n0_ := Aside0.mk (IsS138.below (by exact sI1380 HI0.out) hb); have n1_ := Aside0.mk (KeepBut.trans (by exact sK0 HK.out) (KeepBut.of_below hb g none) (.inl rfl)); have n2_ := Aside0.mk (below_step (by exact sB1 HB.out (IsS138.ge HI0.out)) hb); have n3_ := Aside0.mk (hbox); have n4_ := Aside0.mk ((by rw [hg]; exact (keep_size (w := w) (g := g) (row := none) (by exact sK0 HK.out)) : w.heap.size ≤ gb451)); have n5_ := Aside0.mk ((Nat.le_trans HW0.out (by rw [hg]; exact (keep_size (w := w) (g := g) (row := none) (by exact sK0 HK.out)) : w.heap.size ≤ gb451) : w0.heap.size ≤ gb451)); have n6_ := Aside0.mk ((by rw [hg]; exact Nat.ne_of_lt (IsS138.lt (show IsS138 w0 _ g s0_0 s0_1 s0_2 from by exact sI1380 HI0.out)) : g ≠ gb451)); have n7_ := Aside0.mk ((by rw [hg]; exact Nat.ne_of_gt (IsS138.lt (show IsS138 w0 _ g s0_0 s0_1 s0_2 from by exact sI1380 HI0.out)) : gb451 ≠ g)); clear HI0; clear HK; clear HB; have HI0 := n0_; have HK := n1_; have HB := n2_; have BK451 := n3_; have GW451 := n4_; have GE451 := n5_; have NB0_451 := n6_; have NB451_0 := n7_; clear n0_ n1_ n2_ n3_ n4_ n5_ n6_ n7_; clear hb hbox hg) | ((with_reducible refine gate_callee (f := 125) rfl ?_); refine gL (some 7) Try.func125 #[.pointer (some ⟨g, 0, none⟩)] ?_; (with_reducible refine (spec_l5Any.calls k g s0_0 s0_1 s0_2 t452 t455 t456 w0 _ ?_ ?_ A2.out).mono ?_); exact sI1381 HI0.out NB0_451.out; exact sB2 HB.out (IsS138.ge HI0.out) GE451.out; rintro e w98 ⟨v453, rfl, ho0, hi, hb, hk⟩; refine ⟨_, rfl, ?_⟩; replace BK451 := Aside0.mk (KeepBut.blk hk (g' := gb451) (o := .cells #[.slice none 0 0, .int .i64 0, .slice none 0 0, .int .i64 0] 66 (0, 0)) (bK BK451) NB451_0.out (by simp)); have HO454 := Aside0.mk (Kd.R_lower ho0 (keep_size (w := w) (g := g) (row := none) (by exact sK1 HK.out GW451.out))); replace HK := Aside0.mk (KeepBut.trans (by exact sK1 HK.out GW451.out) hk (.inl rfl)); replace HB := Aside0.mk (hb); replace HI0 := Aside0.mk (hi); (try clear hb); (try clear hk); (try clear hi); (try clear ho0); obtain ⟨Ao99, co99, eo99⟩ := Kd.R_slice HO454.out; subst eo99) | ((with_reducible refine gate_callee (f := 164) rfl ?_); refine gL (some 10) Try.func164 #[.pointer (some ⟨g, 0, none⟩), .slice Ao99 t452.length co99] ?_; (with_reducible refine (spec_l14Draw.calls k g s0_0 t455 t456 _ _ t452 t457 t460 t461 t464 t465 t466 w0 _ ?_ ?_ ?_ ?_ A3.out).mono ?_); exact sI1381 HI0.out NB0_451.out; exact sB2 HB.out (IsS138.ge HI0.out) GE451.out; exact Kd.C_foot_own (IsS138.apart (show IsS138 w0 _ g s0_0 t455 t456 from by exact sI1381 HI0.out NB0_451.out) (rK HO454) (by decide)) (fun _ h_ => h_.2); exact (Kd.R_reads' HO454.out).2.1; rintro e w100 ⟨v458, v462, rfl, ho0, ho1, hi, hb, hk⟩; refine ⟨_, rfl, ?_⟩; replace BK451 := Aside0.mk (KeepBut.blk hk (g' := gb451) (o := .cells #[.slice none 0 0, .int .i64 0, .slice none 0 0, .int .i64 0] 66 (0, 0)) (bK BK451) NB451_0.out (by simp)); replace HO454 := Aside0.mk (Kd.R_mono (Kd.R_keep (IsS138.apart (show IsS138 w0 _ g s0_0 t455 t456 from by exact sI1381 HI0.out NB0_451.out) (rK HO454) (by decide)) hk (fun _ h => h.2)) (fun _ h => h.1)); have HO459 := Aside0.mk (Kd.R_lower ho0 (keep_size (w := w) (g := g) (row := none) (by exact sK1 HK.out GW451.out))); have HO463 := Aside0.mk (Kd.R_lower ho1 (keep_size (w := w) (g := g) (row := none) (by exact sK1 HK.out GW451.out))); replace HK := Aside0.mk (KeepBut.trans (by exact sK1 HK.out GW451.out) hk (.inl rfl)); replace HB := Aside0.mk (hb); replace HI0 := Aside0.mk (hi); (try clear hb); (try clear hk); (try clear hi); (try clear ho0); (try clear ho1)) | ((with_reducible refine gate_dst (N := 5) rfl ?_); refine bE (N := 5) (cs := #[.slice none 0 0, .int .i64 0, .slice none 0 0, .int .i64 0]) (t := 66) ?_; intro gb467 hg w101 hbox hb; have n0_ := rb HO454 hb; have n1_ := rb HO459 hb; have n2_ := rb HO463 hb; have n3_ := Aside0.mk (IsS138.below (by exact sI1381 HI0.out NB0_451.out) hb); have n4_ := kb BK451 hb; have n5_ := Aside0.mk (KeepBut.trans (by exact sK1 HK.out GW451.out) (KeepBut.of_below hb g none) (.inl rfl)); have n6_ := Aside0.mk (below_step (by exact sB2 HB.out (IsS138.ge HI0.out) GE451.out) hb); have n7_ := Aside0.mk (hbox); have n8_ := Aside0.mk ((by rw [hg]; exact (keep_size (w := w) (g := g) (row := none) (by exact sK1 HK.out GW451.out)) : w.heap.size ≤ gb467)); have n9_ := Aside0.mk ((Nat.le_trans HW0.out (by rw [hg]; exact (keep_size (w := w) (g := g) (row := none) (by exact sK1 HK.out GW451.out)) : w.heap.size ≤ gb467) : w0.heap.size ≤ gb467)); have n10_ := nl BK451 hg; have n11_ := nr BK451 hg; have n12_ := Aside0.mk ((by rw [hg]; exact Nat.ne_of_lt (IsS138.lt (show IsS138 w0 _ g s0_0 t465 t466 from by exact sI1381 HI0.out NB0_451.out)) : g ≠ gb467)); have n13_ := Aside0.mk ((by rw [hg]; exact Nat.ne_of_gt (IsS138.lt (show IsS138 w0 _ g s0_0 t465 t466 from by exact sI1381 HI0.out NB0_451.out)) : gb467 ≠ g)); clear HO454; clear HO459; clear HO463; clear HI0; clear BK451; clear HK; clear HB; have HO454 := n0_; have HO459 := n1_; have HO463 := n2_; have HI0 := n3_; have BK451 := n4_; have HK := n5_; have HB := n6_; have BK467 := n7_; have GW467 := n8_; have GE467 := n9_; have NB451_467 := n10_; have NB467_451 := n11_; have NB0_467 := n12_; have NB467_0 := n13_; clear n0_ n1_ n2_ n3_ n4_ n5_ n6_ n7_ n8_ n9_ n10_ n11_ n12_ n13_; clear hb hbox hg; obtain ⟨Ao102, co102, eo102⟩ := Kd.R_slice HO459.out; subst eo102; have hnb103 := NB467_451.out; have hnc103 := NB451_467.out; have hnb104 := NB467_0.out; have hnc104 := NB0_467.out; obtain ⟨_, _, _, _, _, _, _, _⟩ := blkc4 BK467; obtain ⟨Ao106, co106, eo106⟩ := Kd.R_slice HO463.out; subst eo106) | ((with_reducible refine gate_callee (f := 84) rfl ?_); refine gL (some 12) Try.func84 #[.pointer (some ⟨g, 0, none⟩), .int .i64 10] ?_; (with_reducible refine (spec_l1Below.calls g s0_0 t465 t466 10 t468 t469 t470 w0 _ ?_ ?_ A4.out).mono ?_); exact sI1382 HI0.out NB0_451.out NB0_467.out; exact sB3 HB.out (IsS138.ge HI0.out) GE451.out GE467.out; rintro e w107 ⟨rfl, hi, hb, hk⟩; refine ⟨_, rfl, ?_⟩; replace BK451 := Aside0.mk (KeepBut.blk hk (g' := gb451) (o := .cells #[.slice none 0 0, .int .i64 0, .slice none 0 0, .int .i64 0] 66 (0, 0)) (kf BK451 NB451_467) NB451_0.out (by simp)); replace HO454 := Aside0.mk (Kd.R_mono (Kd.R_keep (IsS138.apart (show IsS138 w0 _ g s0_0 t465 t466 from by exact sI1382 HI0.out NB0_451.out NB0_467.out) (rf HO454 BK467) (by decide)) hk (fun _ h => h.2)) (fun _ h => h.1)); replace HO459 := Aside0.mk (Kd.R_mono (Kd.R_keep (IsS138.apart (show IsS138 w0 _ g s0_0 t465 t466 from by exact sI1382 HI0.out NB0_451.out NB0_467.out) (rf HO459 BK467) (by decide)) hk (fun _ h => h.2)) (fun _ h => h.1)); replace HO463 := Aside0.mk (Kd.R_mono (Kd.R_keep (IsS138.apart (show IsS138 w0 _ g s0_0 t465 t466 from by exact sI1382 HI0.out NB0_451.out NB0_467.out) (rf HO463 BK467) (by decide)) hk (fun _ h => h.2)) (fun _ h => h.1)); replace BK467 := Aside0.mk (KeepBut.blk hk (g' := gb467) (o := .cells #[.slice Ao102 t457.length co102, .int .i64 t460, .slice Ao106 t461.length co106, .int .i64 t464] 66 (0, 0)) (kp BK467) NB467_0.out (by simp)); replace HK := Aside0.mk (KeepBut.trans (by exact sK2 HK.out GW451.out GW467.out) hk (.inl rfl)); replace HB := Aside0.mk (hb); replace HI0 := Aside0.mk (hi); (try clear hb); (try clear hk); (try clear hi)))
 replace HO454 := dr HO454
 replace HO459 := dr HO459
 replace HO463 := dr HO463
 replace BK451 := dk BK451
 replace BK467 := dk BK467
 replace HI0 := Aside0.mk (IsS138.drew HI0.out)
 replace HK := Aside0.mk (keep_drew HK.out)
 have HBo := HB
 replace HB := db HB
 refine start_ (n := 4) (S := fun w' => w'.cell? ⟨gb467, 0, none⟩ = some (.slice Ao102 t457.length co102) ∧ w'.cell? ⟨gb467, 1, none⟩ = some (.int .i64 t460) ∧ w'.cell? ⟨gb467, 2, none⟩ = some (.slice Ao106 t461.length co106) ∧ w'.cell? ⟨gb467, 3, none⟩ = some (.int .i64 t464)) (ds := []) (mb 4 0) (by kernel_rfl) rfl rfl (cn4 BK467) (fun hHeld => ?_)
 generalize w107.drew = w108 at HO454 HO459 HO463 BK451 BK467 HI0 HK HB hHeld ⊢
 refine pure_ (i := 0) (N := some 33) (v := ?_) (a' := ?_) (mb 4 1) rfl rfl (by kernel_rfl) (fun _ _ _ h => h) (Or.inl ⟨by rfl, ?_⟩) ?_ ?_
 rotate_left
 ·
  intro w'
  go_simp
  with_reducible rfl
 rotate_left
 ·
  simp only [Act.put, List.setIfInBounds_toArray, List.set_cons_zero, List.set_cons_succ, i64_w, i32_w]
  rfl
 refine pure_ (i := 2) (N := some 2) (v := ?_) (a' := ?_) (mb 4 5) rfl rfl (by kernel_rfl) (fun _ _ _ h => h) (Or.inl ⟨by rfl, ?_⟩) ?_ ?_
 rotate_left
 ·
  intro w'
  go_simp
  with_reducible rfl
 rotate_left
 ·
  simp only [Act.put, List.setIfInBounds_toArray, List.set_cons_zero, List.set_cons_succ, i64_w, i32_w]
  rfl
 refine take_ (i := 1) (N := some 34) (v := ?_) (a' := ?_) (mb 4 7) rfl rfl (by kernel_rfl) (fun _ _ _ h => h) (Or.inl ⟨by rfl, ?_⟩) hHeld ?_ ?_
 rotate_left
 ·
  rintro w' ⟨s0, s1, s2, s3⟩
  go_simp
  with_reducible rfl
 rotate_left
 ·
  simp only [Act.put, List.setIfInBounds_toArray, List.set_cons_zero, List.set_cons_succ, i64_w, i32_w]
  rfl
 refine one_ (i := 3) (N := none) (mb 4 15) rfl rfl (by kernel_rfl) (by decide) (fun K hK => ?_)
 have hs109 : w108.cell? ⟨gb451, 0, none⟩ = some (.slice none 0 0) := bC BK451 0
 have hfs109 := blk_frozen BK451.out 0
 have hns109_1 := NB467_451.out
 have hms109_1 := NB451_467.out
 have hs110 : w108.cell? ⟨gb451, 1, none⟩ = some (.int .i64 0) := bC BK451 1
 have hfs110 := blk_frozen BK451.out 1
 have hns110_1 := NB467_451.out
 have hms110_1 := NB451_467.out
 have hs111 : w108.cell? ⟨gb451, 2, none⟩ = some (.slice none 0 0) := bC BK451 2
 have hfs111 := blk_frozen BK451.out 2
 have hns111_1 := NB467_451.out
 have hms111_1 := NB451_467.out
 have hs112 : w108.cell? ⟨gb451, 3, none⟩ = some (.int .i64 0) := bC BK451 3
 have hfs112 := blk_frozen BK451.out 3
 have hns112_1 := NB467_451.out
 have hms112_1 := NB451_467.out
 refine skip_ (w1 := ?_) (by rfl) rfl ?_ ?_
 rotate_left
 ·
  go_simp
  rfl
 refine hK.out _ _ ⟨((cell_far (p := ⟨gb451, _, none⟩) NB467_451.out _).trans (((cell_far (p := ⟨gb451, _, none⟩) NB467_451.out _).trans (((cell_far (p := ⟨gb451, _, none⟩) NB467_451.out _).trans (((cell_far (p := ⟨gb451, _, none⟩) NB467_451.out _).trans (hHeld.1)))))))), ((cell_far (p := ⟨gb451, _, none⟩) NB467_451.out _).trans (((cell_far (p := ⟨gb451, _, none⟩) NB467_451.out _).trans (((cell_far (p := ⟨gb451, _, none⟩) NB467_451.out _).trans (((cell_far (p := ⟨gb451, _, none⟩) NB467_451.out _).trans (hHeld.2.1)))))))), ((cell_far (p := ⟨gb451, _, none⟩) NB467_451.out _).trans (((cell_far (p := ⟨gb451, _, none⟩) NB467_451.out _).trans (((cell_far (p := ⟨gb451, _, none⟩) NB467_451.out _).trans (((cell_far (p := ⟨gb451, _, none⟩) NB467_451.out _).trans (hHeld.2.2.1)))))))), ((cell_far (p := ⟨gb451, _, none⟩) NB467_451.out _).trans (((cell_far (p := ⟨gb451, _, none⟩) NB467_451.out _).trans (((cell_far (p := ⟨gb451, _, none⟩) NB467_451.out _).trans (((cell_far (p := ⟨gb451, _, none⟩) NB467_451.out _).trans (hHeld.2.2.2))))))))⟩ (fun hHeld => ?_)
 clear hK K
 refine done_ (by kernel_rfl) ?_
 try go_wp2
 refine bodyPost_ret (results_tc rfl _ _ gb451 66 #[.slice Ao102 t457.length co102, .int .i64 t460, .slice Ao106 t461.length co106, .int .i64 t464] (0, 0) _ rfl (kp BK451) Try.underlying66 rfl (by kernel_rfl)) rfl ?_
 exact ⟨_, _, _, rA, Kd.R_mono (rf HO454 BK451) (fun _ hk => trivial), rf HO459 BK451, rf HO463 BK451, by exact sI1382 HI0.out NB0_451.out NB0_467.out, by exact sB3 HB.out (IsS138.ge HI0.out) GE451.out GE467.out, by exact sK2 HK.out GW451.out GW467.out⟩

/-! ### spec_DrawIsControl: function 95 -/
def spec_DrawIsControl.f (k : Nat) (l0 : List Int) : Option ((List (S50)) × List Int × Int × List Int × Int) := (spec_l1New.f k l0).bind fun bt490 => ((spec_l14Any.f k bt490.1 bt490.2.1 bt490.2.2).bind fun bt494 => (some (bt494.1, bt494.2.1, bt494.2.2.1, bt494.2.2.2.1, bt494.2.2.2.2.1)))
theorem spec_DrawIsControl.mono : ∀ a0 k, LeO (spec_DrawIsControl.f k a0) (spec_DrawIsControl.f (k + 1) a0) := by
 intro a0 k
 unfold spec_DrawIsControl.f
 exact mz2 spec_l14Any.mono spec_l1New.mono
set_option maxHeartbeats 8000000 in
set_option maxRecDepth 100000 in
theorem spec_DrawIsControl.calls (k : Nat) (A0 : Option Addr) (c0 : Nat) (l0 : List Int) (r1 : List (S50)) (r2 : List Int) (r3 : Int) (r4 : List Int) (r5 : Int) (w : World) (hr0 : Kd.C (Kd.int .u8) w A0 l0.length l0) (hc0 : l0.length ≤ c0) (h : spec_DrawIsControl.f k l0 = some (r1, r2, r3, r4, r5)) :
  Calls Try.prog 95 #[.slice A0 l0.length c0] w fun e w' => ∃ v0_ v1_ v3_ : Value, e = .returned (.tuple #[v0_, .agg #[v1_, .int .i64 r3, v3_, .int .i64 r5]]) ∧ Kd.R k50 50 w' w.heap.size (fun _ => True) v0_ r1 ∧ Kd.R (Kd.int .i64) 3 w' w.heap.size (n1 v3_) v1_ r2 ∧ Kd.R (Kd.int .i64) 3 w' w.heap.size (n1 v1_) v3_ r4 ∧ Below w.heap.size w w' := by
 have hu66 := Try.underlying66
 have HR0 := Aside0.mk hr0
 have HC0 := Aside0.mk hc0
 clear hr0 hc0
 have HB := Aside0.mk (Below.refl w.heap.size w)
 have H : ((spec_l1New.f k l0).bind fun bt490 => ((spec_l14Any.f k bt490.1 bt490.2.1 bt490.2.2).bind fun bt494 => (some (bt494.1, bt494.2.1, bt494.2.2.1, bt494.2.2.2.1, bt494.2.2.2.2.1)))) = some (r1, r2, r3, r4, r5) := h
 clear h
 obtain ⟨⟨t490, t491, t492⟩, A2, H⟩ := bindE H
 try dsimp only at H
 obtain ⟨⟨t494, t497, t500, t501, t504, t505, t506⟩, A3, H⟩ := bindE H
 try dsimp only at H
 simp only [Option.some.injEq, Prod.mk.injEq] at H
 obtain ⟨rfl, rfl, rfl, rfl, rfl⟩ := H
 go_enter Try.func95, Try.ntmps95
 go_wp2_with (first | ((with_reducible refine gate_dst (N := 3) rfl ?_); refine bE (N := 3) (cs := #[.slice none 0 0, .int .i64 0, .slice none 0 0, .int .i64 0]) (t := 66) ?_; intro gb489 hg w4 hbox hb; have BK489 := Aside0.mk (hbox); have GW489 := gw w hg; have GE489 := gw w hg; replace HB := bs HB hb; clear hb hbox hg) | ((with_reducible refine gate_callee (f := 81) rfl ?_); refine gL (some 6) Try.func81 #[.slice A0 l0.length c0] ?_; (with_reducible refine (spec_l1New.calls k _ _ l0 t490 t491 t492 w _ ?_ ?_ ?_ A2.out).mono ?_); exact sB1 HB.out GE489.out; exact HR0.out; exact HC0.out; rintro e w5 ⟨g493, rfl, hi, hb, hb2, -⟩; refine ⟨_, rfl, ?_⟩; replace HB := Aside0.mk (hb); have HI493 := Aside0.mk (hi); have NB493_489 := Aside0.mk (IsS138.ne_blk hi (blk_below (g := gb489) (bK BK489) hb2) (by decide)); have NB489_493 := Aside0.mk (Ne.symm (IsS138.ne_blk hi (blk_below (g := gb489) (bK BK489) hb2) (by decide))); replace BK489 := kb BK489 hb2; (try clear hb); (try clear hb2); (try clear hi)) | ((with_reducible refine gate_callee (f := 136) rfl ?_); refine gL (some 8) Try.func136 #[.pointer (some ⟨g493, 0, none⟩)] ?_; (with_reducible refine (spec_l14Any.calls k g493 t490 t491 t492 t494 t497 t500 t501 t504 t505 t506 w _ ?_ ?_ A3.out).mono ?_); exact sI1381 HI493.out NB493_489.out; exact sB2 HB.out (IsS138.ge HI493.out) GE489.out; rintro e w6 ⟨v495, v498, v502, rfl, ho0, ho1, ho2, hi, hb, hk⟩; refine ⟨_, rfl, ?_⟩; replace BK489 := Aside0.mk (KeepBut.blk hk (g' := gb489) (o := .cells #[.slice none 0 0, .int .i64 0, .slice none 0 0, .int .i64 0] 66 (0, 0)) (bK BK489) NB489_493.out (by simp)); have HO496 := Aside0.mk (Kd.R_lower ho0 (below_size (by exact sB2 HB.out (IsS138.ge HI493.out) GE489.out))); have HO499 := Aside0.mk (Kd.R_lower ho1 (below_size (by exact sB2 HB.out (IsS138.ge HI493.out) GE489.out))); have HO503 := Aside0.mk (Kd.R_lower ho2 (below_size (by exact sB2 HB.out (IsS138.ge HI493.out) GE489.out))); replace HB := Aside0.mk (hb); replace HI493 := Aside0.mk (hi); (try clear hb); (try clear hk); (try clear hi); (try clear ho0); (try clear ho1); (try clear ho2); obtain ⟨Ao7, co7, eo7⟩ := Kd.R_slice HO499.out; subst eo7; have hnb8 := NB489_493.out; have hnc8 := NB493_489.out; obtain ⟨_, _, _, _, _, _, _, _⟩ := blkc4 BK489; obtain ⟨Ao10, co10, eo10⟩ := Kd.R_slice HO503.out; subst eo10))
 refine bodyPost_ret (results_tc rfl _ _ gb489 66 #[.slice Ao7 t497.length co7, .int .i64 t500, .slice Ao10 t501.length co10, .int .i64 t504] (0, 0) _ rfl (kp BK489) Try.underlying66 rfl (by kernel_rfl)) rfl ?_
 exact ⟨_, _, _, rA, Kd.R_mono (rf HO496 BK489) (fun _ hk => trivial), rf HO499 BK489, rf HO503 BK489, by exact sB2 HB.out (IsS138.ge HI493.out) GE489.out⟩

/-! ### spec_DrawAskStage: function 41 -/
def spec_DrawAskStage.j0 : Nat → List (S50) → List (List Int) → Bool → List Int → Int → List Int → Int → List Int → Int → Int → Option ((List (S50)) × List Int × Int × List Int × Int × List Int)
 | 0, _, _, _, _, _, _, _, _, _, _ => none
 | k + 1, x5, x8, x24, x520000, x520001, x520002, x520003, x524000, x524001, x524002 => if x24 = true then ((spec_l1Below.f x524000 x524001 x524002 9).bind fun bt530 => (some (x5, x520000, x520001, x520002, x520003, (([bt530.1] : List Int))))) else ((spec_l1Below.f x524000 x524001 x524002 (x8.length : Int)).bind fun bt536 => (if 0 ≤ bt536.1 then (if bt536.1 < (x8.length : Int) then (some (x5, x520000, x520001, x520002, x520003, rd_L4 x8 bt536.1)) else (none)) else (none)))
def spec_DrawAskStage.f (k : Nat) (l0 : List Int) : Option ((List (S50)) × List Int × Int × List Int × Int × List Int) := (spec_DrawIsControl.f k l0).bind fun bt508 => ((spec_l1New.f k l0).bind fun bt520 => ((spec_StagesOf.f k bt508.1).bind fun t524 => (if (t524.length : Int) = 0 then (spec_DrawAskStage.j0 k bt508.1 t524 true bt508.2.1 bt508.2.2.1 bt508.2.2.2.1 bt508.2.2.2.2 bt520.1 bt520.2.1 bt520.2.2) else ((spec_l1Once.f bt520.1 bt520.2.1 bt520.2.2 6).bind fun bt527 => (spec_DrawAskStage.j0 k bt508.1 t524 bt527.1 bt508.2.1 bt508.2.2.1 bt508.2.2.2.1 bt508.2.2.2.2 bt520.1 bt527.2.1 bt527.2.2)))))
theorem spec_DrawAskStage.mono_l : ∀ k, (∀ y0 y1 y2 y3 y4 y5 y6 y7 y8 y9, LeO (spec_DrawAskStage.j0 k y0 y1 y2 y3 y4 y5 y6 y7 y8 y9) (spec_DrawAskStage.j0 (k + 1) y0 y1 y2 y3 y4 y5 y6 y7 y8 y9))
 | 0 => fun _ _ _ _ _ _ _ _ _ _ r h => by simp [spec_DrawAskStage.j0] at h
 | k + 1 => by
  have ih0 := spec_DrawAskStage.mono_l k
  ·
   intro y0 y1 y2 y3 y4 y5 y6 y7 y8 y9
   unfold spec_DrawAskStage.j0
   exact mz4 ih0 spec_DrawIsControl.mono spec_StagesOf.mono spec_l1New.mono
theorem spec_DrawAskStage.mono : ∀ a0 k, LeO (spec_DrawAskStage.f k a0) (spec_DrawAskStage.f (k + 1) a0) := by
 intro a0 k
 have ih0 := spec_DrawAskStage.mono_l k
 unfold spec_DrawAskStage.f
 exact mz4 ih0 spec_DrawIsControl.mono spec_StagesOf.mono spec_l1New.mono
def spec_DrawAskStage.T5 : Bool × List (List Nat × List Nat) := (true, [([], []), ([], []), ([], []), ([2], [2]), ([3], [3]), ([0, 3, 0], [0]), ([1, 5, 0, 1, 5], [1]), ([4, 6, 0, 1, 2, 3, 4, 5, 6], [4])])
def spec_DrawAskStage.B5 : List Nat := [0, 0, 0, 4, 12, 13, 47, 127]
theorem spec_DrawAskStage.tab5 : rtab .any (opsOf Try.f41 5) = spec_DrawAskStage.T5 := by kernel_rfl
theorem spec_DrawAskStage.bits5 : waitsOk spec_DrawAskStage.T5.2 spec_DrawAskStage.B5 = true := by kernel_rfl
def spec_DrawAskStage.T6 : Bool × List (List Nat × List Nat) := (true, [([], []), ([], []), ([], []), ([], []), ([], []), ([4], [4]), ([3, 5], [3, 5]), ([2, 6], [2, 6]), ([7], [7]), ([0, 6, 0], [0]), ([1, 9, 0, 1, 9], [1]), ([8, 10, 0, 1, 2, 3, 4, 5, 6, 7, 8, 9, 10], [8])])
def spec_DrawAskStage.B6 : List Nat := [0, 0, 0, 0, 0, 16, 56, 124, 252, 121, 635, 2047]
theorem spec_DrawAskStage.tab6 : rtab .any (opsOf Try.f41 6) = spec_DrawAskStage.T6 := by kernel_rfl
theorem spec_DrawAskStage.bits6 : waitsOk spec_DrawAskStage.T6.2 spec_DrawAskStage.B6 = true := by kernel_rfl
set_option maxHeartbeats 8000000 in
set_option maxRecDepth 100000 in
theorem spec_DrawAskStage.calls (k : Nat) (A0 : Option Addr) (c0 : Nat) (l0 : List Int) (r1 : List (S50)) (r2 : List Int) (r3 : Int) (r4 : List Int) (r5 : Int) (r6 : List Int) (w : World) (hr0 : Kd.C (Kd.int .u8) w A0 l0.length l0) (hc0 : l0.length ≤ c0) (h : spec_DrawAskStage.f k l0 = some (r1, r2, r3, r4, r5, r6)) :
  Calls Try.prog 41 #[.slice A0 l0.length c0] w fun e w' => ∃ v0_ v1_ v3_ v5_ : Value, e = .returned (.tuple #[v0_, .agg #[v1_, .int .i64 r3, v3_, .int .i64 r5], v5_]) ∧ Kd.R k50 50 w' w.heap.size (fun _ => True) v0_ r1 ∧ Kd.R (Kd.int .i64) 3 w' w.heap.size (n2 v3_ v5_) v1_ r2 ∧ Kd.R (Kd.int .i64) 3 w' w.heap.size (n2 v1_ v5_) v3_ r4 ∧ Kd.R (Kd.int .i64) 3 w' w.heap.size (n2 v1_ v3_) v5_ r6 ∧ Below w.heap.size w w' := by
 have hu66 := Try.underlying66
 have HR0 := Aside0.mk hr0
 have HC0 := Aside0.mk hc0
 clear hr0 hc0
 have HB := Aside0.mk (Below.refl w.heap.size w)
 have H : ((spec_DrawIsControl.f k l0).bind fun bt508 => ((spec_l1New.f k l0).bind fun bt520 => ((spec_StagesOf.f k bt508.1).bind fun t524 => (if (t524.length : Int) = 0 then (spec_DrawAskStage.j0 k bt508.1 t524 true bt508.2.1 bt508.2.2.1 bt508.2.2.2.1 bt508.2.2.2.2 bt520.1 bt520.2.1 bt520.2.2) else ((spec_l1Once.f bt520.1 bt520.2.1 bt520.2.2 6).bind fun bt527 => (spec_DrawAskStage.j0 k bt508.1 t524 bt527.1 bt508.2.1 bt508.2.2.1 bt508.2.2.2.1 bt508.2.2.2.2 bt520.1 bt527.2.1 bt527.2.2)))))) = some (r1, r2, r3, r4, r5, r6) := h
 clear h
 obtain ⟨⟨t508, t511, t514, t515, t518⟩, A2, H⟩ := bindE H
 try dsimp only at H
 obtain ⟨⟨t520, t521, t522⟩, A3, H⟩ := bindE H
 try dsimp only at H
 obtain ⟨t524, A4, H⟩ := bindE H
 try dsimp only at H
 have HC5 := Aside0.mk H
 clear H
 go_enter Try.func41, Try.ntmps41
 go_upto_region 4 with (first | ((with_reducible refine gate_dst (N := 3) rfl ?_); refine bE (N := 3) (cs := #[.slice none 0 0, .int .i64 0, .slice none 0 0, .int .i64 0]) (t := 66) ?_; intro gb507 hg w6 hbox hb; have BK507 := Aside0.mk (hbox); have GW507 := gw w hg; have GE507 := gw w hg; replace HB := bs HB hb; clear hb hbox hg) | ((with_reducible refine gate_callee (f := 95) rfl ?_); refine gL (some 11) Try.func95 #[.slice A0 l0.length c0] ?_; (with_reducible refine (spec_DrawIsControl.calls k _ _ l0 t508 t511 t514 t515 t518 _ ?_ ?_ A2.out).mono ?_); exact cB HR0; exact HC0.out; rintro e w7 ⟨v509, v512, v516, rfl, ho0, ho1, ho2, hb⟩; refine ⟨_, rfl, ?_⟩; have HO510 := rl w ho0; have HO513 := rl w ho1; have HO517 := rl w ho2; replace BK507 := kb BK507 hb; replace HB := bs HB hb; (try clear hb); (try clear ho0); (try clear ho1); (try clear ho2)) | ((with_reducible refine gate_dst (N := 6) rfl ?_); refine bE (N := 6) (cs := #[.slice none 0 0, .int .i64 0, .slice none 0 0, .int .i64 0]) (t := 66) ?_; intro gb519 hg w8 hbox hb; replace HO510 := rb HO510 hb; replace HO513 := rb HO513 hb; replace HO517 := rb HO517 hb; have BK519 := Aside0.mk (hbox); have GW519 := gw w hg; have GE519 := gw w hg; replace HB := bs HB hb; have NB507_519 := nl BK507 hg; have NB519_507 := nr BK507 hg; replace BK507 := kb BK507 hb; clear hb hbox hg; obtain ⟨Ao9, co9, eo9⟩ := Kd.R_slice HO513.out; subst eo9; have hnb10 := NB519_507.out; have hnc10 := NB507_519.out; obtain ⟨_, _, _, _, _, _, _, _⟩ := blkc4 BK519; obtain ⟨Ao12, co12, eo12⟩ := Kd.R_slice HO517.out; subst eo12) | ((with_reducible refine gate_callee (f := 81) rfl ?_); refine gL (some 15) Try.func81 #[.slice A0 l0.length c0] ?_; (with_reducible refine (spec_l1New.calls k _ _ l0 t520 t521 t522 w _ ?_ ?_ ?_ A3.out).mono ?_); exact sB2 HB.out GE507.out GE519.out; exact HR0.out; exact HC0.out; rintro e w13 ⟨g523, rfl, hi, hb, hb2, -⟩; refine ⟨_, rfl, ?_⟩; replace HO510 := Aside0.mk (Kd.R_below (rf HO510 BK519) hb2); replace HO513 := Aside0.mk (Kd.R_below (rf HO513 BK519) hb2); replace HO517 := Aside0.mk (Kd.R_below (rf HO517 BK519) hb2); replace HB := Aside0.mk (hb); have HI523 := Aside0.mk (hi); have NB523_507 := Aside0.mk (IsS138.ne_blk hi (blk_below (g := gb507) (o := .cells #[.slice none 0 0, .int .i64 0, .slice none 0 0, .int .i64 0] 66 (0, 0)) (kf BK507 NB507_519) hb2) (by decide)); have NB507_523 := Aside0.mk (Ne.symm (IsS138.ne_blk hi (blk_below (g := gb507) (o := .cells #[.slice none 0 0, .int .i64 0, .slice none 0 0, .int .i64 0] 66 (0, 0)) (kf BK507 NB507_519) hb2) (by decide))); replace BK507 := kc (kf BK507 NB507_519) hb2; have NB523_519 := Aside0.mk (IsS138.ne_blk hi (blk_below (g := gb519) (o := .cells #[.slice Ao9 t511.length co9, .int .i64 t514, .slice Ao12 t515.length co12, .int .i64 t518] 66 (0, 0)) (kp BK519) hb2) (by decide)); have NB519_523 := Aside0.mk (Ne.symm (IsS138.ne_blk hi (blk_below (g := gb519) (o := .cells #[.slice Ao9 t511.length co9, .int .i64 t514, .slice Ao12 t515.length co12, .int .i64 t518] 66 (0, 0)) (kp BK519) hb2) (by decide))); replace BK519 := kc (o := .cells #[.slice Ao9 t511.length co9, .int .i64 t514, .slice Ao12 t515.length co12, .int .i64 t518] 66 (0, 0)) (kp BK519) hb2; (try clear hb); (try clear hb2); (try clear hi); obtain ⟨Ao14, co14, eo14⟩ := Kd.R_slice HO510.out; subst eo14) | ((with_reducible refine gate_callee (f := 96) rfl ?_); refine gL (some 17) Try.func96 #[.slice Ao14 t508.length co14] ?_; (with_reducible refine (spec_StagesOf.calls k _ _ t508 t524 _ ?_ ?_ A4.out).mono ?_); exact cO ⟨(Kd.R_reads' HO510.out).2.2⟩; exact (Kd.R_reads' HO510.out).2.1; rintro e w15 ⟨v525, rfl, ho0, hb⟩; refine ⟨_, rfl, ?_⟩; replace HO510 := rb HO510 hb; have HO526 := Aside0.mk (Kd.S_lower (Kd.S_new' (Kd.S_new' ho0 (Kd.R_lt (rK HO513))) (Kd.R_lt (rK HO517))) (below_size (by exact sB3 HB.out (IsS138.ge HI523.out) GE507.out GE519.out))); replace HO513 := rb HO513 hb; replace HO517 := rb HO517 hb; replace BK507 := kb BK507 hb; replace BK519 := kb BK519 hb; replace HB := Aside0.mk (below_step (by exact sB3 HB.out (IsS138.ge HI523.out) GE507.out GE519.out) hb); replace HI523 := Aside0.mk (IsS138.below (by exact sI1382 HI523.out NB523_507.out NB523_519.out) hb); (try clear hb); (try clear ho0)))
 (try simp only [Act.put, List.setIfInBounds_toArray, List.set_cons_zero, List.set_cons_succ])
 go_cut [24] (fun v24 wc => ∃ (kq : Nat) (x24_4 : Bool) (x524001_4 : Int) (x524002_4 : Int), v24 = .bool x24_4 ∧ Aside0 (spec_DrawAskStage.j0 kq t508 t524 x24_4 t511 t514 t515 t518 t520 x524001_4 x524002_4 = some (r1, r2, r3, r4, r5, r6)) ∧ Aside0 (kq ≤ k) ∧ Aside0 (Kd.R k50 50 wc w.heap.size (fun _ => True) (.slice Ao14 t508.length co14) t508) ∧ Aside0 (Kd.S (Kd.slice 3 (Kd.int .i64)) 35 wc w.heap.size (n2 (.slice Ao9 t511.length co9) (.slice Ao12 t515.length co12)) v525 t524) ∧ Aside0 (Kd.R (Kd.int .i64) 3 wc w.heap.size (n1 (.slice Ao12 t515.length co12)) (.slice Ao9 t511.length co9) t511) ∧ Aside0 (Kd.R (Kd.int .i64) 3 wc w.heap.size (n1 (.slice Ao9 t511.length co9)) (.slice Ao12 t515.length co12) t515) ∧ Aside0 (wc.heap[gb507]? = some (.cells #[(.slice none 0 0), .int .i64 0, (.slice none 0 0), .int .i64 0] 66 (0, 0))) ∧ Aside0 (wc.heap[gb519]? = some (.cells #[(.slice Ao9 t511.length co9), .int .i64 t514, (.slice Ao12 t515.length co12), .int .i64 t518] 66 (0, 0))) ∧ Aside0 (IsS138 w wc g523 t520 x524001_4 x524002_4) ∧ Aside0 (Below w.heap.size w wc))
 case first =>
  have H := HC5.out
  clear HC5
  by_cases c16 : (t524.length : Int) = 0
  ·
   rw [if_pos c16] at H
   have c16b0 : ((t524.length : Int) == 0) = true := beq_iff_eq.mpr c16
   have c16b1 : ((t524.length : Int) != 0) = false := bne_eq_false_iff_eq.mpr c16
   clear c16
   (first | rw [c16b0] | (simp only [i64_w, i32_w]; rw [c16b0]) | skip)
   have H' := Aside0.mk H
   clear H
   obtain ⟨Ao17, co17, eo17⟩ := Kd.S_slice HO526.out
   subst eo17
   go_wp2
   go_meet
   case rel => exact ⟨_, (true), (t521), (t522), rS, H', ⟨oL⟩, ⟨rK HO510⟩, ⟨sm HO526 (fun _ hk => ⟨hk.1.2, hk.2⟩)⟩, ⟨rK HO513⟩, ⟨rK HO517⟩, ⟨bK BK507⟩, ⟨bK BK519⟩, ⟨by exact sI1382 HI523.out NB523_507.out NB523_519.out⟩, ⟨by exact sB3 HB.out (IsS138.ge HI523.out) GE507.out GE519.out⟩⟩
  rw [if_neg c16] at H
  have c16b0 : ((t524.length : Int) == 0) = false := beq_eq_false_iff_ne.mpr c16
  have c16b1 : ((t524.length : Int) != 0) = true := bne_iff_ne.mpr c16
  have c16b2 : ¬ (t524 = []) := fun h_ => c16 (by rw [h_]; rfl)
  (first | rw [c16b0] | (simp only [i64_w, i32_w]; rw [c16b0]) | skip)
  obtain ⟨⟨t527, t528, t529⟩, A18, H⟩ := bindE H
  try dsimp only at H
  have H' := Aside0.mk H
  clear H
  obtain ⟨Ao19, co19, eo19⟩ := Kd.S_slice HO526.out
  subst eo19
  go_wp2_with (first | (go_at_call 93; (with_reducible refine (spec_l1Once.calls g523 t520 t521 t522 6 t527 t528 t529 w _ ?_ ?_ A18.out).mono ?_); exact sI1382 HI523.out NB523_507.out NB523_519.out; exact sB3 HB.out (IsS138.ge HI523.out) GE507.out GE519.out; rintro e w20 ⟨rfl, hi, hb, hk⟩; replace BK507 := Aside0.mk (KeepBut.blk hk (g' := gb507) (o := .cells #[.slice none 0 0, .int .i64 0, .slice none 0 0, .int .i64 0] 66 (0, 0)) (bK BK507) NB507_523.out (by simp)); replace HO510 := Aside0.mk (Kd.R_mono (Kd.R_keep (IsS138.apart (show IsS138 w _ g523 t520 t521 t522 from by exact sI1382 HI523.out NB523_507.out NB523_519.out) (rK HO510) (by decide)) hk (fun _ h => h.2)) (fun _ h => h.1)); replace HO513 := Aside0.mk (Kd.R_mono (Kd.R_keep (IsS138.apart (show IsS138 w _ g523 t520 t521 t522 from by exact sI1382 HI523.out NB523_507.out NB523_519.out) (rK HO513) (by decide)) hk (fun _ h => h.2)) (fun _ h => h.1)); replace HO517 := Aside0.mk (Kd.R_mono (Kd.R_keep (IsS138.apart (show IsS138 w _ g523 t520 t521 t522 from by exact sI1382 HI523.out NB523_507.out NB523_519.out) (rK HO517) (by decide)) hk (fun _ h => h.2)) (fun _ h => h.1)); replace BK519 := Aside0.mk (KeepBut.blk hk (g' := gb519) (o := .cells #[.slice Ao9 t511.length co9, .int .i64 t514, .slice Ao12 t515.length co12, .int .i64 t518] 66 (0, 0)) (bK BK519) NB519_523.out (by simp)); replace HO526 := Aside0.mk (Kd.S_mono (Kd.S_keep (IsS138.apartS (show IsS138 w _ g523 t520 t521 t522 from by exact sI1382 HI523.out NB523_507.out NB523_519.out) (sK HO526) (by decide)) hk (fun _ h => h.2)) (fun _ h => h.1)); replace HB := Aside0.mk (hb); replace HI523 := Aside0.mk (hi); (try clear hb); (try clear hk); (try clear hi)))
  go_meet
  case rel => exact ⟨_, (t527), (t528), (t529), rS, H', ⟨oL⟩, ⟨rK HO510⟩, ⟨sm HO526 (fun _ hk => ⟨hk.1.2, hk.2⟩)⟩, ⟨rK HO513⟩, ⟨rK HO517⟩, ⟨bK BK507⟩, ⟨bK BK519⟩, ⟨by exact sI1382 HI523.out NB523_507.out NB523_519.out⟩, ⟨by exact sB3 HB.out (IsS138.ge HI523.out) GE507.out GE519.out⟩⟩
 case rest =>
  clear HC5
  obtain ⟨kq, x24_4, x524001_4, x524002_4, rfl, HA, HJ4, HO_5, HO_8, HO_520000, HO_520002, BK507, BK519, HI523, HB⟩ := hcut
  cases kq with
  | zero => exact absurd HA.out (by simp [spec_DrawAskStage.j0])
  | succ kj4 =>
   have H := HA.out
   clear HA
   simp only [spec_DrawAskStage.j0] at H
   by_cases c21 : x24_4 = true
   ·
    subst c21
    have H1 : ((spec_l1Below.f t520 x524001_4 x524002_4 9).bind fun bt530 => (some (t508, t511, t514, t515, t518, (([bt530.1] : List Int))))) = some (r1, r2, r3, r4, r5, r6) := by rw [if_pos rfl] at H; exact H
    clear H
    have H := H1
    clear H1
    obtain ⟨⟨t530, t531, t532⟩, A22, H⟩ := bindE H
    try dsimp only at H
    obtain ⟨y533, hy533⟩ : ∃ y_ : List Int, y_ = (([t530] : List Int)) := ⟨_, rfl⟩
    replace H : (some (t508, t511, t514, t515, t518, y533)) = some (r1, r2, r3, r4, r5, r6) := rH H hy533
    have Ny533 := Aside0.mk hy533
    clear hy533
    simp only [Option.some.injEq, Prod.mk.injEq] at H
    obtain ⟨rfl, rfl, rfl, rfl, rfl, rfl⟩ := H
    try go_wp2
    replace HO_5 := dr HO_5
    replace HO_8 := ds HO_8
    replace HO_520000 := dr HO_520000
    replace HO_520002 := dr HO_520002
    replace BK507 := dk BK507
    replace BK519 := dk BK519
    replace HI523 := Aside0.mk (IsS138.drew HI523.out)
    have HBo := HB
    replace HB := db HB
    refine sw (ds := []) 8 (mb 8 0) spec_DrawAskStage.tab5 spec_DrawAskStage.bits5 h0 (fun hHeld HT_ HW_ => ?_)
    generalize wc.drew = w23 at HO_5 HO_8 HO_520000 HO_520002 BK507 BK519 HI523 HB hHeld ⊢
    refine pa 0 25 (mb 8 1) HT_ ?_
    refine pa 2 27 (mb 8 5) HT_ ?_
    refine inv_at [1, 3, 4, 5, 6, 7] (fun a0_ b a w' => ∃ (v534 : Value) (m7_ : Value), a = putSel a0_ b [(1, 26, .agg #[.slice Ao9 t511.length co9, .int .i64 t514, .slice Ao12 t515.length co12, .int .i64 t518]), (3, 28, .int .i64 t530), (4, 29, v534), (5, 2, .slice Ao14 t508.length co14), (7, 4, m7_)] ∧ (Kd.R k50 50 w' w.heap.size (fun _ => True) (.slice Ao14 t508.length co14) t508) ∧ (Kd.R (Kd.int .i64) 3 w' w.heap.size (n1 (.slice Ao12 t515.length co12)) (.slice Ao9 t511.length co9) t511) ∧ (Kd.R (Kd.int .i64) 3 w' w.heap.size (n1 (.slice Ao9 t511.length co9)) (.slice Ao12 t515.length co12) t515) ∧ (Kd.S (Kd.slice 3 (Kd.int .i64)) 35 w' w.heap.size (n2 (.slice Ao9 t511.length co9) (.slice Ao12 t515.length co12)) v525 t524) ∧ (b 6 = false → w'.heap[gb507]? = some (.cells #[.slice none 0 0, .int .i64 0, .slice none 0 0, .int .i64 0] 66 (0, 0))) ∧ (w'.heap[gb519]? = some (.cells #[.slice Ao9 t511.length co9, .int .i64 t514, .slice Ao12 t515.length co12, .int .i64 t518] 66 (0, 0))) ∧ (b 3 = false → IsS138 w w' g523 t520 x524001_4 x524002_4) ∧ (Below w.heap.size w w') ∧ (b 3 = true → IsS138 w w' g523 t520 t531 t532) ∧ (b 4 = true → Kd.R (Kd.int .i64) 3 w' w.heap.size (n2 (.slice Ao9 t511.length co9) (.slice Ao12 t515.length co12)) v534 y533) ∧ (b 6 = true → w'.heap[gb507]? = some (.cells #[.slice Ao9 t511.length co9, .int .i64 t514, .slice Ao12 t515.length co12, .int .i64 t518] 66 (0, 0))) ∧ (b 7 = true → (m7_ : Value) = v534)) HT_.out HW_.out (by kernel_rfl) (by kernel_rfl) ?_ ?_ ?_
    ·
     exact ⟨.bool false, .bool false, by simp only [putSel, Bool.false_eq_true, if_false], HO_5.out, HO_520000.out, HO_520002.out, HO_8.out, fun _ => BK507.out, BK519.out, fun _ => HI523.out, HB.out, fun h_ => absurd h_ (by decide), fun h_ => absurd h_ (by decide), fun h_ => absurd h_ (by decide), fun h_ => absurd h_ (by decide)⟩
    ·
     skip
     clear BK507 BK519 HB HI523 HO_5 HO_520000 HO_520002 HO_8
     refine steps_cons ?_ ?_
     ·
      rintro b a w' ⟨v534, m7_, ha, Q_HO_5, Q_HO_520000, Q_HO_520002, Q_HO_8, Q_BK507, Q_BK519, Q_HI523, Q_HB, Q_HI523_e3, Q_HO535, Q_BK507_e6, Q_X7_⟩ hb_ hon hoff
      refine ⟨_, rfl, fun K hK => ?_⟩
      have e6 : a.tmps[6]? = some (.pointer (some ⟨gb519, 0, none⟩)) := by rw [ha]; exact (putSel_off rfl).trans rfl
      replace ha := Aside0.mk ha
      have HO_5 := Aside0.mk Q_HO_5
      have HO_520000 := Aside0.mk Q_HO_520000
      have HO_520002 := Aside0.mk Q_HO_520002
      have HO_8 := Aside0.mk Q_HO_8
      have BK507 := Aside0.mk (Q_BK507 (hoff 6 (by kernel_rfl)))
      have BK519 := Aside0.mk Q_BK519
      have HB := Aside0.mk Q_HB
      have hc0_ : w'.cell? ⟨gb519, 0, none⟩ = some (.slice Ao9 t511.length co9) := bC BK519 0
      have hc1_ : w'.cell? ⟨gb519, 1, none⟩ = some (.int .i64 t514) := bC BK519 1
      have hc2_ : w'.cell? ⟨gb519, 2, none⟩ = some (.slice Ao12 t515.length co12) := bC BK519 2
      have hc3_ : w'.cell? ⟨gb519, 3, none⟩ = some (.int .i64 t518) := bC BK519 3
      refine value_ (w1 := w') (v := .agg #[.slice Ao9 t511.length co9, .int .i64 t514, .slice Ao12 t515.length co12, .int .i64 t518]) (by rfl) rfl ?_ ?_
      ·
       go_simp
       (try simp only [i64_w])
       try rfl
      refine hK.out _ _ ⟨v534, m7_, (by rw [ha.out]; exact putSel_upk 0 hb_ rfl rfl rfl), Q_HO_5, Q_HO_520000, Q_HO_520002, Q_HO_8, Q_BK507, Q_BK519, Q_HI523, Q_HB, Q_HI523_e3, Q_HO535, fun h0_ => absurd ((hoff 6 (by kernel_rfl)).symm.trans h0_) (by decide), fun h0_ => absurd ((hoff 7 (by kernel_rfl)).symm.trans h0_) (by decide)⟩
     refine steps_cons ?_ ?_
     ·
      rintro b a w' ⟨v534, m7_, ha, Q_HO_5, Q_HO_520000, Q_HO_520002, Q_HO_8, Q_BK507, Q_BK519, Q_HI523, Q_HB, Q_HI523_e3, Q_HO535, Q_BK507_e6, Q_X7_⟩ hb_ hon hoff
      refine ⟨_, rfl, fun K hK => ?_⟩
      have e27 : a.tmps[27]? = some (.pointer (some ⟨g523, 0, none⟩)) := by rw [ha]; exact (putSel_off rfl).trans rfl
      replace ha := Aside0.mk ha
      have HO_5 := Aside0.mk Q_HO_5
      have HO_520000 := Aside0.mk Q_HO_520000
      have HO_520002 := Aside0.mk Q_HO_520002
      have HO_8 := Aside0.mk Q_HO_8
      have BK507 := Aside0.mk (Q_BK507 (hoff 6 (by kernel_rfl)))
      have BK519 := Aside0.mk Q_BK519
      have HI523 := Aside0.mk (Q_HI523 hb_)
      have HB := Aside0.mk Q_HB
      refine goes_ Try.func84 (by kernel_rfl) rfl #[.pointer (some ⟨g523, 0, none⟩), .int .i64 9] (by rfl) rfl rfl (by first | (simp only [List.map_toArray, List.map_cons, List.map_nil, Act.eval, Array.getD_eq_getD_getElem?, Option.getD_some, e27]; done) | (simp only [List.map_toArray, List.map_cons, List.map_nil, Act.eval, Array.getD_eq_getD_getElem?, Option.getD_some, e27]; rfl)) ?_
      with_reducible refine (spec_l1Below.calls g523 t520 x524001_4 x524002_4 9 t530 t531 t532 w _ ?side1 ?side2 A22.out).mono ?_
      (case side1 => exact sI1382 HI523.out NB523_507.out NB523_519.out)
      (case side2 => exact sB3 HB.out (IsS138.ge HI523.out) GE507.out GE519.out)
      rintro e w24 ⟨rfl, hi, hb, hk⟩
      refine ⟨_, rfl, ?_⟩
      replace HO_5 := Aside0.mk (Kd.R_mono (Kd.R_keep (IsS138.apart (show IsS138 w _ g523 t520 x524001_4 x524002_4 from by exact sI1382 HI523.out NB523_507.out NB523_519.out) (rK HO_5) (by decide)) hk (fun _ h => h.2)) (fun _ h => h.1))
      replace HO_8 := Aside0.mk (Kd.S_mono (Kd.S_keep (IsS138.apartS (show IsS138 w _ g523 t520 x524001_4 x524002_4 from by exact sI1382 HI523.out NB523_507.out NB523_519.out) (sK HO_8) (by decide)) hk (fun _ h => h.2)) (fun _ h => h.1))
      replace HO_520000 := Aside0.mk (Kd.R_mono (Kd.R_keep (IsS138.apart (show IsS138 w _ g523 t520 x524001_4 x524002_4 from by exact sI1382 HI523.out NB523_507.out NB523_519.out) (rK HO_520000) (by decide)) hk (fun _ h => h.2)) (fun _ h => h.1))
      replace HO_520002 := Aside0.mk (Kd.R_mono (Kd.R_keep (IsS138.apart (show IsS138 w _ g523 t520 x524001_4 x524002_4 from by exact sI1382 HI523.out NB523_507.out NB523_519.out) (rK HO_520002) (by decide)) hk (fun _ h => h.2)) (fun _ h => h.1))
      replace BK507 := Aside0.mk (KeepBut.blk hk (g' := gb507) (o := .cells #[.slice none 0 0, .int .i64 0, .slice none 0 0, .int .i64 0] 66 (0, 0)) (bK BK507) NB507_523.out (by simp))
      replace BK519 := Aside0.mk (KeepBut.blk hk (g' := gb519) (o := .cells #[.slice Ao9 t511.length co9, .int .i64 t514, .slice Ao12 t515.length co12, .int .i64 t518] 66 (0, 0)) (bK BK519) NB519_523.out (by simp))
      replace HB := Aside0.mk (hb)
      replace HI523 := Aside0.mk (hi)
      (try clear hb)
      (try clear hb2)
      (try clear hk)
      (try clear hi)
      refine hK.out _ _ ⟨v534, m7_, (by rw [ha.out]; exact putSel_upk 1 hb_ rfl rfl rfl), (rK HO_5), (rK HO_520000), (rK HO_520002), (sK HO_8), fun _ => (bK BK507), (bK BK519), fun h0_ => absurd ((up_self b 3).symm.trans h0_) (by decide), (by exact sB3 HB.out (IsS138.ge HI523.out) GE507.out GE519.out), fun _ => (by exact sI1382 HI523.out NB523_507.out NB523_519.out), fun h0_ => absurd ((hoff 4 (by kernel_rfl)).symm.trans h0_) (by decide), fun h0_ => absurd ((hoff 6 (by kernel_rfl)).symm.trans h0_) (by decide), fun h0_ => absurd ((hoff 7 (by kernel_rfl)).symm.trans h0_) (by decide)⟩
     refine steps_cons ?_ ?_
     ·
      rintro b a w' ⟨v534, m7_, ha, Q_HO_5, Q_HO_520000, Q_HO_520002, Q_HO_8, Q_BK507, Q_BK519, Q_HI523, Q_HB, Q_HI523_e3, Q_HO535, Q_BK507_e6, Q_X7_⟩ hb_ hon hoff
      refine ⟨_, rfl, fun K hK => ?_⟩
      have e28 : a.tmps[28]? = some (.int .i64 t530) := by rw [ha]; exact putSel_on (e := (3, 28, .int .i64 t530)) 1 rfl rfl (hon 3 (by kernel_rfl)) rfl
      replace ha := Aside0.mk ha
      have HO_5 := Aside0.mk Q_HO_5
      have HO_520000 := Aside0.mk Q_HO_520000
      have HO_520002 := Aside0.mk Q_HO_520002
      have HO_8 := Aside0.mk Q_HO_8
      have BK519 := Aside0.mk Q_BK519
      have HB := Aside0.mk Q_HB
      have HI523 := Aside0.mk (Q_HI523_e3 (hon 3 (by kernel_rfl)))
      refine Kd.R_lit_step (Kd.int .i64) _ 3 ?hg (N := 29) ?hd (xs := ([t530] : List Int)) (inner := [.int .i64 t530]) (ok := fun _ => True) (okp := fun _ => True) ?hr ?hp (fun _ hk => hk) trivial (Below.refl _ _) (Nat.le_refl _) (by simp) ?_; (case hd => rfl); (case hg => rfl); (case hr => first | (go_simp; done) | (go_simp; rfl)); (case hp => exact (Reps.one (show Kd.M (Kd.int .i64) _ _ _ t530 [.int .i64 t530] from rfl) (Reps.none _ _)))
      intro v534 w26 ho27 hb hg_ hnew_
      clear hg_ hnew_
      (first | rw [← Ny533.out] at ho27 | (simp only [Int.reduceToNat] at ho27; rw [← Ny533.out] at ho27))
      have n0_ := rb HO_5 hb
      have n1_ := se HO_8 ho27 hb
      have n2_ := re HO_520000 ho27 hb
      have n3_ := re HO_520002 ho27 hb
      have n4_ := Aside0.mk (Kd.R_lower (Kd.R_new' (Kd.R_new' ho27 (Kd.R_lt (rK HO_520000))) (Kd.R_lt (rK HO_520002))) (below_size (by exact sB3 HB.out (IsS138.ge HI523.out) GE507.out GE519.out)))
      have n6_ := kb BK519 hb
      have n7_ := Aside0.mk (IsS138.below (by exact sI1382 HI523.out NB523_507.out NB523_519.out) hb)
      have n8_ := Aside0.mk (below_step (by exact sB3 HB.out (IsS138.ge HI523.out) GE507.out GE519.out) hb)
      have z_BK507 := fun (h0_ : b 6 = false) => (show w26.heap[gb507]? = some (.cells #[.slice none 0 0, .int .i64 0, .slice none 0 0, .int .i64 0] 66 (0, 0)) from by first | exact (blk_below (g := gb507) (o := .cells #[.slice none 0 0, .int .i64 0, .slice none 0 0, .int .i64 0] 66 (0, 0)) (by (with_reducible repeat (first | refine blk_drewN ?_ _ | refine blk_drew ?_ | refine blk_alloc ?_ _)); exact (Q_BK507 h0_)) hb))
      have z_BK507_e6 := fun (h0_ : b 6 = true) => (show w26.heap[gb507]? = some (.cells #[.slice Ao9 t511.length co9, .int .i64 t514, .slice Ao12 t515.length co12, .int .i64 t518] 66 (0, 0)) from by first | exact (blk_below (g := gb507) (o := .cells #[.slice Ao9 t511.length co9, .int .i64 t514, .slice Ao12 t515.length co12, .int .i64 t518] 66 (0, 0)) (by (with_reducible repeat (first | refine blk_drewN ?_ _ | refine blk_drew ?_ | refine blk_alloc ?_ _)); exact (Q_BK507_e6 h0_)) hb))
      clear HO_5
      clear HO_8
      clear HO_520000
      clear HO_520002
      clear BK519
      clear HI523
      clear HB
      have HO_5 := n0_
      have HO_8 := n1_
      have HO_520000 := n2_
      have HO_520002 := n3_
      have HO535 := n4_
      have BK519 := n6_
      have HI523 := n7_
      have HB := n8_
      clear n0_ n1_ n2_ n3_ n4_ n6_ n7_ n8_
      clear hb ho27
      refine hK.out _ _ ⟨v534, m7_, (by rw [ha.out]; exact putSel_upk 2 hb_ rfl rfl rfl), (rK HO_5), (rm HO_520000 (fun _ hk => hk.1)), (rm HO_520002 (fun _ hk => hk.1)), (sm HO_8 (fun _ hk => hk.1)), z_BK507, (bK BK519), fun h0_ => absurd ((hon 3 (by kernel_rfl)).symm.trans h0_) (by decide), (by exact sB3 HB.out (IsS138.ge HI523.out) GE507.out GE519.out), fun _ => (by exact sI1382 HI523.out NB523_507.out NB523_519.out), fun _ => (rm HO535 (fun _ hk => ⟨hk.1.2, hk.2⟩)), z_BK507_e6, fun h0_ => absurd ((hoff 7 (by kernel_rfl)).symm.trans h0_) (by decide)⟩
     refine steps_cons ?_ ?_
     ·
      rintro b a w' ⟨v534, m7_, ha, Q_HO_5, Q_HO_520000, Q_HO_520002, Q_HO_8, Q_BK507, Q_BK519, Q_HI523, Q_HB, Q_HI523_e3, Q_HO535, Q_BK507_e6, Q_X7_⟩ hb_ hon hoff
      refine ⟨_, rfl, fun K hK => ?_⟩
      have e25 : a.tmps[25]? = some (.slice Ao14 t508.length co14) := by rw [ha]; exact (putSel_off rfl).trans rfl
      replace ha := Aside0.mk ha
      have HO_5 := Aside0.mk Q_HO_5
      have HO_520000 := Aside0.mk Q_HO_520000
      have HO_520002 := Aside0.mk Q_HO_520002
      have HO_8 := Aside0.mk Q_HO_8
      have BK507 := Aside0.mk (Q_BK507 (hoff 6 (by kernel_rfl)))
      have BK519 := Aside0.mk Q_BK519
      have HB := Aside0.mk Q_HB
      have HI523 := Aside0.mk (Q_HI523_e3 (hon 3 (by kernel_rfl)))
      refine value_ (w1 := w') (v := .slice Ao14 t508.length co14) (by rfl) rfl ?_ ?_
      ·
       go_simp
       (try simp only [i64_w])
       try rfl
      refine hK.out _ _ ⟨v534, m7_, (by rw [ha.out]; exact putSel_upk 3 hb_ rfl rfl rfl), Q_HO_5, Q_HO_520000, Q_HO_520002, Q_HO_8, Q_BK507, Q_BK519, fun h0_ => absurd ((hon 3 (by kernel_rfl)).symm.trans h0_) (by decide), Q_HB, Q_HI523_e3, Q_HO535, fun h0_ => absurd ((hoff 6 (by kernel_rfl)).symm.trans h0_) (by decide), fun h0_ => absurd ((hoff 7 (by kernel_rfl)).symm.trans h0_) (by decide)⟩
     refine steps_cons ?_ ?_
     ·
      rintro b a w' ⟨v534, m7_, ha, Q_HO_5, Q_HO_520000, Q_HO_520002, Q_HO_8, Q_BK507, Q_BK519, Q_HI523, Q_HB, Q_HI523_e3, Q_HO535, Q_BK507_e6, Q_X7_⟩ hb_ hon hoff
      refine ⟨_, rfl, fun K hK => ?_⟩
      have e3 : a.tmps[3]? = some (.pointer (some ⟨gb507, 0, none⟩)) := by rw [ha]; exact (putSel_off rfl).trans rfl
      have e26 : a.tmps[26]? = some (.agg #[.slice Ao9 t511.length co9, .int .i64 t514, .slice Ao12 t515.length co12, .int .i64 t518]) := by rw [ha]; exact putSel_on (e := (1, 26, .agg #[.slice Ao9 t511.length co9, .int .i64 t514, .slice Ao12 t515.length co12, .int .i64 t518])) 0 rfl rfl (hon 1 (by kernel_rfl)) rfl
      replace ha := Aside0.mk ha
      have HO_5 := Aside0.mk Q_HO_5
      have HO_520000 := Aside0.mk Q_HO_520000
      have HO_520002 := Aside0.mk Q_HO_520002
      have HO_8 := Aside0.mk Q_HO_8
      have BK507 := Aside0.mk (Q_BK507 hb_)
      have BK519 := Aside0.mk Q_BK519
      have HB := Aside0.mk Q_HB
      have HI523 := Aside0.mk (Q_HI523_e3 (hon 3 (by kernel_rfl)))
      have hs26 : w'.cell? ⟨gb507, 0, none⟩ = some (.slice none 0 0) := bC BK507 0
      have hfs26 := blk_frozen BK507.out 0
      have hns26_1 := NB519_507.out
      have hms26_1 := NB507_519.out
      have hs27 : w'.cell? ⟨gb507, 1, none⟩ = some (.int .i64 0) := bC BK507 1
      have hfs27 := blk_frozen BK507.out 1
      have hns27_1 := NB519_507.out
      have hms27_1 := NB507_519.out
      have hs28 : w'.cell? ⟨gb507, 2, none⟩ = some (.slice none 0 0) := bC BK507 2
      have hfs28 := blk_frozen BK507.out 2
      have hns28_1 := NB519_507.out
      have hms28_1 := NB507_519.out
      have hs29 : w'.cell? ⟨gb507, 3, none⟩ = some (.int .i64 0) := bC BK507 3
      have hfs29 := blk_frozen BK507.out 3
      have hns29_1 := NB519_507.out
      have hms29_1 := NB507_519.out
      refine skip_ (w1 := ?_) (by rfl) rfl ?_ ?_
      rotate_left
      ·
       go_simp
       rfl
      refine hK.out _ _ ⟨v534, m7_, (by rw [ha.out]; exact putSel_none (v := undef) rfl), (Kd.R_mono (rf HO_5 BK507) (fun _ hk => trivial)), (rf HO_520000 BK507), (rf HO_520002 BK507), (Kd.S_mono (sf HO_8 BK507) (fun _ hk => ⟨hk.1, hk.2⟩)), fun h0_ => absurd ((up_self b 6).symm.trans h0_) (by decide), (kf BK519 NB519_507), fun h0_ => absurd ((hon 3 (by kernel_rfl)).symm.trans h0_) (by decide), (by exact sB3 HB.out (IsS138.ge HI523.out) GE507.out GE519.out), fun _ => (by exact sI1382 HI523.out NB523_507.out NB523_519.out), fun h0_ => (by (with_reducible repeat (first | apply Kd.R_alloc | apply Kd.R_drewN | apply Kd.R_drew)); exact Kd.R_mono (Kd.R_far (p := ⟨gb507, 3, none⟩) (Kd.R_far (p := ⟨gb507, 2, none⟩) (Kd.R_far (p := ⟨gb507, 1, none⟩) (Kd.R_far (p := ⟨gb507, 0, none⟩) (Kd.R_types (Q_HO535 h0_) BK507.out (by decide)) (fun _ hk => hk.2) (.slice Ao9 t511.length co9)) (fun _ hk => hk.2) (.int .i64 t514)) (fun _ hk => hk.2) (.slice Ao12 t515.length co12)) (fun _ hk => hk.2) (.int .i64 t518)) (fun _ hk => ⟨hk.1.1, hk.1.2⟩)), fun _ => (kp BK507), fun h0_ => absurd ((hoff 7 (by kernel_rfl)).symm.trans h0_) (by decide)⟩
     refine steps_cons ?_ ?_
     ·
      rintro b a w' ⟨v534, m7_, ha, Q_HO_5, Q_HO_520000, Q_HO_520002, Q_HO_8, Q_BK507, Q_BK519, Q_HI523, Q_HB, Q_HI523_e3, Q_HO535, Q_BK507_e6, Q_X7_⟩ hb_ hon hoff
      refine ⟨_, rfl, fun K hK => ?_⟩
      have e29 : a.tmps[29]? = some (v534) := by rw [ha]; exact putSel_on (e := (4, 29, v534)) 2 rfl rfl (hon 4 (by kernel_rfl)) rfl
      replace ha := Aside0.mk ha
      have HO_5 := Aside0.mk Q_HO_5
      have HO_520000 := Aside0.mk Q_HO_520000
      have HO_520002 := Aside0.mk Q_HO_520002
      have HO_8 := Aside0.mk Q_HO_8
      have BK519 := Aside0.mk Q_BK519
      have HB := Aside0.mk Q_HB
      have HI523 := Aside0.mk (Q_HI523_e3 (hon 3 (by kernel_rfl)))
      have HO535 := Aside0.mk (Q_HO535 (hon 4 (by kernel_rfl)))
      have BK507 := Aside0.mk (Q_BK507_e6 (hon 6 (by kernel_rfl)))
      refine value_ (w1 := w') (v := v534) (by rfl) rfl ?_ ?_
      ·
       go_simp
       (try simp only [i64_w])
       try rfl
      refine hK.out _ _ ⟨v534, (v534), (by rw [ha.out]; exact putSel_upk 4 hb_ rfl rfl rfl), Q_HO_5, Q_HO_520000, Q_HO_520002, Q_HO_8, fun h0_ => absurd ((hon 6 (by kernel_rfl)).symm.trans h0_) (by decide), Q_BK519, fun h0_ => absurd ((hon 3 (by kernel_rfl)).symm.trans h0_) (by decide), Q_HB, Q_HI523_e3, Q_HO535, Q_BK507_e6, fun _ => rfl⟩
     exact steps_nil
    rintro b a w31 hall ⟨v534, m7_, ha, Q_HO_5, Q_HO_520000, Q_HO_520002, Q_HO_8, Q_BK507, Q_BK519, Q_HI523, Q_HB, Q_HI523_e3, Q_HO535, Q_BK507_e6, Q_X7_⟩
    clear BK507 BK519 HB HI523 HO_5 HO_520000 HO_520002 HO_8
    have hb1_ := hall 1 (by kernel_rfl)
    have hb3_ := hall 3 (by kernel_rfl)
    have hb4_ := hall 4 (by kernel_rfl)
    have hb5_ := hall 5 (by kernel_rfl)
    have hb6_ := hall 6 (by kernel_rfl)
    have hb7_ := hall 7 (by kernel_rfl)
    subst ha
    obtain rfl := Q_X7_ hb7_
    simp only [putSel, hb1_, hb3_, hb4_, hb5_, hb6_, hb7_, if_true, Act.put, List.setIfInBounds_toArray, List.set_cons_zero, List.set_cons_succ]
    have HO_5 := Aside0.mk Q_HO_5
    clear Q_HO_5
    have HO_520000 := Aside0.mk Q_HO_520000
    clear Q_HO_520000
    have HO_520002 := Aside0.mk Q_HO_520002
    clear Q_HO_520002
    have HO_8 := Aside0.mk Q_HO_8
    clear Q_HO_8
    clear Q_BK507
    have BK519 := Aside0.mk Q_BK519
    clear Q_BK519
    clear Q_HI523
    have HB := Aside0.mk Q_HB
    clear Q_HB
    have HI523 := Aside0.mk (Q_HI523_e3 hb3_)
    clear Q_HI523_e3
    have HO535 := Aside0.mk (Q_HO535 hb4_)
    clear Q_HO535
    have BK507 := Aside0.mk (Q_BK507_e6 hb6_)
    clear Q_BK507_e6
    clear hall hb1_ hb3_ hb4_ hb5_ hb6_ hb7_
    try go_wp2
    refine bodyPost_ret (results_list (rs := [.tmp 2, .cell 3 66, .tmp 4]) rfl (by simp) (.tmp (.cell gb507 66 #[.slice Ao9 t511.length co9, .int .i64 t514, .slice Ao12 t515.length co12, .int .i64 t518] (0, 0) _ rfl (bK BK507) Try.underlying66 rfl (by kernel_rfl) (.tmp .nil)))) rfl ?_
    exact ⟨_, _, _, _, rA, rK HO_5, rm ⟨symR HO_520000.out HO535.out (fun _ hk => hk.1)⟩ (fun _ hk => ⟨hk.1, hk.2⟩), rm ⟨symR HO_520002.out HO535.out (fun _ hk => hk.2)⟩ (fun _ hk => ⟨hk.1, hk.2⟩), rK HO535, by exact sB3 HB.out (IsS138.ge HI523.out) GE507.out GE519.out⟩
   replace c21 := Bool.eq_false_iff.mpr c21
   subst c21
   have H1 : ((spec_l1Below.f t520 x524001_4 x524002_4 (t524.length : Int)).bind fun bt536 => (if 0 ≤ bt536.1 then (if bt536.1 < (t524.length : Int) then (some (t508, t511, t514, t515, t518, rd_L4 t524 bt536.1)) else (none)) else (none))) = some (r1, r2, r3, r4, r5, r6) := by rw [if_neg (show ¬ (false = true) by decide)] at H; exact H
   clear H
   have H := H1
   clear H1
   obtain ⟨⟨t536, t537, t538⟩, A32, H⟩ := bindE H
   try dsimp only at H
   have c33 : 0 ≤ t536 := ifN H
   replace H := ifT H
   have c33b0 := decide_eq_true c33
   clear c33
   have c34 : t536 < (t524.length : Int) := ifN H
   replace H := ifT H
   have c34b0 := decide_eq_true c34
   clear c34
   simp only [Option.some.injEq, Prod.mk.injEq] at H
   obtain ⟨rfl, rfl, rfl, rfl, rfl, rfl⟩ := H
   try go_wp2
   replace HO_5 := dr HO_5
   replace HO_8 := ds HO_8
   replace HO_520000 := dr HO_520000
   replace HO_520002 := dr HO_520002
   replace BK507 := dk BK507
   replace BK519 := dk BK519
   replace HI523 := Aside0.mk (IsS138.drew HI523.out)
   have HBo := HB
   replace HB := db HB
   obtain ⟨Ao36, co36, eo36⟩ := Kd.S_slice HO_8.out
   (first | subst eo36 | (injection eo36 with f1_ f2_ f3_; have f4_ := f1_.symm; have f5_ := f3_.symm; clear f1_ f2_ f3_; subst f4_; subst f5_))
   obtain ⟨p539, q539⟩ : 0 ≤ (t536 : Int) ∧ t536 < (t524.length : Int) := ⟨dA, dA⟩
   obtain ⟨ad539, A539_0, c539_0, e539, hx539_0, hl539_0, hi539_0⟩ := at_L4 (Kd.S_reads' HO_8.out).2.2 t536 p539 q539
   cases e539
   obtain ⟨ce539, hce539, hMe539, hcc539⟩ := Kd.S_get HO_8.out [] t536 p539 (by first | exact q539 | exact dA | (have e_ := (Kd.S_reads' HO_8.out).1; omega))
   obtain ⟨ve539_0, rfl, ge539_0⟩ := hMe539
   have hv539_0 := hcc539 0 _ rfl
   rw [Nat.add_zero, show ((Kd.slice 3 (Kd.int .i64))).sz = 1 from rfl, Nat.mul_one] at hv539_0
   replace hv539_0 := Option.some.inj (hv539_0.symm.trans hx539_0)
   rw [hv539_0] at ge539_0
   have HL539_0 := Aside0.mk (show Kd.R (Kd.int .i64) 3 _ _ _ _ (rd_L4 t524 t536) from ge539_0)
   clear hv539_0 ge539_0
   clear hcc539 hce539
   have HR539_0 := Aside0.mk hi539_0
   have HC539_0 := Aside0.mk hl539_0
   clear hi539_0 hl539_0
   obtain ⟨p539, q539⟩ := eT p539 q539
   refine sw (ds := []) 12 (mb 12 0) spec_DrawAskStage.tab6 spec_DrawAskStage.bits6 (h4c BK519 (h1 hx539_0)) (fun hHeld HT_ HW_ => ?_)
   generalize wc.drew = w35 at HO_5 HO_8 HO_520000 HO_520002 BK507 BK519 HI523 HB HL539_0 HR539_0 hx539_0 hHeld ⊢
   refine pa 0 30 (mb 12 1) HT_ ?_
   refine pa 2 32 (mb 12 5) HT_ ?_
   refine pa 3 33 (mb 12 13) HT_ ?_
   refine pa 4 34 (mb 12 29) HT_ ?_
   refine pa 5 35 (mb 12 61) HT_ ?_
   refine ta5 1 31 (mb 12 63) HT_ HW_ hHeld ?_
   refine oa 6 36 (mb 12 127) HT_ (fun K hK => ?_)
   refine gA Try.func84 #[.pointer (some ⟨g523, 0, none⟩), .int .i64 (t524.length : Int)] ?_
   with_reducible refine (spec_l1Below.calls g523 t520 x524001_4 x524002_4 (t524.length : Int) t536 t537 t538 w _ ?side1 ?side2 A32.out).mono ?_
   (case side1 => exact sI1382 HI523.out NB523_507.out NB523_519.out)
   (case side2 => exact sB3 HB.out (IsS138.ge HI523.out) GE507.out GE519.out)
   rintro e w37 ⟨rfl, hi, hb, hk⟩
   have HS4_ := keep_cell hk (hHeld.2.2.2.2) (by first | (rw [add_block]; exact Kd.own_blk (IsS138.own_neS HI523.out HO_8.out (by decide))) | (show (Addr.add _ _).block ≠ _; rw [add_block]; exact Kd.own_blk (IsS138.own_neS HI523.out HO_8.out (by decide))) | exact Kd.own_blk (IsS138.own_neS HI523.out HO_8.out (by decide)))
   refine ⟨_, rfl, ?_⟩
   replace HO_5 := Aside0.mk (Kd.R_mono (Kd.R_keep (IsS138.apart (show IsS138 w _ g523 t520 x524001_4 x524002_4 from by exact sI1382 HI523.out NB523_507.out NB523_519.out) (rK HO_5) (by decide)) hk (fun _ h => h.2)) (fun _ h => h.1))
   replace HO_8 := Aside0.mk (Kd.S_mono (Kd.S_keep (IsS138.apartS (show IsS138 w _ g523 t520 x524001_4 x524002_4 from by exact sI1382 HI523.out NB523_507.out NB523_519.out) (sK HO_8) (by decide)) hk (fun _ h => h.2)) (fun _ h => h.1))
   replace HO_520000 := Aside0.mk (Kd.R_mono (Kd.R_keep (IsS138.apart (show IsS138 w _ g523 t520 x524001_4 x524002_4 from by exact sI1382 HI523.out NB523_507.out NB523_519.out) (rK HO_520000) (by decide)) hk (fun _ h => h.2)) (fun _ h => h.1))
   replace HO_520002 := Aside0.mk (Kd.R_mono (Kd.R_keep (IsS138.apart (show IsS138 w _ g523 t520 x524001_4 x524002_4 from by exact sI1382 HI523.out NB523_507.out NB523_519.out) (rK HO_520002) (by decide)) hk (fun _ h => h.2)) (fun _ h => h.1))
   replace BK507 := Aside0.mk (KeepBut.blk hk (g' := gb507) (o := .cells #[.slice none 0 0, .int .i64 0, .slice none 0 0, .int .i64 0] 66 (0, 0)) (bK BK507) NB507_523.out (by simp))
   replace BK519 := Aside0.mk (KeepBut.blk hk (g' := gb519) (o := .cells #[.slice Ao9 t511.length co9, .int .i64 t514, .slice Ao12 t515.length co12, .int .i64 t518] 66 (0, 0)) (bK BK519) NB519_523.out (by simp))
   replace HL539_0 := Aside0.mk (Kd.R_mono (Kd.R_keep (IsS138.apart (show IsS138 w _ g523 t520 x524001_4 x524002_4 from by exact sI1382 HI523.out NB523_507.out NB523_519.out) (by (with_reducible repeat (first | apply Kd.R_alloc | apply Kd.R_drewN | apply Kd.R_drew)); exact HL539_0.out) (by decide)) hk (fun _ h => h.2)) (fun _ h => h.1))
   replace HR539_0 := Aside0.mk (Kd.R_reads' HL539_0.out).2.2
   replace HB := Aside0.mk (hb)
   replace HI523 := Aside0.mk (hi)
   (try clear hb)
   (try clear hb2)
   (try clear hk)
   (try clear hi)
   refine hK.out _ _ (cm4 BK519 HS4_) (fun hHeld => ?_)
   clear hK K
   refine nB ?_
   refine pa 7 37 (mb 12 255) HT_ ?_
   refine pa 9 2 (mb 12 767) HT_ ?_
   refine ta5 8 38 (mb 12 1023) HT_ HW_ hHeld ?_
   refine oA (i := 10) (N := none) (mb 12 2047) HT_ (fun K hK => ?_)
   have hs38 : w37.cell? ⟨gb507, 0, none⟩ = some (.slice none 0 0) := bC BK507 0
   have hfs38 := blk_frozen BK507.out 0
   have hns38_1 := NB519_507.out
   have hms38_1 := NB507_519.out
   have hs39 : w37.cell? ⟨gb507, 1, none⟩ = some (.int .i64 0) := bC BK507 1
   have hfs39 := blk_frozen BK507.out 1
   have hns39_1 := NB519_507.out
   have hms39_1 := NB507_519.out
   have hs40 : w37.cell? ⟨gb507, 2, none⟩ = some (.slice none 0 0) := bC BK507 2
   have hfs40 := blk_frozen BK507.out 2
   have hns40_1 := NB519_507.out
   have hms40_1 := NB507_519.out
   have hs41 : w37.cell? ⟨gb507, 3, none⟩ = some (.int .i64 0) := bC BK507 3
   have hfs41 := blk_frozen BK507.out 3
   have hns41_1 := NB519_507.out
   have hms41_1 := NB507_519.out
   refine skip_ (w1 := ?_) (by rfl) rfl ?_ ?_
   rotate_left
   ·
    go_simp
    rfl
   refine hK.out _ _ ⟨((cell_far (p := ⟨gb507, _, none⟩) NB519_507.out _).trans (((cell_far (p := ⟨gb507, _, none⟩) NB519_507.out _).trans (((cell_far (p := ⟨gb507, _, none⟩) NB519_507.out _).trans (((cell_far (p := ⟨gb507, _, none⟩) NB519_507.out _).trans (hHeld.1)))))))), ((cell_far (p := ⟨gb507, _, none⟩) NB519_507.out _).trans (((cell_far (p := ⟨gb507, _, none⟩) NB519_507.out _).trans (((cell_far (p := ⟨gb507, _, none⟩) NB519_507.out _).trans (((cell_far (p := ⟨gb507, _, none⟩) NB519_507.out _).trans (hHeld.2.1)))))))), ((cell_far (p := ⟨gb507, _, none⟩) NB519_507.out _).trans (((cell_far (p := ⟨gb507, _, none⟩) NB519_507.out _).trans (((cell_far (p := ⟨gb507, _, none⟩) NB519_507.out _).trans (((cell_far (p := ⟨gb507, _, none⟩) NB519_507.out _).trans (hHeld.2.2.1)))))))), ((cell_far (p := ⟨gb507, _, none⟩) NB519_507.out _).trans (((cell_far (p := ⟨gb507, _, none⟩) NB519_507.out _).trans (((cell_far (p := ⟨gb507, _, none⟩) NB519_507.out _).trans (((cell_far (p := ⟨gb507, _, none⟩) NB519_507.out _).trans (hHeld.2.2.2.1)))))))), ((cell_far (p := ⟨gb507, _, none⟩) (by first | exact Kd.own_blk (Kd.S_ne HO_8.out BK507.out (by decide)) | (rw [add_block]; exact Kd.own_blk (Kd.S_ne HO_8.out BK507.out (by decide))) | (show (Addr.add _ _).block ≠ _; rw [add_block]; exact Kd.own_blk (Kd.S_ne HO_8.out BK507.out (by decide))) | (dsimp only; exact Kd.own_blk (Kd.S_ne HO_8.out BK507.out (by decide)))) _).trans (((cell_far (p := ⟨gb507, _, none⟩) (by first | exact Kd.own_blk (Kd.S_ne HO_8.out BK507.out (by decide)) | (rw [add_block]; exact Kd.own_blk (Kd.S_ne HO_8.out BK507.out (by decide))) | (show (Addr.add _ _).block ≠ _; rw [add_block]; exact Kd.own_blk (Kd.S_ne HO_8.out BK507.out (by decide))) | (dsimp only; exact Kd.own_blk (Kd.S_ne HO_8.out BK507.out (by decide)))) _).trans (((cell_far (p := ⟨gb507, _, none⟩) (by first | exact Kd.own_blk (Kd.S_ne HO_8.out BK507.out (by decide)) | (rw [add_block]; exact Kd.own_blk (Kd.S_ne HO_8.out BK507.out (by decide))) | (show (Addr.add _ _).block ≠ _; rw [add_block]; exact Kd.own_blk (Kd.S_ne HO_8.out BK507.out (by decide))) | (dsimp only; exact Kd.own_blk (Kd.S_ne HO_8.out BK507.out (by decide)))) _).trans (((cell_far (p := ⟨gb507, _, none⟩) (by first | exact Kd.own_blk (Kd.S_ne HO_8.out BK507.out (by decide)) | (rw [add_block]; exact Kd.own_blk (Kd.S_ne HO_8.out BK507.out (by decide))) | (show (Addr.add _ _).block ≠ _; rw [add_block]; exact Kd.own_blk (Kd.S_ne HO_8.out BK507.out (by decide))) | (dsimp only; exact Kd.own_blk (Kd.S_ne HO_8.out BK507.out (by decide)))) _).trans (hHeld.2.2.2.2))))))))⟩ (fun hHeld => ?_)
   clear hK K
   refine pa 11 4 (mb 12 4095) HT_ ?_
   refine eA HT_ ?_
   try go_wp2
   refine bodyPost_ret (results_list (rs := [.tmp 2, .cell 3 66, .tmp 4]) rfl (by simp) (.tmp (.cell gb507 66 #[.slice Ao9 t511.length co9, .int .i64 t514, .slice Ao12 t515.length co12, .int .i64 t518] (0, 0) _ rfl (kp BK507) Try.underlying66 rfl (by kernel_rfl) (.tmp .nil)))) rfl ?_
   exact ⟨_, _, _, _, rA, Kd.R_mono (rf HO_5 BK507) (fun _ hk => trivial), by (with_reducible repeat (first | apply Kd.R_alloc | apply Kd.R_drewN | apply Kd.R_drew)); exact Kd.R_mono (symR (Kd.R_far (p := ⟨gb507, 3, none⟩) (Kd.R_far (p := ⟨gb507, 2, none⟩) (Kd.R_far (p := ⟨gb507, 1, none⟩) (Kd.R_far (p := ⟨gb507, 0, none⟩) (Kd.R_types HO_520000.out BK507.out (by decide)) (fun _ hk => hk.2) (.slice Ao9 t511.length co9)) (fun _ hk => hk.2) (.int .i64 t514)) (fun _ hk => hk.2) (.slice Ao12 t515.length co12)) (fun _ hk => hk.2) (.int .i64 t518)) HL539_0.out (fun k_ hk_ => hk_.1.1)) (fun _ hk => ⟨hk.1.1, hk.2⟩), by (with_reducible repeat (first | apply Kd.R_alloc | apply Kd.R_drewN | apply Kd.R_drew)); exact Kd.R_mono (symR (Kd.R_far (p := ⟨gb507, 3, none⟩) (Kd.R_far (p := ⟨gb507, 2, none⟩) (Kd.R_far (p := ⟨gb507, 1, none⟩) (Kd.R_far (p := ⟨gb507, 0, none⟩) (Kd.R_types HO_520002.out BK507.out (by decide)) (fun _ hk => hk.2) (.slice Ao9 t511.length co9)) (fun _ hk => hk.2) (.int .i64 t514)) (fun _ hk => hk.2) (.slice Ao12 t515.length co12)) (fun _ hk => hk.2) (.int .i64 t518)) HL539_0.out (fun k_ hk_ => hk_.1.2)) (fun _ hk => ⟨hk.1.1, hk.2⟩), by (with_reducible repeat (first | apply Kd.R_alloc | apply Kd.R_drewN | apply Kd.R_drew)); exact Kd.R_mono (Kd.R_far (p := ⟨gb507, 3, none⟩) (Kd.R_far (p := ⟨gb507, 2, none⟩) (Kd.R_far (p := ⟨gb507, 1, none⟩) (Kd.R_far (p := ⟨gb507, 0, none⟩) (Kd.R_types HL539_0.out BK507.out (by decide)) (fun _ hk => hk.2) (.slice Ao9 t511.length co9)) (fun _ hk => hk.2) (.int .i64 t514)) (fun _ hk => hk.2) (.slice Ao12 t515.length co12)) (fun _ hk => hk.2) (.int .i64 t518)) (fun _ hk => ⟨hk.1.1.1, hk.1.1.2⟩), by exact sB3 HB.out (IsS138.ge HI523.out) GE507.out GE519.out⟩

/-! ### impl_FindPath: function 16 -/
def impl_FindPath.q (id : Int) (x : S50) : Bool := decide (x.f0 = id)
set_option maxHeartbeats 400000 in
set_option maxRecDepth 100000 in
theorem impl_FindPath.clo (id : Int) (g : Nat) (x : S50) (w : World) (hc : w.cell? ⟨g, 0, none⟩ = some (.int .i64 id)) :
  Calls Try.prog 80 #[.agg #[.int .i64 x.f0, .int .i64 x.f1, .int .i64 x.f2, .int .i64 x.f3], .pointer (some ⟨g, 0, none⟩)] w fun e w' => e = .returned (.bool (impl_FindPath.q id x)) ∧ Below w.heap.size w w' := by
 have hu := Try.underlying50
 have hg : g < w.heap.size := World.block_lt_of_cell? w _ hc
 go_enter Try.func80, Try.ntmps80
 go_wp2
 go_ret
 exact ⟨by unfold impl_FindPath.q; first | rfl | simp, (Below.refl _ _).alloc (Nat.le_refl _) _⟩
def impl_FindPath.ix (id : Int) : List S50 → Int → Int
 | [], _ => -1
 | x :: l, i => if impl_FindPath.q id x = true then i else impl_FindPath.ix id l (i + 1)
theorem impl_FindPath.ix_hit (id : Int) : ∀ (l : List S50) (i : Int) (m : Nat) (hm : m < l.length), (∀ j (hj : j < m), impl_FindPath.q id (l[j]'(by omega)) = false) → impl_FindPath.q id l[m] = true → impl_FindPath.ix id l i = i + m
 | [], i, m, hm, _, _ => absurd hm (by simp)
 | p :: l, i, 0, hm, _, h => by
  unfold impl_FindPath.ix
  rw [if_pos (show impl_FindPath.q id p = true from h)]
  simp
 | p :: l, i, m + 1, hm, hne, h => by
  unfold impl_FindPath.ix
  have h2 : impl_FindPath.q id p = false := hne 0 (by omega)
  rw [if_neg (by rw [h2]; decide), impl_FindPath.ix_hit id l (i + 1) m (by simpa using hm) (fun j hj => hne (j + 1) (by omega)) h]
  omega
theorem impl_FindPath.ix_miss (id : Int) : ∀ (l : List S50) (i : Int), (∀ j (hj : j < l.length), impl_FindPath.q id l[j] = false) → impl_FindPath.ix id l i = -1
 | [], i, _ => rfl
 | p :: l, i, h => by
  unfold impl_FindPath.ix
  have h2 : impl_FindPath.q id p = false := h 0 (by simp)
  rw [if_neg (by rw [h2]; decide), impl_FindPath.ix_miss id l (i + 1) (fun j hj => h (j + 1) (by simpa using hj))]
theorem impl_FindPath.rd_ (l : List S50) (j : Nat) (hj : j < l.length) : rd_T50 l (j : Int) = l[j] := by
 unfold rd_T50; simp [List.getD_eq_getElem?_getD, List.getElem?_eq_getElem hj]
set_option maxHeartbeats 4000000 in
set_option maxRecDepth 100000 in
theorem impl_FindPath.idx (id : Int) (g : Nat) (A0 : Option Addr) (c0 : Nat) (l0 : List S50) (w : World) (hr0 : Kd.C k50 w A0 l0.length l0) (hc0 : l0.length ≤ c0) (hc : w.cell? ⟨g, 0, none⟩ = some (.int .i64 id)) :
  Calls Try.prog 79 #[.slice A0 l0.length c0, .func (.func 80) #[] #[.pointer (some ⟨g, 0, none⟩)]] w fun e w' => e = .returned (.int .i64 (impl_FindPath.ix id l0 0)) ∧ Below w.heap.size w w' := by
 have hu := Try.underlying50
 have HC := Aside0.mk hc
 clear hc
 have HR0 := Aside0.mk hr0
 have HC0 := Aside0.mk hc0
 have hlen : l0.length ≤ 9223372036854775807 := hr0.2.1
 clear hr0 hc0
 have HB := Aside0.mk (Below.refl w.heap.size w)
 go_enter Try.func79, Try.ntmps79
 go_wp2
 go_loopg [5, 8] l0.length (fun gg v5 v8 w' => ∃ kk : Nat, v8 = .int .i64 kk ∧ Aside0 (kk ≤ l0.length) ∧ Aside0 (l0.length - kk ≤ gg) ∧ Aside0 (Below w.heap.size w w') ∧ Aside0 (∀ j (hj : j < kk) (hl : j < l0.length), impl_FindPath.q id l0[j] = false))
 case atStart => exact ⟨0, rfl, ⟨Nat.zero_le _⟩, ⟨by omega⟩, HB, ⟨fun j hj => absurd hj (Nat.not_lt_zero _)⟩⟩
 case round =>
  clear HB
  obtain ⟨kk, rfl, hk, hg, HB, HA⟩ := hrel
  by_cases hlt : kk < l0.length
  ·
   have hltz : decide ((kk : Int) < (l0.length : Int)) = true := decide_eq_true (by omega)
   have hltn : decide (kk < l0.length) = true := decide_eq_true hlt
   have p0 : (0 : Int) ≤ (kk : Int) := by omega
   have q0 : (kk : Int) < (l0.length : Int) := by omega
   have HE := Aside0.mk (impl_FindPath.rd_ l0 kk hlt)
   obtain ⟨ad, e1, hx0, hx1, hx2, hx3⟩ := at_T50 HR0.out (kk : Int) p0 q0
   cases e1
   rw [Int.toNat_natCast] at hx0 hx1 hx2 hx3
   replace hx0 := hC HB hx0
   replace hx1 := hC HB hx1
   replace hx2 := hC HB hx2
   replace hx3 := hC HB hx3
   replace p0 := eq_true p0
   replace q0 := eq_true q0
   have hcl := fun (w' : World) (hb : Below w.heap.size w w') => impl_FindPath.clo id g (rd_T50 l0 (kk : Int)) w' ((hb.cell (World.block_lt_of_cell? w _ HC.out)).trans HC.out)
   cases hq : impl_FindPath.q id (rd_T50 l0 (kk : Int)) with
   | true =>
    rw [hq] at hcl
    have HCL := Aside0.mk hcl
    have HQ := Aside0.mk hq
    clear hcl hq
    go_wp2_with (go_at_call 80; refine (HCL.out _ HB.out).mono ?_; rintro e w1 ⟨rfl, hb1⟩)
    go_ret
    refine ⟨?_, below_step HB.out hb1⟩
    have hq := HQ.out
    rw [HE.out] at hq
    rw [impl_FindPath.ix_hit id l0 0 kk hlt (fun j hj => HA.out j hj (by omega)) hq, Int.zero_add]
    rfl
   | false =>
    rw [hq] at hcl
    have HCL := Aside0.mk hcl
    have HQ := Aside0.mk hq
    clear hcl hq
    go_wp2_with (go_at_call 80; refine (HCL.out _ HB.out).mono ?_; rintro e w1 ⟨rfl, hb1⟩)
    go_roundg (l0.length - (kk + 1))
    case measure => have := hg.out; omega
    case rel =>
     refine ⟨kk + 1, by go_num, ⟨by omega⟩, ⟨by omega⟩, ⟨below_step HB.out hb1⟩, ⟨fun j hj hl => ?_⟩⟩
     rcases Nat.lt_or_ge j kk with h3 | h3
     ·
      exact HA.out j h3 hl
     ·
      have h4 : j = kk := by omega
      subst h4
      rw [← HE.out]
      exact HQ.out
  ·
   have hge : decide ((kk : Int) < (l0.length : Int)) = false := decide_eq_false (by omega)
   have hgen : decide (kk < l0.length) = false := decide_eq_false hlt
   go_wp2
   go_ret
   refine ⟨?_, HB.out⟩
   rw [impl_FindPath.ix_miss id l0 0 (fun j hj => HA.out j (by omega) hj)]
   rfl

def impl_FindPath.f (l0 : List S50) (a1 : Int) : Option Int := some (impl_FindPath.ix a1 l0 0)
set_option maxHeartbeats 400000 in
set_option maxRecDepth 100000 in
theorem impl_FindPath.calls (A0 : Option Addr) (c0 : Nat) (l0 : List S50) (a1 : Int) (r : Int) (w : World) (hr0 : Kd.C k50 w A0 l0.length l0) (hc0 : l0.length ≤ c0) (h : impl_FindPath.f l0 a1 = some r) :
  Calls Try.prog 16 #[.slice A0 l0.length c0, .int .i64 a1] w fun e w' => e = .returned (.int .i64 r) ∧ Below w.heap.size w w' := by
 obtain rfl := Option.some.inj h
 have HR0 := Aside0.mk hr0
 have HC0 := Aside0.mk hc0
 clear hr0 hc0 h
 go_enter Try.func16, Try.ntmps16
 go_wp2_with (go_at_call 79; refine (impl_FindPath.idx a1 w.heap.size A0 c0 l0 _ ?s1 HC0.out ?s2).mono ?_; (case s1 => exact Kd.C_alloc HR0.out _); (case s2 => simp); rintro e w1 ⟨rfl, hb1⟩)
 go_ret
 exact ⟨rfl, below_step (below_alloc (Below.refl _ _) _) hb1⟩

/-! ### impl_InRange: function 75 -/
def impl_InRange.f (a0 : Int) (a1 : Int) (a2 : Int) : Option (Bool) := if a1 ≤ a0 then (some (decide (a0 ≤ a2))) else (some false)
set_option maxHeartbeats 8000000 in
set_option maxRecDepth 100000 in
theorem impl_InRange.calls (a0 : Int) (a1 : Int) (a2 : Int) (r : Bool) (w : World) (h : impl_InRange.f a0 a1 a2 = some r) :
  Calls Try.prog 75 #[.int .i64 a0, .int .i64 a1, .int .i64 a2] w fun e w' => e = .returned (.bool r) ∧ Drawn0 w w' := by
 have H : (if a1 ≤ a0 then (some (decide (a0 ≤ a2))) else (some false)) = some r := h
 clear h
 by_cases c4 : a1 ≤ a0
 ·
  rw [if_pos c4] at H
  have c4b0 := decide_eq_true c4
  clear c4
  obtain rfl := Option.some.inj H
  go_enter Try.func75, Try.ntmps75
  go_wp2
  go_ret
  exact ⟨rS, dD⟩
 rw [if_neg c4] at H
 have c4b0 := decide_eq_false c4
 clear c4
 obtain rfl := Option.some.inj H
 go_enter Try.func75, Try.ntmps75
 go_wp2
 go_ret
 exact ⟨rS, dD⟩

/-! ### impl_IsPath: function 90 -/
def impl_IsPath.f (a0_0 : Int) (a0_1 : Int) (a0_2 : Int) (a0_3 : Int) : Option (Bool) := (impl_InRange.f a0_0 1 20).bind fun t541 => (if t541 = true then ((impl_InRange.f a0_1 1 3).bind fun t542 => (if t542 = true then ((impl_InRange.f a0_2 0 3).bind fun t543 => (if t543 = true then ((impl_InRange.f a0_3 0 3).bind fun t544 => (if t544 = true then (some ((a0_2 == a0_3) == (a0_1 == 2))) else (some false))) else (some false))) else (some false))) else (some false))
set_option maxHeartbeats 8000000 in
set_option maxRecDepth 100000 in
theorem impl_IsPath.calls (a0_0 : Int) (a0_1 : Int) (a0_2 : Int) (a0_3 : Int) (r : Bool) (w : World) (h : impl_IsPath.f a0_0 a0_1 a0_2 a0_3 = some r) :
  Calls Try.prog 90 #[.agg #[.int .i64 a0_0, .int .i64 a0_1, .int .i64 a0_2, .int .i64 a0_3]] w fun e w' => e = .returned (.bool r) ∧ Below w.heap.size w w' := by
 have hu50 := Try.underlying50
 have HB := Aside0.mk (Below.refl w.heap.size w)
 have H : ((impl_InRange.f a0_0 1 20).bind fun t541 => (if t541 = true then ((impl_InRange.f a0_1 1 3).bind fun t542 => (if t542 = true then ((impl_InRange.f a0_2 0 3).bind fun t543 => (if t543 = true then ((impl_InRange.f a0_3 0 3).bind fun t544 => (if t544 = true then (some ((a0_2 == a0_3) == (a0_1 == 2))) else (some false))) else (some false))) else (some false))) else (some false))) = some r := h
 clear h
 obtain ⟨t541, A2, H⟩ := bindE H
 try dsimp only at H
 by_cases c3 : t541 = true
 ·
  subst c3
  have H1 : ((impl_InRange.f a0_1 1 3).bind fun t542 => (if t542 = true then ((impl_InRange.f a0_2 0 3).bind fun t543 => (if t543 = true then ((impl_InRange.f a0_3 0 3).bind fun t544 => (if t544 = true then (some ((a0_2 == a0_3) == (a0_1 == 2))) else (some false))) else (some false))) else (some false))) = some r := by rw [if_pos rfl] at H; exact H
  clear H
  have H := H1
  clear H1
  obtain ⟨t542, A4, H⟩ := bindE H
  try dsimp only at H
  by_cases c5 : t542 = true
  ·
   subst c5
   have H1 : ((impl_InRange.f a0_2 0 3).bind fun t543 => (if t543 = true then ((impl_InRange.f a0_3 0 3).bind fun t544 => (if t544 = true then (some ((a0_2 == a0_3) == (a0_1 == 2))) else (some false))) else (some false))) = some r := by rw [if_pos rfl] at H; exact H
   clear H
   have H := H1
   clear H1
   obtain ⟨t543, A6, H⟩ := bindE H
   try dsimp only at H
   by_cases c7 : t543 = true
   ·
    subst c7
    have H1 : ((impl_InRange.f a0_3 0 3).bind fun t544 => (if t544 = true then (some ((a0_2 == a0_3) == (a0_1 == 2))) else (some false))) = some r := by rw [if_pos rfl] at H; exact H
    clear H
    have H := H1
    clear H1
    obtain ⟨t544, A8, H⟩ := bindE H
    try dsimp only at H
    by_cases c9 : t544 = true
    ·
     subst c9
     have H1 : (some ((a0_2 == a0_3) == (a0_1 == 2))) = some r := by rw [if_pos rfl] at H; exact H
     clear H
     have H := H1
     clear H1
     obtain rfl := Option.some.inj H
     go_enter Try.func90, Try.ntmps90
     go_wp2_with (first | ((with_reducible refine gate_dst (N := 1) rfl ?_); refine bE (N := 1) (cs := #[.int .i64 a0_0, .int .i64 a0_1, .int .i64 a0_2, .int .i64 a0_3]) (t := 50) ?_; intro gb540 hg w10 hbox hb; have BK540 := Aside0.mk (hbox); have GW540 := gw w hg; have GE540 := gw w hg; replace HB := bs HB hb; clear hb hbox hg; obtain ⟨_, _, _, _, _, _, _, _⟩ := blkc4 BK540) | ((with_reducible refine gate_callee (f := 75) rfl ?_); refine gL (some 5) Try.func75 #[.int .i64 a0_0, .int .i64 1, .int .i64 20] ?_; (with_reducible refine (impl_InRange.calls a0_0 1 20 true _ A2.out).mono ?_); rintro e w' ⟨rfl, ⟨nd, rfl⟩⟩; refine ⟨_, rfl, ?_⟩) | (go_at_call 75; (with_reducible refine (impl_InRange.calls a0_1 1 3 true _ A4.out).mono ?_); rintro e w' ⟨rfl, ⟨nd, rfl⟩⟩) | (go_at_call 75; (with_reducible refine (impl_InRange.calls a0_2 0 3 true _ A6.out).mono ?_); rintro e w' ⟨rfl, ⟨nd, rfl⟩⟩) | (go_at_call 75; (with_reducible refine (impl_InRange.calls a0_3 0 3 true _ A8.out).mono ?_); rintro e w' ⟨rfl, ⟨nd, rfl⟩⟩))
     go_ret
     exact ⟨rA, bG⟩
    replace c9 := Bool.eq_false_iff.mpr c9
    subst c9
    have H1 : (some false) = some r := by rw [if_neg (show ¬ (false = true) by decide)] at H; exact H
    clear H
    have H := H1
    clear H1
    obtain rfl := Option.some.inj H
    go_enter Try.func90, Try.ntmps90
    go_wp2_with (first | ((with_reducible refine gate_dst (N := 1) rfl ?_); refine bE (N := 1) (cs := #[.int .i64 a0_0, .int .i64 a0_1, .int .i64 a0_2, .int .i64 a0_3]) (t := 50) ?_; intro gb540 hg w12 hbox hb; have BK540 := Aside0.mk (hbox); have GW540 := gw w hg; have GE540 := gw w hg; replace HB := bs HB hb; clear hb hbox hg; obtain ⟨_, _, _, _, _, _, _, _⟩ := blkc4 BK540) | ((with_reducible refine gate_callee (f := 75) rfl ?_); refine gL (some 5) Try.func75 #[.int .i64 a0_0, .int .i64 1, .int .i64 20] ?_; (with_reducible refine (impl_InRange.calls a0_0 1 20 true _ A2.out).mono ?_); rintro e w' ⟨rfl, ⟨nd, rfl⟩⟩; refine ⟨_, rfl, ?_⟩) | (go_at_call 75; (with_reducible refine (impl_InRange.calls a0_1 1 3 true _ A4.out).mono ?_); rintro e w' ⟨rfl, ⟨nd, rfl⟩⟩) | (go_at_call 75; (with_reducible refine (impl_InRange.calls a0_2 0 3 true _ A6.out).mono ?_); rintro e w' ⟨rfl, ⟨nd, rfl⟩⟩) | (go_at_call 75; (with_reducible refine (impl_InRange.calls a0_3 0 3 false _ A8.out).mono ?_); rintro e w' ⟨rfl, ⟨nd, rfl⟩⟩))
    go_ret
    exact ⟨rA, bG⟩
   replace c7 := Bool.eq_false_iff.mpr c7
   subst c7
   have H1 : (some false) = some r := by rw [if_neg (show ¬ (false = true) by decide)] at H; exact H
   clear H
   have H := H1
   clear H1
   obtain rfl := Option.some.inj H
   go_enter Try.func90, Try.ntmps90
   go_wp2_with (first | ((with_reducible refine gate_dst (N := 1) rfl ?_); refine bE (N := 1) (cs := #[.int .i64 a0_0, .int .i64 a0_1, .int .i64 a0_2, .int .i64 a0_3]) (t := 50) ?_; intro gb540 hg w14 hbox hb; have BK540 := Aside0.mk (hbox); have GW540 := gw w hg; have GE540 := gw w hg; replace HB := bs HB hb; clear hb hbox hg; obtain ⟨_, _, _, _, _, _, _, _⟩ := blkc4 BK540) | ((with_reducible refine gate_callee (f := 75) rfl ?_); refine gL (some 5) Try.func75 #[.int .i64 a0_0, .int .i64 1, .int .i64 20] ?_; (with_reducible refine (impl_InRange.calls a0_0 1 20 true _ A2.out).mono ?_); rintro e w' ⟨rfl, ⟨nd, rfl⟩⟩; refine ⟨_, rfl, ?_⟩) | (go_at_call 75; (with_reducible refine (impl_InRange.calls a0_1 1 3 true _ A4.out).mono ?_); rintro e w' ⟨rfl, ⟨nd, rfl⟩⟩) | (go_at_call 75; (with_reducible refine (impl_InRange.calls a0_2 0 3 false _ A6.out).mono ?_); rintro e w' ⟨rfl, ⟨nd, rfl⟩⟩))
   go_ret
   exact ⟨rA, bG⟩
  replace c5 := Bool.eq_false_iff.mpr c5
  subst c5
  have H1 : (some false) = some r := by rw [if_neg (show ¬ (false = true) by decide)] at H; exact H
  clear H
  have H := H1
  clear H1
  obtain rfl := Option.some.inj H
  go_enter Try.func90, Try.ntmps90
  go_wp2_with (first | ((with_reducible refine gate_dst (N := 1) rfl ?_); refine bE (N := 1) (cs := #[.int .i64 a0_0, .int .i64 a0_1, .int .i64 a0_2, .int .i64 a0_3]) (t := 50) ?_; intro gb540 hg w16 hbox hb; have BK540 := Aside0.mk (hbox); have GW540 := gw w hg; have GE540 := gw w hg; replace HB := bs HB hb; clear hb hbox hg; obtain ⟨_, _, _, _, _, _, _, _⟩ := blkc4 BK540) | ((with_reducible refine gate_callee (f := 75) rfl ?_); refine gL (some 5) Try.func75 #[.int .i64 a0_0, .int .i64 1, .int .i64 20] ?_; (with_reducible refine (impl_InRange.calls a0_0 1 20 true _ A2.out).mono ?_); rintro e w' ⟨rfl, ⟨nd, rfl⟩⟩; refine ⟨_, rfl, ?_⟩) | (go_at_call 75; (with_reducible refine (impl_InRange.calls a0_1 1 3 false _ A4.out).mono ?_); rintro e w' ⟨rfl, ⟨nd, rfl⟩⟩))
  go_ret
  exact ⟨rA, bG⟩
 replace c3 := Bool.eq_false_iff.mpr c3
 subst c3
 have H1 : (some false) = some r := by rw [if_neg (show ¬ (false = true) by decide)] at H; exact H
 clear H
 have H := H1
 clear H1
 obtain rfl := Option.some.inj H
 go_enter Try.func90, Try.ntmps90
 go_wp2_with (first | ((with_reducible refine gate_dst (N := 1) rfl ?_); refine bE (N := 1) (cs := #[.int .i64 a0_0, .int .i64 a0_1, .int .i64 a0_2, .int .i64 a0_3]) (t := 50) ?_; intro gb540 hg w18 hbox hb; have BK540 := Aside0.mk (hbox); have GW540 := gw w hg; have GE540 := gw w hg; replace HB := bs HB hb; clear hb hbox hg; obtain ⟨_, _, _, _, _, _, _, _⟩ := blkc4 BK540) | ((with_reducible refine gate_callee (f := 75) rfl ?_); refine gL (some 5) Try.func75 #[.int .i64 a0_0, .int .i64 1, .int .i64 20] ?_; (with_reducible refine (impl_InRange.calls a0_0 1 20 false _ A2.out).mono ?_); rintro e w' ⟨rfl, ⟨nd, rfl⟩⟩; refine ⟨_, rfl, ?_⟩))
 go_ret
 exact ⟨rA, bG⟩

/-! ### impl_ArePaths: function 32 -/
def impl_ArePaths.l0 : Nat → List (S50) → List (S50) → Int → Int → Option (Bool)
 | 0, _, _, _, _ => none
 | k + 1, x0, x8, x9, x10 => if x10 < x9 then (if 0 ≤ x10 then (if x10 < (x8.length : Int) then ((impl_IsPath.f ((rd_T50 x8 x10).f0) ((rd_T50 x8 x10).f1) ((rd_T50 x8 x10).f2) ((rd_T50 x8 x10).f3)).bind fun t547 => (if t547 = true then (if x10 > 0 then (if 0 ≤ (wrap64 (x10 - 1)) then (if (wrap64 (x10 - 1)) < (x0.length : Int) then (if ((rd_T50 x8 x10).f0) ≤ ((rd_T50 x0 (wrap64 (x10 - 1))).f0) then (some false) else (impl_ArePaths.l0 k x0 x8 x9 (wrap64 (x10 + 1)))) else (none)) else (none)) else (impl_ArePaths.l0 k x0 x8 x9 (wrap64 (x10 + 1)))) else (some false))) else (none)) else (none)) else (some true)
def impl_ArePaths.f (k : Nat) (l0 : List (S50)) : Option (Bool) := if (l0.length : Int) > 12 then (some false) else (impl_ArePaths.l0 k l0 l0 (l0.length : Int) 0)
theorem impl_ArePaths.mono_l : ∀ k, (∀ y0 y1 y2 y3, LeO (impl_ArePaths.l0 k y0 y1 y2 y3) (impl_ArePaths.l0 (k + 1) y0 y1 y2 y3))
 | 0 => fun _ _ _ _ r h => by simp [impl_ArePaths.l0] at h
 | k + 1 => by
  have ih0 := impl_ArePaths.mono_l k
  ·
   intro y0 y1 y2 y3
   unfold impl_ArePaths.l0
   exact mz1 ih0
theorem impl_ArePaths.mono : ∀ a0 k, LeO (impl_ArePaths.f k a0) (impl_ArePaths.f (k + 1) a0) := by
 intro a0 k
 have ih0 := impl_ArePaths.mono_l k
 unfold impl_ArePaths.f
 exact mz1 ih0
def impl_ArePaths.T6 : Bool × List (List Nat × List Nat) := (true, [([], []), ([0], [0]), ([1], [1]), ([2, 1], [2]), ([3], [3]), ([4, 3], [3, 4]), ([5, 3, 3], [3, 5]), ([6], [6]), ([7, 6], [6, 7]), ([6], [6]), ([6], [6]), ([10, 6], [6, 10]), ([9, 11, 6], [6, 9, 11]), ([12, 6], [6, 12]), ([13, 6], [6, 13]), ([8, 14, 6], [6, 8, 14]), ([6, 15, 3], [3, 6, 15]), ([3, 16], [3, 16])])
def impl_ArePaths.B6 : List Nat := [0, 1, 3, 7, 15, 31, 63, 127, 255, 127, 127, 1151, 3711, 7807, 15999, 32767, 65535, 131071]
theorem impl_ArePaths.tab6 : rtab .any (opsOf Try.f32 6) = impl_ArePaths.T6 := by kernel_rfl
theorem impl_ArePaths.bits6 : waitsOk impl_ArePaths.T6.2 impl_ArePaths.B6 = true := by kernel_rfl
set_option maxHeartbeats 8000000 in
set_option maxRecDepth 100000 in
theorem impl_ArePaths.calls (k : Nat) (A0 : Option Addr) (c0 : Nat) (l0 : List (S50)) (r : Bool) (w : World) (hr0 : Kd.C k50 w A0 l0.length l0) (hc0 : l0.length ≤ c0) (h : impl_ArePaths.f k l0 = some r) :
  Calls Try.prog 32 #[.slice A0 l0.length c0] w fun e w' => e = .returned (.bool r) ∧ Below w.heap.size w w' := by
 have hu50 := Try.underlying50
 have HR0 := Aside0.mk hr0
 have HC0 := Aside0.mk hc0
 clear hr0 hc0
 have HB := Aside0.mk (Below.refl w.heap.size w)
 have H : (if (l0.length : Int) > 12 then (some false) else (impl_ArePaths.l0 k l0 l0 (l0.length : Int) 0)) = some r := h
 clear h
 by_cases c2 : (l0.length : Int) > 12
 ·
  rw [if_pos c2] at H
  have c2b0 := decide_eq_true c2
  have c2b1 : decide (12 < l0.length) = true := decide_eq_true (by omega)
  clear c2
  obtain rfl := Option.some.inj H
  go_enter Try.func32, Try.ntmps32
  go_wp2
  go_ret
  exact ⟨rA, bA⟩
 rw [if_neg c2] at H
 have c2b0 := decide_eq_false c2
 have c2b1 : decide (12 < l0.length) = false := decide_eq_false (by omega)
 clear c2
 have H' := Aside0.mk H
 clear H
 go_enter Try.func32, Try.ntmps32
 go_wp2
 go_loopg [10] k (fun kq v10 w' => ∃ (x10_1 : Int), v10 = .int .i64 x10_1 ∧ Aside0 (impl_ArePaths.l0 kq l0 l0 (l0.length : Int) x10_1 = some r) ∧ Aside0 (kq ≤ k) ∧ Aside0 (Below w.heap.size w w'))
 case atStart => exact ⟨(0), rS, H', ⟨Nat.le_refl _⟩, ⟨bA⟩⟩
 case round =>
  clear H'
  obtain ⟨x10_1, rfl, HA, HK1, HB⟩ := hrel
  cases gk with
  | zero => exact absurd HA.out (by simp [impl_ArePaths.l0])
  | succ k1 =>
   have H := HA.out
   clear HA
   simp only [impl_ArePaths.l0] at H
   by_cases c3 : x10_1 < (l0.length : Int)
   ·
    rw [if_pos c3] at H
    have c3b0 := decide_eq_true c3
    clear c3
    have c4 : 0 ≤ x10_1 := ifN H
    replace H := ifT H
    have c4b0 := decide_eq_true c4
    clear c4
    have c5 : x10_1 < (l0.length : Int) := ifN H
    replace H := ifT H
    have c5b0 := decide_eq_true c5
    clear c5
    obtain ⟨t547, A6, H⟩ := bindE H
    try dsimp only at H
    by_cases c7 : t547 = true
    ·
     subst c7
     have H1 : (if x10_1 > 0 then (if 0 ≤ (wrap64 (x10_1 - 1)) then (if (wrap64 (x10_1 - 1)) < (l0.length : Int) then (if ((rd_T50 l0 x10_1).f0) ≤ ((rd_T50 l0 (wrap64 (x10_1 - 1))).f0) then (some false) else (impl_ArePaths.l0 k1 l0 l0 (l0.length : Int) (wrap64 (x10_1 + 1)))) else (none)) else (none)) else (impl_ArePaths.l0 k1 l0 l0 (l0.length : Int) (wrap64 (x10_1 + 1)))) = some r := by rw [if_pos rfl] at H; exact H
     clear H
     have H := H1
     clear H1
     by_cases c8 : x10_1 > 0
     ·
      rw [if_pos c8] at H
      have c8b0 := decide_eq_true c8
      clear c8
      obtain ⟨ji9, hji9⟩ : ∃ j_ : Int, (wrap64 (x10_1 - 1)) = j_ := ⟨_, rfl⟩
      replace H : (if 0 ≤ (ji9) then (if (ji9) < (l0.length : Int) then (if ((rd_T50 l0 x10_1).f0) ≤ ((rd_T50 l0 (ji9)).f0) then (some false) else (impl_ArePaths.l0 k1 l0 l0 (l0.length : Int) (wrap64 (x10_1 + 1)))) else (none)) else (none)) = some r := by first | (rw [hji9] at H; exact H) | (simp only [hji9] at H ⊢; exact H)
      (try rw [hji9] at A6)
      have hji9w : (IntKind.i64.wrap (x10_1 - 1)) = ji9 := (i64_w _).trans hji9
      have c10 : 0 ≤ (ji9) := ifN H
      replace H := ifT H
      have c10b0 := decide_eq_true c10
      clear c10
      have c11 : (ji9) < (l0.length : Int) := ifN H
      replace H := ifT H
      have c11b0 := decide_eq_true c11
      clear c11
      by_cases c12 : ((rd_T50 l0 x10_1).f0) ≤ ((rd_T50 l0 (ji9)).f0)
      ·
       rw [if_pos c12] at H
       have c12b0 := decide_eq_true c12
       clear c12
       obtain rfl := Option.some.inj H
       obtain ⟨p545, q545⟩ : 0 ≤ (x10_1 : Int) ∧ x10_1 < (l0.length : Int) := ⟨dA, dA⟩
       obtain ⟨ad545, e545, hx545_0, hx545_1, hx545_2, hx545_3⟩ := at_T50 (Kd.C_below HR0.out HB.out) x10_1 p545 q545
       cases e545
       obtain ⟨p545, q545⟩ := eT p545 q545
       try go_wp2_with (first | ((with_reducible refine gate_dst (N := 4) rfl ?_); refine bE (N := 4) (cs := #[.int .i64 0, .int .i64 0, .int .i64 0, .int .i64 0]) (t := 50) ?_; intro gb546 hg w13 hbox hb; have BK546 := Aside0.mk (hbox); have GW546 := gw w hg; have GE546 := gw w hg; replace HB := bs HB hb; clear hb hbox hg; obtain ⟨_, _, _, _, _, _, _, _⟩ := blkc4 BK546))
       have n0_ : Aside0 (((((w13.setCell ⟨gb546, 0, none⟩ (.int .i64 ((rd_T50 l0 x10_1).f0))).setCell ⟨gb546, 1, none⟩ (.int .i64 ((rd_T50 l0 x10_1).f1))).setCell ⟨gb546, 2, none⟩ (.int .i64 ((rd_T50 l0 x10_1).f2))).setCell ⟨gb546, 3, none⟩ (.int .i64 ((rd_T50 l0 x10_1).f3))).heap[gb546]? = some (.cells #[.int .i64 ((rd_T50 l0 x10_1).f0), .int .i64 ((rd_T50 l0 x10_1).f1), .int .i64 ((rd_T50 l0 x10_1).f2), .int .i64 ((rd_T50 l0 x10_1).f3)] 50 (0, 0))) := ⟨kp BK546⟩
       have n1_ : Aside0 (Below w.heap.size w ((((w13.setCell ⟨gb546, 0, none⟩ (.int .i64 ((rd_T50 l0 x10_1).f0))).setCell ⟨gb546, 1, none⟩ (.int .i64 ((rd_T50 l0 x10_1).f1))).setCell ⟨gb546, 2, none⟩ (.int .i64 ((rd_T50 l0 x10_1).f2))).setCell ⟨gb546, 3, none⟩ (.int .i64 ((rd_T50 l0 x10_1).f3)))) := ⟨bG⟩
       (try clear BK546)
       (try clear HB)
       generalize ((((w13.setCell ⟨gb546, 0, none⟩ (.int .i64 ((rd_T50 l0 x10_1).f0))).setCell ⟨gb546, 1, none⟩ (.int .i64 ((rd_T50 l0 x10_1).f1))).setCell ⟨gb546, 2, none⟩ (.int .i64 ((rd_T50 l0 x10_1).f2))).setCell ⟨gb546, 3, none⟩ (.int .i64 ((rd_T50 l0 x10_1).f3))) = w15 at n0_ n1_ ⊢
       have BK546 := n0_
       have HB := n1_
       clear n0_ n1_
       replace BK546 := dk BK546
       have HBo := HB
       replace HB := db HB
       obtain ⟨p548, q548⟩ : 0 ≤ ((ji9) : Int) ∧ (ji9) < (l0.length : Int) := ⟨dA, dA⟩
       obtain ⟨ad548, e548, hx548_0, hx548_1, hx548_2, hx548_3⟩ := at_T50 HR0.out (ji9) p548 q548
       have hw548_3 := hx548_3
       have hw548_2 := hx548_2
       have hw548_1 := hx548_1
       have hw548_0 := hx548_0
       obtain rfl : ad545 = ad548 := (by injection e548)
       replace hx548_0 := hC HB hx548_0
       replace hx548_1 := hC HB hx548_1
       replace hx548_2 := hC HB hx548_2
       replace hx548_3 := hC HB hx548_3
       obtain ⟨p548, q548⟩ := eT p548 q548
       refine sw (ds := []) 18 (mb 18 0) impl_ArePaths.tab6 impl_ArePaths.bits6 (h4c BK546 (h1c (hC HB hw548_0) (h1c (hC HB hw548_1) (h1c (hC HB hw548_2) (h1 (hC HB hw548_3)))))) (fun hHeld HT_ HW_ => ?_)
       generalize w15.drew = w16 at BK546 HB hx548_0 hx548_1 hx548_2 hx548_3 hHeld ⊢
       refine ta8 0 15 (mb 18 1) HT_ HW_ hHeld ?_
       refine oa 1 16 (mb 18 3) HT_ (fun K hK => ?_)
       refine gA Try.func90 #[.agg #[.int .i64 ((rd_T50 l0 x10_1).f0), .int .i64 ((rd_T50 l0 x10_1).f1), .int .i64 ((rd_T50 l0 x10_1).f2), .int .i64 ((rd_T50 l0 x10_1).f3)]] ?_
       with_reducible refine (impl_IsPath.calls ((rd_T50 l0 x10_1).f0) ((rd_T50 l0 x10_1).f1) ((rd_T50 l0 x10_1).f2) ((rd_T50 l0 x10_1).f3) true _ A6.out).mono ?_
       rintro e w17 ⟨rfl, hb⟩
       refine ⟨_, rfl, ?_⟩
       replace BK546 := kb BK546 hb
       replace HB := bs HB hb
       (try clear hb)
       (try clear hb2)
       (try clear hk)
       (try clear hi)
       refine hK.out _ _ (cm4 BK546 ⟨(hC HB hw548_0), (hC HB hw548_1), (hC HB hw548_2), (hC HB hw548_3)⟩) (fun hHeld => ?_)
       clear hK K
       refine nB ?_
       refine pa 2 17 (mb 18 7) HT_ ?_
       refine pa 3 18 (mb 18 15) HT_ ?_
       refine pa 4 19 (mb 18 31) HT_ ?_
       refine pa 5 20 (mb 18 63) HT_ ?_
       refine pa 6 21 (mb 18 127) HT_ ?_
       refine pa 7 22 (mb 18 255) HT_ ?_
       refine pa 9 24 (mb 18 767) HT_ ?_
       refine pa 10 25 (mb 18 1791) HT_ ?_
       refine pa 11 26 (mb 18 3839) HT_ ?_
       refine pa 12 27 (mb 18 7935) HT_ ?_
       refine pa 13 28 (mb 18 16127) HT_ ?_
       refine ta8 8 23 (mb 18 16383) HT_ HW_ hHeld ?_
       refine ta8 14 29 (mb 18 32767) HT_ HW_ hHeld ?_
       refine pa 15 30 (mb 18 65535) HT_ ?_
       refine pa 16 31 (mb 18 131071) HT_ ?_
       refine pa 17 32 (mb 18 262143) HT_ ?_
       refine eA HT_ ?_
       try go_wp2
       go_ret
       exact ⟨by first | rfl | (simp [errW_none, errW_some] <;> rfl) | (simp only [← hji9]; first | rfl | (simp [errW_none, errW_some] <;> rfl)) | (simp [*, errW_none, errW_some] <;> rfl), bG⟩
      rw [if_neg c12] at H
      have c12b0 := decide_eq_false c12
      clear c12
      have H' := Aside0.mk H
      clear H
      obtain ⟨p545, q545⟩ : 0 ≤ (x10_1 : Int) ∧ x10_1 < (l0.length : Int) := ⟨dA, dA⟩
      obtain ⟨ad545, e545, hx545_0, hx545_1, hx545_2, hx545_3⟩ := at_T50 (Kd.C_below HR0.out HB.out) x10_1 p545 q545
      cases e545
      obtain ⟨p545, q545⟩ := eT p545 q545
      try go_wp2_with (first | ((with_reducible refine gate_dst (N := 4) rfl ?_); refine bE (N := 4) (cs := #[.int .i64 0, .int .i64 0, .int .i64 0, .int .i64 0]) (t := 50) ?_; intro gb546 hg w18 hbox hb; have BK546 := Aside0.mk (hbox); have GW546 := gw w hg; have GE546 := gw w hg; replace HB := bs HB hb; clear hb hbox hg; obtain ⟨_, _, _, _, _, _, _, _⟩ := blkc4 BK546))
      have n0_ : Aside0 (((((w18.setCell ⟨gb546, 0, none⟩ (.int .i64 ((rd_T50 l0 x10_1).f0))).setCell ⟨gb546, 1, none⟩ (.int .i64 ((rd_T50 l0 x10_1).f1))).setCell ⟨gb546, 2, none⟩ (.int .i64 ((rd_T50 l0 x10_1).f2))).setCell ⟨gb546, 3, none⟩ (.int .i64 ((rd_T50 l0 x10_1).f3))).heap[gb546]? = some (.cells #[.int .i64 ((rd_T50 l0 x10_1).f0), .int .i64 ((rd_T50 l0 x10_1).f1), .int .i64 ((rd_T50 l0 x10_1).f2), .int .i64 ((rd_T50 l0 x10_1).f3)] 50 (0, 0))) := ⟨kp BK546⟩
      have n1_ : Aside0 (Below w.heap.size w ((((w18.setCell ⟨gb546, 0, none⟩ (.int .i64 ((rd_T50 l0 x10_1).f0))).setCell ⟨gb546, 1, none⟩ (.int .i64 ((rd_T50 l0 x10_1).f1))).setCell ⟨gb546, 2, none⟩ (.int .i64 ((rd_T50 l0 x10_1).f2))).setCell ⟨gb546, 3, none⟩ (.int .i64 ((rd_T50 l0 x10_1).f3)))) := ⟨bG⟩
      (try clear BK546)
      (try clear HB)
      generalize ((((w18.setCell ⟨gb546, 0, none⟩ (.int .i64 ((rd_T50 l0 x10_1).f0))).setCell ⟨gb546, 1, none⟩ (.int .i64 ((rd_T50 l0 x10_1).f1))).setCell ⟨gb546, 2, none⟩ (.int .i64 ((rd_T50 l0 x10_1).f2))).setCell ⟨gb546, 3, none⟩ (.int .i64 ((rd_T50 l0 x10_1).f3))) = w20 at n0_ n1_ ⊢
      have BK546 := n0_
      have HB := n1_
      clear n0_ n1_
      replace BK546 := dk BK546
      have HBo := HB
      replace HB := db HB
      obtain ⟨p548, q548⟩ : 0 ≤ ((ji9) : Int) ∧ (ji9) < (l0.length : Int) := ⟨dA, dA⟩
      obtain ⟨ad548, e548, hx548_0, hx548_1, hx548_2, hx548_3⟩ := at_T50 HR0.out (ji9) p548 q548
      have hw548_3 := hx548_3
      have hw548_2 := hx548_2
      have hw548_1 := hx548_1
      have hw548_0 := hx548_0
      obtain rfl : ad545 = ad548 := (by injection e548)
      replace hx548_0 := hC HB hx548_0
      replace hx548_1 := hC HB hx548_1
      replace hx548_2 := hC HB hx548_2
      replace hx548_3 := hC HB hx548_3
      obtain ⟨p548, q548⟩ := eT p548 q548
      refine sw (ds := []) 18 (mb 18 0) impl_ArePaths.tab6 impl_ArePaths.bits6 (h4c BK546 (h1c (hC HB hw548_0) (h1c (hC HB hw548_1) (h1c (hC HB hw548_2) (h1 (hC HB hw548_3)))))) (fun hHeld HT_ HW_ => ?_)
      generalize w20.drew = w21 at BK546 HB hx548_0 hx548_1 hx548_2 hx548_3 hHeld ⊢
      refine ta8 0 15 (mb 18 1) HT_ HW_ hHeld ?_
      refine oa 1 16 (mb 18 3) HT_ (fun K hK => ?_)
      refine gA Try.func90 #[.agg #[.int .i64 ((rd_T50 l0 x10_1).f0), .int .i64 ((rd_T50 l0 x10_1).f1), .int .i64 ((rd_T50 l0 x10_1).f2), .int .i64 ((rd_T50 l0 x10_1).f3)]] ?_
      with_reducible refine (impl_IsPath.calls ((rd_T50 l0 x10_1).f0) ((rd_T50 l0 x10_1).f1) ((rd_T50 l0 x10_1).f2) ((rd_T50 l0 x10_1).f3) true _ A6.out).mono ?_
      rintro e w22 ⟨rfl, hb⟩
      refine ⟨_, rfl, ?_⟩
      replace BK546 := kb BK546 hb
      replace HB := bs HB hb
      (try clear hb)
      (try clear hb2)
      (try clear hk)
      (try clear hi)
      refine hK.out _ _ (cm4 BK546 ⟨(hC HB hw548_0), (hC HB hw548_1), (hC HB hw548_2), (hC HB hw548_3)⟩) (fun hHeld => ?_)
      clear hK K
      refine nB ?_
      refine pa 2 17 (mb 18 7) HT_ ?_
      refine pa 3 18 (mb 18 15) HT_ ?_
      refine pa 4 19 (mb 18 31) HT_ ?_
      refine pa 5 20 (mb 18 63) HT_ ?_
      refine pa 6 21 (mb 18 127) HT_ ?_
      refine pa 7 22 (mb 18 255) HT_ ?_
      refine pa 9 24 (mb 18 767) HT_ ?_
      refine pa 10 25 (mb 18 1791) HT_ ?_
      refine pa 11 26 (mb 18 3839) HT_ ?_
      refine pa 12 27 (mb 18 7935) HT_ ?_
      refine pa 13 28 (mb 18 16127) HT_ ?_
      refine ta8 8 23 (mb 18 16383) HT_ HW_ hHeld ?_
      refine ta8 14 29 (mb 18 32767) HT_ HW_ hHeld ?_
      refine pa 15 30 (mb 18 65535) HT_ ?_
      refine pa 16 31 (mb 18 131071) HT_ ?_
      refine pa 17 32 (mb 18 262143) HT_ ?_
      refine eA HT_ ?_
      try go_wp2
      go_roundg k1
      case measure => have := HK1.out; omega
      case rel => exact ⟨(wrap64 (x10_1 + 1)), rS, H', ⟨by have := HK1.out; omega⟩, ⟨bG⟩⟩
     rw [if_neg c8] at H
     have c8b0 := decide_eq_false c8
     clear c8
     have H' := Aside0.mk H
     clear H
     obtain ⟨p545, q545⟩ : 0 ≤ (x10_1 : Int) ∧ x10_1 < (l0.length : Int) := ⟨dA, dA⟩
     obtain ⟨ad545, e545, hx545_0, hx545_1, hx545_2, hx545_3⟩ := at_T50 (Kd.C_below HR0.out HB.out) x10_1 p545 q545
     cases e545
     obtain ⟨p545, q545⟩ := eT p545 q545
     try go_wp2_with (first | ((with_reducible refine gate_dst (N := 4) rfl ?_); refine bE (N := 4) (cs := #[.int .i64 0, .int .i64 0, .int .i64 0, .int .i64 0]) (t := 50) ?_; intro gb546 hg w23 hbox hb; have BK546 := Aside0.mk (hbox); have GW546 := gw w hg; have GE546 := gw w hg; replace HB := bs HB hb; clear hb hbox hg; obtain ⟨_, _, _, _, _, _, _, _⟩ := blkc4 BK546))
     have n0_ : Aside0 (((((w23.setCell ⟨gb546, 0, none⟩ (.int .i64 ((rd_T50 l0 x10_1).f0))).setCell ⟨gb546, 1, none⟩ (.int .i64 ((rd_T50 l0 x10_1).f1))).setCell ⟨gb546, 2, none⟩ (.int .i64 ((rd_T50 l0 x10_1).f2))).setCell ⟨gb546, 3, none⟩ (.int .i64 ((rd_T50 l0 x10_1).f3))).heap[gb546]? = some (.cells #[.int .i64 ((rd_T50 l0 x10_1).f0), .int .i64 ((rd_T50 l0 x10_1).f1), .int .i64 ((rd_T50 l0 x10_1).f2), .int .i64 ((rd_T50 l0 x10_1).f3)] 50 (0, 0))) := ⟨kp BK546⟩
     have n1_ : Aside0 (Below w.heap.size w ((((w23.setCell ⟨gb546, 0, none⟩ (.int .i64 ((rd_T50 l0 x10_1).f0))).setCell ⟨gb546, 1, none⟩ (.int .i64 ((rd_T50 l0 x10_1).f1))).setCell ⟨gb546, 2, none⟩ (.int .i64 ((rd_T50 l0 x10_1).f2))).setCell ⟨gb546, 3, none⟩ (.int .i64 ((rd_T50 l0 x10_1).f3)))) := ⟨bG⟩
     (try clear BK546)
     (try clear HB)
     generalize ((((w23.setCell ⟨gb546, 0, none⟩ (.int .i64 ((rd_T50 l0 x10_1).f0))).setCell ⟨gb546, 1, none⟩ (.int .i64 ((rd_T50 l0 x10_1).f1))).setCell ⟨gb546, 2, none⟩ (.int .i64 ((rd_T50 l0 x10_1).f2))).setCell ⟨gb546, 3, none⟩ (.int .i64 ((rd_T50 l0 x10_1).f3))) = w25 at n0_ n1_ ⊢
     have BK546 := n0_
     have HB := n1_
     clear n0_ n1_
     replace BK546 := dk BK546
     have HBo := HB
     replace HB := db HB
     refine sw (ds := []) 18 (mb 18 0) impl_ArePaths.tab6 impl_ArePaths.bits6 (h4 BK546) (fun hHeld HT_ HW_ => ?_)
     generalize w25.drew = w26 at BK546 HB hHeld ⊢
     refine ta4 0 15 (mb 18 1) HT_ HW_ hHeld ?_
     refine oa 1 16 (mb 18 3) HT_ (fun K hK => ?_)
     refine gA Try.func90 #[.agg #[.int .i64 ((rd_T50 l0 x10_1).f0), .int .i64 ((rd_T50 l0 x10_1).f1), .int .i64 ((rd_T50 l0 x10_1).f2), .int .i64 ((rd_T50 l0 x10_1).f3)]] ?_
     with_reducible refine (impl_IsPath.calls ((rd_T50 l0 x10_1).f0) ((rd_T50 l0 x10_1).f1) ((rd_T50 l0 x10_1).f2) ((rd_T50 l0 x10_1).f3) true _ A6.out).mono ?_
     rintro e w27 ⟨rfl, hb⟩
     refine ⟨_, rfl, ?_⟩
     replace BK546 := kb BK546 hb
     replace HB := bs HB hb
     (try clear hb)
     (try clear hb2)
     (try clear hk)
     (try clear hi)
     refine hK.out _ _ (cn4 BK546) (fun hHeld => ?_)
     clear hK K
     refine nB ?_
     refine pa 2 17 (mb 18 7) HT_ ?_
     refine pa 3 18 (mb 18 15) HT_ ?_
     refine pa 4 19 (mb 18 31) HT_ ?_
     refine pa 5 20 (mb 18 63) HT_ ?_
     refine pa 6 21 (mb 18 127) HT_ ?_
     refine pu 7 22 (mb 18 255) HT_ ?_
     refine pu 8 23 (mb 18 511) HT_ ?_
     refine pu 9 24 (mb 18 1023) HT_ ?_
     refine pu 10 25 (mb 18 2047) HT_ ?_
     refine pu 11 26 (mb 18 4095) HT_ ?_
     refine pu 12 27 (mb 18 8191) HT_ ?_
     refine pu 13 28 (mb 18 16383) HT_ ?_
     refine pu 14 29 (mb 18 32767) HT_ ?_
     refine pu 15 30 (mb 18 65535) HT_ ?_
     refine pa 16 31 (mb 18 131071) HT_ ?_
     refine pa 17 32 (mb 18 262143) HT_ ?_
     refine eA HT_ ?_
     try go_wp2
     go_roundg k1
     case measure => have := HK1.out; omega
     case rel => exact ⟨(wrap64 (x10_1 + 1)), rS, H', ⟨by have := HK1.out; omega⟩, ⟨bG⟩⟩
    replace c7 := Bool.eq_false_iff.mpr c7
    subst c7
    have H1 : (some false) = some r := by rw [if_neg (show ¬ (false = true) by decide)] at H; exact H
    clear H
    have H := H1
    clear H1
    obtain rfl := Option.some.inj H
    obtain ⟨p545, q545⟩ : 0 ≤ (x10_1 : Int) ∧ x10_1 < (l0.length : Int) := ⟨dA, dA⟩
    obtain ⟨ad545, e545, hx545_0, hx545_1, hx545_2, hx545_3⟩ := at_T50 (Kd.C_below HR0.out HB.out) x10_1 p545 q545
    cases e545
    obtain ⟨p545, q545⟩ := eT p545 q545
    try go_wp2_with (first | ((with_reducible refine gate_dst (N := 4) rfl ?_); refine bE (N := 4) (cs := #[.int .i64 0, .int .i64 0, .int .i64 0, .int .i64 0]) (t := 50) ?_; intro gb546 hg w28 hbox hb; have BK546 := Aside0.mk (hbox); have GW546 := gw w hg; have GE546 := gw w hg; replace HB := bs HB hb; clear hb hbox hg; obtain ⟨_, _, _, _, _, _, _, _⟩ := blkc4 BK546))
    have n0_ : Aside0 (((((w28.setCell ⟨gb546, 0, none⟩ (.int .i64 ((rd_T50 l0 x10_1).f0))).setCell ⟨gb546, 1, none⟩ (.int .i64 ((rd_T50 l0 x10_1).f1))).setCell ⟨gb546, 2, none⟩ (.int .i64 ((rd_T50 l0 x10_1).f2))).setCell ⟨gb546, 3, none⟩ (.int .i64 ((rd_T50 l0 x10_1).f3))).heap[gb546]? = some (.cells #[.int .i64 ((rd_T50 l0 x10_1).f0), .int .i64 ((rd_T50 l0 x10_1).f1), .int .i64 ((rd_T50 l0 x10_1).f2), .int .i64 ((rd_T50 l0 x10_1).f3)] 50 (0, 0))) := ⟨kp BK546⟩
    have n1_ : Aside0 (Below w.heap.size w ((((w28.setCell ⟨gb546, 0, none⟩ (.int .i64 ((rd_T50 l0 x10_1).f0))).setCell ⟨gb546, 1, none⟩ (.int .i64 ((rd_T50 l0 x10_1).f1))).setCell ⟨gb546, 2, none⟩ (.int .i64 ((rd_T50 l0 x10_1).f2))).setCell ⟨gb546, 3, none⟩ (.int .i64 ((rd_T50 l0 x10_1).f3)))) := ⟨bG⟩
    (try clear BK546)
    (try clear HB)
    generalize ((((w28.setCell ⟨gb546, 0, none⟩ (.int .i64 ((rd_T50 l0 x10_1).f0))).setCell ⟨gb546, 1, none⟩ (.int .i64 ((rd_T50 l0 x10_1).f1))).setCell ⟨gb546, 2, none⟩ (.int .i64 ((rd_T50 l0 x10_1).f2))).setCell ⟨gb546, 3, none⟩ (.int .i64 ((rd_T50 l0 x10_1).f3))) = w30 at n0_ n1_ ⊢
    have BK546 := n0_
    have HB := n1_
    clear n0_ n1_
    replace BK546 := dk BK546
    have HBo := HB
    replace HB := db HB
    refine sw (ds := []) 18 (mb 18 0) impl_ArePaths.tab6 impl_ArePaths.bits6 (h4 BK546) (fun hHeld HT_ HW_ => ?_)
    generalize w30.drew = w31 at BK546 HB hHeld ⊢
    refine ta4 0 15 (mb 18 1) HT_ HW_ hHeld ?_
    refine oa 1 16 (mb 18 3) HT_ (fun K hK => ?_)
    refine gA Try.func90 #[.agg #[.int .i64 ((rd_T50 l0 x10_1).f0), .int .i64 ((rd_T50 l0 x10_1).f1), .int .i64 ((rd_T50 l0 x10_1).f2), .int .i64 ((rd_T50 l0 x10_1).f3)]] ?_
    with_reducible refine (impl_IsPath.calls ((rd_T50 l0 x10_1).f0) ((rd_T50 l0 x10_1).f1) ((rd_T50 l0 x10_1).f2) ((rd_T50 l0 x10_1).f3) false _ A6.out).mono ?_
    rintro e w32 ⟨rfl, hb⟩
    refine ⟨_, rfl, ?_⟩
    replace BK546 := kb BK546 hb
    replace HB := bs HB hb
    (try clear hb)
    (try clear hb2)
    (try clear hk)
    (try clear hi)
    refine hK.out _ _ (cn4 BK546) (fun hHeld => ?_)
    clear hK K
    refine nB ?_
    refine pa 2 17 (mb 18 7) HT_ ?_
    refine pa 3 18 (mb 18 15) HT_ ?_
    refine pu 4 19 (mb 18 31) HT_ ?_
    refine pu 5 20 (mb 18 63) HT_ ?_
    refine pu 6 21 (mb 18 127) HT_ ?_
    refine pu 7 22 (mb 18 255) HT_ ?_
    refine pu 8 23 (mb 18 511) HT_ ?_
    refine pu 9 24 (mb 18 1023) HT_ ?_
    refine pu 10 25 (mb 18 2047) HT_ ?_
    refine pu 11 26 (mb 18 4095) HT_ ?_
    refine pu 12 27 (mb 18 8191) HT_ ?_
    refine pu 13 28 (mb 18 16383) HT_ ?_
    refine pu 14 29 (mb 18 32767) HT_ ?_
    refine pu 15 30 (mb 18 65535) HT_ ?_
    refine pu 16 31 (mb 18 131071) HT_ ?_
    refine pa 17 32 (mb 18 262143) HT_ ?_
    refine eA HT_ ?_
    try go_wp2
    go_ret
    exact ⟨rA, bG⟩
   rw [if_neg c3] at H
   have c3b0 := decide_eq_false c3
   clear c3
   obtain rfl := Option.some.inj H
   go_wp2
   go_ret
   exact ⟨rA, bA⟩

/-! ### impl_Interleave: function 139 -/
def impl_Interleave.l0 : Nat → Int → Int → Int → Int → List Int → Int → Int → Option (Bool)
 | 0, _, _, _, _, _, _, _ => none
 | k + 1, x0, x1, x2, x3, x16, x17, x18 => if x18 < x17 then (if 0 ≤ x18 then (if x18 < (x16.length : Int) then ((impl_InRange.f (rd x16 x18) 0 7).bind fun t553 => (if t553 = true then (impl_Interleave.l0 k x0 x1 x2 x3 x16 x17 (wrap64 (x18 + 1))) else (some false))) else (none)) else (none)) else (if x0 = x1 then (some false) else (if x0 = x2 then (some false) else (if x0 = x3 then (some false) else (if x1 = x2 then (some false) else (if x1 = x3 then (some false) else (if x2 = x3 then (some false) else (some ((decide ((Int.tmod (wrap64 ((wrap64 (x2 - x0)) + 8)) 8) < (Int.tmod (wrap64 ((wrap64 (x1 - x0)) + 8)) 8))) != (decide ((Int.tmod (wrap64 ((wrap64 (x3 - x0)) + 8)) 8) < (Int.tmod (wrap64 ((wrap64 (x1 - x0)) + 8)) 8)))))))))))
def impl_Interleave.f (k : Nat) (a0 : Int) (a1 : Int) (a2 : Int) (a3 : Int) : Option (Bool) := (some (([a0, a1, a2, a3] : List Int) : List Int)).bind fun y549 => (impl_Interleave.l0 k a0 a1 a2 a3 y549 (y549.length : Int) 0)
theorem impl_Interleave.mono_l : ∀ k, (∀ y0 y1 y2 y3 y4 y5 y6, LeO (impl_Interleave.l0 k y0 y1 y2 y3 y4 y5 y6) (impl_Interleave.l0 (k + 1) y0 y1 y2 y3 y4 y5 y6))
 | 0 => fun _ _ _ _ _ _ _ r h => by simp [impl_Interleave.l0] at h
 | k + 1 => by
  have ih0 := impl_Interleave.mono_l k
  ·
   intro y0 y1 y2 y3 y4 y5 y6
   unfold impl_Interleave.l0
   exact mz1 ih0
theorem impl_Interleave.mono : ∀ a0 a1 a2 a3 k, LeO (impl_Interleave.f k a0 a1 a2 a3) (impl_Interleave.f (k + 1) a0 a1 a2 a3) := by
 intro a0 a1 a2 a3 k
 have ih0 := impl_Interleave.mono_l k
 unfold impl_Interleave.f
 exact mz1 ih0
set_option maxHeartbeats 8000000 in
set_option maxRecDepth 100000 in
theorem impl_Interleave.calls (k : Nat) (a0 : Int) (a1 : Int) (a2 : Int) (a3 : Int) (r : Bool) (w : World) (h : impl_Interleave.f k a0 a1 a2 a3 = some r) :
  Calls Try.prog 139 #[.int .i64 a0, .int .i64 a1, .int .i64 a2, .int .i64 a3] w fun e w' => e = .returned (.bool r) ∧ Below w.heap.size w w' := by
 have HB := Aside0.mk (Below.refl w.heap.size w)
 have H : ((some (([a0, a1, a2, a3] : List Int) : List Int)).bind fun y549 => (impl_Interleave.l0 k a0 a1 a2 a3 y549 (y549.length : Int) 0)) = some r := h
 clear h
 obtain ⟨y549, hy549⟩ : ∃ y_ : List Int, y_ = (([a0, a1, a2, a3] : List Int)) := ⟨_, rfl⟩
 replace H : (impl_Interleave.l0 k a0 a1 a2 a3 y549 (y549.length : Int) 0) = some r := rH H hy549
 have Ny549 := Aside0.mk hy549
 clear hy549
 have H' := Aside0.mk H
 clear H
 go_enter Try.func139, Try.ntmps139
 go_wp2_with (first | ((with_reducible refine gate_dst (N := 16) rfl ?_); refine Kd.R_lit (Kd.int .i64) _ 3 ?hg (N := 16) ?hd (xs := ([a0, a1, a2, a3] : List Int)) (inner := [.int .i64 a0, .int .i64 a1, .int .i64 a2, .int .i64 a3]) (ok := fun _ => True) (okp := fun _ => True) ?hr ?hp (fun _ hk => hk) trivial (Below.refl _ _) (Nat.le_refl _) (by simp) ?_; (case hd => rfl); (case hg => rfl); (case hr => first | (go_simp; done) | (go_simp; rfl)); (case hp => exact (Reps.one (show Kd.M (Kd.int .i64) _ _ _ a0 [.int .i64 a0] from rfl) (Reps.one (show Kd.M (Kd.int .i64) _ _ _ a1 [.int .i64 a1] from rfl) (Reps.one (show Kd.M (Kd.int .i64) _ _ _ a2 [.int .i64 a2] from rfl) (Reps.one (show Kd.M (Kd.int .i64) _ _ _ a3 [.int .i64 a3] from rfl) (Reps.none _ _)))))); intro v550 w5 ho6 hb hg_ hnew_; clear hg_ hnew_; (first | rw [← Ny549.out] at ho6 | (simp only [Int.reduceToNat] at ho6; rw [← Ny549.out] at ho6)); have HO551 := rl w ho6; replace HB := bs HB hb; clear hb ho6; obtain ⟨Ao7, co7, eo7⟩ := Kd.R_slice HO551.out; subst eo7))
 go_loopg [18] k (fun kq v18 w' => ∃ (x18_1 : Int), v18 = .int .i64 x18_1 ∧ Aside0 (impl_Interleave.l0 kq a0 a1 a2 a3 y549 (y549.length : Int) x18_1 = some r) ∧ Aside0 (kq ≤ k) ∧ Aside0 (Kd.R (Kd.int .i64) 3 w' w.heap.size (fun _ => True) (.slice Ao7 y549.length co7) y549) ∧ Aside0 (Below w.heap.size w w'))
 case atStart => exact ⟨(0), rS, H', ⟨Nat.le_refl _⟩, ⟨rK HO551⟩, ⟨bA⟩⟩
 case round =>
  clear H'
  obtain ⟨x18_1, rfl, HA, HK1, HO_16, HB⟩ := hrel
  cases gk with
  | zero => exact absurd HA.out (by simp [impl_Interleave.l0])
  | succ k1 =>
   have H := HA.out
   clear HA
   simp only [impl_Interleave.l0] at H
   by_cases c8 : x18_1 < (y549.length : Int)
   ·
    rw [if_pos c8] at H
    have c8b0 := decide_eq_true c8
    clear c8
    have c9 : 0 ≤ x18_1 := ifN H
    replace H := ifT H
    have c9b0 := decide_eq_true c9
    clear c9
    have c10 : x18_1 < (y549.length : Int) := ifN H
    replace H := ifT H
    have c10b0 := decide_eq_true c10
    clear c10
    obtain ⟨t553, A11, H⟩ := bindE H
    try dsimp only at H
    by_cases c12 : t553 = true
    ·
     subst c12
     have H1 : (impl_Interleave.l0 k1 a0 a1 a2 a3 y549 (y549.length : Int) (wrap64 (x18_1 + 1))) = some r := by rw [if_pos rfl] at H; exact H
     clear H
     have H := H1
     clear H1
     have H' := Aside0.mk H
     clear H
     obtain ⟨p552, q552⟩ : 0 ≤ (x18_1 : Int) ∧ x18_1 < (y549.length : Int) := ⟨dA, dA⟩
     obtain ⟨ad552, e552, hx552_0⟩ := Kd.at_int (Kd.R_reads' HO_16.out).2.2 x18_1 p552 q552
     cases e552
     obtain ⟨p552, q552⟩ := eT p552 q552
     go_wp2_with (first | ((with_reducible refine gate_callee (f := 75) rfl ?_); refine gL (some 23) Try.func75 #[.int .i64 (rd y549 x18_1), .int .i64 0, .int .i64 7] ?_; (with_reducible refine (impl_InRange.calls (rd y549 x18_1) 0 7 true _ A11.out).mono ?_); rintro e w' ⟨rfl, ⟨nd, rfl⟩⟩; refine ⟨_, rfl, ?_⟩))
     go_roundg k1
     case measure => have := HK1.out; omega
     case rel => exact ⟨(wrap64 (x18_1 + 1)), rS, H', ⟨by have := HK1.out; omega⟩, ⟨rK HO_16⟩, ⟨bA⟩⟩
    replace c12 := Bool.eq_false_iff.mpr c12
    subst c12
    have H1 : (some false) = some r := by rw [if_neg (show ¬ (false = true) by decide)] at H; exact H
    clear H
    have H := H1
    clear H1
    obtain rfl := Option.some.inj H
    obtain ⟨p552, q552⟩ : 0 ≤ (x18_1 : Int) ∧ x18_1 < (y549.length : Int) := ⟨dA, dA⟩
    obtain ⟨ad552, e552, hx552_0⟩ := Kd.at_int (Kd.R_reads' HO_16.out).2.2 x18_1 p552 q552
    cases e552
    obtain ⟨p552, q552⟩ := eT p552 q552
    go_wp2_with (first | ((with_reducible refine gate_callee (f := 75) rfl ?_); refine gL (some 23) Try.func75 #[.int .i64 (rd y549 x18_1), .int .i64 0, .int .i64 7] ?_; (with_reducible refine (impl_InRange.calls (rd y549 x18_1) 0 7 false _ A11.out).mono ?_); rintro e w' ⟨rfl, ⟨nd, rfl⟩⟩; refine ⟨_, rfl, ?_⟩))
    go_ret
    exact ⟨rA, bA⟩
   rw [if_neg c8] at H
   have c8b0 := decide_eq_false c8
   clear c8
   by_cases c13 : a0 = a1
   ·
    rw [if_pos c13] at H
    have c13b0 : (a0 == a1) = true := beq_iff_eq.mpr c13
    have c13b1 : (a0 != a1) = false := bne_eq_false_iff_eq.mpr c13
    clear c13
    obtain rfl := Option.some.inj H
    go_wp2
    go_ret
    exact ⟨rA, bA⟩
   rw [if_neg c13] at H
   have c13b0 : (a0 == a1) = false := beq_eq_false_iff_ne.mpr c13
   have c13b1 : (a0 != a1) = true := bne_iff_ne.mpr c13
   by_cases c14 : a0 = a2
   ·
    rw [if_pos c14] at H
    have c14b0 : (a0 == a2) = true := beq_iff_eq.mpr c14
    have c14b1 : (a0 != a2) = false := bne_eq_false_iff_eq.mpr c14
    clear c14
    obtain rfl := Option.some.inj H
    go_wp2
    go_ret
    exact ⟨rA, bA⟩
   rw [if_neg c14] at H
   have c14b0 : (a0 == a2) = false := beq_eq_false_iff_ne.mpr c14
   have c14b1 : (a0 != a2) = true := bne_iff_ne.mpr c14
   by_cases c15 : a0 = a3
   ·
    rw [if_pos c15] at H
    have c15b0 : (a0 == a3) = true := beq_iff_eq.mpr c15
    have c15b1 : (a0 != a3) = false := bne_eq_false_iff_eq.mpr c15
    clear c15
    obtain rfl := Option.some.inj H
    go_wp2
    go_ret
    exact ⟨rA, bA⟩
   rw [if_neg c15] at H
   have c15b0 : (a0 == a3) = false := beq_eq_false_iff_ne.mpr c15
   have c15b1 : (a0 != a3) = true := bne_iff_ne.mpr c15
   by_cases c16 : a1 = a2
   ·
    rw [if_pos c16] at H
    have c16b0 : (a1 == a2) = true := beq_iff_eq.mpr c16
    have c16b1 : (a1 != a2) = false := bne_eq_false_iff_eq.mpr c16
    clear c16
    obtain rfl := Option.some.inj H
    go_wp2
    go_ret
    exact ⟨rA, bA⟩
   rw [if_neg c16] at H
   have c16b0 : (a1 == a2) = false := beq_eq_false_iff_ne.mpr c16
   have c16b1 : (a1 != a2) = true := bne_iff_ne.mpr c16
   by_cases c17 : a1 = a3
   ·
    rw [if_pos c17] at H
    have c17b0 : (a1 == a3) = true := beq_iff_eq.mpr c17
    have c17b1 : (a1 != a3) = false := bne_eq_false_iff_eq.mpr c17
    clear c17
    obtain rfl := Option.some.inj H
    go_wp2
    go_ret
    exact ⟨rA, bA⟩
   rw [if_neg c17] at H
   have c17b0 : (a1 == a3) = false := beq_eq_false_iff_ne.mpr c17
   have c17b1 : (a1 != a3) = true := bne_iff_ne.mpr c17
   by_cases c18 : a2 = a3
   ·
    rw [if_pos c18] at H
    have c18b0 : (a2 == a3) = true := beq_iff_eq.mpr c18
    have c18b1 : (a2 != a3) = false := bne_eq_false_iff_eq.mpr c18
    clear c18
    obtain rfl := Option.some.inj H
    go_wp2
    go_ret
    exact ⟨rA, bA⟩
   rw [if_neg c18] at H
   have c18b0 : (a2 == a3) = false := beq_eq_false_iff_ne.mpr c18
   have c18b1 : (a2 != a3) = true := bne_iff_ne.mpr c18
   obtain rfl := Option.some.inj H
   go_wp2
   go_ret
   exact ⟨rA, bA⟩

/-! ### impl_InPlace: function 140 -/
def impl_InPlace.f (a0 : Int) : Option (Int) := (impl_InRange.f a0 0 3).bind fun t554 => (if t554 = true then (some (wrap64 (2 * a0))) else (some (-1)))
set_option maxHeartbeats 8000000 in
set_option maxRecDepth 100000 in
theorem impl_InPlace.calls (a0 : Int) (r : Int) (w : World) (h : impl_InPlace.f a0 = some r) :
  Calls Try.prog 140 #[.int .i64 a0] w fun e w' => e = .returned (.int .i64 r) ∧ Drawn0 w w' := by
 have H : ((impl_InRange.f a0 0 3).bind fun t554 => (if t554 = true then (some (wrap64 (2 * a0))) else (some (-1)))) = some r := h
 clear h
 obtain ⟨t554, A2, H⟩ := bindE H
 try dsimp only at H
 by_cases c3 : t554 = true
 ·
  subst c3
  have H1 : (some (wrap64 (2 * a0))) = some r := by rw [if_pos rfl] at H; exact H
  clear H
  have H := H1
  clear H1
  obtain rfl := Option.some.inj H
  go_enter Try.func140, Try.ntmps140
  go_wp2_with (first | ((with_reducible refine gate_callee (f := 75) rfl ?_); refine gL (some 4) Try.func75 #[.int .i64 a0, .int .i64 0, .int .i64 3] ?_; (with_reducible refine (impl_InRange.calls a0 0 3 true _ A2.out).mono ?_); rintro e w' ⟨rfl, ⟨nd, rfl⟩⟩; refine ⟨_, rfl, ?_⟩))
  go_ret
  exact ⟨rS, dD⟩
 replace c3 := Bool.eq_false_iff.mpr c3
 subst c3
 have H1 : (some (-1)) = some r := by rw [if_neg (show ¬ (false = true) by decide)] at H; exact H
 clear H
 have H := H1
 clear H1
 obtain rfl := Option.some.inj H
 go_enter Try.func140, Try.ntmps140
 go_wp2_with (first | ((with_reducible refine gate_callee (f := 75) rfl ?_); refine gL (some 4) Try.func75 #[.int .i64 a0, .int .i64 0, .int .i64 3] ?_; (with_reducible refine (impl_InRange.calls a0 0 3 false _ A2.out).mono ?_); rintro e w' ⟨rfl, ⟨nd, rfl⟩⟩; refine ⟨_, rfl, ?_⟩))
 go_ret
 exact ⟨rS, dD⟩

end Go.Proofs.Ytjgonpcajedkjaa.P
