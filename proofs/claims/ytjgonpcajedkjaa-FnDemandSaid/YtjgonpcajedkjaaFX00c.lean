/- Printed by myprint.py (wip/tools) over the kit's print: what Go's functions compute, and that they do. Lean checks it. -/
import Derived.Test.YtjgonpcajedkjaaF0
import Derived.Test.YtjgonpcajedkjaaFX00
import Derived.Test.YtjgonpcajedkjaaFX00b
namespace Go.Proofs.Ytjgonpcajedkjaa.P
open Go.RowKit Go.Proofs.YtjgonpcajedkjaaW.PrintWords Go.Proofs.YtjgonpcajedkjaaW.PrintLast Go.Proofs.YtjgonpcajedkjaaW.PrintMore Go.Proofs.Ytjgonpcajedkjaa.Sq
attribute [local go_sem] max2_int min2_int max_two min_two max_three min_three max_four min_four
set_option linter.unusedVariables false
set_option linter.unusedSimpArgs false

/-! ### spec_Interleave: function 167 -/
mutual
def spec_Interleave.l0 : Nat → Int → Int → Int → Int → List Int → Int → Option (Bool)
 | 0, _, _, _, _, _, _ => none
 | k + 1, x0, x1, x2, x3, x9, x10 => if x10 < 4 then (spec_Interleave.l1 k x0 x1 x2 x3 x9 x10 0) else (spec_Interleave.l2 k x1 x2 x3 0 (Int.tmod (wrap64 (x0 + 1)) 8))
def spec_Interleave.l1 : Nat → Int → Int → Int → Int → List Int → Int → Int → Option (Bool)
 | 0, _, _, _, _, _, _, _ => none
 | k + 1, x0, x1, x2, x3, x9, x10, x11 => if x11 < x10 then (if 0 ≤ x10 then (if x10 < (x9.length : Int) then (if 0 ≤ x11 then (if x11 < (x9.length : Int) then (if (rd x9 x10) = (rd x9 x11) then (some false) else (spec_Interleave.l1 k x0 x1 x2 x3 x9 x10 (wrap64 (x11 + 1)))) else (none)) else (none)) else (none)) else (none)) else (if 0 ≤ x10 then (if x10 < (x9.length : Int) then ((spec_l1In.f (rd x9 x10) 0 7).bind fun t325 => (if t325 = true then (spec_Interleave.l0 k x0 x1 x2 x3 x9 (wrap64 (x10 + 1))) else (some false))) else (none)) else (none))
def spec_Interleave.l2 : Nat → Int → Int → Int → Int → Int → Option (Bool)
 | 0, _, _, _, _, _ => none
 | k + 1, x1, x2, x3, x12, x13 => if x13 = x1 then (some (x12 == 1)) else (if x13 = x2 then (spec_Interleave.l2 k x1 x2 x3 (wrap64 (x12 + 1)) (Int.tmod (wrap64 (x13 + 1)) 8)) else (if x13 = x3 then (spec_Interleave.l2 k x1 x2 x3 (wrap64 (x12 + 1)) (Int.tmod (wrap64 (x13 + 1)) 8)) else (spec_Interleave.l2 k x1 x2 x3 x12 (Int.tmod (wrap64 (x13 + 1)) 8))))
end
def spec_Interleave.f (k : Nat) (a0 : Int) (a1 : Int) (a2 : Int) (a3 : Int) : Option (Bool) := spec_Interleave.l0 k a0 a1 a2 a3 (([a0, a1, a2, a3] : List Int)) 0
theorem spec_Interleave.mono_l : ∀ k, (∀ y0 y1 y2 y3 y4 y5, LeO (spec_Interleave.l0 k y0 y1 y2 y3 y4 y5) (spec_Interleave.l0 (k + 1) y0 y1 y2 y3 y4 y5)) ∧ (∀ y0 y1 y2 y3 y4 y5 y6, LeO (spec_Interleave.l1 k y0 y1 y2 y3 y4 y5 y6) (spec_Interleave.l1 (k + 1) y0 y1 y2 y3 y4 y5 y6)) ∧ (∀ y0 y1 y2 y3 y4, LeO (spec_Interleave.l2 k y0 y1 y2 y3 y4) (spec_Interleave.l2 (k + 1) y0 y1 y2 y3 y4))
 | 0 => ⟨fun _ _ _ _ _ _ r h => by simp [spec_Interleave.l0] at h, fun _ _ _ _ _ _ _ r h => by simp [spec_Interleave.l1] at h, fun _ _ _ _ _ r h => by simp [spec_Interleave.l2] at h⟩
 | k + 1 => by
  obtain ⟨ih0, ih1, ih2⟩ := spec_Interleave.mono_l k
  refine ⟨?_, ?_, ?_⟩
  ·
   intro y0 y1 y2 y3 y4 y5
   unfold spec_Interleave.l0
   repeat' first | (with_reducible first | exact LeO.refl _ | exact LeO.none _ | refine LeO.ite ?_ ?_ | refine LeO.bind ?_ (fun _ => ?_) | exact ih0 _ _ _ _ _ _ | exact ih1 _ _ _ _ _ _ _ | exact ih2 _ _ _ _ _)
  ·
   intro y0 y1 y2 y3 y4 y5 y6
   unfold spec_Interleave.l1
   repeat' first | (with_reducible first | exact LeO.refl _ | exact LeO.none _ | refine LeO.ite ?_ ?_ | refine LeO.bind ?_ (fun _ => ?_) | exact ih0 _ _ _ _ _ _ | exact ih1 _ _ _ _ _ _ _ | exact ih2 _ _ _ _ _)
  ·
   intro y0 y1 y2 y3 y4
   unfold spec_Interleave.l2
   repeat' first | (with_reducible first | exact LeO.refl _ | exact LeO.none _ | refine LeO.ite ?_ ?_ | refine LeO.bind ?_ (fun _ => ?_) | exact ih0 _ _ _ _ _ _ | exact ih1 _ _ _ _ _ _ _ | exact ih2 _ _ _ _ _)
theorem spec_Interleave.mono : ∀ a0 a1 a2 a3 k, LeO (spec_Interleave.f k a0 a1 a2 a3) (spec_Interleave.f (k + 1) a0 a1 a2 a3) := by
 intro a0 a1 a2 a3 k
 obtain ⟨ih0, ih1, ih2⟩ := spec_Interleave.mono_l k
 unfold spec_Interleave.f
 repeat' first | (with_reducible first | exact LeO.refl _ | exact LeO.none _ | refine LeO.ite ?_ ?_ | refine LeO.bind ?_ (fun _ => ?_) | exact ih0 _ _ _ _ _ _ | exact ih1 _ _ _ _ _ _ _ | exact ih2 _ _ _ _ _)
set_option maxHeartbeats 8000000 in
set_option maxRecDepth 100000 in
theorem spec_Interleave.calls (k : Nat) (a0 : Int) (a1 : Int) (a2 : Int) (a3 : Int) (r : Bool) (w : World) (h : spec_Interleave.f k a0 a1 a2 a3 = some r) :
  Calls Try.prog 167 #[.int .i64 a0, .int .i64 a1, .int .i64 a2, .int .i64 a3] w fun e w' => e = .returned (.bool r) ∧ Below w.heap.size w w' := by
 have HB := Aside0.mk (Below.refl w.heap.size w)
 have H : (spec_Interleave.l0 k a0 a1 a2 a3 (([a0, a1, a2, a3] : List Int)) 0) = some r := h
 clear h
 obtain ⟨y319, hy319⟩ : ∃ y_ : List Int, y_ = (([a0, a1, a2, a3] : List Int)) := ⟨_, rfl⟩
 replace H : (spec_Interleave.l0 k a0 a1 a2 a3 y319 0) = some r := by first | (rw [hy319]; with_reducible exact H) | (have H2_ := (Option.bind_some _ _).symm.trans H; rw [hy319]; with_reducible exact H2_) | (have H2_ := (Option.bind_some _ _).symm.trans H; with_reducible exact H2_) | with_reducible exact H | (rw [hy319]; exact H) | exact H
 have Ny319 := Aside0.mk hy319
 clear hy319
 have H' := Aside0.mk H
 clear H
 go_enter Try.func167, Try.ntmps167
 go_wp2_with (first | ((with_reducible refine gate_dst (N := 18) rfl ?_); refine Kd.R_lit (Kd.int .i64) _ 3 ?hg (N := 18) ?hd (xs := ([a0, a1, a2, a3] : List Int)) (inner := [.int .i64 a0, .int .i64 a1, .int .i64 a2, .int .i64 a3]) (ok := fun _ => True) (okp := fun _ => True) ?hr ?hp (fun _ hk => hk) trivial (Below.refl _ _) (Nat.le_refl _) (by simp) ?_; (case hd => rfl); (case hg => rfl); (case hr => first | (go_simp; done) | (go_simp; rfl)); (case hp => exact (Reps.one (show Kd.M (Kd.int .i64) _ _ _ a0 [.int .i64 a0] from rfl) (Reps.one (show Kd.M (Kd.int .i64) _ _ _ a1 [.int .i64 a1] from rfl) (Reps.one (show Kd.M (Kd.int .i64) _ _ _ a2 [.int .i64 a2] from rfl) (Reps.one (show Kd.M (Kd.int .i64) _ _ _ a3 [.int .i64 a3] from rfl) (Reps.none _ _)))))); intro v320 w5 ho6 hb hg_ hnew_; clear hg_ hnew_; (first | rw [← Ny319.out] at ho6 | (simp only [Int.reduceToNat] at ho6; rw [← Ny319.out] at ho6)); have HO321 := Aside0.mk (Kd.R_lower ho6 (below_size bA)); replace HB := Aside0.mk (below_step bA hb); clear hb ho6))
 repeat (go_quiet (first | ((with_reducible refine gate_dst (N := 18) rfl ?_); refine Kd.R_lit (Kd.int .i64) _ 3 ?hg (N := 18) ?hd (xs := ([a0, a1, a2, a3] : List Int)) (inner := [.int .i64 a0, .int .i64 a1, .int .i64 a2, .int .i64 a3]) (ok := fun _ => True) (okp := fun _ => True) ?hr ?hp (fun _ hk => hk) trivial (Below.refl _ _) (Nat.le_refl _) (by simp) ?_; (case hd => rfl); (case hg => rfl); (case hr => first | (go_simp; done) | (go_simp; rfl)); (case hp => exact (Reps.one (show Kd.M (Kd.int .i64) _ _ _ a0 [.int .i64 a0] from rfl) (Reps.one (show Kd.M (Kd.int .i64) _ _ _ a1 [.int .i64 a1] from rfl) (Reps.one (show Kd.M (Kd.int .i64) _ _ _ a2 [.int .i64 a2] from rfl) (Reps.one (show Kd.M (Kd.int .i64) _ _ _ a3 [.int .i64 a3] from rfl) (Reps.none _ _)))))); intro v320 w5 ho6 hb hg_ hnew_; clear hg_ hnew_; (first | rw [← Ny319.out] at ho6 | (simp only [Int.reduceToNat] at ho6; rw [← Ny319.out] at ho6)); have HO321 := Aside0.mk (Kd.R_lower ho6 (below_size bA)); replace HB := Aside0.mk (below_step bA hb); clear hb ho6)); try go_wp2_with (first | ((with_reducible refine gate_dst (N := 18) rfl ?_); refine Kd.R_lit (Kd.int .i64) _ 3 ?hg (N := 18) ?hd (xs := ([a0, a1, a2, a3] : List Int)) (inner := [.int .i64 a0, .int .i64 a1, .int .i64 a2, .int .i64 a3]) (ok := fun _ => True) (okp := fun _ => True) ?hr ?hp (fun _ hk => hk) trivial (Below.refl _ _) (Nat.le_refl _) (by simp) ?_; (case hd => rfl); (case hg => rfl); (case hr => first | (go_simp; done) | (go_simp; rfl)); (case hp => exact (Reps.one (show Kd.M (Kd.int .i64) _ _ _ a0 [.int .i64 a0] from rfl) (Reps.one (show Kd.M (Kd.int .i64) _ _ _ a1 [.int .i64 a1] from rfl) (Reps.one (show Kd.M (Kd.int .i64) _ _ _ a2 [.int .i64 a2] from rfl) (Reps.one (show Kd.M (Kd.int .i64) _ _ _ a3 [.int .i64 a3] from rfl) (Reps.none _ _)))))); intro v320 w5 ho6 hb hg_ hnew_; clear hg_ hnew_; (first | rw [← Ny319.out] at ho6 | (simp only [Int.reduceToNat] at ho6; rw [← Ny319.out] at ho6)); have HO321 := Aside0.mk (Kd.R_lower ho6 (below_size bA)); replace HB := Aside0.mk (below_step bA hb); clear hb ho6)))
 go_loopg [10] k (fun kq v10 w' => ∃ (x10_1 : Int), v10 = .int .i64 x10_1 ∧ Aside0 (spec_Interleave.l0 kq a0 a1 a2 a3 y319 x10_1 = some r) ∧ Aside0 (kq ≤ k) ∧ Aside0 (Kd.R (Kd.int .i64) 3 w' w.heap.size (fun _ => True) v320 y319) ∧ Aside0 (Below w.heap.size w w'))
 case atStart => exact ⟨(0), rS, H', ⟨Nat.le_refl _⟩, ⟨rK HO321⟩, ⟨bA⟩⟩
 case round =>
  clear H'
  try clear c1
  try clear p2
  obtain ⟨x10_1, rfl, HA, HK1, HO_9, HB⟩ := hrel
  cases gk with
  | zero => exact absurd HA.out (by simp [spec_Interleave.l0])
  | succ k1 =>
   have H := HA.out
   clear HA
   simp only [spec_Interleave.l0] at H
   by_cases c7 : x10_1 < 4
   ·
    rw [if_pos c7] at H
    have c7b0 := decide_eq_true c7
    clear c7
    have H' := Aside0.mk H
    clear H
    go_wp2
    repeat (go_quiet (fail); try go_wp2)
    go_loopg [11] k1 (fun kq v11 w' => ∃ (x11_2 : Int), v11 = .int .i64 x11_2 ∧ Aside0 (spec_Interleave.l1 kq a0 a1 a2 a3 y319 x10_1 x11_2 = some r) ∧ Aside0 (kq ≤ k1) ∧ Aside0 (Kd.R (Kd.int .i64) 3 w' w.heap.size (fun _ => True) v320 y319) ∧ Aside0 (Below w.heap.size w w'))
    case atStart => exact ⟨(0), rS, H', ⟨Nat.le_refl _⟩, ⟨rK HO_9⟩, ⟨bA⟩⟩
    case round =>
     clear H'
     try clear c1
     try clear p2
     try clear c7
     try clear c7b0
     try clear p2
     obtain ⟨x11_2, rfl, HA, HK2, HO_9, HB⟩ := hrel
     cases gk with
     | zero => exact absurd HA.out (by simp [spec_Interleave.l1])
     | succ k2 =>
      have H := HA.out
      clear HA
      simp only [spec_Interleave.l1] at H
      by_cases c8 : x11_2 < x10_1
      ·
       rw [if_pos c8] at H
       have c8b0 := decide_eq_true c8
       clear c8
       have c9 : 0 ≤ x10_1 := ifN H
       replace H := ifT H
       have c9b0 := decide_eq_true c9
       clear c9
       have c10 : x10_1 < (y319.length : Int) := ifN H
       replace H := ifT H
       have c10b0 := decide_eq_true c10
       clear c10
       have c11 : 0 ≤ x11_2 := ifN H
       replace H := ifT H
       have c11b0 := decide_eq_true c11
       clear c11
       have c12 : x11_2 < (y319.length : Int) := ifN H
       replace H := ifT H
       have c12b0 := decide_eq_true c12
       clear c12
       by_cases c13 : (rd y319 x10_1) = (rd y319 x11_2)
       ·
        rw [if_pos c13] at H
        have c13b0 : ((rd y319 x10_1) == (rd y319 x11_2)) = true := beq_iff_eq.mpr c13
        have c13b1 : ((rd y319 x10_1) != (rd y319 x11_2)) = false := bne_eq_false_iff_eq.mpr c13
        clear c13
        obtain rfl := Option.some.inj H
        obtain ⟨Ao14, co14, eo14⟩ := Kd.R_slice HO_9.out
        subst eo14
        have p322 : 0 ≤ (x10_1 : Int) := dA
        have q322 : x10_1 < (y319.length : Int) := dA
        obtain ⟨ad322, e322, hx322_0⟩ := Kd.at_int (Kd.R_reads' HO_9.out).2.2 x10_1 p322 q322
        cases e322
        replace p322 := eq_true p322
        replace q322 := eq_true q322
        have p323 : 0 ≤ (x11_2 : Int) := dA
        have q323 : x11_2 < (y319.length : Int) := dA
        obtain ⟨ad323, e323, hx323_0⟩ := Kd.at_int (Kd.R_reads' HO_9.out).2.2 x11_2 p323 q323
        obtain rfl : ad322 = ad323 := (by injection e323)
        replace p323 := eq_true p323
        replace q323 := eq_true q323
        go_wp2
        repeat (go_quiet (fail); try go_wp2)
        go_ret
        exact ⟨rA, bA⟩
       ·
        rw [if_neg c13] at H
        have c13b0 : ((rd y319 x10_1) == (rd y319 x11_2)) = false := beq_eq_false_iff_ne.mpr c13
        have c13b1 : ((rd y319 x10_1) != (rd y319 x11_2)) = true := bne_iff_ne.mpr c13
        have H' := Aside0.mk H
        clear H
        obtain ⟨Ao15, co15, eo15⟩ := Kd.R_slice HO_9.out
        subst eo15
        have p322 : 0 ≤ (x10_1 : Int) := dA
        have q322 : x10_1 < (y319.length : Int) := dA
        obtain ⟨ad322, e322, hx322_0⟩ := Kd.at_int (Kd.R_reads' HO_9.out).2.2 x10_1 p322 q322
        cases e322
        replace p322 := eq_true p322
        replace q322 := eq_true q322
        have p323 : 0 ≤ (x11_2 : Int) := dA
        have q323 : x11_2 < (y319.length : Int) := dA
        obtain ⟨ad323, e323, hx323_0⟩ := Kd.at_int (Kd.R_reads' HO_9.out).2.2 x11_2 p323 q323
        obtain rfl : ad322 = ad323 := (by injection e323)
        replace p323 := eq_true p323
        replace q323 := eq_true q323
        go_wp2
        repeat (go_quiet (fail); try go_wp2)
        go_roundg k2
        case measure => have := HK1.out; have := HK2.out; omega
        case rel => exact ⟨(wrap64 (x11_2 + 1)), rS, H', ⟨by have := HK1.out; have := HK2.out; omega⟩, ⟨rK HO_9⟩, ⟨bA⟩⟩
      ·
       rw [if_neg c8] at H
       have c8b0 := decide_eq_false c8
       clear c8
       have c16 : 0 ≤ x10_1 := ifN H
       replace H := ifT H
       have c16b0 := decide_eq_true c16
       clear c16
       have c17 : x10_1 < (y319.length : Int) := ifN H
       replace H := ifT H
       have c17b0 := decide_eq_true c17
       clear c17
       obtain ⟨t325, A18, H⟩ := bindE H
       try dsimp only at H
       by_cases c19 : t325 = true
       ·
        subst c19
        have H1 : (spec_Interleave.l0 k2 a0 a1 a2 a3 y319 (wrap64 (x10_1 + 1))) = some r := by rw [if_pos rfl] at H; exact H
        clear H
        have H := H1
        clear H1
        have H' := Aside0.mk H
        clear H
        obtain ⟨Ao20, co20, eo20⟩ := Kd.R_slice HO_9.out
        subst eo20
        have p324 : 0 ≤ (x10_1 : Int) := dA
        have q324 : x10_1 < (y319.length : Int) := dA
        obtain ⟨ad324, e324, hx324_0⟩ := Kd.at_int (Kd.R_reads' HO_9.out).2.2 x10_1 p324 q324
        cases e324
        replace p324 := eq_true p324
        replace q324 := eq_true q324
        go_wp2_with (first | (go_at_call 111; (with_reducible refine (spec_l1In.calls (rd y319 x10_1) 0 7 true _ A18.out).mono ?_); rintro e w' ⟨rfl, ⟨nd, rfl⟩⟩; (try first | exact ⟨rfl, _, World.drewN_drewN _ _ _⟩ | exact ⟨rfl, _, Eq.trans (World.drewN_drewN _ _ _) (congrArg (World.drewN _) (Nat.add_assoc _ _ _))⟩)))
        repeat (go_quiet (first | (go_at_call 111; (with_reducible refine (spec_l1In.calls (rd y319 x10_1) 0 7 true _ A18.out).mono ?_); rintro e w' ⟨rfl, ⟨nd, rfl⟩⟩; (try first | exact ⟨rfl, _, World.drewN_drewN _ _ _⟩ | exact ⟨rfl, _, Eq.trans (World.drewN_drewN _ _ _) (congrArg (World.drewN _) (Nat.add_assoc _ _ _))⟩))); try go_wp2_with (first | (go_at_call 111; (with_reducible refine (spec_l1In.calls (rd y319 x10_1) 0 7 true _ A18.out).mono ?_); rintro e w' ⟨rfl, ⟨nd, rfl⟩⟩; (try first | exact ⟨rfl, _, World.drewN_drewN _ _ _⟩ | exact ⟨rfl, _, Eq.trans (World.drewN_drewN _ _ _) (congrArg (World.drewN _) (Nat.add_assoc _ _ _))⟩))))
        go_roundg k2
        case measure => have := HK1.out; have := HK2.out; omega
        case rel => exact ⟨(wrap64 (x10_1 + 1)), rS, H', ⟨by have := HK1.out; have := HK2.out; omega⟩, ⟨rK HO_9⟩, ⟨bA⟩⟩
       ·
        replace c19 := Bool.eq_false_iff.mpr c19
        subst c19
        have H1 : (some false) = some r := by rw [if_neg (show ¬ (false = true) by decide)] at H; exact H
        clear H
        have H := H1
        clear H1
        obtain rfl := Option.some.inj H
        obtain ⟨Ao21, co21, eo21⟩ := Kd.R_slice HO_9.out
        subst eo21
        have p324 : 0 ≤ (x10_1 : Int) := dA
        have q324 : x10_1 < (y319.length : Int) := dA
        obtain ⟨ad324, e324, hx324_0⟩ := Kd.at_int (Kd.R_reads' HO_9.out).2.2 x10_1 p324 q324
        cases e324
        replace p324 := eq_true p324
        replace q324 := eq_true q324
        go_wp2_with (first | (go_at_call 111; (with_reducible refine (spec_l1In.calls (rd y319 x10_1) 0 7 false _ A18.out).mono ?_); rintro e w' ⟨rfl, ⟨nd, rfl⟩⟩; (try first | exact ⟨rfl, _, World.drewN_drewN _ _ _⟩ | exact ⟨rfl, _, Eq.trans (World.drewN_drewN _ _ _) (congrArg (World.drewN _) (Nat.add_assoc _ _ _))⟩)))
        repeat (go_quiet (first | (go_at_call 111; (with_reducible refine (spec_l1In.calls (rd y319 x10_1) 0 7 false _ A18.out).mono ?_); rintro e w' ⟨rfl, ⟨nd, rfl⟩⟩; (try first | exact ⟨rfl, _, World.drewN_drewN _ _ _⟩ | exact ⟨rfl, _, Eq.trans (World.drewN_drewN _ _ _) (congrArg (World.drewN _) (Nat.add_assoc _ _ _))⟩))); try go_wp2_with (first | (go_at_call 111; (with_reducible refine (spec_l1In.calls (rd y319 x10_1) 0 7 false _ A18.out).mono ?_); rintro e w' ⟨rfl, ⟨nd, rfl⟩⟩; (try first | exact ⟨rfl, _, World.drewN_drewN _ _ _⟩ | exact ⟨rfl, _, Eq.trans (World.drewN_drewN _ _ _) (congrArg (World.drewN _) (Nat.add_assoc _ _ _))⟩))))
        go_ret
        exact ⟨rA, bA⟩
   ·
    rw [if_neg c7] at H
    have c7b0 := decide_eq_false c7
    clear c7
    have H' := Aside0.mk H
    clear H
    go_wp2
    repeat (go_quiet (fail); try go_wp2)
    go_loopg [12, 13] k1 (fun kq v12 v13 w' => ∃ (x12_2 : Int) (x13_2 : Int), v12 = .int .i64 x12_2 ∧ v13 = .int .i64 x13_2 ∧ Aside0 (spec_Interleave.l2 kq a1 a2 a3 x12_2 x13_2 = some r) ∧ Aside0 (kq ≤ k1) ∧ Aside0 (Below w.heap.size w w'))
    case atStart => exact ⟨(0), (Int.tmod (wrap64 (a0 + 1)) 8), rS, rS, H', ⟨Nat.le_refl _⟩, ⟨bA⟩⟩
    case round =>
     clear H'
     try clear c1
     try clear p2
     try clear p3
     try clear q3
     try clear hx3
     try clear p6
     try clear c7
     try clear c7b0
     try clear c8
     try clear c8b0
     try clear c9
     try clear c9b0
     try clear c10
     try clear c10b0
     try clear c11
     try clear c11b0
     try clear c12
     try clear c12b0
     try clear c13
     try clear c13b0
     try clear c13b1
     try clear c16
     try clear c16b0
     try clear c17
     try clear c17b0
     try clear c19
     try clear hx322_0
     try clear hx323_0
     try clear hx324_0
     try clear p2
     try clear p322
     try clear p323
     try clear p324
     try clear q322
     try clear q323
     try clear q324
     obtain ⟨x12_2, x13_2, rfl, rfl, HA, HK2, HB⟩ := hrel
     cases gk with
     | zero => exact absurd HA.out (by simp [spec_Interleave.l2])
     | succ k2 =>
      have H := HA.out
      clear HA
      simp only [spec_Interleave.l2] at H
      by_cases c22 : x13_2 = a1
      ·
       rw [if_pos c22] at H
       have c22b0 : (x13_2 == a1) = true := beq_iff_eq.mpr c22
       have c22b1 : (x13_2 != a1) = false := bne_eq_false_iff_eq.mpr c22
       clear c22
       obtain rfl := Option.some.inj H
       go_wp2
       repeat (go_quiet (fail); try go_wp2)
       go_ret
       exact ⟨rA, bA⟩
      ·
       rw [if_neg c22] at H
       have c22b0 : (x13_2 == a1) = false := beq_eq_false_iff_ne.mpr c22
       have c22b1 : (x13_2 != a1) = true := bne_iff_ne.mpr c22
       by_cases c23 : x13_2 = a2
       ·
        rw [if_pos c23] at H
        have c23b0 : (x13_2 == a2) = true := beq_iff_eq.mpr c23
        have c23b1 : (x13_2 != a2) = false := bne_eq_false_iff_eq.mpr c23
        clear c23
        have H' := Aside0.mk H
        clear H
        go_wp2
        repeat (go_quiet (fail); try go_wp2)
        go_roundg k2
        case measure => have := HK1.out; have := HK2.out; omega
        case rel => exact ⟨(wrap64 (x12_2 + 1)), (Int.tmod (wrap64 (x13_2 + 1)) 8), rS, rS, H', ⟨by have := HK1.out; have := HK2.out; omega⟩, ⟨bA⟩⟩
       ·
        rw [if_neg c23] at H
        have c23b0 : (x13_2 == a2) = false := beq_eq_false_iff_ne.mpr c23
        have c23b1 : (x13_2 != a2) = true := bne_iff_ne.mpr c23
        by_cases c24 : x13_2 = a3
        ·
         rw [if_pos c24] at H
         have c24b0 : (x13_2 == a3) = true := beq_iff_eq.mpr c24
         have c24b1 : (x13_2 != a3) = false := bne_eq_false_iff_eq.mpr c24
         clear c24
         have H' := Aside0.mk H
         clear H
         go_wp2
         repeat (go_quiet (fail); try go_wp2)
         go_roundg k2
         case measure => have := HK1.out; have := HK2.out; omega
         case rel => exact ⟨(wrap64 (x12_2 + 1)), (Int.tmod (wrap64 (x13_2 + 1)) 8), rS, rS, H', ⟨by have := HK1.out; have := HK2.out; omega⟩, ⟨bA⟩⟩
        ·
         rw [if_neg c24] at H
         have c24b0 : (x13_2 == a3) = false := beq_eq_false_iff_ne.mpr c24
         have c24b1 : (x13_2 != a3) = true := bne_iff_ne.mpr c24
         have H' := Aside0.mk H
         clear H
         go_wp2
         repeat (go_quiet (fail); try go_wp2)
         go_roundg k2
         case measure => have := HK1.out; have := HK2.out; omega
         case rel => exact ⟨(x12_2), (Int.tmod (wrap64 (x13_2 + 1)) 8), rS, rS, H', ⟨by have := HK1.out; have := HK2.out; omega⟩, ⟨bA⟩⟩

/-! ### spec_InPlace: function 168 -/
def spec_InPlace.f (a0 : Int) : Option (Int) := (spec_l1In.f a0 0 3).bind fun t326 => (if t326 = true then (some (wrap64 (2 * a0))) else (some (-1)))
set_option maxHeartbeats 8000000 in
set_option maxRecDepth 100000 in
theorem spec_InPlace.calls (a0 : Int) (r : Int) (w : World) (h : spec_InPlace.f a0 = some r) :
  Calls Try.prog 168 #[.int .i64 a0] w fun e w' => e = .returned (.int .i64 r) ∧ Drawn0 w w' := by
 have H : ((spec_l1In.f a0 0 3).bind fun t326 => (if t326 = true then (some (wrap64 (2 * a0))) else (some (-1)))) = some r := h
 clear h
 obtain ⟨t326, A2, H⟩ := bindE H
 try dsimp only at H
 by_cases c3 : t326 = true
 ·
  subst c3
  have H1 : (some (wrap64 (2 * a0))) = some r := by rw [if_pos rfl] at H; exact H
  clear H
  have H := H1
  clear H1
  obtain rfl := Option.some.inj H
  go_enter Try.func168, Try.ntmps168
  go_wp2_with (first | ((with_reducible refine gate_callee (f := 111) rfl ?_); refine gL (some 4) Try.func111 #[.int .i64 a0, .int .i64 0, .int .i64 3] ?_; (with_reducible refine (spec_l1In.calls a0 0 3 true _ A2.out).mono ?_); rintro e w' ⟨rfl, ⟨nd, rfl⟩⟩; refine ⟨_, rfl, ?_⟩))
  go_ret
  exact ⟨by first | rfl | (simp; done) | (simp [*]; done), by repeat (first | exact Drawn0.refl _ | apply Drawn0.step)⟩
 ·
  replace c3 := Bool.eq_false_iff.mpr c3
  subst c3
  have H1 : (some (-1)) = some r := by rw [if_neg (show ¬ (false = true) by decide)] at H; exact H
  clear H
  have H := H1
  clear H1
  obtain rfl := Option.some.inj H
  go_enter Try.func168, Try.ntmps168
  go_wp2_with (first | ((with_reducible refine gate_callee (f := 111) rfl ?_); refine gL (some 4) Try.func111 #[.int .i64 a0, .int .i64 0, .int .i64 3] ?_; (with_reducible refine (spec_l1In.calls a0 0 3 false _ A2.out).mono ?_); rintro e w' ⟨rfl, ⟨nd, rfl⟩⟩; refine ⟨_, rfl, ?_⟩))
  go_ret
  exact ⟨by first | rfl | (simp; done) | (simp [*]; done), by repeat (first | exact Drawn0.refl _ | apply Drawn0.step)⟩

/-! ### spec_OutPlace: function 169 -/
def spec_OutPlace.f (a0 : Int) : Option (Int) := (spec_l1In.f a0 0 3).bind fun t327 => (if t327 = true then (some (wrap64 ((wrap64 (2 * a0)) + 1))) else (some (-1)))
set_option maxHeartbeats 8000000 in
set_option maxRecDepth 100000 in
theorem spec_OutPlace.calls (a0 : Int) (r : Int) (w : World) (h : spec_OutPlace.f a0 = some r) :
  Calls Try.prog 169 #[.int .i64 a0] w fun e w' => e = .returned (.int .i64 r) ∧ Drawn0 w w' := by
 have H : ((spec_l1In.f a0 0 3).bind fun t327 => (if t327 = true then (some (wrap64 ((wrap64 (2 * a0)) + 1))) else (some (-1)))) = some r := h
 clear h
 obtain ⟨t327, A2, H⟩ := bindE H
 try dsimp only at H
 by_cases c3 : t327 = true
 ·
  subst c3
  have H1 : (some (wrap64 ((wrap64 (2 * a0)) + 1))) = some r := by rw [if_pos rfl] at H; exact H
  clear H
  have H := H1
  clear H1
  obtain rfl := Option.some.inj H
  go_enter Try.func169, Try.ntmps169
  go_wp2_with (first | ((with_reducible refine gate_callee (f := 111) rfl ?_); refine gL (some 4) Try.func111 #[.int .i64 a0, .int .i64 0, .int .i64 3] ?_; (with_reducible refine (spec_l1In.calls a0 0 3 true _ A2.out).mono ?_); rintro e w' ⟨rfl, ⟨nd, rfl⟩⟩; refine ⟨_, rfl, ?_⟩))
  go_ret
  exact ⟨by first | rfl | (simp; done) | (simp [*]; done), by repeat (first | exact Drawn0.refl _ | apply Drawn0.step)⟩
 ·
  replace c3 := Bool.eq_false_iff.mpr c3
  subst c3
  have H1 : (some (-1)) = some r := by rw [if_neg (show ¬ (false = true) by decide)] at H; exact H
  clear H
  have H := H1
  clear H1
  obtain rfl := Option.some.inj H
  go_enter Try.func169, Try.ntmps169
  go_wp2_with (first | ((with_reducible refine gate_callee (f := 111) rfl ?_); refine gL (some 4) Try.func111 #[.int .i64 a0, .int .i64 0, .int .i64 3] ?_; (with_reducible refine (spec_l1In.calls a0 0 3 false _ A2.out).mono ?_); rintro e w' ⟨rfl, ⟨nd, rfl⟩⟩; refine ⟨_, rfl, ?_⟩))
  go_ret
  exact ⟨by first | rfl | (simp; done) | (simp [*]; done), by repeat (first | exact Drawn0.refl _ | apply Drawn0.step)⟩

/-! ### spec_Conflict: function 145 -/
def spec_Conflict.j0 : Nat → Bool → Int → Int → Int → Int → Int → Int → Int → Int → Option (Bool)
 | 0, _, _, _, _, _, _, _, _, _ => none
 | k + 1, x5, x329000, x329001, x329002, x329003, x330000, x330001, x330002, x330003 => if x5 = true then (some false) else (if x329001 = 2 then (if x330002 = x329002 then (some true) else (some (x330003 == x329002))) else (if x330001 = 2 then (if x329002 = x330002 then (some true) else (some (x329003 == x330002))) else (if x329002 = x330002 then (some false) else (if x329003 = x330003 then (some true) else ((spec_InPlace.f x329002).bind fun t332 => ((spec_OutPlace.f x329003).bind fun t333 => ((spec_InPlace.f x330002).bind fun t334 => ((spec_OutPlace.f x330003).bind fun t335 => ((spec_Interleave.f k t332 t333 t334 t335).bind fun t336 => (some t336))))))))))
def spec_Conflict.f (k : Nat) (a0_0 : Int) (a0_1 : Int) (a0_2 : Int) (a0_3 : Int) (a1_0 : Int) (a1_1 : Int) (a1_2 : Int) (a1_3 : Int) : Option (Bool) := (spec_IsPath.f a0_0 a0_1 a0_2 a0_3).bind fun t330 => (if t330 = true then ((spec_IsPath.f a1_0 a1_1 a1_2 a1_3).bind fun t331 => (if t331 = true then (if a0_1 = 2 then (spec_Conflict.j0 k (a1_1 == 2) a0_0 a0_1 a0_2 a0_3 a1_0 a1_1 a1_2 a1_3) else (spec_Conflict.j0 k false a0_0 a0_1 a0_2 a0_3 a1_0 a1_1 a1_2 a1_3)) else (spec_Conflict.j0 k true a0_0 a0_1 a0_2 a0_3 a1_0 a1_1 a1_2 a1_3))) else (spec_Conflict.j0 k true a0_0 a0_1 a0_2 a0_3 a1_0 a1_1 a1_2 a1_3))
theorem spec_Conflict.mono_l : ∀ k, (∀ y0 y1 y2 y3 y4 y5 y6 y7 y8, LeO (spec_Conflict.j0 k y0 y1 y2 y3 y4 y5 y6 y7 y8) (spec_Conflict.j0 (k + 1) y0 y1 y2 y3 y4 y5 y6 y7 y8))
 | 0 => fun _ _ _ _ _ _ _ _ _ r h => by simp [spec_Conflict.j0] at h
 | k + 1 => by
  have ih0 := spec_Conflict.mono_l k
  ·
   intro y0 y1 y2 y3 y4 y5 y6 y7 y8
   unfold spec_Conflict.j0
   repeat' first | (with_reducible first | exact LeO.refl _ | exact LeO.none _ | refine LeO.ite ?_ ?_ | refine LeO.bind ?_ (fun _ => ?_) | exact ih0 _ _ _ _ _ _ _ _ _ | exact spec_Interleave.mono _ _ _ _ _)
theorem spec_Conflict.mono : ∀ a0 a1 a2 a3 a4 a5 a6 a7 k, LeO (spec_Conflict.f k a0 a1 a2 a3 a4 a5 a6 a7) (spec_Conflict.f (k + 1) a0 a1 a2 a3 a4 a5 a6 a7) := by
 intro a0 a1 a2 a3 a4 a5 a6 a7 k
 have ih0 := spec_Conflict.mono_l k
 unfold spec_Conflict.f
 repeat' first | (with_reducible first | exact LeO.refl _ | exact LeO.none _ | refine LeO.ite ?_ ?_ | refine LeO.bind ?_ (fun _ => ?_) | exact ih0 _ _ _ _ _ _ _ _ _ | exact spec_Interleave.mono _ _ _ _ _)
def spec_Conflict.T11 : Bool × List (List Nat × List Nat) := (true, [([], []), ([0], [0]), ([1], [1]), ([], []), ([3], [3]), ([4, 2], [4]), ([], []), ([6], [6]), ([7, 5], [7]), ([], []), ([9], [9]), ([10, 8], [10]), ([2, 5, 8, 11, 11], [2, 5, 8, 11]), ([12, 12, 0, 1, 2, 3, 4, 5, 6, 7, 8, 9, 10, 11, 12], [12])])
def spec_Conflict.B11 : List Nat := [0, 1, 3, 0, 8, 31, 0, 64, 255, 0, 512, 2047, 4095, 8191]
theorem spec_Conflict.tab11 : rtab .any (opsOf Try.f145 11) = spec_Conflict.T11 := by kernel_rfl
theorem spec_Conflict.bits11 : waitsOk spec_Conflict.T11.2 spec_Conflict.B11 = true := by kernel_rfl
set_option maxHeartbeats 8000000 in
set_option maxRecDepth 100000 in
theorem spec_Conflict.calls (k : Nat) (a0_0 : Int) (a0_1 : Int) (a0_2 : Int) (a0_3 : Int) (a1_0 : Int) (a1_1 : Int) (a1_2 : Int) (a1_3 : Int) (r : Bool) (w : World) (h : spec_Conflict.f k a0_0 a0_1 a0_2 a0_3 a1_0 a1_1 a1_2 a1_3 = some r) :
  Calls Try.prog 145 #[.agg #[.int .i64 a0_0, .int .i64 a0_1, .int .i64 a0_2, .int .i64 a0_3], .agg #[.int .i64 a1_0, .int .i64 a1_1, .int .i64 a1_2, .int .i64 a1_3]] w fun e w' => e = .returned (.bool r) ∧ Below w.heap.size w w' := by
 have hu50 := Try.underlying50
 have HB := Aside0.mk (Below.refl w.heap.size w)
 have H : ((spec_IsPath.f a0_0 a0_1 a0_2 a0_3).bind fun t330 => (if t330 = true then ((spec_IsPath.f a1_0 a1_1 a1_2 a1_3).bind fun t331 => (if t331 = true then (if a0_1 = 2 then (spec_Conflict.j0 k (a1_1 == 2) a0_0 a0_1 a0_2 a0_3 a1_0 a1_1 a1_2 a1_3) else (spec_Conflict.j0 k false a0_0 a0_1 a0_2 a0_3 a1_0 a1_1 a1_2 a1_3)) else (spec_Conflict.j0 k true a0_0 a0_1 a0_2 a0_3 a1_0 a1_1 a1_2 a1_3))) else (spec_Conflict.j0 k true a0_0 a0_1 a0_2 a0_3 a1_0 a1_1 a1_2 a1_3))) = some r := h
 clear h
 have HC3 := Aside0.mk H
 clear H
 go_enter Try.func145, Try.ntmps145
 go_upto_region 1 with (first | ((with_reducible refine gate_dst (N := 2) rfl ?_); refine bE (N := 2) (cs := #[.int .i64 a0_0, .int .i64 a0_1, .int .i64 a0_2, .int .i64 a0_3]) (t := 50) ?_; intro gb328 hg w4 hbox hb; have n0_ := Aside0.mk (below_step bA hb); have n1_ := Aside0.mk (hbox); have n2_ := Aside0.mk ((by rw [hg]; exact (below_size bA) : w.heap.size ≤ gb328)); have n3_ := Aside0.mk ((by rw [hg]; exact (below_size bA) : w.heap.size ≤ gb328)); clear HB; have HB := n0_; have BK328 := n1_; have GW328 := n2_; have GE328 := n3_; clear n0_ n1_ n2_ n3_; clear hb hbox hg) | ((with_reducible refine gate_dst (N := 3) rfl ?_); refine bE (N := 3) (cs := #[.int .i64 a1_0, .int .i64 a1_1, .int .i64 a1_2, .int .i64 a1_3]) (t := 50) ?_; intro gb329 hg w5 hbox hb; have n0_ := Aside0.mk (blk_below (g := gb328) (bK BK328) hb); have n1_ := Aside0.mk (below_step bG hb); have n2_ := Aside0.mk (hbox); have n3_ := Aside0.mk ((by rw [hg]; exact (below_size bG) : w.heap.size ≤ gb329)); have n4_ := Aside0.mk ((by rw [hg]; exact (below_size bG) : w.heap.size ≤ gb329)); have n5_ := Aside0.mk ((by rw [hg]; exact Nat.ne_of_lt (blk_lt (g := gb328) (o := .cells #[.int .i64 a0_0, .int .i64 a0_1, .int .i64 a0_2, .int .i64 a0_3] 50 (0, 0)) (bK BK328)) : gb328 ≠ gb329)); have n6_ := Aside0.mk ((by rw [hg]; exact Nat.ne_of_gt (blk_lt (g := gb328) (o := .cells #[.int .i64 a0_0, .int .i64 a0_1, .int .i64 a0_2, .int .i64 a0_3] 50 (0, 0)) (bK BK328)) : gb329 ≠ gb328)); clear BK328; clear HB; have BK328 := n0_; have HB := n1_; have BK329 := n2_; have GW329 := n3_; have GE329 := n4_; have NB328_329 := n5_; have NB329_328 := n6_; clear n0_ n1_ n2_ n3_ n4_ n5_ n6_; clear hb hbox hg))
 (try simp only [Act.put, List.setIfInBounds_toArray, List.set_cons_zero, List.set_cons_succ])
 go_cut [5] (fun v5 wc => ∃ (kq : Nat) (x5_2 : Bool), v5 = .bool x5_2 ∧ Aside0 (spec_Conflict.j0 kq x5_2 a0_0 a0_1 a0_2 a0_3 a1_0 a1_1 a1_2 a1_3 = some r) ∧ Aside0 (kq ≤ k) ∧ Aside0 (wc.heap[gb328]? = some (.cells #[.int .i64 a0_0, .int .i64 a0_1, .int .i64 a0_2, .int .i64 a0_3] 50 (0, 0))) ∧ Aside0 (wc.heap[gb329]? = some (.cells #[.int .i64 a1_0, .int .i64 a1_1, .int .i64 a1_2, .int .i64 a1_3] 50 (0, 0))) ∧ Aside0 (Below w.heap.size w wc))
 case first =>
  have H := HC3.out
  clear HC3
  obtain ⟨t330, A6, H⟩ := bindE H
  try dsimp only at H
  by_cases c7 : t330 = true
  ·
   subst c7
   have H1 : ((spec_IsPath.f a1_0 a1_1 a1_2 a1_3).bind fun t331 => (if t331 = true then (if a0_1 = 2 then (spec_Conflict.j0 k (a1_1 == 2) a0_0 a0_1 a0_2 a0_3 a1_0 a1_1 a1_2 a1_3) else (spec_Conflict.j0 k false a0_0 a0_1 a0_2 a0_3 a1_0 a1_1 a1_2 a1_3)) else (spec_Conflict.j0 k true a0_0 a0_1 a0_2 a0_3 a1_0 a1_1 a1_2 a1_3))) = some r := by rw [if_pos rfl] at H; exact H
   clear H
   have H := H1
   clear H1
   obtain ⟨t331, A8, H⟩ := bindE H
   try dsimp only at H
   by_cases c9 : t331 = true
   ·
    subst c9
    have H1 : (if a0_1 = 2 then (spec_Conflict.j0 k (a1_1 == 2) a0_0 a0_1 a0_2 a0_3 a1_0 a1_1 a1_2 a1_3) else (spec_Conflict.j0 k false a0_0 a0_1 a0_2 a0_3 a1_0 a1_1 a1_2 a1_3)) = some r := by rw [if_pos rfl] at H; exact H
    clear H
    have H := H1
    clear H1
    by_cases c10 : a0_1 = 2
    ·
     rw [if_pos c10] at H
     have c10b0 : (a0_1 == 2) = true := beq_iff_eq.mpr c10
     have c10b1 : (a0_1 != 2) = false := bne_eq_false_iff_eq.mpr c10
     clear c10
     (first | rw [c10b0] | (simp only [i64_w, i32_w]; rw [c10b0]) | skip)
     have H' := Aside0.mk H
     clear H
     have hnb11 := NB328_329.out
     have hnc11 := NB329_328.out
     obtain ⟨hcz12_0, hcz12_1, hcz12_2, hcz12_3, hfz12_0, hfz12_1, hfz12_2, hfz12_3⟩ := blkc4 BK328
     go_wp2_with (first | ((with_reducible refine gate_callee (f := 91) rfl ?_); refine gL (some 7) Try.func91 #[.agg #[.int .i64 a0_0, .int .i64 a0_1, .int .i64 a0_2, .int .i64 a0_3]] ?_; (with_reducible refine (spec_IsPath.calls a0_0 a0_1 a0_2 a0_3 true _ A6.out).mono ?_); rintro e w13 ⟨rfl, hb⟩; refine ⟨_, rfl, ?_⟩; replace BK328 := Aside0.mk (blk_below (g := gb328) (bK BK328) hb); replace BK329 := Aside0.mk (blk_below (g := gb329) (bK BK329) hb); replace HB := Aside0.mk (below_step bG hb); (try clear hb); have hcz14_0 : w13.cell? ⟨gb329, 0, none⟩ = some (.int .i64 a1_0) := bC BK329 0; have hcz14_1 : w13.cell? ⟨gb329, 1, none⟩ = some (.int .i64 a1_1) := bC BK329 1; have hcz14_2 : w13.cell? ⟨gb329, 2, none⟩ = some (.int .i64 a1_2) := bC BK329 2; have hcz14_3 : w13.cell? ⟨gb329, 3, none⟩ = some (.int .i64 a1_3) := bC BK329 3; have hfz14_0 := blk_frozen BK329.out 0; have hfz14_1 := blk_frozen BK329.out 1; have hfz14_2 := blk_frozen BK329.out 2; have hfz14_3 := blk_frozen BK329.out 3) | (go_at_call 91; (with_reducible refine (spec_IsPath.calls a1_0 a1_1 a1_2 a1_3 true _ A8.out).mono ?_); rintro e w15 ⟨rfl, hb⟩; replace BK328 := Aside0.mk (blk_below (g := gb328) (bK BK328) hb); replace BK329 := Aside0.mk (blk_below (g := gb329) (bK BK329) hb); replace HB := Aside0.mk (below_step bG hb); (try clear hb); obtain ⟨hcz16_0, hcz16_1, hcz16_2, hcz16_3, hfz16_0, hfz16_1, hfz16_2, hfz16_3⟩ := blkc4 BK328; obtain ⟨hcz17_0, hcz17_1, hcz17_2, hcz17_3, hfz17_0, hfz17_1, hfz17_2, hfz17_3⟩ := blkc4 BK329))
     go_meet
     case rel => exact ⟨_, ((a1_1 == 2)), rS, H', ⟨by first | omega | exact Nat.le_refl _⟩, ⟨bK BK328⟩, ⟨bK BK329⟩, ⟨bG⟩⟩
    ·
     rw [if_neg c10] at H
     have c10b0 : (a0_1 == 2) = false := beq_eq_false_iff_ne.mpr c10
     have c10b1 : (a0_1 != 2) = true := bne_iff_ne.mpr c10
     (first | rw [c10b0] | (simp only [i64_w, i32_w]; rw [c10b0]) | skip)
     have H' := Aside0.mk H
     clear H
     have hnb18 := NB328_329.out
     have hnc18 := NB329_328.out
     obtain ⟨hcz19_0, hcz19_1, hcz19_2, hcz19_3, hfz19_0, hfz19_1, hfz19_2, hfz19_3⟩ := blkc4 BK328
     go_wp2_with (first | ((with_reducible refine gate_callee (f := 91) rfl ?_); refine gL (some 7) Try.func91 #[.agg #[.int .i64 a0_0, .int .i64 a0_1, .int .i64 a0_2, .int .i64 a0_3]] ?_; (with_reducible refine (spec_IsPath.calls a0_0 a0_1 a0_2 a0_3 true _ A6.out).mono ?_); rintro e w20 ⟨rfl, hb⟩; refine ⟨_, rfl, ?_⟩; replace BK328 := Aside0.mk (blk_below (g := gb328) (bK BK328) hb); replace BK329 := Aside0.mk (blk_below (g := gb329) (bK BK329) hb); replace HB := Aside0.mk (below_step bG hb); (try clear hb); have hcz21_0 : w20.cell? ⟨gb329, 0, none⟩ = some (.int .i64 a1_0) := bC BK329 0; have hcz21_1 : w20.cell? ⟨gb329, 1, none⟩ = some (.int .i64 a1_1) := bC BK329 1; have hcz21_2 : w20.cell? ⟨gb329, 2, none⟩ = some (.int .i64 a1_2) := bC BK329 2; have hcz21_3 : w20.cell? ⟨gb329, 3, none⟩ = some (.int .i64 a1_3) := bC BK329 3; have hfz21_0 := blk_frozen BK329.out 0; have hfz21_1 := blk_frozen BK329.out 1; have hfz21_2 := blk_frozen BK329.out 2; have hfz21_3 := blk_frozen BK329.out 3) | (go_at_call 91; (with_reducible refine (spec_IsPath.calls a1_0 a1_1 a1_2 a1_3 true _ A8.out).mono ?_); rintro e w22 ⟨rfl, hb⟩; replace BK328 := Aside0.mk (blk_below (g := gb328) (bK BK328) hb); replace BK329 := Aside0.mk (blk_below (g := gb329) (bK BK329) hb); replace HB := Aside0.mk (below_step bG hb); (try clear hb); obtain ⟨hcz23_0, hcz23_1, hcz23_2, hcz23_3, hfz23_0, hfz23_1, hfz23_2, hfz23_3⟩ := blkc4 BK328))
     go_meet
     case rel => exact ⟨_, (false), rS, H', ⟨by first | omega | exact Nat.le_refl _⟩, ⟨bK BK328⟩, ⟨bK BK329⟩, ⟨bG⟩⟩
   ·
    replace c9 := Bool.eq_false_iff.mpr c9
    subst c9
    have H1 : (spec_Conflict.j0 k true a0_0 a0_1 a0_2 a0_3 a1_0 a1_1 a1_2 a1_3) = some r := by rw [if_neg (show ¬ (false = true) by decide)] at H; exact H
    clear H
    have H := H1
    clear H1
    have H' := Aside0.mk H
    clear H
    have hnb24 := NB328_329.out
    have hnc24 := NB329_328.out
    obtain ⟨hcz25_0, hcz25_1, hcz25_2, hcz25_3, hfz25_0, hfz25_1, hfz25_2, hfz25_3⟩ := blkc4 BK328
    go_wp2_with (first | ((with_reducible refine gate_callee (f := 91) rfl ?_); refine gL (some 7) Try.func91 #[.agg #[.int .i64 a0_0, .int .i64 a0_1, .int .i64 a0_2, .int .i64 a0_3]] ?_; (with_reducible refine (spec_IsPath.calls a0_0 a0_1 a0_2 a0_3 true _ A6.out).mono ?_); rintro e w26 ⟨rfl, hb⟩; refine ⟨_, rfl, ?_⟩; replace BK328 := Aside0.mk (blk_below (g := gb328) (bK BK328) hb); replace BK329 := Aside0.mk (blk_below (g := gb329) (bK BK329) hb); replace HB := Aside0.mk (below_step bG hb); (try clear hb); have hcz27_0 : w26.cell? ⟨gb329, 0, none⟩ = some (.int .i64 a1_0) := bC BK329 0; have hcz27_1 : w26.cell? ⟨gb329, 1, none⟩ = some (.int .i64 a1_1) := bC BK329 1; have hcz27_2 : w26.cell? ⟨gb329, 2, none⟩ = some (.int .i64 a1_2) := bC BK329 2; have hcz27_3 : w26.cell? ⟨gb329, 3, none⟩ = some (.int .i64 a1_3) := bC BK329 3; have hfz27_0 := blk_frozen BK329.out 0; have hfz27_1 := blk_frozen BK329.out 1; have hfz27_2 := blk_frozen BK329.out 2; have hfz27_3 := blk_frozen BK329.out 3) | (go_at_call 91; (with_reducible refine (spec_IsPath.calls a1_0 a1_1 a1_2 a1_3 false _ A8.out).mono ?_); rintro e w28 ⟨rfl, hb⟩; replace BK328 := Aside0.mk (blk_below (g := gb328) (bK BK328) hb); replace BK329 := Aside0.mk (blk_below (g := gb329) (bK BK329) hb); replace HB := Aside0.mk (below_step bG hb); (try clear hb)))
    go_meet
    case rel => exact ⟨_, (true), rS, H', ⟨by first | omega | exact Nat.le_refl _⟩, ⟨bK BK328⟩, ⟨bK BK329⟩, ⟨bG⟩⟩
  ·
   replace c7 := Bool.eq_false_iff.mpr c7
   subst c7
   have H1 : (spec_Conflict.j0 k true a0_0 a0_1 a0_2 a0_3 a1_0 a1_1 a1_2 a1_3) = some r := by rw [if_neg (show ¬ (false = true) by decide)] at H; exact H
   clear H
   have H := H1
   clear H1
   have H' := Aside0.mk H
   clear H
   have hnb29 := NB328_329.out
   have hnc29 := NB329_328.out
   obtain ⟨hcz30_0, hcz30_1, hcz30_2, hcz30_3, hfz30_0, hfz30_1, hfz30_2, hfz30_3⟩ := blkc4 BK328
   go_wp2_with (first | ((with_reducible refine gate_callee (f := 91) rfl ?_); refine gL (some 7) Try.func91 #[.agg #[.int .i64 a0_0, .int .i64 a0_1, .int .i64 a0_2, .int .i64 a0_3]] ?_; (with_reducible refine (spec_IsPath.calls a0_0 a0_1 a0_2 a0_3 false _ A6.out).mono ?_); rintro e w31 ⟨rfl, hb⟩; refine ⟨_, rfl, ?_⟩; replace BK328 := Aside0.mk (blk_below (g := gb328) (bK BK328) hb); replace BK329 := Aside0.mk (blk_below (g := gb329) (bK BK329) hb); replace HB := Aside0.mk (below_step bG hb); (try clear hb)))
   go_meet
   case rel => exact ⟨_, (true), rS, H', ⟨by first | omega | exact Nat.le_refl _⟩, ⟨bK BK328⟩, ⟨bK BK329⟩, ⟨bG⟩⟩
 case rest =>
  clear HC3
  try clear c1
  try clear c2
  try clear p2
  try clear c7
  try clear c9
  try clear c10
  try clear c10b0
  try clear c10b1
  try clear c11
  try clear c14
  try clear c18
  try clear c24
  try clear c29
  try clear hcz12_0
  try clear hcz12_1
  try clear hcz12_2
  try clear hcz12_3
  try clear hcz14_0
  try clear hcz14_1
  try clear hcz14_2
  try clear hcz14_3
  try clear hcz16_0
  try clear hcz16_1
  try clear hcz16_2
  try clear hcz16_3
  try clear hcz17_0
  try clear hcz17_1
  try clear hcz17_2
  try clear hcz17_3
  try clear hcz19_0
  try clear hcz19_1
  try clear hcz19_2
  try clear hcz19_3
  try clear hcz21_0
  try clear hcz21_1
  try clear hcz21_2
  try clear hcz21_3
  try clear hcz23_0
  try clear hcz23_1
  try clear hcz23_2
  try clear hcz23_3
  try clear hcz25_0
  try clear hcz25_1
  try clear hcz25_2
  try clear hcz25_3
  try clear hcz27_0
  try clear hcz27_1
  try clear hcz27_2
  try clear hcz27_3
  try clear hcz30_0
  try clear hcz30_1
  try clear hcz30_2
  try clear hcz30_3
  try clear hfz12_0
  try clear hfz12_1
  try clear hfz12_2
  try clear hfz12_3
  try clear hfz14_0
  try clear hfz14_1
  try clear hfz14_2
  try clear hfz14_3
  try clear hfz16_0
  try clear hfz16_1
  try clear hfz16_2
  try clear hfz16_3
  try clear hfz17_0
  try clear hfz17_1
  try clear hfz17_2
  try clear hfz17_3
  try clear hfz19_0
  try clear hfz19_1
  try clear hfz19_2
  try clear hfz19_3
  try clear hfz21_0
  try clear hfz21_1
  try clear hfz21_2
  try clear hfz21_3
  try clear hfz23_0
  try clear hfz23_1
  try clear hfz23_2
  try clear hfz23_3
  try clear hfz25_0
  try clear hfz25_1
  try clear hfz25_2
  try clear hfz25_3
  try clear hfz27_0
  try clear hfz27_1
  try clear hfz27_2
  try clear hfz27_3
  try clear hfz30_0
  try clear hfz30_1
  try clear hfz30_2
  try clear hfz30_3
  obtain ⟨kq, x5_2, rfl, HA, HJ2, BK328, BK329, HB⟩ := hcut
  cases kq with
  | zero => exact absurd HA.out (by simp [spec_Conflict.j0])
  | succ kj2 =>
   have H := HA.out
   clear HA
   simp only [spec_Conflict.j0] at H
   by_cases c32 : x5_2 = true
   ·
    subst c32
    have H1 : (some false) = some r := by rw [if_pos rfl] at H; exact H
    clear H
    have H := H1
    clear H1
    obtain rfl := Option.some.inj H
    go_wp2
    go_ret
    exact ⟨rA, bG⟩
   ·
    replace c32 := Bool.eq_false_iff.mpr c32
    subst c32
    have H1 : (if a0_1 = 2 then (if a1_2 = a0_2 then (some true) else (some (a1_3 == a0_2))) else (if a1_1 = 2 then (if a0_2 = a1_2 then (some true) else (some (a0_3 == a1_2))) else (if a0_2 = a1_2 then (some false) else (if a0_3 = a1_3 then (some true) else ((spec_InPlace.f a0_2).bind fun t332 => ((spec_OutPlace.f a0_3).bind fun t333 => ((spec_InPlace.f a1_2).bind fun t334 => ((spec_OutPlace.f a1_3).bind fun t335 => ((spec_Interleave.f kj2 t332 t333 t334 t335).bind fun t336 => (some t336)))))))))) = some r := by rw [if_neg (show ¬ (false = true) by decide)] at H; exact H
    clear H
    have H := H1
    clear H1
    by_cases c33 : a0_1 = 2
    ·
     rw [if_pos c33] at H
     have c33b0 : (a0_1 == 2) = true := beq_iff_eq.mpr c33
     have c33b1 : (a0_1 != 2) = false := bne_eq_false_iff_eq.mpr c33
     clear c33
     by_cases c34 : a1_2 = a0_2
     ·
      rw [if_pos c34] at H
      have c34b0 : (a1_2 == a0_2) = true := beq_iff_eq.mpr c34
      have c34b1 : (a1_2 != a0_2) = false := bne_eq_false_iff_eq.mpr c34
      clear c34
      obtain rfl := Option.some.inj H
      have hnb35 := NB328_329.out
      have hnc35 := NB329_328.out
      obtain ⟨hcz36_0, hcz36_1, hcz36_2, hcz36_3, hfz36_0, hfz36_1, hfz36_2, hfz36_3⟩ := blkc4 BK328
      obtain ⟨hcz37_0, hcz37_1, hcz37_2, hcz37_3, hfz37_0, hfz37_1, hfz37_2, hfz37_3⟩ := blkc4 BK329
      go_wp2
      go_ret
      exact ⟨rA, bG⟩
     ·
      rw [if_neg c34] at H
      have c34b0 : (a1_2 == a0_2) = false := beq_eq_false_iff_ne.mpr c34
      have c34b1 : (a1_2 != a0_2) = true := bne_iff_ne.mpr c34
      obtain rfl := Option.some.inj H
      have hnb38 := NB328_329.out
      have hnc38 := NB329_328.out
      obtain ⟨hcz39_0, hcz39_1, hcz39_2, hcz39_3, hfz39_0, hfz39_1, hfz39_2, hfz39_3⟩ := blkc4 BK328
      obtain ⟨hcz40_0, hcz40_1, hcz40_2, hcz40_3, hfz40_0, hfz40_1, hfz40_2, hfz40_3⟩ := blkc4 BK329
      go_wp2
      go_ret
      exact ⟨rA, bG⟩
    ·
     rw [if_neg c33] at H
     have c33b0 : (a0_1 == 2) = false := beq_eq_false_iff_ne.mpr c33
     have c33b1 : (a0_1 != 2) = true := bne_iff_ne.mpr c33
     by_cases c41 : a1_1 = 2
     ·
      rw [if_pos c41] at H
      have c41b0 : (a1_1 == 2) = true := beq_iff_eq.mpr c41
      have c41b1 : (a1_1 != 2) = false := bne_eq_false_iff_eq.mpr c41
      clear c41
      by_cases c42 : a0_2 = a1_2
      ·
       rw [if_pos c42] at H
       have c42b0 : (a0_2 == a1_2) = true := beq_iff_eq.mpr c42
       have c42b1 : (a0_2 != a1_2) = false := bne_eq_false_iff_eq.mpr c42
       clear c42
       obtain rfl := Option.some.inj H
       have hnb43 := NB328_329.out
       have hnc43 := NB329_328.out
       obtain ⟨hcz44_0, hcz44_1, hcz44_2, hcz44_3, hfz44_0, hfz44_1, hfz44_2, hfz44_3⟩ := blkc4 BK328
       obtain ⟨hcz45_0, hcz45_1, hcz45_2, hcz45_3, hfz45_0, hfz45_1, hfz45_2, hfz45_3⟩ := blkc4 BK329
       go_wp2
       go_ret
       exact ⟨rA, bG⟩
      ·
       rw [if_neg c42] at H
       have c42b0 : (a0_2 == a1_2) = false := beq_eq_false_iff_ne.mpr c42
       have c42b1 : (a0_2 != a1_2) = true := bne_iff_ne.mpr c42
       obtain rfl := Option.some.inj H
       have hnb46 := NB328_329.out
       have hnc46 := NB329_328.out
       obtain ⟨hcz47_0, hcz47_1, hcz47_2, hcz47_3, hfz47_0, hfz47_1, hfz47_2, hfz47_3⟩ := blkc4 BK328
       obtain ⟨hcz48_0, hcz48_1, hcz48_2, hcz48_3, hfz48_0, hfz48_1, hfz48_2, hfz48_3⟩ := blkc4 BK329
       go_wp2
       go_ret
       exact ⟨rA, bG⟩
     ·
      rw [if_neg c41] at H
      have c41b0 : (a1_1 == 2) = false := beq_eq_false_iff_ne.mpr c41
      have c41b1 : (a1_1 != 2) = true := bne_iff_ne.mpr c41
      by_cases c49 : a0_2 = a1_2
      ·
       rw [if_pos c49] at H
       have c49b0 : (a0_2 == a1_2) = true := beq_iff_eq.mpr c49
       have c49b1 : (a0_2 != a1_2) = false := bne_eq_false_iff_eq.mpr c49
       clear c49
       obtain rfl := Option.some.inj H
       have hnb50 := NB328_329.out
       have hnc50 := NB329_328.out
       obtain ⟨hcz51_0, hcz51_1, hcz51_2, hcz51_3, hfz51_0, hfz51_1, hfz51_2, hfz51_3⟩ := blkc4 BK328
       obtain ⟨hcz52_0, hcz52_1, hcz52_2, hcz52_3, hfz52_0, hfz52_1, hfz52_2, hfz52_3⟩ := blkc4 BK329
       go_wp2
       go_ret
       exact ⟨rA, bG⟩
      ·
       rw [if_neg c49] at H
       have c49b0 : (a0_2 == a1_2) = false := beq_eq_false_iff_ne.mpr c49
       have c49b1 : (a0_2 != a1_2) = true := bne_iff_ne.mpr c49
       by_cases c53 : a0_3 = a1_3
       ·
        rw [if_pos c53] at H
        have c53b0 : (a0_3 == a1_3) = true := beq_iff_eq.mpr c53
        have c53b1 : (a0_3 != a1_3) = false := bne_eq_false_iff_eq.mpr c53
        clear c53
        obtain rfl := Option.some.inj H
        have hnb54 := NB328_329.out
        have hnc54 := NB329_328.out
        obtain ⟨hcz55_0, hcz55_1, hcz55_2, hcz55_3, hfz55_0, hfz55_1, hfz55_2, hfz55_3⟩ := blkc4 BK328
        obtain ⟨hcz56_0, hcz56_1, hcz56_2, hcz56_3, hfz56_0, hfz56_1, hfz56_2, hfz56_3⟩ := blkc4 BK329
        go_wp2
        go_ret
        exact ⟨rA, bG⟩
       ·
        rw [if_neg c53] at H
        have c53b0 : (a0_3 == a1_3) = false := beq_eq_false_iff_ne.mpr c53
        have c53b1 : (a0_3 != a1_3) = true := bne_iff_ne.mpr c53
        obtain ⟨t332, A57, H⟩ := bindE H
        try dsimp only at H
        obtain ⟨t333, A58, H⟩ := bindE H
        try dsimp only at H
        obtain ⟨t334, A59, H⟩ := bindE H
        try dsimp only at H
        obtain ⟨t335, A60, H⟩ := bindE H
        try dsimp only at H
        obtain ⟨t336, A61, H⟩ := bindE H
        try dsimp only at H
        obtain rfl := Option.some.inj H
        have hnb62 := NB328_329.out
        have hnc62 := NB329_328.out
        obtain ⟨hcz63_0, hcz63_1, hcz63_2, hcz63_3, hfz63_0, hfz63_1, hfz63_2, hfz63_3⟩ := blkc4 BK328
        obtain ⟨hcz64_0, hcz64_1, hcz64_2, hcz64_3, hfz64_0, hfz64_1, hfz64_2, hfz64_3⟩ := blkc4 BK329
        try go_wp2
        replace BK328 := Aside0.mk (blk_drew BK328.out)
        replace BK329 := Aside0.mk (blk_drew BK329.out)
        have HBo := HB
        replace HB := Aside0.mk (below_drew1 HB.out)
        refine start_ (n := 14) (S := fun w' => w'.cell? ⟨gb328, 0, none⟩ = some (.int .i64 a0_0) ∧ w'.cell? ⟨gb328, 1, none⟩ = some (.int .i64 a0_1) ∧ w'.cell? ⟨gb328, 2, none⟩ = some (.int .i64 a0_2) ∧ w'.cell? ⟨gb328, 3, none⟩ = some (.int .i64 a0_3) ∧ w'.cell? ⟨gb329, 0, none⟩ = some (.int .i64 a1_0) ∧ w'.cell? ⟨gb329, 1, none⟩ = some (.int .i64 a1_1) ∧ w'.cell? ⟨gb329, 2, none⟩ = some (.int .i64 a1_2) ∧ w'.cell? ⟨gb329, 3, none⟩ = some (.int .i64 a1_3)) (ds := []) (mb 14 0) (by kernel_rfl) rfl rfl ⟨bC BK328 0, bC BK328 1, bC BK328 2, bC BK328 3, bC BK329 0, bC BK329 1, bC BK329 2, bC BK329 3⟩ (fun hHeld => ?_); refine with_tabW spec_Conflict.tab11 spec_Conflict.bits11 (fun HT_ HW_ => ?_)
        generalize wc.drew = w65 at BK328 BK329 HB hHeld ⊢
        refine pA (i := 0) (N := some 68) (mb 14 1) HT_ ?_
        refine pA (i := 3) (N := some 71) (mb 14 9) HT_ ?_
        refine pA (i := 6) (N := some 74) (mb 14 73) HT_ ?_
        refine pA (i := 9) (N := some 77) (mb 14 585) HT_ ?_
        refine tA8 (i := 1) (N := some 69) (mb 14 587) HT_ HW_ hHeld ?_
        refine tA8 (i := 4) (N := some 72) (mb 14 603) HT_ HW_ hHeld ?_
        refine tA8 (i := 7) (N := some 75) (mb 14 731) HT_ HW_ hHeld ?_
        refine tA8 (i := 10) (N := some 78) (mb 14 1755) HT_ HW_ hHeld ?_
        refine oA (i := 2) (N := some 70) (mb 14 1759) HT_ (fun K hK => ?_)
        refine gA Try.func168 #[.int .i64 a0_2] ?_
        with_reducible refine (spec_InPlace.calls a0_2 t332 _ A57.out).mono ?_
        rintro e w' ⟨rfl, ⟨nd, rfl⟩⟩
        refine ⟨_, rfl, ?_⟩
        refine hK.out _ _ ⟨bC BK328 0, bC BK328 1, bC BK328 2, bC BK328 3, bC BK329 0, bC BK329 1, bC BK329 2, bC BK329 3⟩ (fun hHeld => ?_)
        clear hK K
        refine nB ?_
        refine oA (i := 5) (N := some 73) (mb 14 1791) HT_ (fun K hK => ?_)
        refine gA Try.func169 #[.int .i64 a0_3] ?_
        with_reducible refine (spec_OutPlace.calls a0_3 t333 _ A58.out).mono ?_
        rintro e w' ⟨rfl, ⟨nd, rfl⟩⟩
        refine ⟨_, rfl, ?_⟩
        refine hK.out _ _ ⟨bC BK328 0, bC BK328 1, bC BK328 2, bC BK328 3, bC BK329 0, bC BK329 1, bC BK329 2, bC BK329 3⟩ (fun hHeld => ?_)
        clear hK K
        refine nB ?_
        refine oA (i := 8) (N := some 76) (mb 14 2047) HT_ (fun K hK => ?_)
        refine gA Try.func168 #[.int .i64 a1_2] ?_
        with_reducible refine (spec_InPlace.calls a1_2 t334 _ A59.out).mono ?_
        rintro e w' ⟨rfl, ⟨nd, rfl⟩⟩
        refine ⟨_, rfl, ?_⟩
        refine hK.out _ _ ⟨bC BK328 0, bC BK328 1, bC BK328 2, bC BK328 3, bC BK329 0, bC BK329 1, bC BK329 2, bC BK329 3⟩ (fun hHeld => ?_)
        clear hK K
        refine nB ?_
        refine oA (i := 11) (N := some 79) (mb 14 4095) HT_ (fun K hK => ?_)
        refine gA Try.func169 #[.int .i64 a1_3] ?_
        with_reducible refine (spec_OutPlace.calls a1_3 t335 _ A60.out).mono ?_
        rintro e w' ⟨rfl, ⟨nd, rfl⟩⟩
        refine ⟨_, rfl, ?_⟩
        refine hK.out _ _ ⟨bC BK328 0, bC BK328 1, bC BK328 2, bC BK328 3, bC BK329 0, bC BK329 1, bC BK329 2, bC BK329 3⟩ (fun hHeld => ?_)
        clear hK K
        refine nB ?_
        refine oA (i := 12) (N := some 80) (mb 14 8191) HT_ (fun K hK => ?_)
        refine gA Try.func167 #[.int .i64 t332, .int .i64 t333, .int .i64 t334, .int .i64 t335] ?_
        with_reducible refine (spec_Interleave.calls kj2 t332 t333 t334 t335 t336 _ A61.out).mono ?_
        rintro e w66 ⟨rfl, hb⟩
        refine ⟨_, rfl, ?_⟩
        replace BK328 := Aside0.mk (blk_below (g := gb328) (bK BK328) hb)
        replace BK329 := Aside0.mk (blk_below (g := gb329) (bK BK329) hb)
        replace HB := Aside0.mk (below_step bG hb)
        (try clear hb)
        (try clear hb2)
        (try clear hk)
        (try clear hi)
        refine hK.out _ _ ⟨bC BK328 0, bC BK328 1, bC BK328 2, bC BK328 3, bC BK329 0, bC BK329 1, bC BK329 2, bC BK329 3⟩ (fun hHeld => ?_)
        clear hK K
        refine nB ?_
        refine pA (i := 13) (N := some 4) (mb 14 16383) HT_ ?_
        refine eA HT_ ?_
        try go_wp2
        go_ret
        exact ⟨rA, bG⟩

/-! ### spec_IsTogether: function 112 -/
mutual
def spec_IsTogether.l0 : Nat → List (S50) → List Int → Int → Option (Bool)
 | 0, _, _, _ => none
 | k + 1, x0, x1, x5 => if x5 < (x1.length : Int) then (if 0 ≤ x5 then ((spec_FindPath.f k x0 (rd x1 x5)).bind fun t339 => (if t339 < 0 then (spec_IsTogether.j1 k x0 x1 x5 t339 true) else (if x5 > 0 then (if 0 ≤ (wrap64 (x5 - 1)) then (if (wrap64 (x5 - 1)) < (x1.length : Int) then (spec_IsTogether.j1 k x0 x1 x5 t339 (decide ((rd x1 (wrap64 (x5 - 1))) ≥ (rd x1 x5)))) else (none)) else (none)) else (spec_IsTogether.j1 k x0 x1 x5 t339 false)))) else (none)) else ((spec_ArePaths.f k x0).bind fun t337 => (some t337))
def spec_IsTogether.j1 : Nat → List (S50) → List Int → Int → Int → Bool → Option (Bool)
 | 0, _, _, _, _, _ => none
 | k + 1, x0, x1, x5, x6, x37 => if x37 = true then (some false) else (spec_IsTogether.l1 k x0 x1 x5 x6 0)
def spec_IsTogether.l1 : Nat → List (S50) → List Int → Int → Int → Int → Option (Bool)
 | 0, _, _, _, _, _ => none
 | k + 1, x0, x1, x5, x6, x7 => if x7 < x5 then (if 0 ≤ x6 then (if x6 < (x0.length : Int) then (if 0 ≤ x7 then (if x7 < (x1.length : Int) then ((spec_FindPath.f k x0 (rd x1 x7)).bind fun t344 => (if 0 ≤ t344 then (if t344 < (x0.length : Int) then ((spec_Conflict.f k ((rd_T50 x0 x6).f0) ((rd_T50 x0 x6).f1) ((rd_T50 x0 x6).f2) ((rd_T50 x0 x6).f3) ((rd_T50 x0 t344).f0) ((rd_T50 x0 t344).f1) ((rd_T50 x0 t344).f2) ((rd_T50 x0 t344).f3)).bind fun t346 => (if t346 = true then (some false) else (spec_IsTogether.l1 k x0 x1 x5 x6 (wrap64 (x7 + 1))))) else (none)) else (none))) else (none)) else (none)) else (none)) else (none)) else (spec_IsTogether.l0 k x0 x1 (wrap64 (x5 + 1)))
end
def spec_IsTogether.f (k : Nat) (l0 : List (S50)) (l1 : List Int) : Option (Bool) := spec_IsTogether.l0 k l0 l1 0
theorem spec_IsTogether.mono_l : ∀ k, (∀ y0 y1 y2, LeO (spec_IsTogether.l0 k y0 y1 y2) (spec_IsTogether.l0 (k + 1) y0 y1 y2)) ∧ (∀ y0 y1 y2 y3 y4, LeO (spec_IsTogether.j1 k y0 y1 y2 y3 y4) (spec_IsTogether.j1 (k + 1) y0 y1 y2 y3 y4)) ∧ (∀ y0 y1 y2 y3 y4, LeO (spec_IsTogether.l1 k y0 y1 y2 y3 y4) (spec_IsTogether.l1 (k + 1) y0 y1 y2 y3 y4))
 | 0 => ⟨fun _ _ _ r h => by simp [spec_IsTogether.l0] at h, fun _ _ _ _ _ r h => by simp [spec_IsTogether.j1] at h, fun _ _ _ _ _ r h => by simp [spec_IsTogether.l1] at h⟩
 | k + 1 => by
  obtain ⟨ih0, ih1, ih2⟩ := spec_IsTogether.mono_l k
  refine ⟨?_, ?_, ?_⟩
  ·
   intro y0 y1 y2
   unfold spec_IsTogether.l0
   repeat' first | (with_reducible first | exact LeO.refl _ | exact LeO.none _ | refine LeO.ite ?_ ?_ | refine LeO.bind ?_ (fun _ => ?_) | exact ih0 _ _ _ | exact ih1 _ _ _ _ _ | exact ih2 _ _ _ _ _ | exact spec_ArePaths.mono _ _ | exact spec_Conflict.mono _ _ _ _ _ _ _ _ _ | exact spec_FindPath.mono _ _ _)
  ·
   intro y0 y1 y2 y3 y4
   unfold spec_IsTogether.j1
   repeat' first | (with_reducible first | exact LeO.refl _ | exact LeO.none _ | refine LeO.ite ?_ ?_ | refine LeO.bind ?_ (fun _ => ?_) | exact ih0 _ _ _ | exact ih1 _ _ _ _ _ | exact ih2 _ _ _ _ _ | exact spec_ArePaths.mono _ _ | exact spec_Conflict.mono _ _ _ _ _ _ _ _ _ | exact spec_FindPath.mono _ _ _)
  ·
   intro y0 y1 y2 y3 y4
   unfold spec_IsTogether.l1
   repeat' first | (with_reducible first | exact LeO.refl _ | exact LeO.none _ | refine LeO.ite ?_ ?_ | refine LeO.bind ?_ (fun _ => ?_) | exact ih0 _ _ _ | exact ih1 _ _ _ _ _ | exact ih2 _ _ _ _ _ | exact spec_ArePaths.mono _ _ | exact spec_Conflict.mono _ _ _ _ _ _ _ _ _ | exact spec_FindPath.mono _ _ _)
theorem spec_IsTogether.mono : ∀ a0 a1 k, LeO (spec_IsTogether.f k a0 a1) (spec_IsTogether.f (k + 1) a0 a1) := by
 intro a0 a1 k
 obtain ⟨ih0, ih1, ih2⟩ := spec_IsTogether.mono_l k
 unfold spec_IsTogether.f
 repeat' first | (with_reducible first | exact LeO.refl _ | exact LeO.none _ | refine LeO.ite ?_ ?_ | refine LeO.bind ?_ (fun _ => ?_) | exact ih0 _ _ _ | exact ih1 _ _ _ _ _ | exact ih2 _ _ _ _ _ | exact spec_ArePaths.mono _ _ | exact spec_Conflict.mono _ _ _ _ _ _ _ _ _ | exact spec_FindPath.mono _ _ _)
def spec_IsTogether.T5 : Bool × List (List Nat × List Nat) := (true, [([], []), ([0], [0]), ([1], [1]), ([2], [2]), ([3, 2], [2, 3]), ([4, 2, 2], [2, 4]), ([5], [5]), ([5], [5]), ([7, 5], [5, 7]), ([6, 8, 5], [5, 6, 8]), ([9, 5], [5, 9]), ([5], [5]), ([5], [5]), ([11, 12, 5], [5, 11, 12]), ([13, 5], [5, 13]), ([10, 14, 5], [5, 10, 14]), ([5, 15, 2], [2, 5, 15]), ([2, 16], [2, 16])])
def spec_IsTogether.B5 : List Nat := [0, 1, 3, 7, 15, 31, 63, 63, 191, 511, 1023, 63, 63, 6207, 14399, 32767, 65535, 131071]
theorem spec_IsTogether.tab5 : rtab .any (opsOf Try.f112 5) = spec_IsTogether.T5 := by kernel_rfl
theorem spec_IsTogether.bits5 : waitsOk spec_IsTogether.T5.2 spec_IsTogether.B5 = true := by kernel_rfl
def spec_IsTogether.T10 : Bool × List (List Nat × List Nat) := (true, [([], []), ([], []), ([0, 1], [0, 1]), ([2], [2]), ([], []), ([], []), ([], []), ([], []), ([6, 7], [6, 7]), ([8], [8]), ([5, 9], [5, 9]), ([4, 10], [4, 10]), ([11], [11]), ([3, 12, 10], [3, 12])])
def spec_IsTogether.B10 : List Nat := [0, 0, 3, 7, 0, 0, 0, 0, 192, 448, 992, 2032, 4080, 8191]
theorem spec_IsTogether.tab10 : rtab .any (opsOf Try.f112 10) = spec_IsTogether.T10 := by kernel_rfl
theorem spec_IsTogether.bits10 : waitsOk spec_IsTogether.T10.2 spec_IsTogether.B10 = true := by kernel_rfl
set_option maxHeartbeats 8000000 in
set_option maxRecDepth 100000 in
theorem spec_IsTogether.calls (k : Nat) (A0 : Option Addr) (c0 : Nat) (l0 : List (S50)) (A1 : Option Addr) (c1 : Nat) (l1 : List Int) (r : Bool) (w : World) (hr0 : Kd.C k50 w A0 l0.length l0) (hc0 : l0.length ≤ c0) (hr1 : Kd.C (Kd.int .i64) w A1 l1.length l1) (hc1 : l1.length ≤ c1) (h : spec_IsTogether.f k l0 l1 = some r) :
  Calls Try.prog 112 #[.slice A0 l0.length c0, .slice A1 l1.length c1] w fun e w' => e = .returned (.bool r) ∧ Below w.heap.size w w' := by
 have hu50 := Try.underlying50
 have HR0 := Aside0.mk hr0
 have HC0 := Aside0.mk hc0
 clear hr0 hc0
 have HR1 := Aside0.mk hr1
 have HC1 := Aside0.mk hc1
 clear hr1 hc1
 have HB := Aside0.mk (Below.refl w.heap.size w)
 have H : (spec_IsTogether.l0 k l0 l1 0) = some r := h
 clear h
 have H' := Aside0.mk H
 clear H
 go_enter Try.func112, Try.ntmps112
 go_wp2
 go_loopg [5] k (fun kq v5 w' => ∃ (x5_1 : Int), v5 = .int .i64 x5_1 ∧ Aside0 (spec_IsTogether.l0 kq l0 l1 x5_1 = some r) ∧ Aside0 (kq ≤ k) ∧ Aside0 (Below w.heap.size w w'))
 case atStart => exact ⟨(0), rS, H', ⟨Nat.le_refl _⟩, ⟨bA⟩⟩
 case round =>
  clear H'
  try clear c1
  try clear p2
  obtain ⟨x5_1, rfl, HA, HK1, HB⟩ := hrel
  cases gk with
  | zero => exact absurd HA.out (by simp [spec_IsTogether.l0])
  | succ k1 =>
   have H := HA.out
   clear HA
   simp only [spec_IsTogether.l0] at H
   by_cases c3 : x5_1 < (l1.length : Int)
   ·
    rw [if_pos c3] at H
    have c3b0 := decide_eq_true c3
    clear c3
    have c4 : 0 ≤ x5_1 := ifN H
    replace H := ifT H
    have c4b0 := decide_eq_true c4
    clear c4
    obtain ⟨t339, A5, H⟩ := bindE H
    try dsimp only at H
    have HC6 := Aside0.mk H
    clear H
    have p338 : 0 ≤ (x5_1 : Int) := dA
    have q338 : x5_1 < (l1.length : Int) := dA
    obtain ⟨ad338, e338, hx338_0⟩ := Kd.at_int HR1.out x5_1 p338 q338
    cases e338
    replace hx338_0 := hC HB hx338_0
    replace p338 := eq_true p338
    replace q338 := eq_true q338
    go_upto_region 5 with (first | ((with_reducible refine gate_callee (f := 144) rfl ?_); refine gL (some 19) Try.func144 #[.slice A0 l0.length c0, .int .i64 (rd l1 x5_1)] ?_; (with_reducible refine (spec_FindPath.calls k1 _ _ l0 (rd l1 x5_1) t339 _ ?side1 ?side2 A5.out).mono ?_); (case side1 => exact cB HR0); (case side2 => exact HC0.out); rintro e w' ⟨rfl, ⟨nd, rfl⟩⟩; refine ⟨_, rfl, ?_⟩))
    (try simp only [Act.put, List.setIfInBounds_toArray, List.set_cons_zero, List.set_cons_succ])
    go_cut [37] (fun v37 wc => ∃ (kq : Nat) (x37_5 : Bool), v37 = .bool x37_5 ∧ Aside0 (spec_IsTogether.j1 kq l0 l1 x5_1 t339 x37_5 = some r) ∧ Aside0 (kq ≤ k1) ∧ Aside0 (Below w.heap.size w wc))
    case first =>
     have H := HC6.out
     clear HC6
     by_cases c7 : t339 < 0
     ·
      rw [if_pos c7] at H
      have c7b0 := decide_eq_true c7
      clear c7
      (first | rw [c7b0] | (simp only [i64_w, i32_w]; rw [c7b0]) | skip)
      have H' := Aside0.mk H
      clear H
      try go_wp2
      have HBo := HB
      replace HB := Aside0.mk (below_drew1 HB.out)
      refine start_ (n := 18) (S := fun w' => True) (ds := []) (mb 18 0) (by kernel_rfl) rfl rfl trivial (fun hHeld => ?_); refine with_tabW spec_IsTogether.tab5 spec_IsTogether.bits5 (fun HT_ HW_ => ?_)
      generalize wr.drew = w8 at HB hHeld ⊢
      refine pA (i := 0) (N := some 20) (mb 18 1) HT_ ?_
      refine pA (i := 1) (N := some 21) (mb 18 3) HT_ ?_
      refine pA (i := 2) (N := some 22) (mb 18 7) HT_ ?_
      refine pU (i := 3) (N := some 23) (mb 18 15) HT_ ?_
      refine pU (i := 4) (N := some 24) (mb 18 31) HT_ ?_
      refine pU (i := 5) (N := some 25) (mb 18 63) HT_ ?_
      refine pU (i := 6) (N := some 26) (mb 18 127) HT_ ?_
      refine pU (i := 7) (N := some 27) (mb 18 255) HT_ ?_
      refine pU (i := 8) (N := some 28) (mb 18 511) HT_ ?_
      refine pU (i := 9) (N := some 29) (mb 18 1023) HT_ ?_
      refine pU (i := 10) (N := some 30) (mb 18 2047) HT_ ?_
      refine pU (i := 11) (N := some 31) (mb 18 4095) HT_ ?_
      refine pU (i := 12) (N := some 32) (mb 18 8191) HT_ ?_
      refine pU (i := 13) (N := some 33) (mb 18 16383) HT_ ?_
      refine pU (i := 14) (N := some 34) (mb 18 32767) HT_ ?_
      refine pU (i := 15) (N := some 35) (mb 18 65535) HT_ ?_
      refine pU (i := 16) (N := some 36) (mb 18 131071) HT_ ?_
      refine pA (i := 17) (N := some 37) (mb 18 262143) HT_ ?_
      refine eA HT_ ?_
      try go_wp2
      go_meet
      case rel => exact ⟨_, (true), rS, H', ⟨by have := HK1.out; first | omega | exact Nat.le_refl _⟩, ⟨bA⟩⟩
     ·
      rw [if_neg c7] at H
      have c7b0 := decide_eq_false c7
      clear c7
      (first | rw [c7b0] | (simp only [i64_w, i32_w]; rw [c7b0]) | skip)
      by_cases c9 : x5_1 > 0
      ·
       rw [if_pos c9] at H
       have c9b0 := decide_eq_true c9
       clear c9
       obtain ⟨ji10, hji10⟩ : ∃ j_ : Int, (wrap64 (x5_1 - 1)) = j_ := ⟨_, rfl⟩
       replace H : (if 0 ≤ (ji10) then (if (ji10) < (l1.length : Int) then (spec_IsTogether.j1 k1 l0 l1 x5_1 t339 (decide ((rd l1 (ji10)) ≥ (rd l1 x5_1)))) else (none)) else (none)) = some r := by first | (rw [hji10] at H; exact H) | (simp only [hji10] at H ⊢; exact H)
       have hji10w : (IntKind.i64.wrap (x5_1 - 1)) = ji10 := (i64_w _).trans hji10
       have c11 : 0 ≤ (ji10) := ifN H
       replace H := ifT H
       have c11b0 := decide_eq_true c11
       clear c11
       have c12 : (ji10) < (l1.length : Int) := ifN H
       replace H := ifT H
       have c12b0 := decide_eq_true c12
       clear c12
       have H' := Aside0.mk H
       clear H
       try go_wp2
       have HBo := HB
       replace HB := Aside0.mk (below_drew1 HB.out)
       have p340 : 0 ≤ ((ji10) : Int) := dA
       have q340 : (ji10) < (l1.length : Int) := dA
       obtain ⟨ad340, e340, hx340_0⟩ := Kd.at_int HR1.out (ji10) p340 q340
       have hw340_0 := hx340_0
       obtain rfl : ad338 = ad340 := (by injection e340)
       replace hx340_0 := hC HB hx340_0
       replace p340 := eq_true p340
       replace q340 := eq_true q340
       have p341 : 0 ≤ (x5_1 : Int) := dA
       have q341 : x5_1 < (l1.length : Int) := dA
       obtain ⟨ad341, e341, hx341_0⟩ := Kd.at_int HR1.out x5_1 p341 q341
       have hw341_0 := hx341_0
       obtain rfl : ad338 = ad341 := (by injection e341)
       replace hx341_0 := hC HB hx341_0
       replace p341 := eq_true p341
       replace q341 := eq_true q341
       refine start_ (n := 18) (S := fun w' => w'.cell? (ad338.add ((ji10)).toNat) = some (.int .i64 (rd l1 (ji10))) ∧ w'.cell? (ad338.add (x5_1).toNat) = some (.int .i64 (rd l1 x5_1))) (ds := []) (mb 18 0) (by kernel_rfl) rfl rfl ⟨(hC HB hw340_0), (hC HB hw341_0)⟩ (fun hHeld => ?_); refine with_tabW spec_IsTogether.tab5 spec_IsTogether.bits5 (fun HT_ HW_ => ?_)
       generalize wr.drew = w13 at HB hx340_0 hx341_0 hHeld ⊢
       refine pA (i := 0) (N := some 20) (mb 18 1) HT_ ?_
       refine pA (i := 1) (N := some 21) (mb 18 3) HT_ ?_
       refine pA (i := 2) (N := some 22) (mb 18 7) HT_ ?_
       refine pA (i := 3) (N := some 23) (mb 18 15) HT_ ?_
       refine pA (i := 4) (N := some 24) (mb 18 31) HT_ ?_
       refine pA (i := 5) (N := some 25) (mb 18 63) HT_ ?_
       refine pA (i := 6) (N := some 26) (mb 18 127) HT_ ?_
       refine pA (i := 7) (N := some 27) (mb 18 255) HT_ ?_
       refine pA (i := 8) (N := some 28) (mb 18 511) HT_ ?_
       refine pA (i := 9) (N := some 29) (mb 18 1023) HT_ ?_
       refine pA (i := 11) (N := some 31) (mb 18 3071) HT_ ?_
       refine pA (i := 12) (N := some 32) (mb 18 7167) HT_ ?_
       refine pA (i := 13) (N := some 33) (mb 18 15359) HT_ ?_
       refine tA2 (i := 10) (N := some 30) (mb 18 16383) HT_ HW_ hHeld ?_
       refine tA2 (i := 14) (N := some 34) (mb 18 32767) HT_ HW_ hHeld ?_
       refine pA (i := 15) (N := some 35) (mb 18 65535) HT_ ?_
       refine pA (i := 16) (N := some 36) (mb 18 131071) HT_ ?_
       refine pA (i := 17) (N := some 37) (mb 18 262143) HT_ ?_
       refine eA HT_ ?_
       try go_wp2
       go_meet
       case rel => exact ⟨_, (decide ((rd l1 (ji10)) ≥ (rd l1 x5_1))), (by first | rfl | (simp; done) | (simp only [← hji10] <;> (first | rfl | simp)) | (simp [*]; done)), H', ⟨by have := HK1.out; first | omega | exact Nat.le_refl _⟩, ⟨bA⟩⟩
      ·
       rw [if_neg c9] at H
       have c9b0 := decide_eq_false c9
       clear c9
       have H' := Aside0.mk H
       clear H
       try go_wp2
       have HBo := HB
       replace HB := Aside0.mk (below_drew1 HB.out)
       refine start_ (n := 18) (S := fun w' => True) (ds := []) (mb 18 0) (by kernel_rfl) rfl rfl trivial (fun hHeld => ?_); refine with_tabW spec_IsTogether.tab5 spec_IsTogether.bits5 (fun HT_ HW_ => ?_)
       generalize wr.drew = w14 at HB hHeld ⊢
       refine pA (i := 0) (N := some 20) (mb 18 1) HT_ ?_
       refine pA (i := 1) (N := some 21) (mb 18 3) HT_ ?_
       refine pA (i := 2) (N := some 22) (mb 18 7) HT_ ?_
       refine pA (i := 3) (N := some 23) (mb 18 15) HT_ ?_
       refine pA (i := 4) (N := some 24) (mb 18 31) HT_ ?_
       refine pA (i := 5) (N := some 25) (mb 18 63) HT_ ?_
       refine pU (i := 6) (N := some 26) (mb 18 127) HT_ ?_
       refine pU (i := 7) (N := some 27) (mb 18 255) HT_ ?_
       refine pU (i := 8) (N := some 28) (mb 18 511) HT_ ?_
       refine pU (i := 9) (N := some 29) (mb 18 1023) HT_ ?_
       refine pU (i := 10) (N := some 30) (mb 18 2047) HT_ ?_
       refine pU (i := 11) (N := some 31) (mb 18 4095) HT_ ?_
       refine pU (i := 12) (N := some 32) (mb 18 8191) HT_ ?_
       refine pU (i := 13) (N := some 33) (mb 18 16383) HT_ ?_
       refine pU (i := 14) (N := some 34) (mb 18 32767) HT_ ?_
       refine pU (i := 15) (N := some 35) (mb 18 65535) HT_ ?_
       refine pA (i := 16) (N := some 36) (mb 18 131071) HT_ ?_
       refine pA (i := 17) (N := some 37) (mb 18 262143) HT_ ?_
       refine eA HT_ ?_
       try go_wp2
       go_meet
       case rel => exact ⟨_, (false), rS, H', ⟨by have := HK1.out; first | omega | exact Nat.le_refl _⟩, ⟨bA⟩⟩
    case rest =>
     clear HC6
     try clear c1
     try clear p2
     try clear c3
     try clear c3b0
     try clear p3
     try clear q3
     try clear hx3
     try clear c4
     try clear c4b0
     try clear p6
     try clear c7
     try clear c7b0
     try clear c9
     try clear c9b0
     try clear c11
     try clear c11b0
     try clear c12
     try clear c12b0
     try clear c14
     try clear hx338_0
     try clear hx340_0
     try clear hx341_0
     try clear p2
     try clear p338
     try clear p340
     try clear p341
     try clear q338
     try clear q340
     try clear q341
     obtain ⟨kq, x37_5, rfl, HA, HJ5, HB⟩ := hcut
     cases kq with
     | zero => exact absurd HA.out (by simp [spec_IsTogether.j1])
     | succ kj5 =>
      have H := HA.out
      clear HA
      simp only [spec_IsTogether.j1] at H
      by_cases c15 : x37_5 = true
      ·
       subst c15
       have H1 : (some false) = some r := by rw [if_pos rfl] at H; exact H
       clear H
       have H := H1
       clear H1
       obtain rfl := Option.some.inj H
       go_wp2
       go_ret
       exact ⟨rA, bA⟩
      ·
       replace c15 := Bool.eq_false_iff.mpr c15
       subst c15
       have H1 : (spec_IsTogether.l1 kj5 l0 l1 x5_1 t339 0) = some r := by rw [if_neg (show ¬ (false = true) by decide)] at H; exact H
       clear H
       have H := H1
       clear H1
       have H' := Aside0.mk H
       clear H
       go_wp2
       go_loopg [7] kj5 (fun kq v7 w' => ∃ (x7_3 : Int), v7 = .int .i64 x7_3 ∧ Aside0 (spec_IsTogether.l1 kq l0 l1 x5_1 t339 x7_3 = some r) ∧ Aside0 (kq ≤ kj5) ∧ Aside0 (Below w.heap.size w w'))
       case atStart => exact ⟨(0), rS, H', ⟨Nat.le_refl _⟩, ⟨bA⟩⟩
       case round =>
        clear H'
        try clear c1
        try clear p2
        try clear c3
        try clear c3b0
        try clear p3
        try clear q3
        try clear hx3
        try clear c4
        try clear c4b0
        try clear p6
        try clear c7
        try clear c7b0
        try clear c9
        try clear c9b0
        try clear c11
        try clear c11b0
        try clear c12
        try clear c12b0
        try clear c14
        try clear c15
        try clear hx338_0
        try clear hx340_0
        try clear hx341_0
        try clear p2
        try clear p3
        try clear p338
        try clear p340
        try clear p341
        try clear p6
        try clear q3
        try clear q338
        try clear q340
        try clear q341
        obtain ⟨x7_3, rfl, HA, HK3, HB⟩ := hrel
        cases gk with
        | zero => exact absurd HA.out (by simp [spec_IsTogether.l1])
        | succ k3 =>
         have H := HA.out
         clear HA
         simp only [spec_IsTogether.l1] at H
         by_cases c16 : x7_3 < x5_1
         ·
          rw [if_pos c16] at H
          have c16b0 := decide_eq_true c16
          clear c16
          have c17 : 0 ≤ t339 := ifN H
          replace H := ifT H
          have c17b0 := decide_eq_true c17
          clear c17
          have c18 : t339 < (l0.length : Int) := ifN H
          replace H := ifT H
          have c18b0 := decide_eq_true c18
          clear c18
          have c19 : 0 ≤ x7_3 := ifN H
          replace H := ifT H
          have c19b0 := decide_eq_true c19
          clear c19
          have c20 : x7_3 < (l1.length : Int) := ifN H
          replace H := ifT H
          have c20b0 := decide_eq_true c20
          clear c20
          obtain ⟨t344, A21, H⟩ := bindE H
          try dsimp only at H
          have c22 : 0 ≤ t344 := ifN H
          replace H := ifT H
          have c22b0 := decide_eq_true c22
          clear c22
          have c23 : t344 < (l0.length : Int) := ifN H
          replace H := ifT H
          have c23b0 := decide_eq_true c23
          clear c23
          obtain ⟨t346, A24, H⟩ := bindE H
          try dsimp only at H
          by_cases c25 : t346 = true
          ·
           subst c25
           have H1 : (some false) = some r := by rw [if_pos rfl] at H; exact H
           clear H
           have H := H1
           clear H1
           obtain rfl := Option.some.inj H
           try go_wp2
           have HBo := HB
           replace HB := Aside0.mk (below_drew1 HB.out)
           have p342 : 0 ≤ (t339 : Int) := dA
           have q342 : t339 < (l0.length : Int) := dA
           obtain ⟨ad342, e342, hx342_0, hx342_1, hx342_2, hx342_3⟩ := at_T50 HR0.out t339 p342 q342
           have hw342_3 := hx342_3
           have hw342_2 := hx342_2
           have hw342_1 := hx342_1
           have hw342_0 := hx342_0
           cases e342
           replace hx342_0 := hC HB hx342_0
           replace hx342_1 := hC HB hx342_1
           replace hx342_2 := hC HB hx342_2
           replace hx342_3 := hC HB hx342_3
           replace p342 := eq_true p342
           replace q342 := eq_true q342
           have p343 : 0 ≤ (x7_3 : Int) := dA
           have q343 : x7_3 < (l1.length : Int) := dA
           obtain ⟨ad343, e343, hx343_0⟩ := Kd.at_int HR1.out x7_3 p343 q343
           have hw343_0 := hx343_0
           obtain rfl : ad338 = ad343 := (by injection e343)
           replace hx343_0 := hC HB hx343_0
           replace p343 := eq_true p343
           replace q343 := eq_true q343
           have p345 : 0 ≤ (t344 : Int) := dA
           have q345 : t344 < (l0.length : Int) := dA
           obtain ⟨ad345, e345, hx345_0, hx345_1, hx345_2, hx345_3⟩ := at_T50 HR0.out t344 p345 q345
           have hw345_3 := hx345_3
           have hw345_2 := hx345_2
           have hw345_1 := hx345_1
           have hw345_0 := hx345_0
           obtain rfl : ad342 = ad345 := (by injection e345)
           replace hx345_0 := hC HB hx345_0
           replace hx345_1 := hC HB hx345_1
           replace hx345_2 := hC HB hx345_2
           replace hx345_3 := hC HB hx345_3
           replace p345 := eq_true p345
           replace q345 := eq_true q345
           refine start_ (n := 14) (S := fun w' => w'.cell? (ad342.add ((t339).toNat * 4)) = some (.int .i64 ((rd_T50 l0 t339).f0)) ∧ w'.cell? ⟨(ad342.add ((t339).toNat * 4)).block, (ad342.add ((t339).toNat * 4)).off + 1, none⟩ = some (.int .i64 ((rd_T50 l0 t339).f1)) ∧ w'.cell? ⟨(ad342.add ((t339).toNat * 4)).block, (ad342.add ((t339).toNat * 4)).off + 2, none⟩ = some (.int .i64 ((rd_T50 l0 t339).f2)) ∧ w'.cell? ⟨(ad342.add ((t339).toNat * 4)).block, (ad342.add ((t339).toNat * 4)).off + 3, none⟩ = some (.int .i64 ((rd_T50 l0 t339).f3)) ∧ w'.cell? (ad338.add (x7_3).toNat) = some (.int .i64 (rd l1 x7_3)) ∧ w'.cell? (ad342.add ((t344).toNat * 4)) = some (.int .i64 ((rd_T50 l0 t344).f0)) ∧ w'.cell? ⟨(ad342.add ((t344).toNat * 4)).block, (ad342.add ((t344).toNat * 4)).off + 1, none⟩ = some (.int .i64 ((rd_T50 l0 t344).f1)) ∧ w'.cell? ⟨(ad342.add ((t344).toNat * 4)).block, (ad342.add ((t344).toNat * 4)).off + 2, none⟩ = some (.int .i64 ((rd_T50 l0 t344).f2)) ∧ w'.cell? ⟨(ad342.add ((t344).toNat * 4)).block, (ad342.add ((t344).toNat * 4)).off + 3, none⟩ = some (.int .i64 ((rd_T50 l0 t344).f3))) (ds := []) (mb 14 0) (by kernel_rfl) rfl rfl ⟨(hC HB hw342_0), (hC HB hw342_1), (hC HB hw342_2), (hC HB hw342_3), (hC HB hw343_0), (hC HB hw345_0), (hC HB hw345_1), (hC HB hw345_2), (hC HB hw345_3)⟩ (fun hHeld => ?_); refine with_tabW spec_IsTogether.tab10 spec_IsTogether.bits10 (fun HT_ HW_ => ?_)
           generalize wr.drew = w26 at HB hx342_0 hx342_1 hx342_2 hx342_3 hx343_0 hx345_0 hx345_1 hx345_2 hx345_3 hHeld ⊢
           refine pA (i := 0) (N := some 43) (mb 14 1) HT_ ?_
           refine pA (i := 1) (N := some 44) (mb 14 3) HT_ ?_
           refine pA (i := 2) (N := some 45) (mb 14 7) HT_ ?_
           refine pA (i := 4) (N := some 47) (mb 14 23) HT_ ?_
           refine pA (i := 5) (N := some 48) (mb 14 55) HT_ ?_
           refine pA (i := 6) (N := some 49) (mb 14 119) HT_ ?_
           refine pA (i := 7) (N := some 50) (mb 14 247) HT_ ?_
           refine pA (i := 8) (N := some 51) (mb 14 503) HT_ ?_
           refine tA9 (i := 3) (N := some 46) (mb 14 511) HT_ HW_ hHeld ?_
           refine tA9 (i := 9) (N := some 52) (mb 14 1023) HT_ HW_ hHeld ?_
           refine oA (i := 10) (N := some 53) (mb 14 2047) HT_ (fun K hK => ?_)
           refine gA Try.func144 #[.slice (some ad342) l0.length c0, .int .i64 (rd l1 x7_3)] ?_
           with_reducible refine (spec_FindPath.calls k3 _ _ l0 (rd l1 x7_3) t344 _ ?side1 ?side2 A21.out).mono ?_
           (case side1 => exact cB HR0)
           (case side2 => exact HC0.out)
           rintro e w' ⟨rfl, ⟨nd, rfl⟩⟩
           refine ⟨_, rfl, ?_⟩
           refine hK.out _ _ ⟨(hC HB hw342_0), (hC HB hw342_1), (hC HB hw342_2), (hC HB hw342_3), (hC HB hw343_0), (hC HB hw345_0), (hC HB hw345_1), (hC HB hw345_2), (hC HB hw345_3)⟩ (fun hHeld => ?_)
           clear hK K
           refine nB ?_
           refine pA (i := 11) (N := some 54) (mb 14 4095) HT_ ?_
           refine tA9 (i := 12) (N := some 55) (mb 14 8191) HT_ HW_ hHeld ?_
           refine oA (i := 13) (N := some 56) (mb 14 16383) HT_ (fun K hK => ?_)
           refine gA Try.func145 #[.agg #[.int .i64 ((rd_T50 l0 t339).f0), .int .i64 ((rd_T50 l0 t339).f1), .int .i64 ((rd_T50 l0 t339).f2), .int .i64 ((rd_T50 l0 t339).f3)], .agg #[.int .i64 ((rd_T50 l0 t344).f0), .int .i64 ((rd_T50 l0 t344).f1), .int .i64 ((rd_T50 l0 t344).f2), .int .i64 ((rd_T50 l0 t344).f3)]] ?_
           with_reducible refine (spec_Conflict.calls k3 ((rd_T50 l0 t339).f0) ((rd_T50 l0 t339).f1) ((rd_T50 l0 t339).f2) ((rd_T50 l0 t339).f3) ((rd_T50 l0 t344).f0) ((rd_T50 l0 t344).f1) ((rd_T50 l0 t344).f2) ((rd_T50 l0 t344).f3) true _ A24.out).mono ?_
           rintro e w27 ⟨rfl, hb⟩
           refine ⟨_, rfl, ?_⟩
           replace HB := Aside0.mk (below_step bA hb)
           (try clear hb)
           (try clear hb2)
           (try clear hk)
           (try clear hi)
           refine hK.out _ _ ⟨(hC HB hw342_0), (hC HB hw342_1), (hC HB hw342_2), (hC HB hw342_3), (hC HB hw343_0), (hC HB hw345_0), (hC HB hw345_1), (hC HB hw345_2), (hC HB hw345_3)⟩ (fun hHeld => ?_)
           clear hK K
           refine nB ?_
           refine eA HT_ ?_
           try go_wp2
           go_ret
           exact ⟨rA, bA⟩
          ·
           replace c25 := Bool.eq_false_iff.mpr c25
           subst c25
           have H1 : (spec_IsTogether.l1 k3 l0 l1 x5_1 t339 (wrap64 (x7_3 + 1))) = some r := by rw [if_neg (show ¬ (false = true) by decide)] at H; exact H
           clear H
           have H := H1
           clear H1
           have H' := Aside0.mk H
           clear H
           try go_wp2
           have HBo := HB
           replace HB := Aside0.mk (below_drew1 HB.out)
           have p342 : 0 ≤ (t339 : Int) := dA
           have q342 : t339 < (l0.length : Int) := dA
           obtain ⟨ad342, e342, hx342_0, hx342_1, hx342_2, hx342_3⟩ := at_T50 HR0.out t339 p342 q342
           have hw342_3 := hx342_3
           have hw342_2 := hx342_2
           have hw342_1 := hx342_1
           have hw342_0 := hx342_0
           cases e342
           replace hx342_0 := hC HB hx342_0
           replace hx342_1 := hC HB hx342_1
           replace hx342_2 := hC HB hx342_2
           replace hx342_3 := hC HB hx342_3
           replace p342 := eq_true p342
           replace q342 := eq_true q342
           have p343 : 0 ≤ (x7_3 : Int) := dA
           have q343 : x7_3 < (l1.length : Int) := dA
           obtain ⟨ad343, e343, hx343_0⟩ := Kd.at_int HR1.out x7_3 p343 q343
           have hw343_0 := hx343_0
           obtain rfl : ad338 = ad343 := (by injection e343)
           replace hx343_0 := hC HB hx343_0
           replace p343 := eq_true p343
           replace q343 := eq_true q343
           have p345 : 0 ≤ (t344 : Int) := dA
           have q345 : t344 < (l0.length : Int) := dA
           obtain ⟨ad345, e345, hx345_0, hx345_1, hx345_2, hx345_3⟩ := at_T50 HR0.out t344 p345 q345
           have hw345_3 := hx345_3
           have hw345_2 := hx345_2
           have hw345_1 := hx345_1
           have hw345_0 := hx345_0
           obtain rfl : ad342 = ad345 := (by injection e345)
           replace hx345_0 := hC HB hx345_0
           replace hx345_1 := hC HB hx345_1
           replace hx345_2 := hC HB hx345_2
           replace hx345_3 := hC HB hx345_3
           replace p345 := eq_true p345
           replace q345 := eq_true q345
           refine start_ (n := 14) (S := fun w' => w'.cell? (ad342.add ((t339).toNat * 4)) = some (.int .i64 ((rd_T50 l0 t339).f0)) ∧ w'.cell? ⟨(ad342.add ((t339).toNat * 4)).block, (ad342.add ((t339).toNat * 4)).off + 1, none⟩ = some (.int .i64 ((rd_T50 l0 t339).f1)) ∧ w'.cell? ⟨(ad342.add ((t339).toNat * 4)).block, (ad342.add ((t339).toNat * 4)).off + 2, none⟩ = some (.int .i64 ((rd_T50 l0 t339).f2)) ∧ w'.cell? ⟨(ad342.add ((t339).toNat * 4)).block, (ad342.add ((t339).toNat * 4)).off + 3, none⟩ = some (.int .i64 ((rd_T50 l0 t339).f3)) ∧ w'.cell? (ad338.add (x7_3).toNat) = some (.int .i64 (rd l1 x7_3)) ∧ w'.cell? (ad342.add ((t344).toNat * 4)) = some (.int .i64 ((rd_T50 l0 t344).f0)) ∧ w'.cell? ⟨(ad342.add ((t344).toNat * 4)).block, (ad342.add ((t344).toNat * 4)).off + 1, none⟩ = some (.int .i64 ((rd_T50 l0 t344).f1)) ∧ w'.cell? ⟨(ad342.add ((t344).toNat * 4)).block, (ad342.add ((t344).toNat * 4)).off + 2, none⟩ = some (.int .i64 ((rd_T50 l0 t344).f2)) ∧ w'.cell? ⟨(ad342.add ((t344).toNat * 4)).block, (ad342.add ((t344).toNat * 4)).off + 3, none⟩ = some (.int .i64 ((rd_T50 l0 t344).f3))) (ds := []) (mb 14 0) (by kernel_rfl) rfl rfl ⟨(hC HB hw342_0), (hC HB hw342_1), (hC HB hw342_2), (hC HB hw342_3), (hC HB hw343_0), (hC HB hw345_0), (hC HB hw345_1), (hC HB hw345_2), (hC HB hw345_3)⟩ (fun hHeld => ?_); refine with_tabW spec_IsTogether.tab10 spec_IsTogether.bits10 (fun HT_ HW_ => ?_)
           generalize wr.drew = w28 at HB hx342_0 hx342_1 hx342_2 hx342_3 hx343_0 hx345_0 hx345_1 hx345_2 hx345_3 hHeld ⊢
           refine pA (i := 0) (N := some 43) (mb 14 1) HT_ ?_
           refine pA (i := 1) (N := some 44) (mb 14 3) HT_ ?_
           refine pA (i := 2) (N := some 45) (mb 14 7) HT_ ?_
           refine pA (i := 4) (N := some 47) (mb 14 23) HT_ ?_
           refine pA (i := 5) (N := some 48) (mb 14 55) HT_ ?_
           refine pA (i := 6) (N := some 49) (mb 14 119) HT_ ?_
           refine pA (i := 7) (N := some 50) (mb 14 247) HT_ ?_
           refine pA (i := 8) (N := some 51) (mb 14 503) HT_ ?_
           refine tA9 (i := 3) (N := some 46) (mb 14 511) HT_ HW_ hHeld ?_
           refine tA9 (i := 9) (N := some 52) (mb 14 1023) HT_ HW_ hHeld ?_
           refine oA (i := 10) (N := some 53) (mb 14 2047) HT_ (fun K hK => ?_)
           refine gA Try.func144 #[.slice (some ad342) l0.length c0, .int .i64 (rd l1 x7_3)] ?_
           with_reducible refine (spec_FindPath.calls k3 _ _ l0 (rd l1 x7_3) t344 _ ?side1 ?side2 A21.out).mono ?_
           (case side1 => exact cB HR0)
           (case side2 => exact HC0.out)
           rintro e w' ⟨rfl, ⟨nd, rfl⟩⟩
           refine ⟨_, rfl, ?_⟩
           refine hK.out _ _ ⟨(hC HB hw342_0), (hC HB hw342_1), (hC HB hw342_2), (hC HB hw342_3), (hC HB hw343_0), (hC HB hw345_0), (hC HB hw345_1), (hC HB hw345_2), (hC HB hw345_3)⟩ (fun hHeld => ?_)
           clear hK K
           refine nB ?_
           refine pA (i := 11) (N := some 54) (mb 14 4095) HT_ ?_
           refine tA9 (i := 12) (N := some 55) (mb 14 8191) HT_ HW_ hHeld ?_
           refine oA (i := 13) (N := some 56) (mb 14 16383) HT_ (fun K hK => ?_)
           refine gA Try.func145 #[.agg #[.int .i64 ((rd_T50 l0 t339).f0), .int .i64 ((rd_T50 l0 t339).f1), .int .i64 ((rd_T50 l0 t339).f2), .int .i64 ((rd_T50 l0 t339).f3)], .agg #[.int .i64 ((rd_T50 l0 t344).f0), .int .i64 ((rd_T50 l0 t344).f1), .int .i64 ((rd_T50 l0 t344).f2), .int .i64 ((rd_T50 l0 t344).f3)]] ?_
           with_reducible refine (spec_Conflict.calls k3 ((rd_T50 l0 t339).f0) ((rd_T50 l0 t339).f1) ((rd_T50 l0 t339).f2) ((rd_T50 l0 t339).f3) ((rd_T50 l0 t344).f0) ((rd_T50 l0 t344).f1) ((rd_T50 l0 t344).f2) ((rd_T50 l0 t344).f3) false _ A24.out).mono ?_
           rintro e w29 ⟨rfl, hb⟩
           refine ⟨_, rfl, ?_⟩
           replace HB := Aside0.mk (below_step bA hb)
           (try clear hb)
           (try clear hb2)
           (try clear hk)
           (try clear hi)
           refine hK.out _ _ ⟨(hC HB hw342_0), (hC HB hw342_1), (hC HB hw342_2), (hC HB hw342_3), (hC HB hw343_0), (hC HB hw345_0), (hC HB hw345_1), (hC HB hw345_2), (hC HB hw345_3)⟩ (fun hHeld => ?_)
           clear hK K
           refine nB ?_
           refine eA HT_ ?_
           try go_wp2
           go_roundg k3
           case measure => have := HK1.out; have := HJ5.out; have := HK3.out; omega
           case rel => exact ⟨(wrap64 (x7_3 + 1)), rS, H', ⟨by have := HK1.out; have := HJ5.out; have := HK3.out; omega⟩, ⟨bA⟩⟩
         ·
          rw [if_neg c16] at H
          have c16b0 := decide_eq_false c16
          clear c16
          have H' := Aside0.mk H
          clear H
          go_wp2
          go_roundg k3
          case measure => have := HK1.out; have := HJ5.out; have := HK3.out; omega
          case rel => exact ⟨(wrap64 (x5_1 + 1)), rS, H', ⟨by have := HK1.out; have := HJ5.out; have := HK3.out; omega⟩, ⟨bA⟩⟩
   ·
    rw [if_neg c3] at H
    have c3b0 := decide_eq_false c3
    clear c3
    obtain ⟨t337, A30, H⟩ := bindE H
    try dsimp only at H
    obtain rfl := Option.some.inj H
    go_wp2_with (first | ((with_reducible refine gate_callee (f := 33) rfl ?_); refine gL (some 58) Try.func33 #[.slice A0 l0.length c0] ?_; (with_reducible refine (spec_ArePaths.calls k1 _ _ l0 t337 _ ?side1 ?side2 A30.out).mono ?_); (case side1 => exact cB HR0); (case side2 => exact HC0.out); rintro e w31 ⟨rfl, hb⟩; refine ⟨_, rfl, ?_⟩; replace HB := Aside0.mk (below_step bA hb); (try clear hb)))
    go_ret
    exact ⟨rA, bA⟩

/-! ### spec_l6Put: function 135 -/
def spec_l6Put.l0 : Nat → List Int → Int → Int → Option (List Int)
 | 0, _, _, _ => none
 | k + 1, x0, x1, x5 => if x5 < (x0.length : Int) then (if 0 ≤ x5 then (if (rd x0 x5) < x1 then (spec_l6Put.l0 k x0 x1 (wrap64 (x5 + 1))) else (if (rd x0 x5) = x1 then ((some (([] : List Int) : List Int)).bind fun y349 => (if y349.length + x0.length < 17592186044416 then (some (y349 ++ x0)) else (none))) else ((some (([] : List Int) : List Int)).bind fun y355 => (if x5 ≤ (x0.length : Int) then (if y355.length + (x0.take (x5 : Int).toNat).length < 17592186044416 then ((some (y355 ++ (x0.take (x5 : Int).toNat) : List Int)).bind fun y359 => ((some (([x1] : List Int) : List Int)).bind fun y362 => (if y359.length + y362.length < 17592186044416 then ((some (y359 ++ y362 : List Int)).bind fun y365 => (if y365.length + (x0.drop (x5 : Int).toNat).length < 17592186044416 then (some (y365 ++ (x0.drop (x5 : Int).toNat))) else (none))) else (none)))) else (none)) else (none))))) else (none)) else ((some (([] : List Int) : List Int)).bind fun y372 => (if 0 ≤ x5 then (if x5 ≤ (x0.length : Int) then (if y372.length + (x0.take (x5 : Int).toNat).length < 17592186044416 then ((some (y372 ++ (x0.take (x5 : Int).toNat) : List Int)).bind fun y376 => ((some (([x1] : List Int) : List Int)).bind fun y379 => (if y376.length + y379.length < 17592186044416 then ((some (y376 ++ y379 : List Int)).bind fun y382 => (if y382.length + (x0.drop (x5 : Int).toNat).length < 17592186044416 then (some (y382 ++ (x0.drop (x5 : Int).toNat))) else (none))) else (none)))) else (none)) else (none)) else (none)))
def spec_l6Put.f (k : Nat) (l0 : List Int) (a1 : Int) : Option (List Int) := spec_l6Put.l0 k l0 a1 0
theorem spec_l6Put.mono_l : ∀ k, (∀ y0 y1 y2, LeO (spec_l6Put.l0 k y0 y1 y2) (spec_l6Put.l0 (k + 1) y0 y1 y2))
 | 0 => fun _ _ _ r h => by simp [spec_l6Put.l0] at h
 | k + 1 => by
  have ih0 := spec_l6Put.mono_l k
  ·
   intro y0 y1 y2
   unfold spec_l6Put.l0
   repeat' first | (with_reducible first | exact LeO.refl _ | exact LeO.none _ | refine LeO.ite ?_ ?_ | refine LeO.bind ?_ (fun _ => ?_) | exact ih0 _ _ _)
theorem spec_l6Put.mono : ∀ a0 a1 k, LeO (spec_l6Put.f k a0 a1) (spec_l6Put.f (k + 1) a0 a1) := by
 intro a0 a1 k
 have ih0 := spec_l6Put.mono_l k
 unfold spec_l6Put.f
 repeat' first | (with_reducible first | exact LeO.refl _ | exact LeO.none _ | refine LeO.ite ?_ ?_ | refine LeO.bind ?_ (fun _ => ?_) | exact ih0 _ _ _)
def spec_l6Put.T6 : Bool × List (List Nat × List Nat) := (true, [([], []), ([], []), ([], []), ([1, 2], [1, 2]), ([0, 3], [0, 3]), ([], []), ([5], [5]), ([4, 6, 4], [4, 6]), ([], []), ([], []), ([8, 9], [8, 9]), ([7, 10, 7], [7, 10]), ([11, 11, 0, 1, 2, 3, 4, 5, 6, 7, 8, 9, 10, 11], [11])])
def spec_l6Put.B6 : List Nat := [0, 0, 0, 6, 15, 0, 32, 127, 0, 0, 768, 2047, 4095]
theorem spec_l6Put.tab6 : rtab .any (opsOf Try.f135 6) = spec_l6Put.T6 := by kernel_rfl
theorem spec_l6Put.bits6 : waitsOk spec_l6Put.T6.2 spec_l6Put.B6 = true := by kernel_rfl
set_option maxHeartbeats 8000000 in
set_option maxRecDepth 100000 in
theorem spec_l6Put.calls (k : Nat) (A0 : Option Addr) (c0 : Nat) (l0 : List Int) (a1 : Int) (r : List Int) (w : World) (hr0 : Kd.C (Kd.int .i64) w A0 l0.length l0) (hc0 : l0.length ≤ c0) (h : spec_l6Put.f k l0 a1 = some r) :
  Calls Try.prog 135 #[.slice A0 l0.length c0, .int .i64 a1] w fun e w' => ∃ v0_ : Value, e = .returned (v0_) ∧ Kd.R (Kd.int .i64) 3 w' w.heap.size (fun _ => True) v0_ r ∧ Below w.heap.size w w' := by
 have HR0 := Aside0.mk hr0
 have HC0 := Aside0.mk hc0
 clear hr0 hc0
 have HB := Aside0.mk (Below.refl w.heap.size w)
 have H : (spec_l6Put.l0 k l0 a1 0) = some r := h
 clear h
 have H' := Aside0.mk H
 clear H
 go_enter Try.func135, Try.ntmps135
 go_wp2
 go_loopg [5] k (fun kq v5 w' => ∃ (x5_1 : Int), v5 = .int .i64 x5_1 ∧ Aside0 (spec_l6Put.l0 kq l0 a1 x5_1 = some r) ∧ Aside0 (kq ≤ k) ∧ Aside0 (Below w.heap.size w w'))
 case atStart => exact ⟨(0), rS, H', ⟨Nat.le_refl _⟩, ⟨bA⟩⟩
 case round =>
  clear H'
  try clear c1
  try clear p2
  obtain ⟨x5_1, rfl, HA, HK1, HB⟩ := hrel
  cases gk with
  | zero => exact absurd HA.out (by simp [spec_l6Put.l0])
  | succ k1 =>
   have H := HA.out
   clear HA
   simp only [spec_l6Put.l0] at H
   by_cases c3 : x5_1 < (l0.length : Int)
   ·
    rw [if_pos c3] at H
    have c3b0 := decide_eq_true c3
    clear c3
    have c4 : 0 ≤ x5_1 := ifN H
    replace H := ifT H
    have c4b0 := decide_eq_true c4
    clear c4
    by_cases c5 : (rd l0 x5_1) < a1
    ·
     rw [if_pos c5] at H
     have c5b0 := decide_eq_true c5
     clear c5
     have H' := Aside0.mk H
     clear H
     have p347 : 0 ≤ (x5_1 : Int) := dA
     have q347 : x5_1 < (l0.length : Int) := dA
     obtain ⟨ad347, e347, hx347_0⟩ := Kd.at_int HR0.out x5_1 p347 q347
     cases e347
     replace hx347_0 := hC HB hx347_0
     replace p347 := eq_true p347
     replace q347 := eq_true q347
     go_wp2
     go_roundg k1
     case measure => have := HK1.out; omega
     case rel => exact ⟨(wrap64 (x5_1 + 1)), rS, H', ⟨by have := HK1.out; omega⟩, ⟨bA⟩⟩
    ·
     rw [if_neg c5] at H
     have c5b0 := decide_eq_false c5
     clear c5
     by_cases c6 : (rd l0 x5_1) = a1
     ·
      rw [if_pos c6] at H
      have c6b0 : ((rd l0 x5_1) == a1) = true := beq_iff_eq.mpr c6
      have c6b1 : ((rd l0 x5_1) != a1) = false := bne_eq_false_iff_eq.mpr c6
      clear c6
      obtain ⟨y349, hy349⟩ : ∃ y_ : List Int, y_ = (([] : List Int)) := ⟨_, rfl⟩
      replace H : (if y349.length + l0.length < 17592186044416 then (some (y349 ++ l0)) else (none)) = some r := by first | (rw [hy349]; with_reducible exact H) | (have H2_ := (Option.bind_some _ _).symm.trans H; rw [hy349]; with_reducible exact H2_) | (have H2_ := (Option.bind_some _ _).symm.trans H; with_reducible exact H2_) | with_reducible exact H | (rw [hy349]; exact H) | exact H
      have Ny349 := Aside0.mk hy349
      clear hy349
      have c7 : y349.length + l0.length < 17592186044416 := ifN H
      replace H := ifT H
      have LMc7 := Aside0.mk c7
      clear c7
      obtain ⟨y352, hy352⟩ : ∃ y_ : List Int, y_ = (y349 ++ l0) := ⟨_, rfl⟩
      replace H : (some y352) = some r := by first | (rw [hy352]; with_reducible exact H) | (have H2_ := (Option.bind_some _ _).symm.trans H; rw [hy352]; with_reducible exact H2_) | (have H2_ := (Option.bind_some _ _).symm.trans H; with_reducible exact H2_) | with_reducible exact H | (rw [hy352]; exact H) | exact H
      have Ny352 := Aside0.mk hy352
      clear hy352
      obtain rfl := Option.some.inj H
      have p347 : 0 ≤ (x5_1 : Int) := dA
      have q347 : x5_1 < (l0.length : Int) := dA
      obtain ⟨ad347, e347, hx347_0⟩ := Kd.at_int HR0.out x5_1 p347 q347
      cases e347
      replace hx347_0 := hC HB hx347_0
      replace p347 := eq_true p347
      replace q347 := eq_true q347
      have p348 : 0 ≤ (x5_1 : Int) := dA
      have q348 : x5_1 < (l0.length : Int) := dA
      obtain ⟨ad348, e348, hx348_0⟩ := Kd.at_int HR0.out x5_1 p348 q348
      obtain rfl : ad347 = ad348 := (by injection e348)
      replace hx348_0 := hC HB hx348_0
      replace p348 := eq_true p348
      replace q348 := eq_true q348
      go_wp2_with (first | ((with_reducible refine gate_dst (N := 32) rfl ?_); refine Kd.R_lit (Kd.int .i64) _ 3 ?hg (N := 32) ?hd (xs := ([] : List Int)) (inner := []) (ok := fun _ => True) (okp := fun _ => True) ?hr ?hp (fun _ hk => hk) trivial (Below.refl _ _) (Nat.le_refl _) (by simp) ?_; (case hd => rfl); (case hg => rfl); (case hr => first | (go_simp; done) | (go_simp; rfl)); (case hp => exact (Reps.none _ _)); intro v350 w8 ho9 hb hg_ hnew_; clear hg_ hnew_; (first | rw [← Ny349.out] at ho9 | (simp only [Int.reduceToNat] at ho9; rw [← Ny349.out] at ho9)); have HO351 := Aside0.mk (Kd.R_lower ho9 (below_size bA)); replace HB := Aside0.mk (below_step bA hb); clear hb ho9) | ((with_reducible refine gate_builtin (b := .append) (xs := #[.tmp 32, .tmp 33]) rfl ?_); at_builtin; refine Kd.R_append_rows (Kd.int .i64) (w0 := w) w.heap.size rfl (.tmp 32) (.tmp 33) 35 3 (.int .i64 0) 8 rfl Try.underlying35 info3 rfl (by decide) (by omega) v350 y349 l0 _ _ _ (fun _ => True) (fun _ => False) rfl rfl ?aO ?aR (fun _ _ h => h) (fun _ h => h.elim) ?aF ?aB ?aS ?aL ?_; (case aR => repeat (first | exact (Kd.C_below HR0.out HB.out) | (with_reducible refine Kd.C_alloc ?_ _) | (with_reducible refine Kd.C_drewN ?_ _) | (with_reducible refine Kd.C_drew ?_))); (case aB => exact bA); (case aF => exact (fun _ _ => trivial)); (case aO => exact (rK HO351)); (case aS => exact (below_size bA)); (case aL => have := LMc7.out; omega); intro v353 w10 ho hb hg hat; rw [← Ny352.out] at ho; have n0_ := Aside0.mk (hb); have n1_ := Aside0.mk (ho); clear HB; clear HO351; have HB := n0_; have HO354 := n1_; clear n0_ n1_; clear ho hb hg hat))
      go_ret
      exact ⟨_, by first | rfl | (simp [errW_none, errW_some] <;> rfl) | (simp [*, errW_none, errW_some] <;> rfl), by (with_reducible repeat (first | apply Kd.R_alloc | apply Kd.R_drewN | apply Kd.R_drew)); exact HO354.out, bA⟩
     ·
      rw [if_neg c6] at H
      have c6b0 : ((rd l0 x5_1) == a1) = false := beq_eq_false_iff_ne.mpr c6
      have c6b1 : ((rd l0 x5_1) != a1) = true := bne_iff_ne.mpr c6
      obtain ⟨y355, hy355⟩ : ∃ y_ : List Int, y_ = (([] : List Int)) := ⟨_, rfl⟩
      replace H : (if x5_1 ≤ (l0.length : Int) then (if y355.length + (l0.take (x5_1 : Int).toNat).length < 17592186044416 then ((some (y355 ++ (l0.take (x5_1 : Int).toNat) : List Int)).bind fun y359 => ((some (([a1] : List Int) : List Int)).bind fun y362 => (if y359.length + y362.length < 17592186044416 then ((some (y359 ++ y362 : List Int)).bind fun y365 => (if y365.length + (l0.drop (x5_1 : Int).toNat).length < 17592186044416 then (some (y365 ++ (l0.drop (x5_1 : Int).toNat))) else (none))) else (none)))) else (none)) else (none)) = some r := by first | (rw [hy355]; with_reducible exact H) | (have H2_ := (Option.bind_some _ _).symm.trans H; rw [hy355]; with_reducible exact H2_) | (have H2_ := (Option.bind_some _ _).symm.trans H; with_reducible exact H2_) | with_reducible exact H | (rw [hy355]; exact H) | exact H
      have Ny355 := Aside0.mk hy355
      clear hy355
      have c11b0 := eq_true (dA : 0 ≤ x5_1)
      have c12 : x5_1 ≤ (l0.length : Int) := ifN H
      replace H := ifT H
      have c12b0 := eq_true c12
      have c12b1 := decide_eq_true c12
      clear c12
      have c13 : y355.length + (l0.take (x5_1 : Int).toNat).length < 17592186044416 := ifN H
      replace H := ifT H
      have LMc13 := Aside0.mk c13
      clear c13
      obtain ⟨y359, hy359⟩ : ∃ y_ : List Int, y_ = (y355 ++ (l0.take (x5_1 : Int).toNat)) := ⟨_, rfl⟩
      replace H : ((some (([a1] : List Int) : List Int)).bind fun y362 => (if y359.length + y362.length < 17592186044416 then ((some (y359 ++ y362 : List Int)).bind fun y365 => (if y365.length + (l0.drop (x5_1 : Int).toNat).length < 17592186044416 then (some (y365 ++ (l0.drop (x5_1 : Int).toNat))) else (none))) else (none))) = some r := by first | (rw [hy359]; with_reducible exact H) | (have H2_ := (Option.bind_some _ _).symm.trans H; rw [hy359]; with_reducible exact H2_) | (have H2_ := (Option.bind_some _ _).symm.trans H; with_reducible exact H2_) | with_reducible exact H | (rw [hy359]; exact H) | exact H
      have Ny359 := Aside0.mk hy359
      clear hy359
      obtain ⟨y362, hy362⟩ : ∃ y_ : List Int, y_ = (([a1] : List Int)) := ⟨_, rfl⟩
      replace H : (if y359.length + y362.length < 17592186044416 then ((some (y359 ++ y362 : List Int)).bind fun y365 => (if y365.length + (l0.drop (x5_1 : Int).toNat).length < 17592186044416 then (some (y365 ++ (l0.drop (x5_1 : Int).toNat))) else (none))) else (none)) = some r := by first | (rw [hy362]; with_reducible exact H) | (have H2_ := (Option.bind_some _ _).symm.trans H; rw [hy362]; with_reducible exact H2_) | (have H2_ := (Option.bind_some _ _).symm.trans H; with_reducible exact H2_) | with_reducible exact H | (rw [hy362]; exact H) | exact H
      have Ny362 := Aside0.mk hy362
      clear hy362
      have c14 : y359.length + y362.length < 17592186044416 := ifN H
      replace H := ifT H
      have LMc14 := Aside0.mk c14
      clear c14
      obtain ⟨y365, hy365⟩ : ∃ y_ : List Int, y_ = (y359 ++ y362) := ⟨_, rfl⟩
      replace H : (if y365.length + (l0.drop (x5_1 : Int).toNat).length < 17592186044416 then (some (y365 ++ (l0.drop (x5_1 : Int).toNat))) else (none)) = some r := by first | (rw [hy365]; with_reducible exact H) | (have H2_ := (Option.bind_some _ _).symm.trans H; rw [hy365]; with_reducible exact H2_) | (have H2_ := (Option.bind_some _ _).symm.trans H; with_reducible exact H2_) | with_reducible exact H | (rw [hy365]; exact H) | exact H
      have Ny365 := Aside0.mk hy365
      clear hy365
      have c15b0 := eq_true (dA : 0 ≤ x5_1)
      have c16b0 := eq_true (dA : x5_1 ≤ (l0.length : Int))
      have c17 : y365.length + (l0.drop (x5_1 : Int).toNat).length < 17592186044416 := ifN H
      replace H := ifT H
      have LMc17 := Aside0.mk c17
      clear c17
      obtain ⟨y369, hy369⟩ : ∃ y_ : List Int, y_ = (y365 ++ (l0.drop (x5_1 : Int).toNat)) := ⟨_, rfl⟩
      replace H : (some y369) = some r := by first | (rw [hy369]; with_reducible exact H) | (have H2_ := (Option.bind_some _ _).symm.trans H; rw [hy369]; with_reducible exact H2_) | (have H2_ := (Option.bind_some _ _).symm.trans H; with_reducible exact H2_) | with_reducible exact H | (rw [hy369]; exact H) | exact H
      have Ny369 := Aside0.mk hy369
      clear hy369
      obtain rfl := Option.some.inj H
      have p347 : 0 ≤ (x5_1 : Int) := dA
      have q347 : x5_1 < (l0.length : Int) := dA
      obtain ⟨ad347, e347, hx347_0⟩ := Kd.at_int HR0.out x5_1 p347 q347
      cases e347
      replace hx347_0 := hC HB hx347_0
      replace p347 := eq_true p347
      replace q347 := eq_true q347
      have p348 : 0 ≤ (x5_1 : Int) := dA
      have q348 : x5_1 < (l0.length : Int) := dA
      obtain ⟨ad348, e348, hx348_0⟩ := Kd.at_int HR0.out x5_1 p348 q348
      obtain rfl : ad347 = ad348 := (by injection e348)
      replace hx348_0 := hC HB hx348_0
      replace p348 := eq_true p348
      replace q348 := eq_true q348
      try go_wp2
      have HBo := HB
      replace HB := Aside0.mk (below_drew1 HB.out)
      obtain ⟨i019, hi019, _, hsz19, _⟩ := info_parts info3
      obtain ⟨hcut19, hA19, hC19⟩ := print_take_of (P := Try.prog) (Value.int .i64) 0 35 3 .i64 Try.underlying35 hi019 hsz19 (some ad347) c0 l0 x5_1 (dA) (dA) HC0.out
      have HR358 := Aside0.mk (Kd.C_of_reads (h1 := fun _ => rfl) (hA19 _ (Kd.reads_of_C HR0.out)))
      have HC358 := Aside0.mk hC19
      clear hA19 hC19 hi019 hsz19
      have HL358 := Aside0.mk (show (x5_1 : Int) ≤ (l0.length : Int) from (dA))
      obtain ⟨i020, hi020, _, hsz20, _⟩ := info_parts info3
      obtain ⟨A20, hcut20, hA20, hC20⟩ := print_drop_of (P := Try.prog) (Value.int .i64) 0 35 3 .i64 Try.underlying35 hi020 hsz20 (some ad347) c0 l0 x5_1 (dA) (dA) HC0.out
      have HR368 := Aside0.mk (Kd.C_of_reads (h1 := fun _ => rfl) (hA20 _ (Kd.reads_of_C HR0.out)))
      have HC368 := Aside0.mk hC20
      clear hA20 hC20 hi020 hsz20
      refine start_ (n := 13) (S := fun w' => True) (ds := []) (mb 13 0) (by kernel_rfl) rfl rfl trivial (fun hHeld => ?_); refine with_tabW spec_l6Put.tab6 spec_l6Put.bits6 (fun HT_ HW_ => ?_)
      generalize wr.drew = w18 at HB HR358 HR368 hHeld ⊢
      refine pA (i := 1) (N := some 36) (mb 13 2) HT_ ?_
      refine pA (i := 2) (N := some 37) (mb 13 6) HT_ ?_
      refine pA (i := 3) (N := some 38) (mb 13 14) HT_ ?_
      refine pA (i := 5) (N := some 40) (mb 13 46) HT_ ?_
      refine pA (i := 8) (N := some 43) (mb 13 302) HT_ ?_
      refine pA (i := 9) (N := some 44) (mb 13 814) HT_ ?_
      refine pA (i := 10) (N := some 45) (mb 13 1838) HT_ ?_
      refine join_ (σ := Value × Value × Value) 3 (mb 13 1919) (fun s_ => [(35, s_.1), (39, s_.2.1), (41, s_.2.2)]) (fun s_ w' => (Kd.R (Kd.int .i64) 3 w' w.heap.size (fun k_ => some k_ ≠ (s_.2.2 : Value).ownBlock) s_.2.1 y359) ∧ (Kd.R (Kd.int .i64) 3 w' w.heap.size (fun k_ => some k_ ≠ (s_.2.1 : Value).ownBlock) s_.2.2 y362) ∧ (Below w.heap.size w w')) ?_ ?_
      rotate_left
      ·
       intro hCont
       refine two_ (i := 0) (j := 6) (Ni := some 35) (Nj := some 41) (mb 13 1839) (mb 13 1902) rfl rfl rfl rfl (two_of HT_.out (by kernel_rfl)) (by decide) (by decide) (fun K hK => ?_) (fun K hK => ?_)
       ·
        skip
        refine Kd.R_lit_step (Kd.int .i64) _ 3 ?hg (N := 35) ?hd (xs := ([] : List Int)) (inner := []) (ok := fun _ => True) (okp := fun _ => True) ?hr ?hp (fun _ hk => hk) trivial (Below.refl _ _) (Nat.le_refl _) (by simp) ?_; (case hd => rfl); (case hg => rfl); (case hr => first | (go_simp; done) | (go_simp; rfl)); (case hp => exact (Reps.none _ _))
        intro v356 w21 ho22 hb hg_ hnew_
        clear hg_ hnew_
        (first | rw [← Ny355.out] at ho22 | (simp only [Int.reduceToNat] at ho22; rw [← Ny355.out] at ho22))
        have HO357 := Aside0.mk (Kd.R_lower ho22 (below_size bA))
        replace HB := Aside0.mk (below_step bA hb)
        clear hb ho22
        refine hK.out _ _ trivial (fun hHeld => ?_)
        clear hK K
        refine nB ?_
        refine two_ (i := 4) (j := 6) (Ni := some 39) (Nj := some 41) (mb 13 1855) (mb 13 1903) rfl rfl rfl rfl (two_of HT_.out (by kernel_rfl)) (by decide) (by decide) (fun K hK => ?_) (fun K hK => ?_)
        ·
         skip
         refine Kd.R_append_rows_step (Kd.int .i64) (w0 := w) w.heap.size (by rfl) (.tmp 35) (.tmp 38) 35 3 (.int .i64 0) 8 rfl Try.underlying35 info3 rfl (by decide) (by omega) v356 y355 (l0.take (x5_1 : Int).toNat) _ _ _ (fun _ => True) (fun _ => False) rfl rfl ?aO ?aR (fun _ _ h => h) (fun _ h => h.elim) ?aF ?aB ?aS ?aL ?_
         (case aR => first | (rw [← show (l0.take (x5_1 : Int).toNat).length = x5_1.toNat from (by rw [List.length_take]; have h_ : (x5_1 : Int) ≤ (l0.length : Int) := dA; omega)]; (repeat (first | exact (Kd.C_below HR358.out HB.out) | (with_reducible refine Kd.C_alloc ?_ _) | (with_reducible refine Kd.C_drewN ?_ _) | (with_reducible refine Kd.C_drew ?_))); done) | ((repeat (first | exact (Kd.C_below HR358.out HB.out) | (with_reducible refine Kd.C_alloc ?_ _) | (with_reducible refine Kd.C_drewN ?_ _) | (with_reducible refine Kd.C_drew ?_))); done) | (have hr_ := HR358.out; rw [show (l0.take (x5_1 : Int).toNat).length = x5_1.toNat from (by rw [List.length_take]; have h_ : (x5_1 : Int) ≤ (l0.length : Int) := dA; omega)] at hr_; (repeat (first | exact (Kd.C_below hr_ HB.out) | (with_reducible refine Kd.C_alloc ?_ _) | (with_reducible refine Kd.C_drewN ?_ _) | (with_reducible refine Kd.C_drew ?_))); done))
         (case aB => exact bA)
         (case aF => exact (fun _ _ => trivial))
         (case aO => exact (rK HO357))
         (case aS => exact (below_size bA))
         (case aL => have := LMc13.out; have hlx_ := (show (l0.take (x5_1 : Int).toNat).length = x5_1.toNat from (by rw [List.length_take]; have h_ : (x5_1 : Int) ≤ (l0.length : Int) := dA; omega)); omega)
         intro v360 w23 ho hb hg hat
         rw [← Ny359.out] at ho
         have n0_ := Aside0.mk (hb)
         have n1_ := Aside0.mk (ho)
         clear HB
         clear HO357
         have HB := n0_
         have HO361 := n1_
         clear n0_ n1_
         clear ho hb hg hat
         refine hK.out _ _ trivial (fun hHeld => ?_)
         clear hK K
         refine nB ?_
         refine oA (i := 6) (N := some 41) (mb 13 1919) HT_ (fun K hK => ?_)
         refine Kd.R_lit_step (Kd.int .i64) _ 3 ?hg (N := 41) ?hd (xs := ([a1] : List Int)) (inner := [.int .i64 a1]) (ok := fun _ => True) (okp := fun _ => True) ?hr ?hp (fun _ hk => hk) trivial (Below.refl _ _) (Nat.le_refl _) (by simp) ?_; (case hd => rfl); (case hg => rfl); (case hr => first | (go_simp; done) | (go_simp; rfl)); (case hp => exact (Reps.one (show Kd.M (Kd.int .i64) _ _ _ a1 [.int .i64 a1] from rfl) (Reps.none _ _)))
         intro v363 w24 ho25 hb hg_ hnew_
         clear hg_ hnew_
         (first | rw [← Ny362.out] at ho25 | (simp only [Int.reduceToNat] at ho25; rw [← Ny362.out] at ho25))
         have HO364 := Aside0.mk (Kd.R_lower (Kd.R_new' ho25 (Kd.R_lt (rK HO361))) (below_size bA))
         replace HO361 := Aside0.mk (Kd.R_elder' (rK HO361) (Kd.R_base ho25) hb)
         replace HB := Aside0.mk (below_step bA hb)
         clear hb ho25
         refine hK.out _ _ trivial (fun hHeld => ?_)
         clear hK K
         refine nB ?_
         exact mB (hCont (v356, v360, v363) _ ⟨(by (with_reducible repeat (first | apply Kd.R_alloc | apply Kd.R_drewN | apply Kd.R_drew)); exact Kd.R_mono HO361.out (fun _ hk => hk.2)), (by (with_reducible repeat (first | apply Kd.R_alloc | apply Kd.R_drewN | apply Kd.R_drew)); exact Kd.R_mono HO364.out (fun _ hk => hk.2)), bA⟩)
        ·
         skip
         refine Kd.R_lit_step (Kd.int .i64) _ 3 ?hg (N := 41) ?hd (xs := ([a1] : List Int)) (inner := [.int .i64 a1]) (ok := fun _ => True) (okp := fun _ => True) ?hr ?hp (fun _ hk => hk) trivial (Below.refl _ _) (Nat.le_refl _) (by simp) ?_; (case hd => rfl); (case hg => rfl); (case hr => first | (go_simp; done) | (go_simp; rfl)); (case hp => exact (Reps.one (show Kd.M (Kd.int .i64) _ _ _ a1 [.int .i64 a1] from rfl) (Reps.none _ _)))
         intro v363 w23 ho24 hb hg_ hnew_
         clear hg_ hnew_
         (first | rw [← Ny362.out] at ho24 | (simp only [Int.reduceToNat] at ho24; rw [← Ny362.out] at ho24))
         have HO364 := Aside0.mk (Kd.R_lower (Kd.R_new' ho24 (Kd.R_lt (rK HO357))) (below_size bA))
         replace HO357 := Aside0.mk (Kd.R_elder' (rK HO357) (Kd.R_base ho24) hb)
         replace HB := Aside0.mk (below_step bA hb)
         clear hb ho24
         refine hK.out _ _ trivial (fun hHeld => ?_)
         clear hK K
         refine nB ?_
         refine oA (i := 4) (N := some 39) (mb 13 1919) HT_ (fun K hK => ?_)
         refine Kd.R_append_rows_step (Kd.int .i64) (w0 := w) w.heap.size (by rfl) (.tmp 35) (.tmp 38) 35 3 (.int .i64 0) 8 rfl Try.underlying35 info3 rfl (by decide) (by omega) v356 y355 (l0.take (x5_1 : Int).toNat) _ _ _ (fun k_ => some k_ ≠ (v363 : Value).ownBlock) (fun _ => False) rfl rfl ?aO ?aR (fun _ _ h => h) (fun _ h => h.elim) ?aF ?aB ?aS ?aL ?_
         (case aR => first | (rw [← show (l0.take (x5_1 : Int).toNat).length = x5_1.toNat from (by rw [List.length_take]; have h_ : (x5_1 : Int) ≤ (l0.length : Int) := dA; omega)]; (repeat (first | exact (Kd.C_below HR358.out HB.out) | (with_reducible refine Kd.C_alloc ?_ _) | (with_reducible refine Kd.C_drewN ?_ _) | (with_reducible refine Kd.C_drew ?_))); done) | ((repeat (first | exact (Kd.C_below HR358.out HB.out) | (with_reducible refine Kd.C_alloc ?_ _) | (with_reducible refine Kd.C_drewN ?_ _) | (with_reducible refine Kd.C_drew ?_))); done) | (have hr_ := HR358.out; rw [show (l0.take (x5_1 : Int).toNat).length = x5_1.toNat from (by rw [List.length_take]; have h_ : (x5_1 : Int) ≤ (l0.length : Int) := dA; omega)] at hr_; (repeat (first | exact (Kd.C_below hr_ HB.out) | (with_reducible refine Kd.C_alloc ?_ _) | (with_reducible refine Kd.C_drewN ?_ _) | (with_reducible refine Kd.C_drew ?_))); done))
         (case aB => exact bA)
         (case aF => exact (fun k_ hk => Kd.fresh' (Kd.R_lt (rK HO364)) k_ hk))
         (case aO => exact (by (with_reducible repeat (first | apply Kd.R_alloc | apply Kd.R_drewN | apply Kd.R_drew)); exact Kd.R_mono HO357.out (fun _ hk => hk.2)))
         (case aS => exact (below_size bA))
         (case aL => have := LMc13.out; have hlx_ := (show (l0.take (x5_1 : Int).toNat).length = x5_1.toNat from (by rw [List.length_take]; have h_ : (x5_1 : Int) ≤ (l0.length : Int) := dA; omega)); omega)
         intro v360 w25 ho hb hg hat
         rw [← Ny359.out] at ho
         have n0_ := Aside0.mk (Kd.R_after (ok := (fun _ => True)) (rK HO364) hg hat)
         have n1_ := Aside0.mk (hb)
         have n2_ := Aside0.mk (ho)
         clear HO364
         clear HB
         clear HO357
         have HO364 := n0_
         have HB := n1_
         have HO361 := n2_
         clear n0_ n1_ n2_
         clear ho hb hg hat
         refine hK.out _ _ trivial (fun hHeld => ?_)
         clear hK K
         refine nB ?_
         exact mB (hCont (v356, v360, v363) _ ⟨(rK HO361), (by (with_reducible repeat (first | apply Kd.R_alloc | apply Kd.R_drewN | apply Kd.R_drew)); exact Kd.R_mono HO364.out (fun _ hk => hk.2)), bA⟩)
       ·
        skip
        refine Kd.R_lit_step (Kd.int .i64) _ 3 ?hg (N := 41) ?hd (xs := ([a1] : List Int)) (inner := [.int .i64 a1]) (ok := fun _ => True) (okp := fun _ => True) ?hr ?hp (fun _ hk => hk) trivial (Below.refl _ _) (Nat.le_refl _) (by simp) ?_; (case hd => rfl); (case hg => rfl); (case hr => first | (go_simp; done) | (go_simp; rfl)); (case hp => exact (Reps.one (show Kd.M (Kd.int .i64) _ _ _ a1 [.int .i64 a1] from rfl) (Reps.none _ _)))
        intro v363 w21 ho22 hb hg_ hnew_
        clear hg_ hnew_
        (first | rw [← Ny362.out] at ho22 | (simp only [Int.reduceToNat] at ho22; rw [← Ny362.out] at ho22))
        have HO364 := Aside0.mk (Kd.R_lower ho22 (below_size bA))
        replace HB := Aside0.mk (below_step bA hb)
        clear hb ho22
        refine hK.out _ _ trivial (fun hHeld => ?_)
        clear hK K
        refine nB ?_
        refine oA (i := 0) (N := some 35) (mb 13 1903) HT_ (fun K hK => ?_)
        refine Kd.R_lit_step (Kd.int .i64) _ 3 ?hg (N := 35) ?hd (xs := ([] : List Int)) (inner := []) (ok := fun _ => True) (okp := fun _ => True) ?hr ?hp (fun _ hk => hk) trivial (Below.refl _ _) (Nat.le_refl _) (by simp) ?_; (case hd => rfl); (case hg => rfl); (case hr => first | (go_simp; done) | (go_simp; rfl)); (case hp => exact (Reps.none _ _))
        intro v356 w23 ho24 hb hg_ hnew_
        clear hg_ hnew_
        (first | rw [← Ny355.out] at ho24 | (simp only [Int.reduceToNat] at ho24; rw [← Ny355.out] at ho24))
        have HO357 := Aside0.mk (Kd.R_lower (Kd.R_new' ho24 (Kd.R_lt (rK HO364))) (below_size bA))
        replace HO364 := Aside0.mk (Kd.R_elder' (rK HO364) (Kd.R_base ho24) hb)
        replace HB := Aside0.mk (below_step bA hb)
        clear hb ho24
        refine hK.out _ _ trivial (fun hHeld => ?_)
        clear hK K
        refine nB ?_
        refine oA (i := 4) (N := some 39) (mb 13 1919) HT_ (fun K hK => ?_)
        refine Kd.R_append_rows_step (Kd.int .i64) (w0 := w) w.heap.size (by rfl) (.tmp 35) (.tmp 38) 35 3 (.int .i64 0) 8 rfl Try.underlying35 info3 rfl (by decide) (by omega) v356 y355 (l0.take (x5_1 : Int).toNat) _ _ _ (fun k_ => some k_ ≠ (v363 : Value).ownBlock) (fun _ => False) rfl rfl ?aO ?aR (fun _ _ h => h) (fun _ h => h.elim) ?aF ?aB ?aS ?aL ?_
        (case aR => first | (rw [← show (l0.take (x5_1 : Int).toNat).length = x5_1.toNat from (by rw [List.length_take]; have h_ : (x5_1 : Int) ≤ (l0.length : Int) := dA; omega)]; (repeat (first | exact (Kd.C_below HR358.out HB.out) | (with_reducible refine Kd.C_alloc ?_ _) | (with_reducible refine Kd.C_drewN ?_ _) | (with_reducible refine Kd.C_drew ?_))); done) | ((repeat (first | exact (Kd.C_below HR358.out HB.out) | (with_reducible refine Kd.C_alloc ?_ _) | (with_reducible refine Kd.C_drewN ?_ _) | (with_reducible refine Kd.C_drew ?_))); done) | (have hr_ := HR358.out; rw [show (l0.take (x5_1 : Int).toNat).length = x5_1.toNat from (by rw [List.length_take]; have h_ : (x5_1 : Int) ≤ (l0.length : Int) := dA; omega)] at hr_; (repeat (first | exact (Kd.C_below hr_ HB.out) | (with_reducible refine Kd.C_alloc ?_ _) | (with_reducible refine Kd.C_drewN ?_ _) | (with_reducible refine Kd.C_drew ?_))); done))
        (case aB => exact bA)
        (case aF => exact (fun k_ hk => Kd.fresh' (Kd.R_lt (rK HO364)) k_ hk))
        (case aO => exact (by (with_reducible repeat (first | apply Kd.R_alloc | apply Kd.R_drewN | apply Kd.R_drew)); exact Kd.R_mono HO357.out (fun _ hk => hk.2)))
        (case aS => exact (below_size bA))
        (case aL => have := LMc13.out; have hlx_ := (show (l0.take (x5_1 : Int).toNat).length = x5_1.toNat from (by rw [List.length_take]; have h_ : (x5_1 : Int) ≤ (l0.length : Int) := dA; omega)); omega)
        intro v360 w25 ho hb hg hat
        rw [← Ny359.out] at ho
        have n0_ := Aside0.mk (Kd.R_after (ok := (fun _ => True)) (rK HO364) hg hat)
        have n1_ := Aside0.mk (hb)
        have n2_ := Aside0.mk (ho)
        clear HO364
        clear HB
        clear HO357
        have HO364 := n0_
        have HB := n1_
        have HO361 := n2_
        clear n0_ n1_ n2_
        clear ho hb hg hat
        refine hK.out _ _ trivial (fun hHeld => ?_)
        clear hK K
        refine nB ?_
        exact mB (hCont (v356, v360, v363) _ ⟨(rK HO361), (by (with_reducible repeat (first | apply Kd.R_alloc | apply Kd.R_drewN | apply Kd.R_drew)); exact Kd.R_mono HO364.out (fun _ hk => hk.2)), bA⟩)
      rintro ⟨v356, v360, v363⟩ w26 ⟨h0_, h1_, h2_⟩
      have n0_ : Aside0 (Kd.R (Kd.int .i64) 3 w26 w.heap.size (fun k_ => some k_ ≠ (v363 : Value).ownBlock) v360 y359) := ⟨h0_⟩
      have n1_ : Aside0 (Kd.R (Kd.int .i64) 3 w26 w.heap.size (fun k_ => some k_ ≠ (v360 : Value).ownBlock) v363 y362) := ⟨h1_⟩
      have n2_ : Aside0 (Below w.heap.size w w26) := ⟨h2_⟩
      clear HB
      clear h0_ h1_ h2_
      have HO361 := n0_
      have HO364 := n1_
      have HB := n2_
      clear n0_ n1_ n2_
      have hHeld := trivial
      obtain ⟨Ao28, co28, eo28⟩ := Kd.R_slice HO364.out
      (first | subst eo28 | (injection eo28 with f1_ f2_ f3_; have f4_ := f1_.symm; have f5_ := f3_.symm; clear f1_ f2_ f3_; subst f4_; subst f5_))
      refine norm_ (a' := ?_) ?_ ?_
      rotate_left
      ·
       simp only [putAll, Act.put, List.setIfInBounds_toArray, List.set_cons_zero, List.set_cons_succ]
       rfl
      refine oA (i := 7) (N := some 42) (mb 13 2047) HT_ (fun K hK => ?_)
      refine Kd.R_append_rows_step (Kd.int .i64) (w0 := w) w.heap.size (by rfl) (.tmp 39) (.tmp 41) 35 3 (.int .i64 0) 8 rfl Try.underlying35 info3 rfl (by decide) (by omega) v360 y359 y362 _ _ _ (fun k_ => some k_ ≠ (.slice Ao28 y362.length co28 : Value).ownBlock) (fun _ => False) rfl rfl ?aO ?aR (fun _ _ h => h) (fun _ h => h.elim) ?aF ?aB ?aS ?aL ?_
      (case aR => repeat (first | exact (Kd.R_reads' HO364.out).2.2 | (with_reducible refine Kd.C_alloc ?_ _) | (with_reducible refine Kd.C_drewN ?_ _) | (with_reducible refine Kd.C_drew ?_)))
      (case aB => exact bA)
      (case aF => exact (fun k_ hk => Kd.fresh' (Kd.R_lt (rK HO364)) k_ hk))
      (case aO => exact (rK HO361))
      (case aS => exact (below_size bA))
      (case aL => have := LMc14.out; omega)
      intro v366 w27 ho hb hg hat
      rw [← Ny365.out] at ho
      have n0_ := Aside0.mk (Kd.R_after (ok := (fun _ => True)) (by (with_reducible repeat (first | apply Kd.R_alloc | apply Kd.R_drewN | apply Kd.R_drew)); exact Kd.R_mono HO364.out (fun _ hk => ⟨trivial, hk⟩)) hg hat)
      have n1_ := Aside0.mk (hb)
      have n2_ := Aside0.mk (ho)
      clear HO364
      clear HB
      clear HO361
      have HO364 := n0_
      have HB := n1_
      have HO367 := n2_
      clear n0_ n1_ n2_
      clear ho hb hg hat
      refine hK.out _ _ trivial (fun hHeld => ?_)
      clear hK K
      refine nB ?_
      refine oA (i := 11) (N := some 46) (mb 13 4095) HT_ (fun K hK => ?_)
      refine Kd.R_append_rows_step (Kd.int .i64) (w0 := w) w.heap.size (by rfl) (.tmp 42) (.tmp 45) 35 3 (.int .i64 0) 8 rfl Try.underlying35 info3 rfl (by decide) (by omega) v366 y365 (l0.drop (x5_1 : Int).toNat) _ _ _ (fun k_ => some k_ ≠ (.slice Ao28 y362.length co28 : Value).ownBlock) (fun _ => False) rfl rfl ?aO ?aR (fun _ _ h => h) (fun _ h => h.elim) ?aF ?aB ?aS ?aL ?_
      (case aR => first | (rw [← show (l0.drop (x5_1 : Int).toNat).length = (l0.length - x5_1.toNat) from List.length_drop]; (repeat (first | exact (Kd.C_below HR368.out HB.out) | (with_reducible refine Kd.C_alloc ?_ _) | (with_reducible refine Kd.C_drewN ?_ _) | (with_reducible refine Kd.C_drew ?_))); done) | ((repeat (first | exact (Kd.C_below HR368.out HB.out) | (with_reducible refine Kd.C_alloc ?_ _) | (with_reducible refine Kd.C_drewN ?_ _) | (with_reducible refine Kd.C_drew ?_))); done) | (have hr_ := HR368.out; rw [show (l0.drop (x5_1 : Int).toNat).length = (l0.length - x5_1.toNat) from List.length_drop] at hr_; (repeat (first | exact (Kd.C_below hr_ HB.out) | (with_reducible refine Kd.C_alloc ?_ _) | (with_reducible refine Kd.C_drewN ?_ _) | (with_reducible refine Kd.C_drew ?_))); done))
      (case aB => exact bA)
      (case aF => exact (fun k_ hk => Kd.fresh' (Kd.R_lt (rK HO364)) k_ hk))
      (case aO => exact (rK HO367))
      (case aS => exact (below_size bA))
      (case aL => have := LMc17.out; have hlx_ := (show (l0.drop (x5_1 : Int).toNat).length = (l0.length - x5_1.toNat) from List.length_drop); omega)
      intro v370 w29 ho hb hg hat
      rw [← Ny369.out] at ho
      have n0_ := Aside0.mk (Kd.R_after (ok := (fun _ => True)) (rK HO364) hg hat)
      have n1_ := Aside0.mk (hb)
      have n2_ := Aside0.mk (ho)
      clear HO364
      clear HB
      clear HO367
      have HO364 := n0_
      have HB := n1_
      have HO371 := n2_
      clear n0_ n1_ n2_
      clear ho hb hg hat
      refine hK.out _ _ trivial (fun hHeld => ?_)
      clear hK K
      refine nB ?_
      refine pA (i := 12) (N := some 4) (mb 13 8191) HT_ ?_
      refine eA HT_ ?_
      try go_wp2
      go_ret
      exact ⟨_, by first | rfl | (simp [errW_none, errW_some] <;> rfl) | (simp [*, errW_none, errW_some] <;> rfl), by (with_reducible repeat (first | apply Kd.R_alloc | apply Kd.R_drewN | apply Kd.R_drew)); exact Kd.R_mono HO371.out (fun _ hk => trivial), bA⟩
   ·
    rw [if_neg c3] at H
    have c3b0 := decide_eq_false c3
    clear c3
    obtain ⟨y372, hy372⟩ : ∃ y_ : List Int, y_ = (([] : List Int)) := ⟨_, rfl⟩
    replace H : (if 0 ≤ x5_1 then (if x5_1 ≤ (l0.length : Int) then (if y372.length + (l0.take (x5_1 : Int).toNat).length < 17592186044416 then ((some (y372 ++ (l0.take (x5_1 : Int).toNat) : List Int)).bind fun y376 => ((some (([a1] : List Int) : List Int)).bind fun y379 => (if y376.length + y379.length < 17592186044416 then ((some (y376 ++ y379 : List Int)).bind fun y382 => (if y382.length + (l0.drop (x5_1 : Int).toNat).length < 17592186044416 then (some (y382 ++ (l0.drop (x5_1 : Int).toNat))) else (none))) else (none)))) else (none)) else (none)) else (none)) = some r := by first | (rw [hy372]; with_reducible exact H) | (have H2_ := (Option.bind_some _ _).symm.trans H; rw [hy372]; with_reducible exact H2_) | (have H2_ := (Option.bind_some _ _).symm.trans H; with_reducible exact H2_) | with_reducible exact H | (rw [hy372]; exact H) | exact H
    have Ny372 := Aside0.mk hy372
    clear hy372
    have c30 : 0 ≤ x5_1 := ifN H
    replace H := ifT H
    have c30b0 := eq_true c30
    have c30b1 := decide_eq_true c30
    clear c30
    have c31 : x5_1 ≤ (l0.length : Int) := ifN H
    replace H := ifT H
    have c31b0 := eq_true c31
    have c31b1 := decide_eq_true c31
    clear c31
    have c32 : y372.length + (l0.take (x5_1 : Int).toNat).length < 17592186044416 := ifN H
    replace H := ifT H
    have LMc32 := Aside0.mk c32
    clear c32
    obtain ⟨y376, hy376⟩ : ∃ y_ : List Int, y_ = (y372 ++ (l0.take (x5_1 : Int).toNat)) := ⟨_, rfl⟩
    replace H : ((some (([a1] : List Int) : List Int)).bind fun y379 => (if y376.length + y379.length < 17592186044416 then ((some (y376 ++ y379 : List Int)).bind fun y382 => (if y382.length + (l0.drop (x5_1 : Int).toNat).length < 17592186044416 then (some (y382 ++ (l0.drop (x5_1 : Int).toNat))) else (none))) else (none))) = some r := by first | (rw [hy376]; with_reducible exact H) | (have H2_ := (Option.bind_some _ _).symm.trans H; rw [hy376]; with_reducible exact H2_) | (have H2_ := (Option.bind_some _ _).symm.trans H; with_reducible exact H2_) | with_reducible exact H | (rw [hy376]; exact H) | exact H
    have Ny376 := Aside0.mk hy376
    clear hy376
    obtain ⟨y379, hy379⟩ : ∃ y_ : List Int, y_ = (([a1] : List Int)) := ⟨_, rfl⟩
    replace H : (if y376.length + y379.length < 17592186044416 then ((some (y376 ++ y379 : List Int)).bind fun y382 => (if y382.length + (l0.drop (x5_1 : Int).toNat).length < 17592186044416 then (some (y382 ++ (l0.drop (x5_1 : Int).toNat))) else (none))) else (none)) = some r := by first | (rw [hy379]; with_reducible exact H) | (have H2_ := (Option.bind_some _ _).symm.trans H; rw [hy379]; with_reducible exact H2_) | (have H2_ := (Option.bind_some _ _).symm.trans H; with_reducible exact H2_) | with_reducible exact H | (rw [hy379]; exact H) | exact H
    have Ny379 := Aside0.mk hy379
    clear hy379
    have c33 : y376.length + y379.length < 17592186044416 := ifN H
    replace H := ifT H
    have LMc33 := Aside0.mk c33
    clear c33
    obtain ⟨y382, hy382⟩ : ∃ y_ : List Int, y_ = (y376 ++ y379) := ⟨_, rfl⟩
    replace H : (if y382.length + (l0.drop (x5_1 : Int).toNat).length < 17592186044416 then (some (y382 ++ (l0.drop (x5_1 : Int).toNat))) else (none)) = some r := by first | (rw [hy382]; with_reducible exact H) | (have H2_ := (Option.bind_some _ _).symm.trans H; rw [hy382]; with_reducible exact H2_) | (have H2_ := (Option.bind_some _ _).symm.trans H; with_reducible exact H2_) | with_reducible exact H | (rw [hy382]; exact H) | exact H
    have Ny382 := Aside0.mk hy382
    clear hy382
    have c34b0 := eq_true (dA : 0 ≤ x5_1)
    have c35b0 := eq_true (dA : x5_1 ≤ (l0.length : Int))
    have c36 : y382.length + (l0.drop (x5_1 : Int).toNat).length < 17592186044416 := ifN H
    replace H := ifT H
    have LMc36 := Aside0.mk c36
    clear c36
    obtain ⟨y386, hy386⟩ : ∃ y_ : List Int, y_ = (y382 ++ (l0.drop (x5_1 : Int).toNat)) := ⟨_, rfl⟩
    replace H : (some y386) = some r := by first | (rw [hy386]; with_reducible exact H) | (have H2_ := (Option.bind_some _ _).symm.trans H; rw [hy386]; with_reducible exact H2_) | (have H2_ := (Option.bind_some _ _).symm.trans H; with_reducible exact H2_) | with_reducible exact H | (rw [hy386]; exact H) | exact H
    have Ny386 := Aside0.mk hy386
    clear hy386
    obtain rfl := Option.some.inj H
    try go_wp2
    have HBo := HB
    replace HB := Aside0.mk (below_drew1 HB.out)
    obtain ⟨i038, hi038, _, hsz38, _⟩ := info_parts info3
    obtain ⟨hcut38, hA38, hC38⟩ := print_take_of (P := Try.prog) (Value.int .i64) 0 35 3 .i64 Try.underlying35 hi038 hsz38 A0 c0 l0 x5_1 (dA) (dA) HC0.out
    have HR375 := Aside0.mk (Kd.C_of_reads (h1 := fun _ => rfl) (hA38 _ (Kd.reads_of_C HR0.out)))
    have HC375 := Aside0.mk hC38
    clear hA38 hC38 hi038 hsz38
    have HL375 := Aside0.mk (show (x5_1 : Int) ≤ (l0.length : Int) from (dA))
    obtain ⟨i039, hi039, _, hsz39, _⟩ := info_parts info3
    obtain ⟨A39, hcut39, hA39, hC39⟩ := print_drop_of (P := Try.prog) (Value.int .i64) 0 35 3 .i64 Try.underlying35 hi039 hsz39 A0 c0 l0 x5_1 (dA) (dA) HC0.out
    have HR385 := Aside0.mk (Kd.C_of_reads (h1 := fun _ => rfl) (hA39 _ (Kd.reads_of_C HR0.out)))
    have HC385 := Aside0.mk hC39
    clear hA39 hC39 hi039 hsz39
    refine start_ (n := 13) (S := fun w' => True) (ds := []) (mb 13 0) (by kernel_rfl) rfl rfl trivial (fun hHeld => ?_); refine with_tabW spec_l6Put.tab6 spec_l6Put.bits6 (fun HT_ HW_ => ?_)
    generalize wr.drew = w37 at HB HR375 HR385 hHeld ⊢
    refine pA (i := 1) (N := some 36) (mb 13 2) HT_ ?_
    refine pA (i := 2) (N := some 37) (mb 13 6) HT_ ?_
    refine pA (i := 3) (N := some 38) (mb 13 14) HT_ ?_
    refine pA (i := 5) (N := some 40) (mb 13 46) HT_ ?_
    refine pA (i := 8) (N := some 43) (mb 13 302) HT_ ?_
    refine pA (i := 9) (N := some 44) (mb 13 814) HT_ ?_
    refine pA (i := 10) (N := some 45) (mb 13 1838) HT_ ?_
    refine join_ (σ := Value × Value × Value) 3 (mb 13 1919) (fun s_ => [(35, s_.1), (39, s_.2.1), (41, s_.2.2)]) (fun s_ w' => (Kd.R (Kd.int .i64) 3 w' w.heap.size (fun k_ => some k_ ≠ (s_.2.2 : Value).ownBlock) s_.2.1 y376) ∧ (Kd.R (Kd.int .i64) 3 w' w.heap.size (fun k_ => some k_ ≠ (s_.2.1 : Value).ownBlock) s_.2.2 y379) ∧ (Below w.heap.size w w')) ?_ ?_
    rotate_left
    ·
     intro hCont
     refine two_ (i := 0) (j := 6) (Ni := some 35) (Nj := some 41) (mb 13 1839) (mb 13 1902) rfl rfl rfl rfl (two_of HT_.out (by kernel_rfl)) (by decide) (by decide) (fun K hK => ?_) (fun K hK => ?_)
     ·
      skip
      refine Kd.R_lit_step (Kd.int .i64) _ 3 ?hg (N := 35) ?hd (xs := ([] : List Int)) (inner := []) (ok := fun _ => True) (okp := fun _ => True) ?hr ?hp (fun _ hk => hk) trivial (Below.refl _ _) (Nat.le_refl _) (by simp) ?_; (case hd => rfl); (case hg => rfl); (case hr => first | (go_simp; done) | (go_simp; rfl)); (case hp => exact (Reps.none _ _))
      intro v373 w40 ho41 hb hg_ hnew_
      clear hg_ hnew_
      (first | rw [← Ny372.out] at ho41 | (simp only [Int.reduceToNat] at ho41; rw [← Ny372.out] at ho41))
      have HO374 := Aside0.mk (Kd.R_lower ho41 (below_size bA))
      replace HB := Aside0.mk (below_step bA hb)
      clear hb ho41
      refine hK.out _ _ trivial (fun hHeld => ?_)
      clear hK K
      refine nB ?_
      refine two_ (i := 4) (j := 6) (Ni := some 39) (Nj := some 41) (mb 13 1855) (mb 13 1903) rfl rfl rfl rfl (two_of HT_.out (by kernel_rfl)) (by decide) (by decide) (fun K hK => ?_) (fun K hK => ?_)
      ·
       skip
       refine Kd.R_append_rows_step (Kd.int .i64) (w0 := w) w.heap.size (by rfl) (.tmp 35) (.tmp 38) 35 3 (.int .i64 0) 8 rfl Try.underlying35 info3 rfl (by decide) (by omega) v373 y372 (l0.take (x5_1 : Int).toNat) _ _ _ (fun _ => True) (fun _ => False) rfl rfl ?aO ?aR (fun _ _ h => h) (fun _ h => h.elim) ?aF ?aB ?aS ?aL ?_
       (case aR => first | (rw [← show (l0.take (x5_1 : Int).toNat).length = x5_1.toNat from (by rw [List.length_take]; have h_ : (x5_1 : Int) ≤ (l0.length : Int) := dA; omega)]; (repeat (first | exact (Kd.C_below HR375.out HB.out) | (with_reducible refine Kd.C_alloc ?_ _) | (with_reducible refine Kd.C_drewN ?_ _) | (with_reducible refine Kd.C_drew ?_))); done) | ((repeat (first | exact (Kd.C_below HR375.out HB.out) | (with_reducible refine Kd.C_alloc ?_ _) | (with_reducible refine Kd.C_drewN ?_ _) | (with_reducible refine Kd.C_drew ?_))); done) | (have hr_ := HR375.out; rw [show (l0.take (x5_1 : Int).toNat).length = x5_1.toNat from (by rw [List.length_take]; have h_ : (x5_1 : Int) ≤ (l0.length : Int) := dA; omega)] at hr_; (repeat (first | exact (Kd.C_below hr_ HB.out) | (with_reducible refine Kd.C_alloc ?_ _) | (with_reducible refine Kd.C_drewN ?_ _) | (with_reducible refine Kd.C_drew ?_))); done))
       (case aB => exact bA)
       (case aF => exact (fun _ _ => trivial))
       (case aO => exact (rK HO374))
       (case aS => exact (below_size bA))
       (case aL => have := LMc32.out; have hlx_ := (show (l0.take (x5_1 : Int).toNat).length = x5_1.toNat from (by rw [List.length_take]; have h_ : (x5_1 : Int) ≤ (l0.length : Int) := dA; omega)); omega)
       intro v377 w42 ho hb hg hat
       rw [← Ny376.out] at ho
       have n0_ := Aside0.mk (hb)
       have n1_ := Aside0.mk (ho)
       clear HB
       clear HO374
       have HB := n0_
       have HO378 := n1_
       clear n0_ n1_
       clear ho hb hg hat
       refine hK.out _ _ trivial (fun hHeld => ?_)
       clear hK K
       refine nB ?_
       refine oA (i := 6) (N := some 41) (mb 13 1919) HT_ (fun K hK => ?_)
       refine Kd.R_lit_step (Kd.int .i64) _ 3 ?hg (N := 41) ?hd (xs := ([a1] : List Int)) (inner := [.int .i64 a1]) (ok := fun _ => True) (okp := fun _ => True) ?hr ?hp (fun _ hk => hk) trivial (Below.refl _ _) (Nat.le_refl _) (by simp) ?_; (case hd => rfl); (case hg => rfl); (case hr => first | (go_simp; done) | (go_simp; rfl)); (case hp => exact (Reps.one (show Kd.M (Kd.int .i64) _ _ _ a1 [.int .i64 a1] from rfl) (Reps.none _ _)))
       intro v380 w43 ho44 hb hg_ hnew_
       clear hg_ hnew_
       (first | rw [← Ny379.out] at ho44 | (simp only [Int.reduceToNat] at ho44; rw [← Ny379.out] at ho44))
       have HO381 := Aside0.mk (Kd.R_lower (Kd.R_new' ho44 (Kd.R_lt (rK HO378))) (below_size bA))
       replace HO378 := Aside0.mk (Kd.R_elder' (rK HO378) (Kd.R_base ho44) hb)
       replace HB := Aside0.mk (below_step bA hb)
       clear hb ho44
       refine hK.out _ _ trivial (fun hHeld => ?_)
       clear hK K
       refine nB ?_
       exact mB (hCont (v373, v377, v380) _ ⟨(by (with_reducible repeat (first | apply Kd.R_alloc | apply Kd.R_drewN | apply Kd.R_drew)); exact Kd.R_mono HO378.out (fun _ hk => hk.2)), (by (with_reducible repeat (first | apply Kd.R_alloc | apply Kd.R_drewN | apply Kd.R_drew)); exact Kd.R_mono HO381.out (fun _ hk => hk.2)), bA⟩)
      ·
       skip
       refine Kd.R_lit_step (Kd.int .i64) _ 3 ?hg (N := 41) ?hd (xs := ([a1] : List Int)) (inner := [.int .i64 a1]) (ok := fun _ => True) (okp := fun _ => True) ?hr ?hp (fun _ hk => hk) trivial (Below.refl _ _) (Nat.le_refl _) (by simp) ?_; (case hd => rfl); (case hg => rfl); (case hr => first | (go_simp; done) | (go_simp; rfl)); (case hp => exact (Reps.one (show Kd.M (Kd.int .i64) _ _ _ a1 [.int .i64 a1] from rfl) (Reps.none _ _)))
       intro v380 w42 ho43 hb hg_ hnew_
       clear hg_ hnew_
       (first | rw [← Ny379.out] at ho43 | (simp only [Int.reduceToNat] at ho43; rw [← Ny379.out] at ho43))
       have HO381 := Aside0.mk (Kd.R_lower (Kd.R_new' ho43 (Kd.R_lt (rK HO374))) (below_size bA))
       replace HO374 := Aside0.mk (Kd.R_elder' (rK HO374) (Kd.R_base ho43) hb)
       replace HB := Aside0.mk (below_step bA hb)
       clear hb ho43
       refine hK.out _ _ trivial (fun hHeld => ?_)
       clear hK K
       refine nB ?_
       refine oA (i := 4) (N := some 39) (mb 13 1919) HT_ (fun K hK => ?_)
       refine Kd.R_append_rows_step (Kd.int .i64) (w0 := w) w.heap.size (by rfl) (.tmp 35) (.tmp 38) 35 3 (.int .i64 0) 8 rfl Try.underlying35 info3 rfl (by decide) (by omega) v373 y372 (l0.take (x5_1 : Int).toNat) _ _ _ (fun k_ => some k_ ≠ (v380 : Value).ownBlock) (fun _ => False) rfl rfl ?aO ?aR (fun _ _ h => h) (fun _ h => h.elim) ?aF ?aB ?aS ?aL ?_
       (case aR => first | (rw [← show (l0.take (x5_1 : Int).toNat).length = x5_1.toNat from (by rw [List.length_take]; have h_ : (x5_1 : Int) ≤ (l0.length : Int) := dA; omega)]; (repeat (first | exact (Kd.C_below HR375.out HB.out) | (with_reducible refine Kd.C_alloc ?_ _) | (with_reducible refine Kd.C_drewN ?_ _) | (with_reducible refine Kd.C_drew ?_))); done) | ((repeat (first | exact (Kd.C_below HR375.out HB.out) | (with_reducible refine Kd.C_alloc ?_ _) | (with_reducible refine Kd.C_drewN ?_ _) | (with_reducible refine Kd.C_drew ?_))); done) | (have hr_ := HR375.out; rw [show (l0.take (x5_1 : Int).toNat).length = x5_1.toNat from (by rw [List.length_take]; have h_ : (x5_1 : Int) ≤ (l0.length : Int) := dA; omega)] at hr_; (repeat (first | exact (Kd.C_below hr_ HB.out) | (with_reducible refine Kd.C_alloc ?_ _) | (with_reducible refine Kd.C_drewN ?_ _) | (with_reducible refine Kd.C_drew ?_))); done))
       (case aB => exact bA)
       (case aF => exact (fun k_ hk => Kd.fresh' (Kd.R_lt (rK HO381)) k_ hk))
       (case aO => exact (by (with_reducible repeat (first | apply Kd.R_alloc | apply Kd.R_drewN | apply Kd.R_drew)); exact Kd.R_mono HO374.out (fun _ hk => hk.2)))
       (case aS => exact (below_size bA))
       (case aL => have := LMc32.out; have hlx_ := (show (l0.take (x5_1 : Int).toNat).length = x5_1.toNat from (by rw [List.length_take]; have h_ : (x5_1 : Int) ≤ (l0.length : Int) := dA; omega)); omega)
       intro v377 w44 ho hb hg hat
       rw [← Ny376.out] at ho
       have n0_ := Aside0.mk (Kd.R_after (ok := (fun _ => True)) (rK HO381) hg hat)
       have n1_ := Aside0.mk (hb)
       have n2_ := Aside0.mk (ho)
       clear HO381
       clear HB
       clear HO374
       have HO381 := n0_
       have HB := n1_
       have HO378 := n2_
       clear n0_ n1_ n2_
       clear ho hb hg hat
       refine hK.out _ _ trivial (fun hHeld => ?_)
       clear hK K
       refine nB ?_
       exact mB (hCont (v373, v377, v380) _ ⟨(rK HO378), (by (with_reducible repeat (first | apply Kd.R_alloc | apply Kd.R_drewN | apply Kd.R_drew)); exact Kd.R_mono HO381.out (fun _ hk => hk.2)), bA⟩)
     ·
      skip
      refine Kd.R_lit_step (Kd.int .i64) _ 3 ?hg (N := 41) ?hd (xs := ([a1] : List Int)) (inner := [.int .i64 a1]) (ok := fun _ => True) (okp := fun _ => True) ?hr ?hp (fun _ hk => hk) trivial (Below.refl _ _) (Nat.le_refl _) (by simp) ?_; (case hd => rfl); (case hg => rfl); (case hr => first | (go_simp; done) | (go_simp; rfl)); (case hp => exact (Reps.one (show Kd.M (Kd.int .i64) _ _ _ a1 [.int .i64 a1] from rfl) (Reps.none _ _)))
      intro v380 w40 ho41 hb hg_ hnew_
      clear hg_ hnew_
      (first | rw [← Ny379.out] at ho41 | (simp only [Int.reduceToNat] at ho41; rw [← Ny379.out] at ho41))
      have HO381 := Aside0.mk (Kd.R_lower ho41 (below_size bA))
      replace HB := Aside0.mk (below_step bA hb)
      clear hb ho41
      refine hK.out _ _ trivial (fun hHeld => ?_)
      clear hK K
      refine nB ?_
      refine oA (i := 0) (N := some 35) (mb 13 1903) HT_ (fun K hK => ?_)
      refine Kd.R_lit_step (Kd.int .i64) _ 3 ?hg (N := 35) ?hd (xs := ([] : List Int)) (inner := []) (ok := fun _ => True) (okp := fun _ => True) ?hr ?hp (fun _ hk => hk) trivial (Below.refl _ _) (Nat.le_refl _) (by simp) ?_; (case hd => rfl); (case hg => rfl); (case hr => first | (go_simp; done) | (go_simp; rfl)); (case hp => exact (Reps.none _ _))
      intro v373 w42 ho43 hb hg_ hnew_
      clear hg_ hnew_
      (first | rw [← Ny372.out] at ho43 | (simp only [Int.reduceToNat] at ho43; rw [← Ny372.out] at ho43))
      have HO374 := Aside0.mk (Kd.R_lower (Kd.R_new' ho43 (Kd.R_lt (rK HO381))) (below_size bA))
      replace HO381 := Aside0.mk (Kd.R_elder' (rK HO381) (Kd.R_base ho43) hb)
      replace HB := Aside0.mk (below_step bA hb)
      clear hb ho43
      refine hK.out _ _ trivial (fun hHeld => ?_)
      clear hK K
      refine nB ?_
      refine oA (i := 4) (N := some 39) (mb 13 1919) HT_ (fun K hK => ?_)
      refine Kd.R_append_rows_step (Kd.int .i64) (w0 := w) w.heap.size (by rfl) (.tmp 35) (.tmp 38) 35 3 (.int .i64 0) 8 rfl Try.underlying35 info3 rfl (by decide) (by omega) v373 y372 (l0.take (x5_1 : Int).toNat) _ _ _ (fun k_ => some k_ ≠ (v380 : Value).ownBlock) (fun _ => False) rfl rfl ?aO ?aR (fun _ _ h => h) (fun _ h => h.elim) ?aF ?aB ?aS ?aL ?_
      (case aR => first | (rw [← show (l0.take (x5_1 : Int).toNat).length = x5_1.toNat from (by rw [List.length_take]; have h_ : (x5_1 : Int) ≤ (l0.length : Int) := dA; omega)]; (repeat (first | exact (Kd.C_below HR375.out HB.out) | (with_reducible refine Kd.C_alloc ?_ _) | (with_reducible refine Kd.C_drewN ?_ _) | (with_reducible refine Kd.C_drew ?_))); done) | ((repeat (first | exact (Kd.C_below HR375.out HB.out) | (with_reducible refine Kd.C_alloc ?_ _) | (with_reducible refine Kd.C_drewN ?_ _) | (with_reducible refine Kd.C_drew ?_))); done) | (have hr_ := HR375.out; rw [show (l0.take (x5_1 : Int).toNat).length = x5_1.toNat from (by rw [List.length_take]; have h_ : (x5_1 : Int) ≤ (l0.length : Int) := dA; omega)] at hr_; (repeat (first | exact (Kd.C_below hr_ HB.out) | (with_reducible refine Kd.C_alloc ?_ _) | (with_reducible refine Kd.C_drewN ?_ _) | (with_reducible refine Kd.C_drew ?_))); done))
      (case aB => exact bA)
      (case aF => exact (fun k_ hk => Kd.fresh' (Kd.R_lt (rK HO381)) k_ hk))
      (case aO => exact (by (with_reducible repeat (first | apply Kd.R_alloc | apply Kd.R_drewN | apply Kd.R_drew)); exact Kd.R_mono HO374.out (fun _ hk => hk.2)))
      (case aS => exact (below_size bA))
      (case aL => have := LMc32.out; have hlx_ := (show (l0.take (x5_1 : Int).toNat).length = x5_1.toNat from (by rw [List.length_take]; have h_ : (x5_1 : Int) ≤ (l0.length : Int) := dA; omega)); omega)
      intro v377 w44 ho hb hg hat
      rw [← Ny376.out] at ho
      have n0_ := Aside0.mk (Kd.R_after (ok := (fun _ => True)) (rK HO381) hg hat)
      have n1_ := Aside0.mk (hb)
      have n2_ := Aside0.mk (ho)
      clear HO381
      clear HB
      clear HO374
      have HO381 := n0_
      have HB := n1_
      have HO378 := n2_
      clear n0_ n1_ n2_
      clear ho hb hg hat
      refine hK.out _ _ trivial (fun hHeld => ?_)
      clear hK K
      refine nB ?_
      exact mB (hCont (v373, v377, v380) _ ⟨(rK HO378), (by (with_reducible repeat (first | apply Kd.R_alloc | apply Kd.R_drewN | apply Kd.R_drew)); exact Kd.R_mono HO381.out (fun _ hk => hk.2)), bA⟩)
    rintro ⟨v373, v377, v380⟩ w45 ⟨h0_, h1_, h2_⟩
    have n0_ : Aside0 (Kd.R (Kd.int .i64) 3 w45 w.heap.size (fun k_ => some k_ ≠ (v380 : Value).ownBlock) v377 y376) := ⟨h0_⟩
    have n1_ : Aside0 (Kd.R (Kd.int .i64) 3 w45 w.heap.size (fun k_ => some k_ ≠ (v377 : Value).ownBlock) v380 y379) := ⟨h1_⟩
    have n2_ : Aside0 (Below w.heap.size w w45) := ⟨h2_⟩
    clear HB
    clear h0_ h1_ h2_
    have HO378 := n0_
    have HO381 := n1_
    have HB := n2_
    clear n0_ n1_ n2_
    have hHeld := trivial
    obtain ⟨Ao47, co47, eo47⟩ := Kd.R_slice HO381.out
    (first | subst eo47 | (injection eo47 with f1_ f2_ f3_; have f4_ := f1_.symm; have f5_ := f3_.symm; clear f1_ f2_ f3_; subst f4_; subst f5_))
    refine norm_ (a' := ?_) ?_ ?_
    rotate_left
    ·
     simp only [putAll, Act.put, List.setIfInBounds_toArray, List.set_cons_zero, List.set_cons_succ]
     rfl
    refine oA (i := 7) (N := some 42) (mb 13 2047) HT_ (fun K hK => ?_)
    refine Kd.R_append_rows_step (Kd.int .i64) (w0 := w) w.heap.size (by rfl) (.tmp 39) (.tmp 41) 35 3 (.int .i64 0) 8 rfl Try.underlying35 info3 rfl (by decide) (by omega) v377 y376 y379 _ _ _ (fun k_ => some k_ ≠ (.slice Ao47 y379.length co47 : Value).ownBlock) (fun _ => False) rfl rfl ?aO ?aR (fun _ _ h => h) (fun _ h => h.elim) ?aF ?aB ?aS ?aL ?_
    (case aR => repeat (first | exact (Kd.R_reads' HO381.out).2.2 | (with_reducible refine Kd.C_alloc ?_ _) | (with_reducible refine Kd.C_drewN ?_ _) | (with_reducible refine Kd.C_drew ?_)))
    (case aB => exact bA)
    (case aF => exact (fun k_ hk => Kd.fresh' (Kd.R_lt (rK HO381)) k_ hk))
    (case aO => exact (rK HO378))
    (case aS => exact (below_size bA))
    (case aL => have := LMc33.out; omega)
    intro v383 w46 ho hb hg hat
    rw [← Ny382.out] at ho
    have n0_ := Aside0.mk (Kd.R_after (ok := (fun _ => True)) (by (with_reducible repeat (first | apply Kd.R_alloc | apply Kd.R_drewN | apply Kd.R_drew)); exact Kd.R_mono HO381.out (fun _ hk => ⟨trivial, hk⟩)) hg hat)
    have n1_ := Aside0.mk (hb)
    have n2_ := Aside0.mk (ho)
    clear HO381
    clear HB
    clear HO378
    have HO381 := n0_
    have HB := n1_
    have HO384 := n2_
    clear n0_ n1_ n2_
    clear ho hb hg hat
    refine hK.out _ _ trivial (fun hHeld => ?_)
    clear hK K
    refine nB ?_
    refine oA (i := 11) (N := some 46) (mb 13 4095) HT_ (fun K hK => ?_)
    refine Kd.R_append_rows_step (Kd.int .i64) (w0 := w) w.heap.size (by rfl) (.tmp 42) (.tmp 45) 35 3 (.int .i64 0) 8 rfl Try.underlying35 info3 rfl (by decide) (by omega) v383 y382 (l0.drop (x5_1 : Int).toNat) _ _ _ (fun k_ => some k_ ≠ (.slice Ao47 y379.length co47 : Value).ownBlock) (fun _ => False) rfl rfl ?aO ?aR (fun _ _ h => h) (fun _ h => h.elim) ?aF ?aB ?aS ?aL ?_
    (case aR => first | (rw [← show (l0.drop (x5_1 : Int).toNat).length = (l0.length - x5_1.toNat) from List.length_drop]; (repeat (first | exact (Kd.C_below HR385.out HB.out) | (with_reducible refine Kd.C_alloc ?_ _) | (with_reducible refine Kd.C_drewN ?_ _) | (with_reducible refine Kd.C_drew ?_))); done) | ((repeat (first | exact (Kd.C_below HR385.out HB.out) | (with_reducible refine Kd.C_alloc ?_ _) | (with_reducible refine Kd.C_drewN ?_ _) | (with_reducible refine Kd.C_drew ?_))); done) | (have hr_ := HR385.out; rw [show (l0.drop (x5_1 : Int).toNat).length = (l0.length - x5_1.toNat) from List.length_drop] at hr_; (repeat (first | exact (Kd.C_below hr_ HB.out) | (with_reducible refine Kd.C_alloc ?_ _) | (with_reducible refine Kd.C_drewN ?_ _) | (with_reducible refine Kd.C_drew ?_))); done))
    (case aB => exact bA)
    (case aF => exact (fun k_ hk => Kd.fresh' (Kd.R_lt (rK HO381)) k_ hk))
    (case aO => exact (rK HO384))
    (case aS => exact (below_size bA))
    (case aL => have := LMc36.out; have hlx_ := (show (l0.drop (x5_1 : Int).toNat).length = (l0.length - x5_1.toNat) from List.length_drop); omega)
    intro v387 w48 ho hb hg hat
    rw [← Ny386.out] at ho
    have n0_ := Aside0.mk (Kd.R_after (ok := (fun _ => True)) (rK HO381) hg hat)
    have n1_ := Aside0.mk (hb)
    have n2_ := Aside0.mk (ho)
    clear HO381
    clear HB
    clear HO384
    have HO381 := n0_
    have HB := n1_
    have HO388 := n2_
    clear n0_ n1_ n2_
    clear ho hb hg hat
    refine hK.out _ _ trivial (fun hHeld => ?_)
    clear hK K
    refine nB ?_
    refine pA (i := 12) (N := some 4) (mb 13 8191) HT_ ?_
    refine eA HT_ ?_
    try go_wp2
    go_ret
    exact ⟨_, by first | rfl | (simp [errW_none, errW_some] <;> rfl) | (simp [*, errW_none, errW_some] <;> rfl), by (with_reducible repeat (first | apply Kd.R_alloc | apply Kd.R_drewN | apply Kd.R_drew)); exact Kd.R_mono HO388.out (fun _ hk => trivial), bA⟩

/-! ### spec_AddToStage: function 134 -/
mutual
def spec_AddToStage.l0 : Nat → List (S50) → List Int → List Int → Int → Option (List Int)
 | 0, _, _, _, _ => none
 | k + 1, x0, x1, x5, x6 => if x6 < (x0.length : Int) then ((spec_IsTogether.f k x0 x1).bind fun t395 => (spec_AddToStage.j1 k x0 x1 x5 x6 t395)) else (spec_AddToStage.j1 k x0 x1 x5 x6 false)
def spec_AddToStage.j1 : Nat → List (S50) → List Int → List Int → Int → Bool → Option (List Int)
 | 0, _, _, _, _, _ => none
 | k + 1, x0, x1, x5, x6, x19 => if x19 = true then (if 0 ≤ x6 then (if x6 < (x0.length : Int) then ((spec_l6Put.f k x5 ((rd_T50 x0 x6).f0)).bind fun t397 => ((spec_IsTogether.f k x0 t397).bind fun t400 => (if t400 = true then (spec_AddToStage.l0 k x0 x1 t397 (wrap64 (x6 + 1))) else (spec_AddToStage.l0 k x0 x1 x5 (wrap64 (x6 + 1)))))) else (none)) else (none)) else (some x5)
end
def spec_AddToStage.f (k : Nat) (l0 : List (S50)) (l1 : List Int) : Option (List Int) := (some (([] : List Int) : List Int)).bind fun y389 => (if y389.length + l1.length < 17592186044416 then (spec_AddToStage.l0 k l0 l1 (y389 ++ l1) 0) else (none))
theorem spec_AddToStage.mono_l : ∀ k, (∀ y0 y1 y2 y3, LeO (spec_AddToStage.l0 k y0 y1 y2 y3) (spec_AddToStage.l0 (k + 1) y0 y1 y2 y3)) ∧ (∀ y0 y1 y2 y3 y4, LeO (spec_AddToStage.j1 k y0 y1 y2 y3 y4) (spec_AddToStage.j1 (k + 1) y0 y1 y2 y3 y4))
 | 0 => ⟨fun _ _ _ _ r h => by simp [spec_AddToStage.l0] at h, fun _ _ _ _ _ r h => by simp [spec_AddToStage.j1] at h⟩
 | k + 1 => by
  obtain ⟨ih0, ih1⟩ := spec_AddToStage.mono_l k
  refine ⟨?_, ?_⟩
  ·
   intro y0 y1 y2 y3
   unfold spec_AddToStage.l0
   repeat' first | (with_reducible first | exact LeO.refl _ | exact LeO.none _ | refine LeO.ite ?_ ?_ | refine LeO.bind ?_ (fun _ => ?_) | exact ih0 _ _ _ _ | exact ih1 _ _ _ _ _ | exact spec_IsTogether.mono _ _ _ | exact spec_l6Put.mono _ _ _)
  ·
   intro y0 y1 y2 y3 y4
   unfold spec_AddToStage.j1
   repeat' first | (with_reducible first | exact LeO.refl _ | exact LeO.none _ | refine LeO.ite ?_ ?_ | refine LeO.bind ?_ (fun _ => ?_) | exact ih0 _ _ _ _ | exact ih1 _ _ _ _ _ | exact spec_IsTogether.mono _ _ _ | exact spec_l6Put.mono _ _ _)
theorem spec_AddToStage.mono : ∀ a0 a1 k, LeO (spec_AddToStage.f k a0 a1) (spec_AddToStage.f (k + 1) a0 a1) := by
 intro a0 a1 k
 obtain ⟨ih0, ih1⟩ := spec_AddToStage.mono_l k
 unfold spec_AddToStage.f
 repeat' first | (with_reducible first | exact LeO.refl _ | exact LeO.none _ | refine LeO.ite ?_ ?_ | refine LeO.bind ?_ (fun _ => ?_) | exact ih0 _ _ _ _ | exact ih1 _ _ _ _ _ | exact spec_IsTogether.mono _ _ _ | exact spec_l6Put.mono _ _ _)
set_option maxHeartbeats 8000000 in
set_option maxRecDepth 100000 in
theorem spec_AddToStage.calls (k : Nat) (A0 : Option Addr) (c0 : Nat) (l0 : List (S50)) (A1 : Option Addr) (c1 : Nat) (l1 : List Int) (r : List Int) (w : World) (hr0 : Kd.C k50 w A0 l0.length l0) (hc0 : l0.length ≤ c0) (hr1 : Kd.C (Kd.int .i64) w A1 l1.length l1) (hc1 : l1.length ≤ c1) (h : spec_AddToStage.f k l0 l1 = some r) :
  Calls Try.prog 134 #[.slice A0 l0.length c0, .slice A1 l1.length c1] w fun e w' => ∃ v0_ : Value, e = .returned (v0_) ∧ Kd.R (Kd.int .i64) 3 w' w.heap.size (fun _ => True) v0_ r ∧ Below w.heap.size w w' := by
 have HR0 := Aside0.mk hr0
 have HC0 := Aside0.mk hc0
 clear hr0 hc0
 have HR1 := Aside0.mk hr1
 have HC1 := Aside0.mk hc1
 clear hr1 hc1
 have HB := Aside0.mk (Below.refl w.heap.size w)
 have H : ((some (([] : List Int) : List Int)).bind fun y389 => (if y389.length + l1.length < 17592186044416 then (spec_AddToStage.l0 k l0 l1 (y389 ++ l1) 0) else (none))) = some r := h
 clear h
 obtain ⟨y389, hy389⟩ : ∃ y_ : List Int, y_ = (([] : List Int)) := ⟨_, rfl⟩
 replace H : (if y389.length + l1.length < 17592186044416 then (spec_AddToStage.l0 k l0 l1 (y389 ++ l1) 0) else (none)) = some r := by first | (rw [hy389]; with_reducible exact H) | (have H2_ := (Option.bind_some _ _).symm.trans H; rw [hy389]; with_reducible exact H2_) | (have H2_ := (Option.bind_some _ _).symm.trans H; with_reducible exact H2_) | with_reducible exact H | (rw [hy389]; exact H) | exact H
 have Ny389 := Aside0.mk hy389
 clear hy389
 have c3 : y389.length + l1.length < 17592186044416 := ifN H
 replace H := ifT H
 have LMc3 := Aside0.mk c3
 clear c3
 obtain ⟨y392, hy392⟩ : ∃ y_ : List Int, y_ = (y389 ++ l1) := ⟨_, rfl⟩
 replace H : (spec_AddToStage.l0 k l0 l1 y392 0) = some r := by first | (rw [hy392]; with_reducible exact H) | (have H2_ := (Option.bind_some _ _).symm.trans H; rw [hy392]; with_reducible exact H2_) | (have H2_ := (Option.bind_some _ _).symm.trans H; with_reducible exact H2_) | with_reducible exact H | (rw [hy392]; exact H) | exact H
 have Ny392 := Aside0.mk hy392
 clear hy392
 have H' := Aside0.mk H
 clear H
 go_enter Try.func134, Try.ntmps134
 go_wp2_with (first | ((with_reducible refine gate_dst (N := 8) rfl ?_); refine Kd.R_lit (Kd.int .i64) _ 3 ?hg (N := 8) ?hd (xs := ([] : List Int)) (inner := []) (ok := fun _ => True) (okp := fun _ => True) ?hr ?hp (fun _ hk => hk) trivial (Below.refl _ _) (Nat.le_refl _) (by simp) ?_; (case hd => rfl); (case hg => rfl); (case hr => first | (go_simp; done) | (go_simp; rfl)); (case hp => exact (Reps.none _ _)); intro v390 w4 ho5 hb hg_ hnew_; clear hg_ hnew_; (first | rw [← Ny389.out] at ho5 | (simp only [Int.reduceToNat] at ho5; rw [← Ny389.out] at ho5)); have HO391 := Aside0.mk (Kd.R_lower ho5 (below_size bA)); replace HB := Aside0.mk (below_step bA hb); clear hb ho5) | ((with_reducible refine gate_builtin (b := .append) (xs := #[.tmp 8, .tmp 9]) rfl ?_); at_builtin; refine Kd.R_append_rows (Kd.int .i64) (w0 := w) w.heap.size rfl (.tmp 8) (.tmp 9) 35 3 (.int .i64 0) 8 rfl Try.underlying35 info3 rfl (by decide) (by omega) v390 y389 l1 _ _ _ (fun _ => True) (fun _ => False) rfl rfl ?aO ?aR (fun _ _ h => h) (fun _ h => h.elim) ?aF ?aB ?aS ?aL ?_; (case aR => repeat (first | exact (Kd.C_below HR1.out HB.out) | (with_reducible refine Kd.C_alloc ?_ _) | (with_reducible refine Kd.C_drewN ?_ _) | (with_reducible refine Kd.C_drew ?_))); (case aB => exact bA); (case aF => exact (fun _ _ => trivial)); (case aO => exact (rK HO391)); (case aS => exact (below_size bA)); (case aL => have := LMc3.out; omega); intro v393 w6 ho hb hg hat; rw [← Ny392.out] at ho; have n0_ := Aside0.mk (hb); have n1_ := Aside0.mk (ho); clear HB; clear HO391; have HB := n0_; have HO394 := n1_; clear n0_ n1_; clear ho hb hg hat))
 go_loopg [5, 6] k (fun kq v5 v6 w' => ∃ (x5_1 : List Int) (x6_1 : Int), v6 = .int .i64 x6_1 ∧ Aside0 (spec_AddToStage.l0 kq l0 l1 x5_1 x6_1 = some r) ∧ Aside0 (kq ≤ k) ∧ Aside0 (Kd.R (Kd.int .i64) 3 w' w.heap.size (fun _ => True) v5 x5_1) ∧ Aside0 (Below w.heap.size w w'))
 case atStart => exact ⟨(y392), (0), rS, H', ⟨Nat.le_refl _⟩, ⟨rK HO394⟩, ⟨bA⟩⟩
 case round =>
  clear H'
  try clear c1
  try clear p2
  try clear c3
  obtain ⟨x5_1, x6_1, rfl, HA, HK1, HO_5, HB⟩ := hrel
  cases gk with
  | zero => exact absurd HA.out (by simp [spec_AddToStage.l0])
  | succ k1 =>
   have H := HA.out
   clear HA
   simp only [spec_AddToStage.l0] at H
   have HC7 := Aside0.mk H
   clear H
   go_upto_region 3 with (fail)
   go_cut [19] (fun v19 wc => ∃ (kq : Nat) (x19_6 : Bool), v19 = .bool x19_6 ∧ Aside0 (spec_AddToStage.j1 kq l0 l1 x5_1 x6_1 x19_6 = some r) ∧ Aside0 (kq ≤ k1) ∧ Aside0 (Kd.R (Kd.int .i64) 3 wc w.heap.size (fun _ => True) u5 x5_1) ∧ Aside0 (Below w.heap.size w wc))
   case first =>
    have H := HC7.out
    clear HC7
    by_cases c8 : x6_1 < (l0.length : Int)
    ·
     rw [if_pos c8] at H
     have c8b0 := decide_eq_true c8
     clear c8
     (first | rw [c8b0] | (simp only [i64_w, i32_w]; rw [c8b0]) | skip)
     obtain ⟨t395, A9, H⟩ := bindE H
     try dsimp only at H
     have H' := Aside0.mk H
     clear H
     go_wp2_with (first | (go_at_call 112; (with_reducible refine (spec_IsTogether.calls k1 _ _ l0 _ _ l1 t395 _ ?side1 ?side2 ?side3 ?side4 A9.out).mono ?_); (case side1 => exact cB HR0); (case side2 => exact HC0.out); (case side3 => exact cB HR1); (case side4 => exact HC1.out); rintro e w10 ⟨rfl, hb⟩; replace HO_5 := Aside0.mk (Kd.R_below (rK HO_5) hb); replace HB := Aside0.mk (below_step bA hb); (try clear hb)))
     go_meet
     case rel => exact ⟨_, (t395), rS, H', ⟨by have := HK1.out; first | omega | exact Nat.le_refl _⟩, ⟨rK HO_5⟩, ⟨bA⟩⟩
    ·
     rw [if_neg c8] at H
     have c8b0 := decide_eq_false c8
     clear c8
     (first | rw [c8b0] | (simp only [i64_w, i32_w]; rw [c8b0]) | skip)
     have H' := Aside0.mk H
     clear H
     go_wp2
     go_meet
     case rel => exact ⟨_, (false), rS, H', ⟨by have := HK1.out; first | omega | exact Nat.le_refl _⟩, ⟨rK HO_5⟩, ⟨bA⟩⟩
   case rest =>
    clear HC7
    try clear c1
    try clear p2
    try clear c3
    try clear c8
    try clear c8b0
    try clear p2
    obtain ⟨kq, x19_6, rfl, HA, HJ6, HO_5, HB⟩ := hcut
    cases kq with
    | zero => exact absurd HA.out (by simp [spec_AddToStage.j1])
    | succ kj6 =>
     have H := HA.out
     clear HA
     simp only [spec_AddToStage.j1] at H
     by_cases c11 : x19_6 = true
     ·
      subst c11
      have H1 : (if 0 ≤ x6_1 then (if x6_1 < (l0.length : Int) then ((spec_l6Put.f kj6 x5_1 ((rd_T50 l0 x6_1).f0)).bind fun t397 => ((spec_IsTogether.f kj6 l0 t397).bind fun t400 => (if t400 = true then (spec_AddToStage.l0 kj6 l0 l1 t397 (wrap64 (x6_1 + 1))) else (spec_AddToStage.l0 kj6 l0 l1 x5_1 (wrap64 (x6_1 + 1)))))) else (none)) else (none)) = some r := by rw [if_pos rfl] at H; exact H
      clear H
      have H := H1
      clear H1
      have c12 : 0 ≤ x6_1 := ifN H
      replace H := ifT H
      have c12b0 := decide_eq_true c12
      clear c12
      have c13 : x6_1 < (l0.length : Int) := ifN H
      replace H := ifT H
      have c13b0 := decide_eq_true c13
      clear c13
      obtain ⟨t397, A14, H⟩ := bindE H
      try dsimp only at H
      obtain ⟨t400, A15, H⟩ := bindE H
      try dsimp only at H
      by_cases c16 : t400 = true
      ·
       subst c16
       have H1 : (spec_AddToStage.l0 kj6 l0 l1 t397 (wrap64 (x6_1 + 1))) = some r := by rw [if_pos rfl] at H; exact H
       clear H
       have H := H1
       clear H1
       have H' := Aside0.mk H
       clear H
       have p396 : 0 ≤ (x6_1 : Int) := dA
       have q396 : x6_1 < (l0.length : Int) := dA
       obtain ⟨ad396, e396, hx396_0, hx396_1, hx396_2, hx396_3⟩ := at_T50 HR0.out x6_1 p396 q396
       cases e396
       replace hx396_0 := hC HB hx396_0
       replace hx396_1 := hC HB hx396_1
       replace hx396_2 := hC HB hx396_2
       replace hx396_3 := hC HB hx396_3
       replace p396 := eq_true p396
       replace q396 := eq_true q396
       obtain ⟨Ao17, co17, eo17⟩ := Kd.R_slice HO_5.out
       subst eo17
       go_wp2_with (first | ((with_reducible refine gate_callee (f := 135) rfl ?_); refine gL (some 28) Try.func135 #[.slice Ao17 x5_1.length co17, .int .i64 ((rd_T50 l0 x6_1).f0)] ?_; (with_reducible refine (spec_l6Put.calls kj6 _ _ x5_1 ((rd_T50 l0 x6_1).f0) t397 _ ?side1 ?side2 A14.out).mono ?_); (case side1 => exact cO ⟨(Kd.R_reads' HO_5.out).2.2⟩); (case side2 => exact (Kd.R_reads' HO_5.out).2.1); rintro e w18 ⟨v398, rfl, ho0, hb⟩; refine ⟨_, rfl, ?_⟩; have HO399 := Aside0.mk (Kd.R_lower (Kd.R_new' ho0 (Kd.R_lt (rK HO_5))) (below_size bA)); replace HO_5 := Aside0.mk (Kd.R_elder' (rK HO_5) (Kd.R_base ho0) hb); replace HB := Aside0.mk (below_step bA hb); (try clear hb); (try clear ho0); obtain ⟨Ao19, co19, eo19⟩ := Kd.R_slice HO399.out; subst eo19) | ((with_reducible refine gate_callee (f := 112) rfl ?_); refine gL (some 31) Try.func112 #[.slice (some ad396) l0.length c0, .slice Ao19 t397.length co19] ?_; (with_reducible refine (spec_IsTogether.calls kj6 _ _ l0 _ _ t397 true _ ?side1 ?side2 ?side3 ?side4 A15.out).mono ?_); (case side1 => exact cB HR0); (case side2 => exact HC0.out); (case side3 => exact cO ⟨(Kd.R_reads' HO399.out).2.2⟩); (case side4 => exact (Kd.R_reads' HO399.out).2.1); rintro e w20 ⟨rfl, hb⟩; refine ⟨_, rfl, ?_⟩; replace HO_5 := Aside0.mk (Kd.R_below (rK HO_5) hb); replace HO399 := Aside0.mk (Kd.R_below (rK HO399) hb); replace HB := Aside0.mk (below_step bA hb); (try clear hb)))
       go_roundg kj6
       case measure => have := HK1.out; have := HJ6.out; omega
       case rel => exact ⟨(t397), (wrap64 (x6_1 + 1)), rS, H', ⟨by have := HK1.out; have := HJ6.out; omega⟩, ⟨by (with_reducible repeat (first | apply Kd.R_alloc | apply Kd.R_drewN | apply Kd.R_drew)); exact Kd.R_mono HO399.out (fun _ hk => trivial)⟩, ⟨bA⟩⟩
      ·
       replace c16 := Bool.eq_false_iff.mpr c16
       subst c16
       have H1 : (spec_AddToStage.l0 kj6 l0 l1 x5_1 (wrap64 (x6_1 + 1))) = some r := by rw [if_neg (show ¬ (false = true) by decide)] at H; exact H
       clear H
       have H := H1
       clear H1
       have H' := Aside0.mk H
       clear H
       have p396 : 0 ≤ (x6_1 : Int) := dA
       have q396 : x6_1 < (l0.length : Int) := dA
       obtain ⟨ad396, e396, hx396_0, hx396_1, hx396_2, hx396_3⟩ := at_T50 HR0.out x6_1 p396 q396
       cases e396
       replace hx396_0 := hC HB hx396_0
       replace hx396_1 := hC HB hx396_1
       replace hx396_2 := hC HB hx396_2
       replace hx396_3 := hC HB hx396_3
       replace p396 := eq_true p396
       replace q396 := eq_true q396
       obtain ⟨Ao21, co21, eo21⟩ := Kd.R_slice HO_5.out
       subst eo21
       go_wp2_with (first | ((with_reducible refine gate_callee (f := 135) rfl ?_); refine gL (some 28) Try.func135 #[.slice Ao21 x5_1.length co21, .int .i64 ((rd_T50 l0 x6_1).f0)] ?_; (with_reducible refine (spec_l6Put.calls kj6 _ _ x5_1 ((rd_T50 l0 x6_1).f0) t397 _ ?side1 ?side2 A14.out).mono ?_); (case side1 => exact cO ⟨(Kd.R_reads' HO_5.out).2.2⟩); (case side2 => exact (Kd.R_reads' HO_5.out).2.1); rintro e w22 ⟨v398, rfl, ho0, hb⟩; refine ⟨_, rfl, ?_⟩; have HO399 := Aside0.mk (Kd.R_lower (Kd.R_new' ho0 (Kd.R_lt (rK HO_5))) (below_size bA)); replace HO_5 := Aside0.mk (Kd.R_elder' (rK HO_5) (Kd.R_base ho0) hb); replace HB := Aside0.mk (below_step bA hb); (try clear hb); (try clear ho0); obtain ⟨Ao23, co23, eo23⟩ := Kd.R_slice HO399.out; subst eo23) | ((with_reducible refine gate_callee (f := 112) rfl ?_); refine gL (some 31) Try.func112 #[.slice (some ad396) l0.length c0, .slice Ao23 t397.length co23] ?_; (with_reducible refine (spec_IsTogether.calls kj6 _ _ l0 _ _ t397 false _ ?side1 ?side2 ?side3 ?side4 A15.out).mono ?_); (case side1 => exact cB HR0); (case side2 => exact HC0.out); (case side3 => exact cO ⟨(Kd.R_reads' HO399.out).2.2⟩); (case side4 => exact (Kd.R_reads' HO399.out).2.1); rintro e w24 ⟨rfl, hb⟩; refine ⟨_, rfl, ?_⟩; replace HO_5 := Aside0.mk (Kd.R_below (rK HO_5) hb); replace HO399 := Aside0.mk (Kd.R_below (rK HO399) hb); replace HB := Aside0.mk (below_step bA hb); (try clear hb)))
       go_roundg kj6
       case measure => have := HK1.out; have := HJ6.out; omega
       case rel => exact ⟨(x5_1), (wrap64 (x6_1 + 1)), rS, H', ⟨by have := HK1.out; have := HJ6.out; omega⟩, ⟨by (with_reducible repeat (first | apply Kd.R_alloc | apply Kd.R_drewN | apply Kd.R_drew)); exact Kd.R_mono HO_5.out (fun _ hk => trivial)⟩, ⟨bA⟩⟩
     ·
      replace c11 := Bool.eq_false_iff.mpr c11
      subst c11
      have H1 : (some x5_1) = some r := by rw [if_neg (show ¬ (false = true) by decide)] at H; exact H
      clear H
      have H := H1
      clear H1
      obtain rfl := Option.some.inj H
      go_wp2
      go_ret
      exact ⟨_, by first | rfl | (simp [errW_none, errW_some] <;> rfl) | (simp [*, errW_none, errW_some] <;> rfl), by (with_reducible repeat (first | apply Kd.R_alloc | apply Kd.R_drewN | apply Kd.R_drew)); exact HO_5.out, bA⟩

/-! ### spec_CoverOf: function 89 -/
mutual
def spec_CoverOf.l0 : Nat → List (S50) → List (List Int) → List Int → Int → Option ((List (List Int)))
 | 0, _, _, _, _ => none
 | k + 1, x0, x3, x4, x5 => if x5 < (x0.length : Int) then ((spec_ArePaths.f k x0).bind fun t407 => (spec_CoverOf.j1 k x0 x3 x4 x5 t407)) else (spec_CoverOf.j1 k x0 x3 x4 x5 false)
def spec_CoverOf.j1 : Nat → List (S50) → List (List Int) → List Int → Int → Bool → Option ((List (List Int)))
 | 0, _, _, _, _, _ => none
 | k + 1, x0, x3, x4, x5, x17 => if x17 = true then (if 0 ≤ x5 then (if x5 < (x0.length : Int) then ((spec_l6Has.f k x4 ((rd_T50 x0 x5).f0)).bind fun t409 => (if t409 = true then (spec_CoverOf.l0 k x0 x3 x4 (wrap64 (x5 + 1))) else ((spec_AddToStage.f k x0 (([(rd_T50 x0 x5).f0] : List Int))).bind fun t414 => (if x3.length < 5864062014805 then (spec_CoverOf.l1 k x0 (x3 ++ [t414]) x4 x5 t414 0) else (none))))) else (none)) else (none)) else (some x3)
def spec_CoverOf.l1 : Nat → List (S50) → List (List Int) → List Int → Int → List Int → Int → Option ((List (List Int)))
 | 0, _, _, _, _, _, _ => none
 | k + 1, x0, x3, x4, x5, x6, x7 => if x7 < (x6.length : Int) then (if 0 ≤ x7 then ((spec_l6Put.f k x4 (rd x6 x7)).bind fun t421 => (spec_CoverOf.l1 k x0 x3 t421 x5 x6 (wrap64 (x7 + 1)))) else (none)) else (spec_CoverOf.l0 k x0 x3 x4 (wrap64 (x5 + 1)))
end
def spec_CoverOf.f (k : Nat) (l0 : List (S50)) : Option ((List (List Int))) := spec_CoverOf.l0 k l0 (([] : List (List Int))) (([] : List Int)) 0
theorem spec_CoverOf.mono_l : ∀ k, (∀ y0 y1 y2 y3, LeO (spec_CoverOf.l0 k y0 y1 y2 y3) (spec_CoverOf.l0 (k + 1) y0 y1 y2 y3)) ∧ (∀ y0 y1 y2 y3 y4, LeO (spec_CoverOf.j1 k y0 y1 y2 y3 y4) (spec_CoverOf.j1 (k + 1) y0 y1 y2 y3 y4)) ∧ (∀ y0 y1 y2 y3 y4 y5, LeO (spec_CoverOf.l1 k y0 y1 y2 y3 y4 y5) (spec_CoverOf.l1 (k + 1) y0 y1 y2 y3 y4 y5))
 | 0 => ⟨fun _ _ _ _ r h => by simp [spec_CoverOf.l0] at h, fun _ _ _ _ _ r h => by simp [spec_CoverOf.j1] at h, fun _ _ _ _ _ _ r h => by simp [spec_CoverOf.l1] at h⟩
 | k + 1 => by
  obtain ⟨ih0, ih1, ih2⟩ := spec_CoverOf.mono_l k
  refine ⟨?_, ?_, ?_⟩
  ·
   intro y0 y1 y2 y3
   unfold spec_CoverOf.l0
   repeat' first | (with_reducible first | exact LeO.refl _ | exact LeO.none _ | refine LeO.ite ?_ ?_ | refine LeO.bind ?_ (fun _ => ?_) | exact ih0 _ _ _ _ | exact ih1 _ _ _ _ _ | exact ih2 _ _ _ _ _ _ | exact spec_AddToStage.mono _ _ _ | exact spec_ArePaths.mono _ _ | exact spec_l6Has.mono _ _ _ | exact spec_l6Put.mono _ _ _)
  ·
   intro y0 y1 y2 y3 y4
   unfold spec_CoverOf.j1
   repeat' first | (with_reducible first | exact LeO.refl _ | exact LeO.none _ | refine LeO.ite ?_ ?_ | refine LeO.bind ?_ (fun _ => ?_) | exact ih0 _ _ _ _ | exact ih1 _ _ _ _ _ | exact ih2 _ _ _ _ _ _ | exact spec_AddToStage.mono _ _ _ | exact spec_ArePaths.mono _ _ | exact spec_l6Has.mono _ _ _ | exact spec_l6Put.mono _ _ _)
  ·
   intro y0 y1 y2 y3 y4 y5
   unfold spec_CoverOf.l1
   repeat' first | (with_reducible first | exact LeO.refl _ | exact LeO.none _ | refine LeO.ite ?_ ?_ | refine LeO.bind ?_ (fun _ => ?_) | exact ih0 _ _ _ _ | exact ih1 _ _ _ _ _ | exact ih2 _ _ _ _ _ _ | exact spec_AddToStage.mono _ _ _ | exact spec_ArePaths.mono _ _ | exact spec_l6Has.mono _ _ _ | exact spec_l6Put.mono _ _ _)
theorem spec_CoverOf.mono : ∀ a0 k, LeO (spec_CoverOf.f k a0) (spec_CoverOf.f (k + 1) a0) := by
 intro a0 k
 obtain ⟨ih0, ih1, ih2⟩ := spec_CoverOf.mono_l k
 unfold spec_CoverOf.f
 repeat' first | (with_reducible first | exact LeO.refl _ | exact LeO.none _ | refine LeO.ite ?_ ?_ | refine LeO.bind ?_ (fun _ => ?_) | exact ih0 _ _ _ _ | exact ih1 _ _ _ _ _ | exact ih2 _ _ _ _ _ _ | exact spec_AddToStage.mono _ _ _ | exact spec_ArePaths.mono _ _ | exact spec_l6Has.mono _ _ _ | exact spec_l6Put.mono _ _ _)
set_option maxHeartbeats 8000000 in
set_option maxRecDepth 100000 in
theorem spec_CoverOf.calls (k : Nat) (A0 : Option Addr) (c0 : Nat) (l0 : List (S50)) (r : List (List Int)) (w : World) (hr0 : Kd.C k50 w A0 l0.length l0) (hc0 : l0.length ≤ c0) (h : spec_CoverOf.f k l0 = some r) :
  Calls Try.prog 89 #[.slice A0 l0.length c0] w fun e w' => ∃ v0_ : Value, e = .returned (v0_) ∧ Kd.S (Kd.slice 3 (Kd.int .i64)) 35 w' w.heap.size (fun _ => True) v0_ r ∧ Below w.heap.size w w' := by
 have HR0 := Aside0.mk hr0
 have HC0 := Aside0.mk hc0
 clear hr0 hc0
 have HB := Aside0.mk (Below.refl w.heap.size w)
 have H : (spec_CoverOf.l0 k l0 (([] : List (List Int))) (([] : List Int)) 0) = some r := h
 clear h
 obtain ⟨y401, hy401⟩ : ∃ y_ : List (List Int), y_ = (([] : List (List Int))) := ⟨_, rfl⟩
 replace H : (spec_CoverOf.l0 k l0 y401 (([] : List Int)) 0) = some r := by first | (rw [hy401]; with_reducible exact H) | (have H2_ := (Option.bind_some _ _).symm.trans H; rw [hy401]; with_reducible exact H2_) | (have H2_ := (Option.bind_some _ _).symm.trans H; with_reducible exact H2_) | with_reducible exact H | (rw [hy401]; exact H) | exact H
 have Ny401 := Aside0.mk hy401
 clear hy401
 obtain ⟨y404, hy404⟩ : ∃ y_ : List Int, y_ = (([] : List Int)) := ⟨_, rfl⟩
 replace H : (spec_CoverOf.l0 k l0 y401 y404 0) = some r := by first | (rw [hy404]; with_reducible exact H) | (have H2_ := (Option.bind_some _ _).symm.trans H; rw [hy404]; with_reducible exact H2_) | (have H2_ := (Option.bind_some _ _).symm.trans H; with_reducible exact H2_) | with_reducible exact H | (rw [hy404]; exact H) | exact H
 have Ny404 := Aside0.mk hy404
 clear hy404
 have H' := Aside0.mk H
 clear H
 go_enter Try.func89, Try.ntmps89
 go_wp2_with (first | ((with_reducible refine gate_dst (N := 8) rfl ?_); refine Kd.S_lit (Kd.slice 3 (Kd.int .i64)) _ 35 ?hg (N := 8) ?hd (xs := ([] : List (List Int))) (inner := []) (ok := fun _ => True) (okp := fun _ => True) ?hr ?hp (fun _ hk => hk) trivial (Below.refl _ _) (Nat.le_refl _) (by simp) ?_; (case hd => rfl); (case hg => rfl); (case hr => first | (go_simp; done) | (go_simp; rfl)); (case hp => exact (Reps.none _ _)); intro v402 w2 ho3 hb hg_ hnew_; clear hg_ hnew_; (first | rw [← Ny401.out] at ho3 | (simp only [Int.reduceToNat] at ho3; rw [← Ny401.out] at ho3)); have HO403 := Aside0.mk (Kd.S_lower ho3 (below_size bA)); replace HB := Aside0.mk (below_step bA hb); clear hb ho3) | ((with_reducible refine gate_dst (N := 9) rfl ?_); refine Kd.R_lit (Kd.int .i64) _ 3 ?hg (N := 9) ?hd (xs := ([] : List Int)) (inner := []) (ok := fun _ => True) (okp := fun _ => True) ?hr ?hp (fun _ hk => hk) trivial (Below.refl _ _) (Nat.le_refl _) (by simp) ?_; (case hd => rfl); (case hg => rfl); (case hr => first | (go_simp; done) | (go_simp; rfl)); (case hp => exact (Reps.none _ _)); intro v405 w4 ho5 hb hg_ hnew_; clear hg_ hnew_; (first | rw [← Ny404.out] at ho5 | (simp only [Int.reduceToNat] at ho5; rw [← Ny404.out] at ho5)); replace HO403 := Aside0.mk (Kd.S_elder' (sK HO403) (Kd.R_base ho5) hb); have HO406 := Aside0.mk (Kd.R_lower ho5 (below_size bA)); replace HB := Aside0.mk (below_step bA hb); clear hb ho5))
 go_loopg [3, 4, 5] k (fun kq v3 v4 v5 w' => ∃ (x3_1 : List (List Int)) (x4_1 : List Int) (x5_1 : Int), v5 = .int .i64 x5_1 ∧ Aside0 (spec_CoverOf.l0 kq l0 x3_1 x4_1 x5_1 = some r) ∧ Aside0 (kq ≤ k) ∧ Aside0 (Kd.S (Kd.slice 3 (Kd.int .i64)) 35 w' w.heap.size (fun k_ => some k_ ≠ (v4 : Value).ownBlock) v3 x3_1) ∧ Aside0 (Kd.R (Kd.int .i64) 3 w' w.heap.size (fun _ => True) v4 x4_1) ∧ Aside0 (Below w.heap.size w w'))
 case atStart => exact ⟨(y401), (y404), (0), rS, H', ⟨Nat.le_refl _⟩, ⟨by (with_reducible repeat (first | apply Kd.S_alloc | apply Kd.S_drewN | apply Kd.S_drew)); exact Kd.S_mono HO403.out (fun _ hk => hk.2)⟩, ⟨rK HO406⟩, ⟨bA⟩⟩
 case round =>
  clear H'
  try clear p2
  obtain ⟨x3_1, x4_1, x5_1, rfl, HA, HK1, HO_3, HO_4, HB⟩ := hrel
  cases gk with
  | zero => exact absurd HA.out (by simp [spec_CoverOf.l0])
  | succ k1 =>
   have H := HA.out
   clear HA
   simp only [spec_CoverOf.l0] at H
   have HC6 := Aside0.mk H
   clear H
   go_upto_region 4 with (fail)
   go_cut [17] (fun v17 wc => ∃ (kq : Nat) (x17_5 : Bool), v17 = .bool x17_5 ∧ Aside0 (spec_CoverOf.j1 kq l0 x3_1 x4_1 x5_1 x17_5 = some r) ∧ Aside0 (kq ≤ k1) ∧ Aside0 (Kd.S (Kd.slice 3 (Kd.int .i64)) 35 wc w.heap.size (fun k_ => some k_ ≠ (u4 : Value).ownBlock) u3 x3_1) ∧ Aside0 (Kd.R (Kd.int .i64) 3 wc w.heap.size (fun _ => True) u4 x4_1) ∧ Aside0 (Below w.heap.size w wc))
   case first =>
    have H := HC6.out
    clear HC6
    by_cases c7 : x5_1 < (l0.length : Int)
    ·
     rw [if_pos c7] at H
     have c7b0 := decide_eq_true c7
     clear c7
     (first | rw [c7b0] | (simp only [i64_w, i32_w]; rw [c7b0]) | skip)
     obtain ⟨t407, A8, H⟩ := bindE H
     try dsimp only at H
     have H' := Aside0.mk H
     clear H
     go_wp2_with (first | (go_at_call 33; (with_reducible refine (spec_ArePaths.calls k1 _ _ l0 t407 _ ?side1 ?side2 A8.out).mono ?_); (case side1 => exact cB HR0); (case side2 => exact HC0.out); rintro e w9 ⟨rfl, hb⟩; replace HO_3 := Aside0.mk (Kd.S_below (sK HO_3) hb); replace HO_4 := Aside0.mk (Kd.R_below (rK HO_4) hb); replace HB := Aside0.mk (below_step bA hb); (try clear hb)))
     go_meet
     case rel => exact ⟨_, (t407), rS, H', ⟨by have := HK1.out; first | omega | exact Nat.le_refl _⟩, ⟨sK HO_3⟩, ⟨rK HO_4⟩, ⟨bA⟩⟩
    ·
     rw [if_neg c7] at H
     have c7b0 := decide_eq_false c7
     clear c7
     (first | rw [c7b0] | (simp only [i64_w, i32_w]; rw [c7b0]) | skip)
     have H' := Aside0.mk H
     clear H
     go_wp2
     go_meet
     case rel => exact ⟨_, (false), rS, H', ⟨by have := HK1.out; first | omega | exact Nat.le_refl _⟩, ⟨sK HO_3⟩, ⟨rK HO_4⟩, ⟨bA⟩⟩
   case rest =>
    clear HC6
    try clear p2
    try clear c7
    try clear c7b0
    try clear c8
    try clear p2
    obtain ⟨kq, x17_5, rfl, HA, HJ5, HO_3, HO_4, HB⟩ := hcut
    cases kq with
    | zero => exact absurd HA.out (by simp [spec_CoverOf.j1])
    | succ kj5 =>
     have H := HA.out
     clear HA
     simp only [spec_CoverOf.j1] at H
     by_cases c10 : x17_5 = true
     ·
      subst c10
      have H1 : (if 0 ≤ x5_1 then (if x5_1 < (l0.length : Int) then ((spec_l6Has.f kj5 x4_1 ((rd_T50 l0 x5_1).f0)).bind fun t409 => (if t409 = true then (spec_CoverOf.l0 kj5 l0 x3_1 x4_1 (wrap64 (x5_1 + 1))) else ((spec_AddToStage.f kj5 l0 (([(rd_T50 l0 x5_1).f0] : List Int))).bind fun t414 => (if x3_1.length < 5864062014805 then (spec_CoverOf.l1 kj5 l0 (x3_1 ++ [t414]) x4_1 x5_1 t414 0) else (none))))) else (none)) else (none)) = some r := by rw [if_pos rfl] at H; exact H
      clear H
      have H := H1
      clear H1
      have c11 : 0 ≤ x5_1 := ifN H
      replace H := ifT H
      have c11b0 := decide_eq_true c11
      clear c11
      have c12 : x5_1 < (l0.length : Int) := ifN H
      replace H := ifT H
      have c12b0 := decide_eq_true c12
      clear c12
      obtain ⟨t409, A13, H⟩ := bindE H
      try dsimp only at H
      by_cases c14 : t409 = true
      ·
       subst c14
       have H1 : (spec_CoverOf.l0 kj5 l0 x3_1 x4_1 (wrap64 (x5_1 + 1))) = some r := by rw [if_pos rfl] at H; exact H
       clear H
       have H := H1
       clear H1
       have H' := Aside0.mk H
       clear H
       have p408 : 0 ≤ (x5_1 : Int) := dA
       have q408 : x5_1 < (l0.length : Int) := dA
       obtain ⟨ad408, e408, hx408_0, hx408_1, hx408_2, hx408_3⟩ := at_T50 HR0.out x5_1 p408 q408
       cases e408
       replace hx408_0 := hC HB hx408_0
       replace hx408_1 := hC HB hx408_1
       replace hx408_2 := hC HB hx408_2
       replace hx408_3 := hC HB hx408_3
       replace p408 := eq_true p408
       replace q408 := eq_true q408
       obtain ⟨Ao15, co15, eo15⟩ := Kd.R_slice HO_4.out
       subst eo15
       go_wp2_with (first | ((with_reducible refine gate_callee (f := 133) rfl ?_); refine gL (some 26) Try.func133 #[.slice Ao15 x4_1.length co15, .int .i64 ((rd_T50 l0 x5_1).f0)] ?_; (with_reducible refine (spec_l6Has.calls kj5 _ _ x4_1 ((rd_T50 l0 x5_1).f0) true _ ?side1 ?side2 A13.out).mono ?_); (case side1 => exact cO ⟨(Kd.R_reads' HO_4.out).2.2⟩); (case side2 => exact (Kd.R_reads' HO_4.out).2.1); rintro e w' ⟨rfl, ⟨nd, rfl⟩⟩; refine ⟨_, rfl, ?_⟩))
       go_roundg kj5
       case measure => have := HK1.out; have := HJ5.out; omega
       case rel => exact ⟨(x3_1), (x4_1), (wrap64 (x5_1 + 1)), rS, H', ⟨by have := HK1.out; have := HJ5.out; omega⟩, ⟨sK HO_3⟩, ⟨rK HO_4⟩, ⟨bA⟩⟩
      ·
       replace c14 := Bool.eq_false_iff.mpr c14
       subst c14
       have H1 : ((spec_AddToStage.f kj5 l0 (([(rd_T50 l0 x5_1).f0] : List Int))).bind fun t414 => (if x3_1.length < 5864062014805 then (spec_CoverOf.l1 kj5 l0 (x3_1 ++ [t414]) x4_1 x5_1 t414 0) else (none))) = some r := by rw [if_neg (show ¬ (false = true) by decide)] at H; exact H
       clear H
       have H := H1
       clear H1
       obtain ⟨y411, hy411⟩ : ∃ y_ : List Int, y_ = (([(rd_T50 l0 x5_1).f0] : List Int)) := ⟨_, rfl⟩
       replace H : ((spec_AddToStage.f kj5 l0 y411).bind fun t414 => (if x3_1.length < 5864062014805 then (spec_CoverOf.l1 kj5 l0 (x3_1 ++ [t414]) x4_1 x5_1 t414 0) else (none))) = some r := by first | (rw [hy411]; with_reducible exact H) | (have H2_ := (Option.bind_some _ _).symm.trans H; rw [hy411]; with_reducible exact H2_) | (have H2_ := (Option.bind_some _ _).symm.trans H; with_reducible exact H2_) | with_reducible exact H | (rw [hy411]; exact H) | exact H
       have Ny411 := Aside0.mk hy411
       clear hy411
       obtain ⟨t414, A16, H⟩ := bindE H
       try dsimp only at H
       have c17 : x3_1.length < 5864062014805 := ifN H
       replace H := ifT H
       have LMc17 := Aside0.mk c17
       clear c17
       obtain ⟨y417, hy417⟩ : ∃ y_ : List (List Int), y_ = (x3_1 ++ [t414]) := ⟨_, rfl⟩
       replace H : (spec_CoverOf.l1 kj5 l0 y417 x4_1 x5_1 t414 0) = some r := by first | (rw [hy417]; with_reducible exact H) | (have H2_ := (Option.bind_some _ _).symm.trans H; rw [hy417]; with_reducible exact H2_) | (have H2_ := (Option.bind_some _ _).symm.trans H; with_reducible exact H2_) | with_reducible exact H | (rw [hy417]; exact H) | exact H
       have Ny417 := Aside0.mk hy417
       clear hy417
       have H' := Aside0.mk H
       clear H
       have p408 : 0 ≤ (x5_1 : Int) := dA
       have q408 : x5_1 < (l0.length : Int) := dA
       obtain ⟨ad408, e408, hx408_0, hx408_1, hx408_2, hx408_3⟩ := at_T50 HR0.out x5_1 p408 q408
       cases e408
       replace hx408_0 := hC HB hx408_0
       replace hx408_1 := hC HB hx408_1
       replace hx408_2 := hC HB hx408_2
       replace hx408_3 := hC HB hx408_3
       replace p408 := eq_true p408
       replace q408 := eq_true q408
       obtain ⟨Ao18, co18, eo18⟩ := Kd.R_slice HO_4.out
       subst eo18
       go_wp2_with (first | ((with_reducible refine gate_callee (f := 133) rfl ?_); refine gL (some 26) Try.func133 #[.slice Ao18 x4_1.length co18, .int .i64 ((rd_T50 l0 x5_1).f0)] ?_; (with_reducible refine (spec_l6Has.calls kj5 _ _ x4_1 ((rd_T50 l0 x5_1).f0) false _ ?side1 ?side2 A13.out).mono ?_); (case side1 => exact cO ⟨(Kd.R_reads' HO_4.out).2.2⟩); (case side2 => exact (Kd.R_reads' HO_4.out).2.1); rintro e w' ⟨rfl, ⟨nd, rfl⟩⟩; refine ⟨_, rfl, ?_⟩; have p410 : 0 ≤ (x5_1 : Int) := dA; have q410 : x5_1 < (l0.length : Int) := dA; obtain ⟨ad410, e410, hx410_0, hx410_1, hx410_2, hx410_3⟩ := at_T50 HR0.out x5_1 p410 q410; obtain rfl : ad408 = ad410 := (by injection e410); replace hx410_0 := hC HB hx410_0; replace hx410_1 := hC HB hx410_1; replace hx410_2 := hC HB hx410_2; replace hx410_3 := hC HB hx410_3; replace p410 := eq_true p410; replace q410 := eq_true q410) | ((with_reducible refine gate_dst (N := 33) rfl ?_); refine Kd.R_lit (Kd.int .i64) _ 3 ?hg (N := 33) ?hd (xs := ([(rd_T50 l0 x5_1).f0] : List Int)) (inner := [.int .i64 ((rd_T50 l0 x5_1).f0)]) (ok := fun _ => True) (okp := fun _ => True) ?hr ?hp (fun _ hk => hk) trivial (Below.refl _ _) (Nat.le_refl _) (by simp) ?_; (case hd => rfl); (case hg => rfl); (case hr => first | (go_simp; done) | (go_simp; rfl)); (case hp => exact (Reps.one (show Kd.M (Kd.int .i64) _ _ _ ((rd_T50 l0 x5_1).f0) [.int .i64 ((rd_T50 l0 x5_1).f0)] from rfl) (Reps.none _ _))); intro v412 w19 ho20 hb hg_ hnew_; clear hg_ hnew_; (first | rw [← Ny411.out] at ho20 | (simp only [Int.reduceToNat] at ho20; rw [← Ny411.out] at ho20)); replace HO_3 := Aside0.mk (Kd.S_elder' (sK HO_3) (Kd.R_base ho20) hb); have HO413 := Aside0.mk (Kd.R_lower (Kd.R_new' ho20 (Kd.R_lt (rK HO_4))) (below_size bA)); replace HO_4 := Aside0.mk (Kd.R_elder' (rK HO_4) (Kd.R_base ho20) hb); replace HB := Aside0.mk (below_step bA hb); clear hb ho20; obtain ⟨Ao21, co21, eo21⟩ := Kd.R_slice HO413.out; subst eo21) | ((with_reducible refine gate_callee (f := 134) rfl ?_); refine gL (some 34) Try.func134 #[.slice (some ad408) l0.length c0, .slice Ao21 y411.length co21] ?_; (with_reducible refine (spec_AddToStage.calls kj5 _ _ l0 _ _ y411 t414 _ ?side1 ?side2 ?side3 ?side4 A16.out).mono ?_); (case side1 => exact cB HR0); (case side2 => exact HC0.out); (case side3 => exact cO ⟨(Kd.R_reads' HO413.out).2.2⟩); (case side4 => exact (Kd.R_reads' HO413.out).2.1); rintro e w22 ⟨v415, rfl, ho0, hb⟩; refine ⟨_, rfl, ?_⟩; replace HO_3 := Aside0.mk (Kd.S_elder' (sK HO_3) (Kd.R_base ho0) hb); have HO416 := Aside0.mk (Kd.R_lower (Kd.R_new' (Kd.R_new' ho0 (Kd.R_lt (rK HO_4))) (Kd.R_lt (rK HO413))) (below_size bA)); replace HO_4 := Aside0.mk (Kd.R_elder' (rK HO_4) (Kd.R_base ho0) hb); replace HO413 := Aside0.mk (Kd.R_elder' (rK HO413) (Kd.R_base ho0) hb); replace HB := Aside0.mk (below_step bA hb); (try clear hb); (try clear ho0); obtain ⟨Ao24, co24, eo24⟩ := Kd.R_slice HO416.out; subst eo24) | ((with_reducible refine gate_builtin (b := .append) (xs := #[.tmp 35, .tmp 37]) rfl ?_); at_builtin; refine Kd.S_append (Kd.slice 3 (Kd.int .i64)) (w0 := w) w.heap.size rfl (.tmp 35) (.tmp 37) 103 35 (.slice none 0 0) 24 rfl Try.underlying103 info35 rfl (by decide) (by omega) u3 x3_1 t414 [.slice Ao24 t414.length co24] (fun k_ => some k_ ≠ (.slice Ao18 x4_1.length co18 : Value).ownBlock ∧ some k_ ≠ (.slice Ao21 y411.length co21 : Value).ownBlock) (fun k_ => some k_ = (.slice Ao24 t414.length co24 : Value).ownBlock) rfl rfl ?aP (fun k_ hk_ => ((Kd.R_mono (ok' := fun k_ => ((fun k_ => some k_ ≠ (.slice Ao18 x4_1.length co18 : Value).ownBlock ∧ some k_ ≠ (.slice Ao21 y411.length co21 : Value).ownBlock)) k_ ∧ some k_ ≠ (u3 : Value).ownBlock) (Kd.R_apart' (HO416.out) (Kd.S_typed HO_3.out) (by decide)) (fun k_ hk => ⟨⟨hk.1.1.2, hk.1.2⟩, hk.2⟩))).1 k_ hk_.symm) ?aF ?aO ?aB ?aS ?aL ?_; (case aP => exact Kd.M_row (Kd.R_mono (Kd.R_tight rfl (Kd.R_mono (ok' := fun k_ => ((fun k_ => some k_ ≠ (.slice Ao18 x4_1.length co18 : Value).ownBlock ∧ some k_ ≠ (.slice Ao21 y411.length co21 : Value).ownBlock)) k_ ∧ some k_ ≠ (u3 : Value).ownBlock) (Kd.R_apart' (HO416.out) (Kd.S_typed HO_3.out) (by decide)) (fun k_ hk => ⟨⟨hk.1.1.2, hk.1.2⟩, hk.2⟩))) (fun _ h_ => h_))); (case aB => exact bA); (case aF => exact (fun k_ hk => ⟨Kd.fresh' (Kd.R_lt (rK HO_4)) k_ hk, Kd.fresh' (Kd.R_lt (rK HO413)) k_ hk⟩)); (case aO => exact (by (with_reducible repeat (first | apply Kd.S_alloc | apply Kd.S_drewN | apply Kd.S_drew)); exact Kd.S_mono HO_3.out (fun k_ hk => ⟨⟨hk.1.1, hk.1.2⟩, fun e_ => hk.2 e_⟩))); (case aS => exact (below_size bA)); (case aL => have := LMc17.out; omega); intro v418 w23 ho hb hg hat; rw [← Ny417.out] at ho; have n0_ := Aside0.mk (Kd.R_over' (rK HO_4) (Kd.S_typed (sK HO_3)) (by decide) hg); have n1_ := Aside0.mk (Kd.R_over' (rK HO413) (Kd.S_typed (sK HO_3)) (by decide) hg); have n2_ := Aside0.mk (Kd.R_over' (rK HO416) (Kd.S_typed (sK HO_3)) (by decide) hg); have n3_ := Aside0.mk (hb); have n4_ := Aside0.mk (ho); clear HO_4; clear HO413; clear HO416; clear HB; clear HO_3; have HO_4 := n0_; have HO413 := n1_; have HO416 := n2_; have HB := n3_; have HO419 := n4_; clear n0_ n1_ n2_ n3_ n4_; clear ho hb hg hat))
       go_loopg [4, 7] kj5 (fun kq v4 v7 w' => ∃ (x4_3 : List Int) (x7_3 : Int), v7 = .int .i64 x7_3 ∧ Aside0 (spec_CoverOf.l1 kq l0 y417 x4_3 x5_1 t414 x7_3 = some r) ∧ Aside0 (kq ≤ kj5) ∧ Aside0 (Kd.S (Kd.slice 3 (Kd.int .i64)) 35 w' w.heap.size (fun k_ => some k_ ≠ (v4 : Value).ownBlock) v418 y417) ∧ Aside0 (Kd.R (Kd.int .i64) 3 w' w.heap.size (fun k_ => some k_ ≠ ((.slice Ao24 t414.length co24) : Value).ownBlock) v4 x4_3) ∧ Aside0 (Kd.R (Kd.int .i64) 3 w' w.heap.size (fun k_ => some k_ ≠ (v4 : Value).ownBlock) (.slice Ao24 t414.length co24) t414) ∧ Aside0 (Below w.heap.size w w'))
       case atStart => exact ⟨(x4_1), (0), rS, H', ⟨Nat.le_refl _⟩, ⟨by (with_reducible repeat (first | apply Kd.S_alloc | apply Kd.S_drewN | apply Kd.S_drew)); exact Kd.S_mono HO419.out (fun _ hk => hk.1)⟩, ⟨by (with_reducible repeat (first | apply Kd.R_alloc | apply Kd.R_drewN | apply Kd.R_drew)); exact Kd.R_mono HO_4.out (fun _ hk => hk.2)⟩, ⟨by (with_reducible repeat (first | apply Kd.R_alloc | apply Kd.R_drewN | apply Kd.R_drew)); exact Kd.R_mono HO416.out (fun _ hk => hk.1.2)⟩, ⟨bA⟩⟩
       case round =>
        clear H'
        try clear c1
        try clear p2
        try clear p4
        try clear q4
        try clear hx4
        try clear p6
        try clear c7
        try clear c7b0
        try clear c8
        try clear c10
        try clear c11
        try clear c11b0
        try clear c12
        try clear c12b0
        try clear c13
        try clear c14
        try clear c17
        try clear hx408_0
        try clear hx408_1
        try clear hx408_2
        try clear hx408_3
        try clear hx410_0
        try clear hx410_1
        try clear hx410_2
        try clear hx410_3
        try clear p2
        try clear p408
        try clear p410
        try clear q408
        try clear q410
        obtain ⟨x4_3, x7_3, rfl, HA, HK3, HO_3, HO_4, HO_6, HB⟩ := hrel
        cases gk with
        | zero => exact absurd HA.out (by simp [spec_CoverOf.l1])
        | succ k3 =>
         have H := HA.out
         clear HA
         simp only [spec_CoverOf.l1] at H
         by_cases c25 : x7_3 < (t414.length : Int)
         ·
          rw [if_pos c25] at H
          have c25b0 := decide_eq_true c25
          clear c25
          have c26 : 0 ≤ x7_3 := ifN H
          replace H := ifT H
          have c26b0 := decide_eq_true c26
          clear c26
          obtain ⟨t421, A27, H⟩ := bindE H
          try dsimp only at H
          have H' := Aside0.mk H
          clear H
          have p420 : 0 ≤ (x7_3 : Int) := dA
          have q420 : x7_3 < (t414.length : Int) := dA
          obtain ⟨ad420, e420, hx420_0⟩ := Kd.at_int (Kd.R_reads' HO_6.out).2.2 x7_3 p420 q420
          cases e420
          replace p420 := eq_true p420
          replace q420 := eq_true q420
          obtain ⟨Ao28, co28, eo28⟩ := Kd.R_slice HO_4.out
          subst eo28
          go_wp2_with (first | ((with_reducible refine gate_callee (f := 135) rfl ?_); refine gL (some 50) Try.func135 #[.slice Ao28 x4_3.length co28, .int .i64 (rd t414 x7_3)] ?_; (with_reducible refine (spec_l6Put.calls k3 _ _ x4_3 (rd t414 x7_3) t421 _ ?side1 ?side2 A27.out).mono ?_); (case side1 => exact cO ⟨(Kd.R_reads' HO_4.out).2.2⟩); (case side2 => exact (Kd.R_reads' HO_4.out).2.1); rintro e w29 ⟨v422, rfl, ho0, hb⟩; refine ⟨_, rfl, ?_⟩; replace HO_3 := Aside0.mk (Kd.S_elder' (sK HO_3) (Kd.R_base ho0) hb); have HO423 := Aside0.mk (Kd.R_lower (Kd.R_new' (Kd.R_new' ho0 (Kd.R_lt (rK HO_4))) (Kd.R_lt (rK HO_6))) (below_size bA)); replace HO_4 := Aside0.mk (Kd.R_elder' (rK HO_4) (Kd.R_base ho0) hb); replace HO_6 := Aside0.mk (Kd.R_elder' (rK HO_6) (Kd.R_base ho0) hb); replace HB := Aside0.mk (below_step bA hb); (try clear hb); (try clear ho0)))
          go_roundg k3
          case measure => have := HK1.out; have := HJ5.out; have := HK3.out; omega
          case rel => exact ⟨(t421), (wrap64 (x7_3 + 1)), rS, H', ⟨by have := HK1.out; have := HJ5.out; have := HK3.out; omega⟩, ⟨by (with_reducible repeat (first | apply Kd.S_alloc | apply Kd.S_drewN | apply Kd.S_drew)); exact Kd.S_mono HO_3.out (fun _ hk => hk.2)⟩, ⟨by (with_reducible repeat (first | apply Kd.R_alloc | apply Kd.R_drewN | apply Kd.R_drew)); exact Kd.R_mono HO423.out (fun _ hk => hk.2)⟩, ⟨by (with_reducible repeat (first | apply Kd.R_alloc | apply Kd.R_drewN | apply Kd.R_drew)); exact Kd.R_mono HO_6.out (fun _ hk => hk.2)⟩, ⟨bA⟩⟩
         ·
          rw [if_neg c25] at H
          have c25b0 := decide_eq_false c25
          clear c25
          have H' := Aside0.mk H
          clear H
          go_wp2
          go_roundg k3
          case measure => have := HK1.out; have := HJ5.out; have := HK3.out; omega
          case rel => exact ⟨(y417), (x4_3), (wrap64 (x5_1 + 1)), rS, H', ⟨by have := HK1.out; have := HJ5.out; have := HK3.out; omega⟩, ⟨sK HO_3⟩, ⟨by (with_reducible repeat (first | apply Kd.R_alloc | apply Kd.R_drewN | apply Kd.R_drew)); exact Kd.R_mono HO_4.out (fun _ hk => trivial)⟩, ⟨bA⟩⟩
     ·
      replace c10 := Bool.eq_false_iff.mpr c10
      subst c10
      have H1 : (some x3_1) = some r := by rw [if_neg (show ¬ (false = true) by decide)] at H; exact H
      clear H
      have H := H1
      clear H1
      obtain rfl := Option.some.inj H
      go_wp2
      go_ret
      exact ⟨_, by first | rfl | (simp [errW_none, errW_some] <;> rfl) | (simp [*, errW_none, errW_some] <;> rfl), by (with_reducible repeat (first | apply Kd.S_alloc | apply Kd.S_drewN | apply Kd.S_drew)); exact Kd.S_mono HO_3.out (fun _ hk => trivial), bA⟩

/-! ### spec_DrawStageDemand: function 30 -/
def spec_DrawStageDemand.f (k : Nat) (l0 : List Int) : Option ((List (S120)) × List Int) := (spec_DrawAreDetectors.f k l0).bind fun bt424 => ((spec_CoverOf.f k bt424.1).bind fun t430 => (if (t430.length : Int) = 0 then (some (bt424.2, (([1, 3] : List Int)))) else (if 0 < (t430.length : Int) then (some (bt424.2, rd_L7 t430 0)) else (none))))
theorem spec_DrawStageDemand.mono : ∀ a0 k, LeO (spec_DrawStageDemand.f k a0) (spec_DrawStageDemand.f (k + 1) a0) := by
 intro a0 k
 unfold spec_DrawStageDemand.f
 repeat' first | (with_reducible first | exact LeO.refl _ | exact LeO.none _ | refine LeO.ite ?_ ?_ | refine LeO.bind ?_ (fun _ => ?_) | exact spec_CoverOf.mono _ _ | exact spec_DrawAreDetectors.mono _ _)
set_option maxHeartbeats 8000000 in
set_option maxRecDepth 100000 in
theorem spec_DrawStageDemand.calls (k : Nat) (A0 : Option Addr) (c0 : Nat) (l0 : List Int) (r1 : List (S120)) (r2 : List Int) (w : World) (hr0 : Kd.C (Kd.int .u8) w A0 l0.length l0) (hc0 : l0.length ≤ c0) (h : spec_DrawStageDemand.f k l0 = some (r1, r2)) :
  Calls Try.prog 30 #[.slice A0 l0.length c0] w fun e w' => ∃ v0_ v1_ : Value, e = .returned (.tuple #[v0_, v1_]) ∧ Kd.R k120 120 w' w.heap.size (fun _ => True) v0_ r1 ∧ Kd.R (Kd.int .i64) 3 w' w.heap.size (fun _ => True) v1_ r2 ∧ Below w.heap.size w w' := by
 have HR0 := Aside0.mk hr0
 have HC0 := Aside0.mk hc0
 clear hr0 hc0
 have HB := Aside0.mk (Below.refl w.heap.size w)
 have H : ((spec_DrawAreDetectors.f k l0).bind fun bt424 => ((spec_CoverOf.f k bt424.1).bind fun t430 => (if (t430.length : Int) = 0 then (some (bt424.2, (([1, 3] : List Int)))) else (if 0 < (t430.length : Int) then (some (bt424.2, rd_L7 t430 0)) else (none))))) = some (r1, r2) := h
 clear h
 obtain ⟨⟨t424, t425⟩, A2, H⟩ := bindE H
 try dsimp only at H
 obtain ⟨t430, A3, H⟩ := bindE H
 try dsimp only at H
 by_cases c4 : (t430.length : Int) = 0
 ·
  rw [if_pos c4] at H
  have c4b0 : ((t430.length : Int) == 0) = true := beq_iff_eq.mpr c4
  have c4b1 : ((t430.length : Int) != 0) = false := bne_eq_false_iff_eq.mpr c4
  clear c4
  obtain ⟨y433, hy433⟩ : ∃ y_ : List Int, y_ = (([1, 3] : List Int)) := ⟨_, rfl⟩
  replace H : (some (t425, y433)) = some (r1, r2) := by first | (rw [hy433]; with_reducible exact H) | (have H2_ := (Option.bind_some _ _).symm.trans H; rw [hy433]; with_reducible exact H2_) | (have H2_ := (Option.bind_some _ _).symm.trans H; with_reducible exact H2_) | with_reducible exact H | (rw [hy433]; exact H) | exact H
  have Ny433 := Aside0.mk hy433
  clear hy433
  simp only [Option.some.injEq, Prod.mk.injEq] at H
  obtain ⟨rfl, rfl⟩ := H
  go_enter Try.func30, Try.ntmps30
  go_wp2_with (first | (go_at_call 24; (with_reducible refine (spec_DrawAreDetectors.calls k _ _ l0 t424 t425 _ ?side1 ?side2 A2.out).mono ?_); (case side1 => exact cO HR0); (case side2 => exact HC0.out); rintro e w5 ⟨v426, v428, rfl, ho0, ho1, hb⟩; have HO427 := Aside0.mk (Kd.R_lower ho0 (below_size bA)); have HO429 := Aside0.mk (Kd.R_lower ho1 (below_size bA)); replace HB := Aside0.mk (below_step bA hb); (try clear hb); (try clear ho0); (try clear ho1); obtain ⟨Ao6, co6, eo6⟩ := Kd.R_slice HO427.out; subst eo6) | (go_at_call 89; (with_reducible refine (spec_CoverOf.calls k _ _ t424 t430 _ ?side1 ?side2 A3.out).mono ?_); (case side1 => exact cO ⟨(Kd.R_reads' HO427.out).2.2⟩); (case side2 => exact (Kd.R_reads' HO427.out).2.1); rintro e w7 ⟨v431, rfl, ho0, hb⟩; replace HO427 := Aside0.mk (Kd.R_below (rK HO427) hb); replace HO429 := Aside0.mk (Kd.R_below (rK HO429) hb); have HO432 := Aside0.mk (Kd.S_lower ho0 (below_size bA)); replace HB := Aside0.mk (below_step bA hb); (try clear hb); (try clear ho0); obtain ⟨Ao8, co8, eo8⟩ := Kd.S_slice HO432.out; subst eo8) | ((with_reducible refine gate_dst (N := 18) rfl ?_); refine Kd.R_lit (Kd.int .i64) _ 3 ?hg (N := 18) ?hd (xs := ([1, 3] : List Int)) (inner := [.int .i64 1, .int .i64 3]) (ok := fun _ => True) (okp := fun _ => True) ?hr ?hp (fun _ hk => hk) trivial (Below.refl _ _) (Nat.le_refl _) (by simp) ?_; (case hd => rfl); (case hg => rfl); (case hr => first | (go_simp; done) | (go_simp; rfl)); (case hp => exact (Reps.one (show Kd.M (Kd.int .i64) _ _ _ 1 [.int .i64 1] from rfl) (Reps.one (show Kd.M (Kd.int .i64) _ _ _ 3 [.int .i64 3] from rfl) (Reps.none _ _)))); intro v434 w9 ho10 hb hg_ hnew_; clear hg_ hnew_; (first | rw [← Ny433.out] at ho10 | (simp only [Int.reduceToNat] at ho10; rw [← Ny433.out] at ho10)); replace HO427 := Aside0.mk (Kd.R_below (rK HO427) hb); replace HO429 := Aside0.mk (Kd.R_below (rK HO429) hb); replace HO432 := Aside0.mk (Kd.S_elder' (sK HO432) (Kd.R_base ho10) hb); have HO435 := Aside0.mk (Kd.R_lower ho10 (below_size bA)); replace HB := Aside0.mk (below_step bA hb); clear hb ho10))
  repeat (go_quiet (first | (go_at_call 24; (with_reducible refine (spec_DrawAreDetectors.calls k _ _ l0 t424 t425 _ ?side1 ?side2 A2.out).mono ?_); (case side1 => exact cO HR0); (case side2 => exact HC0.out); rintro e w5 ⟨v426, v428, rfl, ho0, ho1, hb⟩; have HO427 := Aside0.mk (Kd.R_lower ho0 (below_size bA)); have HO429 := Aside0.mk (Kd.R_lower ho1 (below_size bA)); replace HB := Aside0.mk (below_step bA hb); (try clear hb); (try clear ho0); (try clear ho1); obtain ⟨Ao6, co6, eo6⟩ := Kd.R_slice HO427.out; subst eo6) | (go_at_call 89; (with_reducible refine (spec_CoverOf.calls k _ _ t424 t430 _ ?side1 ?side2 A3.out).mono ?_); (case side1 => exact cO ⟨(Kd.R_reads' HO427.out).2.2⟩); (case side2 => exact (Kd.R_reads' HO427.out).2.1); rintro e w7 ⟨v431, rfl, ho0, hb⟩; replace HO427 := Aside0.mk (Kd.R_below (rK HO427) hb); replace HO429 := Aside0.mk (Kd.R_below (rK HO429) hb); have HO432 := Aside0.mk (Kd.S_lower ho0 (below_size bA)); replace HB := Aside0.mk (below_step bA hb); (try clear hb); (try clear ho0); obtain ⟨Ao8, co8, eo8⟩ := Kd.S_slice HO432.out; subst eo8) | ((with_reducible refine gate_dst (N := 18) rfl ?_); refine Kd.R_lit (Kd.int .i64) _ 3 ?hg (N := 18) ?hd (xs := ([1, 3] : List Int)) (inner := [.int .i64 1, .int .i64 3]) (ok := fun _ => True) (okp := fun _ => True) ?hr ?hp (fun _ hk => hk) trivial (Below.refl _ _) (Nat.le_refl _) (by simp) ?_; (case hd => rfl); (case hg => rfl); (case hr => first | (go_simp; done) | (go_simp; rfl)); (case hp => exact (Reps.one (show Kd.M (Kd.int .i64) _ _ _ 1 [.int .i64 1] from rfl) (Reps.one (show Kd.M (Kd.int .i64) _ _ _ 3 [.int .i64 3] from rfl) (Reps.none _ _)))); intro v434 w9 ho10 hb hg_ hnew_; clear hg_ hnew_; (first | rw [← Ny433.out] at ho10 | (simp only [Int.reduceToNat] at ho10; rw [← Ny433.out] at ho10)); replace HO427 := Aside0.mk (Kd.R_below (rK HO427) hb); replace HO429 := Aside0.mk (Kd.R_below (rK HO429) hb); replace HO432 := Aside0.mk (Kd.S_elder' (sK HO432) (Kd.R_base ho10) hb); have HO435 := Aside0.mk (Kd.R_lower ho10 (below_size bA)); replace HB := Aside0.mk (below_step bA hb); clear hb ho10)); try go_wp2_with (first | (go_at_call 24; (with_reducible refine (spec_DrawAreDetectors.calls k _ _ l0 t424 t425 _ ?side1 ?side2 A2.out).mono ?_); (case side1 => exact cO HR0); (case side2 => exact HC0.out); rintro e w5 ⟨v426, v428, rfl, ho0, ho1, hb⟩; have HO427 := Aside0.mk (Kd.R_lower ho0 (below_size bA)); have HO429 := Aside0.mk (Kd.R_lower ho1 (below_size bA)); replace HB := Aside0.mk (below_step bA hb); (try clear hb); (try clear ho0); (try clear ho1); obtain ⟨Ao6, co6, eo6⟩ := Kd.R_slice HO427.out; subst eo6) | (go_at_call 89; (with_reducible refine (spec_CoverOf.calls k _ _ t424 t430 _ ?side1 ?side2 A3.out).mono ?_); (case side1 => exact cO ⟨(Kd.R_reads' HO427.out).2.2⟩); (case side2 => exact (Kd.R_reads' HO427.out).2.1); rintro e w7 ⟨v431, rfl, ho0, hb⟩; replace HO427 := Aside0.mk (Kd.R_below (rK HO427) hb); replace HO429 := Aside0.mk (Kd.R_below (rK HO429) hb); have HO432 := Aside0.mk (Kd.S_lower ho0 (below_size bA)); replace HB := Aside0.mk (below_step bA hb); (try clear hb); (try clear ho0); obtain ⟨Ao8, co8, eo8⟩ := Kd.S_slice HO432.out; subst eo8) | ((with_reducible refine gate_dst (N := 18) rfl ?_); refine Kd.R_lit (Kd.int .i64) _ 3 ?hg (N := 18) ?hd (xs := ([1, 3] : List Int)) (inner := [.int .i64 1, .int .i64 3]) (ok := fun _ => True) (okp := fun _ => True) ?hr ?hp (fun _ hk => hk) trivial (Below.refl _ _) (Nat.le_refl _) (by simp) ?_; (case hd => rfl); (case hg => rfl); (case hr => first | (go_simp; done) | (go_simp; rfl)); (case hp => exact (Reps.one (show Kd.M (Kd.int .i64) _ _ _ 1 [.int .i64 1] from rfl) (Reps.one (show Kd.M (Kd.int .i64) _ _ _ 3 [.int .i64 3] from rfl) (Reps.none _ _)))); intro v434 w9 ho10 hb hg_ hnew_; clear hg_ hnew_; (first | rw [← Ny433.out] at ho10 | (simp only [Int.reduceToNat] at ho10; rw [← Ny433.out] at ho10)); replace HO427 := Aside0.mk (Kd.R_below (rK HO427) hb); replace HO429 := Aside0.mk (Kd.R_below (rK HO429) hb); replace HO432 := Aside0.mk (Kd.S_elder' (sK HO432) (Kd.R_base ho10) hb); have HO435 := Aside0.mk (Kd.R_lower ho10 (below_size bA)); replace HB := Aside0.mk (below_step bA hb); clear hb ho10)))
  go_ret2
  exact ⟨_, _, by first | rfl | (simp [errW_none, errW_some] <;> rfl) | (simp [*, errW_none, errW_some] <;> rfl), by (with_reducible repeat (first | apply Kd.R_alloc | apply Kd.R_drewN | apply Kd.R_drew)); exact HO429.out, by (with_reducible repeat (first | apply Kd.R_alloc | apply Kd.R_drewN | apply Kd.R_drew)); exact HO435.out, bA⟩
 ·
  rw [if_neg c4] at H
  have c4b0 : ((t430.length : Int) == 0) = false := beq_eq_false_iff_ne.mpr c4
  have c4b1 : ((t430.length : Int) != 0) = true := bne_iff_ne.mpr c4
  have c4b2 : ¬ (t430 = []) := fun h_ => c4 (by rw [h_]; rfl)
  have c11 : 0 < (t430.length : Int) := ifN H
  replace H := ifT H
  have c11b0 := decide_eq_true c11
  have c11b1 : decide (0 < t430.length) = true := decide_eq_true (by omega)
  clear c11
  simp only [Option.some.injEq, Prod.mk.injEq] at H
  obtain ⟨rfl, rfl⟩ := H
  go_enter Try.func30, Try.ntmps30
  go_wp2_with (first | (go_at_call 24; (with_reducible refine (spec_DrawAreDetectors.calls k _ _ l0 t424 t425 _ ?side1 ?side2 A2.out).mono ?_); (case side1 => exact cO HR0); (case side2 => exact HC0.out); rintro e w12 ⟨v426, v428, rfl, ho0, ho1, hb⟩; have HO427 := Aside0.mk (Kd.R_lower ho0 (below_size bA)); have HO429 := Aside0.mk (Kd.R_lower ho1 (below_size bA)); replace HB := Aside0.mk (below_step bA hb); (try clear hb); (try clear ho0); (try clear ho1); obtain ⟨Ao13, co13, eo13⟩ := Kd.R_slice HO427.out; subst eo13) | (go_at_call 89; (with_reducible refine (spec_CoverOf.calls k _ _ t424 t430 _ ?side1 ?side2 A3.out).mono ?_); (case side1 => exact cO ⟨(Kd.R_reads' HO427.out).2.2⟩); (case side2 => exact (Kd.R_reads' HO427.out).2.1); rintro e w14 ⟨v431, rfl, ho0, hb⟩; replace HO427 := Aside0.mk (Kd.R_below (rK HO427) hb); replace HO429 := Aside0.mk (Kd.R_below (rK HO429) hb); have HO432 := Aside0.mk (Kd.S_lower ho0 (below_size bA)); replace HB := Aside0.mk (below_step bA hb); (try clear hb); (try clear ho0); obtain ⟨Ao15, co15, eo15⟩ := Kd.S_slice HO432.out; subst eo15; have p436 : 0 ≤ (0 : Int) := (by omega); have q436 : 0 < (t430.length : Int) := dA; obtain ⟨ad436, A436_0, c436_0, e436, hx436_0, hl436_0, hi436_0⟩ := at_L7 (Kd.S_reads' HO432.out).2.2 0 p436 q436; cases e436; obtain ⟨ce436, hce436, hMe436, hcc436⟩ := Kd.S_get HO432.out [] 0 p436 (by first | exact q436 | exact dA | (have e_ := (Kd.S_reads' HO432.out).1; omega)); obtain ⟨ve436_0, rfl, ge436_0⟩ := hMe436; have hv436_0 := hcc436 0 _ rfl; rw [Nat.add_zero, show ((Kd.slice 3 (Kd.int .i64))).sz = 1 from rfl, Nat.mul_one] at hv436_0; replace hv436_0 := Option.some.inj (hv436_0.symm.trans hx436_0); rw [hv436_0] at ge436_0; have HL436_0 := Aside0.mk (show Kd.R (Kd.int .i64) 3 _ _ _ _ (rd_L7 t430 0) from ge436_0); clear hv436_0 ge436_0; clear hcc436 hce436; have qi436 : (0 < t430.length) = True := eq_true (by omega); (try rw [show ((0 : Int)).toNat = 0 from rfl] at hx436_0); (try rw [Addr.add_zero'] at hx436_0); have HR436_0 := Aside0.mk hi436_0; have HC436_0 := Aside0.mk hl436_0; clear hi436_0 hl436_0; replace p436 := eq_true p436; replace q436 := eq_true q436))
  repeat (go_quiet (first | (go_at_call 24; (with_reducible refine (spec_DrawAreDetectors.calls k _ _ l0 t424 t425 _ ?side1 ?side2 A2.out).mono ?_); (case side1 => exact cO HR0); (case side2 => exact HC0.out); rintro e w12 ⟨v426, v428, rfl, ho0, ho1, hb⟩; have HO427 := Aside0.mk (Kd.R_lower ho0 (below_size bA)); have HO429 := Aside0.mk (Kd.R_lower ho1 (below_size bA)); replace HB := Aside0.mk (below_step bA hb); (try clear hb); (try clear ho0); (try clear ho1); obtain ⟨Ao13, co13, eo13⟩ := Kd.R_slice HO427.out; subst eo13) | (go_at_call 89; (with_reducible refine (spec_CoverOf.calls k _ _ t424 t430 _ ?side1 ?side2 A3.out).mono ?_); (case side1 => exact cO ⟨(Kd.R_reads' HO427.out).2.2⟩); (case side2 => exact (Kd.R_reads' HO427.out).2.1); rintro e w14 ⟨v431, rfl, ho0, hb⟩; replace HO427 := Aside0.mk (Kd.R_below (rK HO427) hb); replace HO429 := Aside0.mk (Kd.R_below (rK HO429) hb); have HO432 := Aside0.mk (Kd.S_lower ho0 (below_size bA)); replace HB := Aside0.mk (below_step bA hb); (try clear hb); (try clear ho0); obtain ⟨Ao15, co15, eo15⟩ := Kd.S_slice HO432.out; subst eo15; have p436 : 0 ≤ (0 : Int) := (by omega); have q436 : 0 < (t430.length : Int) := dA; obtain ⟨ad436, A436_0, c436_0, e436, hx436_0, hl436_0, hi436_0⟩ := at_L7 (Kd.S_reads' HO432.out).2.2 0 p436 q436; cases e436; obtain ⟨ce436, hce436, hMe436, hcc436⟩ := Kd.S_get HO432.out [] 0 p436 (by first | exact q436 | exact dA | (have e_ := (Kd.S_reads' HO432.out).1; omega)); obtain ⟨ve436_0, rfl, ge436_0⟩ := hMe436; have hv436_0 := hcc436 0 _ rfl; rw [Nat.add_zero, show ((Kd.slice 3 (Kd.int .i64))).sz = 1 from rfl, Nat.mul_one] at hv436_0; replace hv436_0 := Option.some.inj (hv436_0.symm.trans hx436_0); rw [hv436_0] at ge436_0; have HL436_0 := Aside0.mk (show Kd.R (Kd.int .i64) 3 _ _ _ _ (rd_L7 t430 0) from ge436_0); clear hv436_0 ge436_0; clear hcc436 hce436; have qi436 : (0 < t430.length) = True := eq_true (by omega); (try rw [show ((0 : Int)).toNat = 0 from rfl] at hx436_0); (try rw [Addr.add_zero'] at hx436_0); have HR436_0 := Aside0.mk hi436_0; have HC436_0 := Aside0.mk hl436_0; clear hi436_0 hl436_0; replace p436 := eq_true p436; replace q436 := eq_true q436)); try go_wp2_with (first | (go_at_call 24; (with_reducible refine (spec_DrawAreDetectors.calls k _ _ l0 t424 t425 _ ?side1 ?side2 A2.out).mono ?_); (case side1 => exact cO HR0); (case side2 => exact HC0.out); rintro e w12 ⟨v426, v428, rfl, ho0, ho1, hb⟩; have HO427 := Aside0.mk (Kd.R_lower ho0 (below_size bA)); have HO429 := Aside0.mk (Kd.R_lower ho1 (below_size bA)); replace HB := Aside0.mk (below_step bA hb); (try clear hb); (try clear ho0); (try clear ho1); obtain ⟨Ao13, co13, eo13⟩ := Kd.R_slice HO427.out; subst eo13) | (go_at_call 89; (with_reducible refine (spec_CoverOf.calls k _ _ t424 t430 _ ?side1 ?side2 A3.out).mono ?_); (case side1 => exact cO ⟨(Kd.R_reads' HO427.out).2.2⟩); (case side2 => exact (Kd.R_reads' HO427.out).2.1); rintro e w14 ⟨v431, rfl, ho0, hb⟩; replace HO427 := Aside0.mk (Kd.R_below (rK HO427) hb); replace HO429 := Aside0.mk (Kd.R_below (rK HO429) hb); have HO432 := Aside0.mk (Kd.S_lower ho0 (below_size bA)); replace HB := Aside0.mk (below_step bA hb); (try clear hb); (try clear ho0); obtain ⟨Ao15, co15, eo15⟩ := Kd.S_slice HO432.out; subst eo15; have p436 : 0 ≤ (0 : Int) := (by omega); have q436 : 0 < (t430.length : Int) := dA; obtain ⟨ad436, A436_0, c436_0, e436, hx436_0, hl436_0, hi436_0⟩ := at_L7 (Kd.S_reads' HO432.out).2.2 0 p436 q436; cases e436; obtain ⟨ce436, hce436, hMe436, hcc436⟩ := Kd.S_get HO432.out [] 0 p436 (by first | exact q436 | exact dA | (have e_ := (Kd.S_reads' HO432.out).1; omega)); obtain ⟨ve436_0, rfl, ge436_0⟩ := hMe436; have hv436_0 := hcc436 0 _ rfl; rw [Nat.add_zero, show ((Kd.slice 3 (Kd.int .i64))).sz = 1 from rfl, Nat.mul_one] at hv436_0; replace hv436_0 := Option.some.inj (hv436_0.symm.trans hx436_0); rw [hv436_0] at ge436_0; have HL436_0 := Aside0.mk (show Kd.R (Kd.int .i64) 3 _ _ _ _ (rd_L7 t430 0) from ge436_0); clear hv436_0 ge436_0; clear hcc436 hce436; have qi436 : (0 < t430.length) = True := eq_true (by omega); (try rw [show ((0 : Int)).toNat = 0 from rfl] at hx436_0); (try rw [Addr.add_zero'] at hx436_0); have HR436_0 := Aside0.mk hi436_0; have HC436_0 := Aside0.mk hl436_0; clear hi436_0 hl436_0; replace p436 := eq_true p436; replace q436 := eq_true q436)))
  go_ret2
  exact ⟨_, _, by first | rfl | (simp [errW_none, errW_some] <;> rfl) | (simp [*, errW_none, errW_some] <;> rfl), by (with_reducible repeat (first | apply Kd.R_alloc | apply Kd.R_drewN | apply Kd.R_drew)); exact HO429.out, by (with_reducible repeat (first | apply Kd.R_alloc | apply Kd.R_drewN | apply Kd.R_drew)); exact Kd.R_mono HL436_0.out (fun _ hk => trivial), bA⟩

/-! ### impl_StageDemand: function 31 -/
def impl_StageDemand.l0 : Nat → List (S120) → Int → List Int → Int → Int → Option (Int)
 | 0, _, _, _, _, _ => none
 | k + 1, x0, x5, x16, x17, x18 => if x18 < x17 then (if 0 ≤ x18 then (if x18 < (x16.length : Int) then ((impl_LowDemand.f x0 (rd x16 x18)).bind fun t440 => (impl_StageDemand.l0 k x0 (mx x5 t440) x16 x17 (wrap64 (x18 + 1)))) else (none)) else (none)) else (some x5)
def impl_StageDemand.f (k : Nat) (l0 : List (S120)) (l1 : List Int) : Option (Int) := if (l1.length : Int) = 0 then (some 0) else (if 0 < (l1.length : Int) then ((impl_LowDemand.f l0 (rd l1 0)).bind fun t438 => (impl_StageDemand.l0 k l0 t438 l1 (l1.length : Int) 0)) else (none))
theorem impl_StageDemand.mono_l : ∀ k, (∀ y0 y1 y2 y3 y4, LeO (impl_StageDemand.l0 k y0 y1 y2 y3 y4) (impl_StageDemand.l0 (k + 1) y0 y1 y2 y3 y4))
 | 0 => fun _ _ _ _ _ r h => by simp [impl_StageDemand.l0] at h
 | k + 1 => by
  have ih0 := impl_StageDemand.mono_l k
  ·
   intro y0 y1 y2 y3 y4
   unfold impl_StageDemand.l0
   repeat' first | (with_reducible first | exact LeO.refl _ | exact LeO.none _ | refine LeO.ite ?_ ?_ | refine LeO.bind ?_ (fun _ => ?_) | exact ih0 _ _ _ _ _)
theorem impl_StageDemand.mono : ∀ a0 a1 k, LeO (impl_StageDemand.f k a0 a1) (impl_StageDemand.f (k + 1) a0 a1) := by
 intro a0 a1 k
 have ih0 := impl_StageDemand.mono_l k
 unfold impl_StageDemand.f
 repeat' first | (with_reducible first | exact LeO.refl _ | exact LeO.none _ | refine LeO.ite ?_ ?_ | refine LeO.bind ?_ (fun _ => ?_) | exact ih0 _ _ _ _ _)
set_option maxHeartbeats 8000000 in
set_option maxRecDepth 100000 in
theorem impl_StageDemand.calls (k : Nat) (A0 : Option Addr) (c0 : Nat) (l0 : List (S120)) (A1 : Option Addr) (c1 : Nat) (l1 : List Int) (r : Int) (w : World) (hr0 : Kd.C k120 w A0 l0.length l0) (hc0 : l0.length ≤ c0) (hr1 : Kd.C (Kd.int .i64) w A1 l1.length l1) (hc1 : l1.length ≤ c1) (h : impl_StageDemand.f k l0 l1 = some r) :
  Calls Try.prog 31 #[.slice A0 l0.length c0, .slice A1 l1.length c1] w fun e w' => e = .returned (.int .i64 r) ∧ Below w.heap.size w w' := by
 have HR0 := Aside0.mk hr0
 have HC0 := Aside0.mk hc0
 clear hr0 hc0
 have HR1 := Aside0.mk hr1
 have HC1 := Aside0.mk hc1
 clear hr1 hc1
 have HB := Aside0.mk (Below.refl w.heap.size w)
 have H : (if (l1.length : Int) = 0 then (some 0) else (if 0 < (l1.length : Int) then ((impl_LowDemand.f l0 (rd l1 0)).bind fun t438 => (impl_StageDemand.l0 k l0 t438 l1 (l1.length : Int) 0)) else (none))) = some r := h
 clear h
 by_cases c3 : (l1.length : Int) = 0
 ·
  rw [if_pos c3] at H
  have c3b0 : ((l1.length : Int) == 0) = true := beq_iff_eq.mpr c3
  have c3b1 : ((l1.length : Int) != 0) = false := bne_eq_false_iff_eq.mpr c3
  clear c3
  obtain rfl := Option.some.inj H
  go_enter Try.func31, Try.ntmps31
  go_wp2
  go_ret
  exact ⟨rA, bA⟩
 ·
  rw [if_neg c3] at H
  have c3b0 : ((l1.length : Int) == 0) = false := beq_eq_false_iff_ne.mpr c3
  have c3b1 : ((l1.length : Int) != 0) = true := bne_iff_ne.mpr c3
  have c3b2 : ¬ (l1 = []) := fun h_ => c3 (by rw [h_]; rfl)
  have c4 : 0 < (l1.length : Int) := ifN H
  replace H := ifT H
  have c4b0 := decide_eq_true c4
  have c4b1 : decide (0 < l1.length) = true := decide_eq_true (by omega)
  clear c4
  obtain ⟨t438, A5, H⟩ := bindE H
  try dsimp only at H
  have H' := Aside0.mk H
  clear H
  have p437 : 0 ≤ (0 : Int) := (by omega)
  have q437 : 0 < (l1.length : Int) := dA
  obtain ⟨ad437, e437, hx437_0⟩ := Kd.at_int HR1.out 0 p437 q437
  cases e437
  have qi437 : (0 < l1.length) = True := eq_true (by omega)
  (try rw [show ((0 : Int)).toNat = 0 from rfl] at hx437_0)
  (try rw [Addr.add_zero'] at hx437_0)
  replace p437 := eq_true p437
  replace q437 := eq_true q437
  go_enter Try.func31, Try.ntmps31
  go_wp2_with (first | ((with_reducible refine gate_callee (f := 27) rfl ?_); refine gL (some 15) Try.func27 #[.slice A0 l0.length c0, .int .i64 (rd l1 0)] ?_; (with_reducible refine (impl_LowDemand.calls _ _ l0 (rd l1 0) t438 _ ?side1 ?side2 A5.out).mono ?_); (case side1 => exact cO HR0); (case side2 => exact HC0.out); rintro e w6 ⟨rfl, hb⟩; refine ⟨_, rfl, ?_⟩; replace HB := Aside0.mk (below_step bA hb); (try clear hb)))
  go_loopg [5, 18] k (fun kq v5 v18 w' => ∃ (x5_1 : Int) (x18_1 : Int), v5 = .int .i64 x5_1 ∧ v18 = .int .i64 x18_1 ∧ Aside0 (impl_StageDemand.l0 kq l0 x5_1 l1 (l1.length : Int) x18_1 = some r) ∧ Aside0 (kq ≤ k) ∧ Aside0 (Below w.heap.size w w'))
  case atStart => exact ⟨(t438), (0), rS, rS, H', ⟨Nat.le_refl _⟩, ⟨bA⟩⟩
  case round =>
   clear H'
   try clear c1
   try clear c2
   try clear p2
   try clear c3
   try clear c3b0
   try clear c3b1
   try clear c3b2
   try clear c4
   try clear c4b0
   try clear c4b1
   try clear p4
   try clear q4
   try clear hx4
   try clear qi4
   try clear hx437_0
   try clear p437
   try clear q437
   obtain ⟨x5_1, x18_1, rfl, rfl, HA, HK1, HB⟩ := hrel
   cases gk with
   | zero => exact absurd HA.out (by simp [impl_StageDemand.l0])
   | succ k1 =>
    have H := HA.out
    clear HA
    simp only [impl_StageDemand.l0] at H
    by_cases c7 : x18_1 < (l1.length : Int)
    ·
     rw [if_pos c7] at H
     have c7b0 := decide_eq_true c7
     clear c7
     have c8 : 0 ≤ x18_1 := ifN H
     replace H := ifT H
     have c8b0 := decide_eq_true c8
     clear c8
     have c9 : x18_1 < (l1.length : Int) := ifN H
     replace H := ifT H
     have c9b0 := decide_eq_true c9
     clear c9
     obtain ⟨t440, A10, H⟩ := bindE H
     try dsimp only at H
     obtain ⟨ji11, hji11⟩ : ∃ j_ : Int, (mx x5_1 t440) = j_ := ⟨_, rfl⟩
     replace H : (impl_StageDemand.l0 k1 l0 ji11 l1 (l1.length : Int) (wrap64 (x18_1 + 1))) = some r := by first | (rw [hji11] at H; exact H) | (simp only [hji11] at H ⊢; exact H)
     (try rw [hji11] at A10)
     have hji11_ : (if x5_1 < t440 then t440 else x5_1) = ji11 := hji11
     have H' := Aside0.mk H
     clear H
     have p439 : 0 ≤ (x18_1 : Int) := dA
     have q439 : x18_1 < (l1.length : Int) := dA
     obtain ⟨ad439, e439, hx439_0⟩ := Kd.at_int HR1.out x18_1 p439 q439
     obtain rfl : ad437 = ad439 := (by injection e439)
     replace hx439_0 := hC HB hx439_0
     replace p439 := eq_true p439
     replace q439 := eq_true q439
     go_wp2_with (first | ((with_reducible refine gate_callee (f := 27) rfl ?_); refine gL (some 25) Try.func27 #[.slice A0 l0.length c0, .int .i64 (rd l1 x18_1)] ?_; (with_reducible refine (impl_LowDemand.calls _ _ l0 (rd l1 x18_1) t440 _ ?side1 ?side2 A10.out).mono ?_); (case side1 => exact cB HR0); (case side2 => exact HC0.out); rintro e w12 ⟨rfl, hb⟩; refine ⟨_, rfl, ?_⟩; replace HB := Aside0.mk (below_step bA hb); (try clear hb)))
     go_roundg k1
     case measure => have := HK1.out; omega
     case rel => exact ⟨(ji11), (wrap64 (x18_1 + 1)), (by first | rfl | (simp; done) | (simp only [← hji11] <;> (first | rfl | simp)) | (simp [*]; done)), rS, H', ⟨by have := HK1.out; omega⟩, ⟨bA⟩⟩
    ·
     rw [if_neg c7] at H
     have c7b0 := decide_eq_false c7
     clear c7
     obtain rfl := Option.some.inj H
     go_wp2
     go_ret
     exact ⟨rA, bA⟩

/-! ### laws_FnDemand: function 4 -/
mutual
def laws_FnDemand.l0 : Nat → List Int → List (S50) → List (S120) → List Int → Int → Option (Bool)
 | 0, _, _, _, _, _ => none
 | k + 1, x0, x3, x4, x5, x6 => if x6 < (x3.length : Int) then ((impl_AreDetectors.f k x3 x4).bind fun t451 => (laws_FnDemand.j1 k x0 x3 x4 x5 x6 t451)) else (laws_FnDemand.j1 k x0 x3 x4 x5 x6 false)
def laws_FnDemand.j1 : Nat → List Int → List (S50) → List (S120) → List Int → Int → Bool → Option (Bool)
 | 0, _, _, _, _, _, _ => none
 | k + 1, x0, x3, x4, x5, x6, x31 => if x31 = true then (if 0 ≤ x6 then (if x6 < (x3.length : Int) then ((impl_LowDemand.f x4 ((rd_T50 x3 x6).f0)).bind fun t453 => ((impl_HighDemand.f x4 ((rd_T50 x3 x6).f0)).bind fun t455 => (if t453 > t455 then (none) else ((laws_contains.f k x5 ((rd_T50 x3 x6).f0)).bind fun t457 => (if t457 = true then (if t453 = 0 then (if t455 = 1000 then ((laws_contains.f k x5 ((rd_T50 x3 x6).f0)).bind fun t459 => (if t459 = true then (laws_FnDemand.l0 k x0 x3 x4 x5 (wrap64 (x6 + 1))) else (if t453 = t455 then (laws_FnDemand.l0 k x0 x3 x4 x5 (wrap64 (x6 + 1))) else (none)))) else (none)) else (none)) else ((laws_contains.f k x5 ((rd_T50 x3 x6).f0)).bind fun t461 => (if t461 = true then (laws_FnDemand.l0 k x0 x3 x4 x5 (wrap64 (x6 + 1))) else (if t453 = t455 then (laws_FnDemand.l0 k x0 x3 x4 x5 (wrap64 (x6 + 1))) else (none))))))))) else (none)) else (none)) else ((spec_DrawStageDemand.f k x0).bind fun bt462 => ((impl_StageDemand.f k bt462.1 bt462.2).bind fun t468 => (laws_FnDemand.l1 k x3 x5 bt462.1 bt462.2 t468 0)))
def laws_FnDemand.l1 : Nat → List (S50) → List Int → List (S120) → List Int → Int → Int → Option (Bool)
 | 0, _, _, _, _, _, _ => none
 | k + 1, x3, x5, x9, x10, x11, x12 => if x12 < (x10.length : Int) then (if 0 ≤ x12 then ((impl_LowDemand.f x9 (rd x10 x12)).bind fun t470 => (if t470 > x11 then (none) else (laws_FnDemand.l1 k x3 x5 x9 x10 x11 (wrap64 (x12 + 1))))) else (none)) else ((impl_ArePaths.f k x3).bind fun t471 => ((spec_ArePaths.f k x3).bind fun t472 => (if (t471 != t472) = true then (none) else ((impl_ArePaths.f k x3).bind fun t473 => (if t473 = true then ((laws_ascends.f k x5).bind fun t474 => (some t474)) else (some true))))))
end
def laws_FnDemand.f (k : Nat) (l0 : List Int) : Option (Bool) := (laws_big.f l0).bind fun t441 => (if t441 = true then (some true) else ((spec_DrawAreDetectors.f k l0).bind fun bt442 => ((impl_BlindPaths.f k bt442.1 bt442.2).bind fun t448 => (laws_FnDemand.l0 k l0 bt442.1 bt442.2 t448 0))))
theorem laws_FnDemand.mono_l : ∀ k, (∀ y0 y1 y2 y3 y4, LeO (laws_FnDemand.l0 k y0 y1 y2 y3 y4) (laws_FnDemand.l0 (k + 1) y0 y1 y2 y3 y4)) ∧ (∀ y0 y1 y2 y3 y4 y5, LeO (laws_FnDemand.j1 k y0 y1 y2 y3 y4 y5) (laws_FnDemand.j1 (k + 1) y0 y1 y2 y3 y4 y5)) ∧ (∀ y0 y1 y2 y3 y4 y5, LeO (laws_FnDemand.l1 k y0 y1 y2 y3 y4 y5) (laws_FnDemand.l1 (k + 1) y0 y1 y2 y3 y4 y5))
 | 0 => ⟨fun _ _ _ _ _ r h => by simp [laws_FnDemand.l0] at h, fun _ _ _ _ _ _ r h => by simp [laws_FnDemand.j1] at h, fun _ _ _ _ _ _ r h => by simp [laws_FnDemand.l1] at h⟩
 | k + 1 => by
  obtain ⟨ih0, ih1, ih2⟩ := laws_FnDemand.mono_l k
  refine ⟨?_, ?_, ?_⟩
  ·
   intro y0 y1 y2 y3 y4
   unfold laws_FnDemand.l0
   repeat' first | (with_reducible first | exact LeO.refl _ | exact LeO.none _ | refine LeO.ite ?_ ?_ | refine LeO.bind ?_ (fun _ => ?_) | exact ih0 _ _ _ _ _ | exact ih1 _ _ _ _ _ _ | exact ih2 _ _ _ _ _ _ | exact impl_AreDetectors.mono _ _ _ | exact impl_ArePaths.mono _ _ | exact impl_BlindPaths.mono _ _ _ | exact impl_StageDemand.mono _ _ _ | exact laws_ascends.mono _ _ | exact laws_contains.mono _ _ _ | exact spec_ArePaths.mono _ _ | exact spec_DrawAreDetectors.mono _ _ | exact spec_DrawStageDemand.mono _ _)
  ·
   intro y0 y1 y2 y3 y4 y5
   unfold laws_FnDemand.j1
   repeat' first | (with_reducible first | exact LeO.refl _ | exact LeO.none _ | refine LeO.ite ?_ ?_ | refine LeO.bind ?_ (fun _ => ?_) | exact ih0 _ _ _ _ _ | exact ih1 _ _ _ _ _ _ | exact ih2 _ _ _ _ _ _ | exact impl_AreDetectors.mono _ _ _ | exact impl_ArePaths.mono _ _ | exact impl_BlindPaths.mono _ _ _ | exact impl_StageDemand.mono _ _ _ | exact laws_ascends.mono _ _ | exact laws_contains.mono _ _ _ | exact spec_ArePaths.mono _ _ | exact spec_DrawAreDetectors.mono _ _ | exact spec_DrawStageDemand.mono _ _)
  ·
   intro y0 y1 y2 y3 y4 y5
   unfold laws_FnDemand.l1
   repeat' first | (with_reducible first | exact LeO.refl _ | exact LeO.none _ | refine LeO.ite ?_ ?_ | refine LeO.bind ?_ (fun _ => ?_) | exact ih0 _ _ _ _ _ | exact ih1 _ _ _ _ _ _ | exact ih2 _ _ _ _ _ _ | exact impl_AreDetectors.mono _ _ _ | exact impl_ArePaths.mono _ _ | exact impl_BlindPaths.mono _ _ _ | exact impl_StageDemand.mono _ _ _ | exact laws_ascends.mono _ _ | exact laws_contains.mono _ _ _ | exact spec_ArePaths.mono _ _ | exact spec_DrawAreDetectors.mono _ _ | exact spec_DrawStageDemand.mono _ _)
theorem laws_FnDemand.mono : ∀ a0 k, LeO (laws_FnDemand.f k a0) (laws_FnDemand.f (k + 1) a0) := by
 intro a0 k
 obtain ⟨ih0, ih1, ih2⟩ := laws_FnDemand.mono_l k
 unfold laws_FnDemand.f
 repeat' first | (with_reducible first | exact LeO.refl _ | exact LeO.none _ | refine LeO.ite ?_ ?_ | refine LeO.bind ?_ (fun _ => ?_) | exact ih0 _ _ _ _ _ | exact ih1 _ _ _ _ _ _ | exact ih2 _ _ _ _ _ _ | exact impl_AreDetectors.mono _ _ _ | exact impl_ArePaths.mono _ _ | exact impl_BlindPaths.mono _ _ _ | exact impl_StageDemand.mono _ _ _ | exact laws_ascends.mono _ _ | exact laws_contains.mono _ _ _ | exact spec_ArePaths.mono _ _ | exact spec_DrawAreDetectors.mono _ _ | exact spec_DrawStageDemand.mono _ _)
set_option maxHeartbeats 8000000 in
set_option maxRecDepth 100000 in
theorem laws_FnDemand.calls (k : Nat) (A0 : Option Addr) (c0 : Nat) (l0 : List Int) (r : Bool) (w : World) (hr0 : Kd.C (Kd.int .u8) w A0 l0.length l0) (hc0 : l0.length ≤ c0) (h : laws_FnDemand.f k l0 = some r) :
  Calls Try.prog 4 #[.slice A0 l0.length c0] w fun e w' => e = .returned (.bool r) ∧ Below w.heap.size w w' := by
 have HR0 := Aside0.mk hr0
 have HC0 := Aside0.mk hc0
 clear hr0 hc0
 have HB := Aside0.mk (Below.refl w.heap.size w)
 have H : ((laws_big.f l0).bind fun t441 => (if t441 = true then (some true) else ((spec_DrawAreDetectors.f k l0).bind fun bt442 => ((impl_BlindPaths.f k bt442.1 bt442.2).bind fun t448 => (laws_FnDemand.l0 k l0 bt442.1 bt442.2 t448 0))))) = some r := h
 clear h
 obtain ⟨t441, A2, H⟩ := bindE H
 try dsimp only at H
 by_cases c3 : t441 = true
 ·
  subst c3
  have H1 : (some true) = some r := by rw [if_pos rfl] at H; exact H
  clear H
  have H := H1
  clear H1
  obtain rfl := Option.some.inj H
  go_enter Try.func4, Try.ntmps4
  go_wp2_with (first | ((with_reducible refine gate_callee (f := 10) rfl ?_); refine gL (some 14) Try.func10 #[.slice A0 l0.length c0] ?_; (with_reducible refine (laws_big.calls _ _ l0 true _ ?side1 ?side2 A2.out).mono ?_); (case side1 => exact cO HR0); (case side2 => exact HC0.out); rintro e w' ⟨rfl, ⟨nd, rfl⟩⟩; refine ⟨_, rfl, ?_⟩))
  go_ret
  exact ⟨rA, bA⟩
 ·
  replace c3 := Bool.eq_false_iff.mpr c3
  subst c3
  have H1 : ((spec_DrawAreDetectors.f k l0).bind fun bt442 => ((impl_BlindPaths.f k bt442.1 bt442.2).bind fun t448 => (laws_FnDemand.l0 k l0 bt442.1 bt442.2 t448 0))) = some r := by rw [if_neg (show ¬ (false = true) by decide)] at H; exact H
  clear H
  have H := H1
  clear H1
  obtain ⟨⟨t442, t443⟩, A4, H⟩ := bindE H
  try dsimp only at H
  obtain ⟨t448, A5, H⟩ := bindE H
  try dsimp only at H
  have H' := Aside0.mk H
  clear H
  go_enter Try.func4, Try.ntmps4
  go_wp2_with (first | ((with_reducible refine gate_callee (f := 10) rfl ?_); refine gL (some 14) Try.func10 #[.slice A0 l0.length c0] ?_; (with_reducible refine (laws_big.calls _ _ l0 false _ ?side1 ?side2 A2.out).mono ?_); (case side1 => exact cO HR0); (case side2 => exact HC0.out); rintro e w' ⟨rfl, ⟨nd, rfl⟩⟩; refine ⟨_, rfl, ?_⟩) | ((with_reducible refine gate_callee (f := 24) rfl ?_); refine gL (some 17) Try.func24 #[.slice A0 l0.length c0] ?_; (with_reducible refine (spec_DrawAreDetectors.calls k _ _ l0 t442 t443 _ ?side1 ?side2 A4.out).mono ?_); (case side1 => exact cO HR0); (case side2 => exact HC0.out); rintro e w6 ⟨v444, v446, rfl, ho0, ho1, hb⟩; refine ⟨_, rfl, ?_⟩; have HO445 := Aside0.mk (Kd.R_lower ho0 (below_size bA)); have HO447 := Aside0.mk (Kd.R_lower ho1 (below_size bA)); replace HB := Aside0.mk (below_step bA hb); (try clear hb); (try clear ho0); (try clear ho1); obtain ⟨Ao7, co7, eo7⟩ := Kd.R_slice HO445.out; subst eo7; obtain ⟨Ao8, co8, eo8⟩ := Kd.R_slice HO447.out; subst eo8) | ((with_reducible refine gate_callee (f := 25) rfl ?_); refine gL (some 22) Try.func25 #[.slice Ao7 t442.length co7, .slice Ao8 t443.length co8] ?_; (with_reducible refine (impl_BlindPaths.calls k _ _ t442 _ _ t443 t448 _ ?side1 ?side2 ?side3 ?side4 A5.out).mono ?_); (case side1 => exact cO ⟨(Kd.R_reads' HO445.out).2.2⟩); (case side2 => exact (Kd.R_reads' HO445.out).2.1); (case side3 => exact cO ⟨(Kd.R_reads' HO447.out).2.2⟩); (case side4 => exact (Kd.R_reads' HO447.out).2.1); rintro e w9 ⟨v449, rfl, ho0, hb⟩; refine ⟨_, rfl, ?_⟩; replace HO445 := Aside0.mk (Kd.R_below (rK HO445) hb); replace HO447 := Aside0.mk (Kd.R_below (rK HO447) hb); have HO450 := Aside0.mk (Kd.R_lower ho0 (below_size bA)); replace HB := Aside0.mk (below_step bA hb); (try clear hb); (try clear ho0)))
  go_loopg [6] k (fun kq v6 w' => ∃ (x6_1 : Int), v6 = .int .i64 x6_1 ∧ Aside0 (laws_FnDemand.l0 kq l0 t442 t443 t448 x6_1 = some r) ∧ Aside0 (kq ≤ k) ∧ Aside0 (Kd.R k50 50 w' w.heap.size (fun _ => True) (.slice Ao7 t442.length co7) t442) ∧ Aside0 (Kd.R k120 120 w' w.heap.size (fun _ => True) (.slice Ao8 t443.length co8) t443) ∧ Aside0 (Kd.R (Kd.int .i64) 3 w' w.heap.size (fun _ => True) v449 t448) ∧ Aside0 (Below w.heap.size w w'))
  case atStart => exact ⟨(0), rS, H', ⟨Nat.le_refl _⟩, ⟨rK HO445⟩, ⟨rK HO447⟩, ⟨rK HO450⟩, ⟨bA⟩⟩
  case round =>
   clear H'
   try clear c1
   try clear c2
   try clear p2
   try clear c3
   try clear c4
   obtain ⟨x6_1, rfl, HA, HK1, HO_3, HO_4, HO_5, HB⟩ := hrel
   cases gk with
   | zero => exact absurd HA.out (by simp [laws_FnDemand.l0])
   | succ k1 =>
    have H := HA.out
    clear HA
    simp only [laws_FnDemand.l0] at H
    have HC10 := Aside0.mk H
    clear H
    go_upto_region 6 with (fail)
    go_cut [31] (fun v31 wc => ∃ (kq : Nat) (x31_9 : Bool), v31 = .bool x31_9 ∧ Aside0 (laws_FnDemand.j1 kq l0 t442 t443 t448 x6_1 x31_9 = some r) ∧ Aside0 (kq ≤ k1) ∧ Aside0 (Kd.R k50 50 wc w.heap.size (fun _ => True) (.slice Ao7 t442.length co7) t442) ∧ Aside0 (Kd.R k120 120 wc w.heap.size (fun _ => True) (.slice Ao8 t443.length co8) t443) ∧ Aside0 (Kd.R (Kd.int .i64) 3 wc w.heap.size (fun _ => True) v449 t448) ∧ Aside0 (Below w.heap.size w wc))
    case first =>
     have H := HC10.out
     clear HC10
     by_cases c11 : x6_1 < (t442.length : Int)
     ·
      rw [if_pos c11] at H
      have c11b0 := decide_eq_true c11
      clear c11
      (first | rw [c11b0] | (simp only [i64_w, i32_w]; rw [c11b0]) | skip)
      obtain ⟨t451, A12, H⟩ := bindE H
      try dsimp only at H
      have H' := Aside0.mk H
      clear H
      go_wp2_with (first | (go_at_call 26; (with_reducible refine (impl_AreDetectors.calls k1 _ _ t442 _ _ t443 t451 _ ?side1 ?side2 ?side3 ?side4 A12.out).mono ?_); (case side1 => exact cO ⟨(Kd.R_reads' HO_3.out).2.2⟩); (case side2 => exact (Kd.R_reads' HO_3.out).2.1); (case side3 => exact cO ⟨(Kd.R_reads' HO_4.out).2.2⟩); (case side4 => exact (Kd.R_reads' HO_4.out).2.1); rintro e w13 ⟨rfl, hb⟩; replace HO_3 := Aside0.mk (Kd.R_below (rK HO_3) hb); replace HO_4 := Aside0.mk (Kd.R_below (rK HO_4) hb); replace HO_5 := Aside0.mk (Kd.R_below (rK HO_5) hb); replace HB := Aside0.mk (below_step bA hb); (try clear hb)))
      go_meet
      case rel => exact ⟨_, (t451), rS, H', ⟨by have := HK1.out; first | omega | exact Nat.le_refl _⟩, ⟨rK HO_3⟩, ⟨rK HO_4⟩, ⟨rK HO_5⟩, ⟨bA⟩⟩
     ·
      rw [if_neg c11] at H
      have c11b0 := decide_eq_false c11
      clear c11
      (first | rw [c11b0] | (simp only [i64_w, i32_w]; rw [c11b0]) | skip)
      have H' := Aside0.mk H
      clear H
      go_wp2
      go_meet
      case rel => exact ⟨_, (false), rS, H', ⟨by have := HK1.out; first | omega | exact Nat.le_refl _⟩, ⟨rK HO_3⟩, ⟨rK HO_4⟩, ⟨rK HO_5⟩, ⟨bA⟩⟩
    case rest =>
     clear HC10
     try clear c1
     try clear c2
     try clear p2
     try clear c3
     try clear c4
     try clear c10
     try clear c11
     try clear c11b0
     try clear p2
     obtain ⟨kq, x31_9, rfl, HA, HJ9, HO_3, HO_4, HO_5, HB⟩ := hcut
     cases kq with
     | zero => exact absurd HA.out (by simp [laws_FnDemand.j1])
     | succ kj9 =>
      have H := HA.out
      clear HA
      simp only [laws_FnDemand.j1] at H
      by_cases c14 : x31_9 = true
      ·
       subst c14
       have H1 : (if 0 ≤ x6_1 then (if x6_1 < (t442.length : Int) then ((impl_LowDemand.f t443 ((rd_T50 t442 x6_1).f0)).bind fun t453 => ((impl_HighDemand.f t443 ((rd_T50 t442 x6_1).f0)).bind fun t455 => (if t453 > t455 then (none) else ((laws_contains.f kj9 t448 ((rd_T50 t442 x6_1).f0)).bind fun t457 => (if t457 = true then (if t453 = 0 then (if t455 = 1000 then ((laws_contains.f kj9 t448 ((rd_T50 t442 x6_1).f0)).bind fun t459 => (if t459 = true then (laws_FnDemand.l0 kj9 l0 t442 t443 t448 (wrap64 (x6_1 + 1))) else (if t453 = t455 then (laws_FnDemand.l0 kj9 l0 t442 t443 t448 (wrap64 (x6_1 + 1))) else (none)))) else (none)) else (none)) else ((laws_contains.f kj9 t448 ((rd_T50 t442 x6_1).f0)).bind fun t461 => (if t461 = true then (laws_FnDemand.l0 kj9 l0 t442 t443 t448 (wrap64 (x6_1 + 1))) else (if t453 = t455 then (laws_FnDemand.l0 kj9 l0 t442 t443 t448 (wrap64 (x6_1 + 1))) else (none))))))))) else (none)) else (none)) = some r := by rw [if_pos rfl] at H; exact H
       clear H
       have H := H1
       clear H1
       have c15 : 0 ≤ x6_1 := ifN H
       replace H := ifT H
       have c15b0 := decide_eq_true c15
       clear c15
       have c16 : x6_1 < (t442.length : Int) := ifN H
       replace H := ifT H
       have c16b0 := decide_eq_true c16
       clear c16
       obtain ⟨t453, A17, H⟩ := bindE H
       try dsimp only at H
       obtain ⟨t455, A18, H⟩ := bindE H
       try dsimp only at H
       have c19 : ¬ (t453 > t455) := ifN' H
       replace H := ifT' H
       have c19b0 := decide_eq_false c19
       clear c19
       obtain ⟨t457, A20, H⟩ := bindE H
       try dsimp only at H
       by_cases c21 : t457 = true
       ·
        subst c21
        have H1 : (if t453 = 0 then (if t455 = 1000 then ((laws_contains.f kj9 t448 ((rd_T50 t442 x6_1).f0)).bind fun t459 => (if t459 = true then (laws_FnDemand.l0 kj9 l0 t442 t443 t448 (wrap64 (x6_1 + 1))) else (if t453 = t455 then (laws_FnDemand.l0 kj9 l0 t442 t443 t448 (wrap64 (x6_1 + 1))) else (none)))) else (none)) else (none)) = some r := by rw [if_pos rfl] at H; exact H
        clear H
        have H := H1
        clear H1
        have c22 : t453 = 0 := ifN H
        replace H := ifT H
        have c22b0 : (t453 == 0) = true := beq_iff_eq.mpr c22
        have c22b1 : (t453 != 0) = false := bne_eq_false_iff_eq.mpr c22
        clear c22
        have c23 : t455 = 1000 := ifN H
        replace H := ifT H
        have c23b0 : (t455 == 1000) = true := beq_iff_eq.mpr c23
        have c23b1 : (t455 != 1000) = false := bne_eq_false_iff_eq.mpr c23
        clear c23
        obtain ⟨t459, A24, H⟩ := bindE H
        try dsimp only at H
        by_cases c25 : t459 = true
        ·
         subst c25
         have H1 : (laws_FnDemand.l0 kj9 l0 t442 t443 t448 (wrap64 (x6_1 + 1))) = some r := by rw [if_pos rfl] at H; exact H
         clear H
         have H := H1
         clear H1
         have H' := Aside0.mk H
         clear H
         have p452 : 0 ≤ (x6_1 : Int) := dA
         have q452 : x6_1 < (t442.length : Int) := dA
         obtain ⟨ad452, e452, hx452_0, hx452_1, hx452_2, hx452_3⟩ := at_T50 (Kd.R_reads' HO_3.out).2.2 x6_1 p452 q452
         cases e452
         replace p452 := eq_true p452
         replace q452 := eq_true q452
         go_wp2_with (first | ((with_reducible refine gate_callee (f := 27) rfl ?_); refine gL (some 40) Try.func27 #[.slice Ao8 t443.length co8, .int .i64 ((rd_T50 t442 x6_1).f0)] ?_; (with_reducible refine (impl_LowDemand.calls _ _ t443 ((rd_T50 t442 x6_1).f0) t453 _ ?side1 ?side2 A17.out).mono ?_); (case side1 => exact cO ⟨(Kd.R_reads' HO_4.out).2.2⟩); (case side2 => exact (Kd.R_reads' HO_4.out).2.1); rintro e w26 ⟨rfl, hb⟩; refine ⟨_, rfl, ?_⟩; replace HO_3 := Aside0.mk (Kd.R_below (rK HO_3) hb); replace HO_4 := Aside0.mk (Kd.R_below (rK HO_4) hb); replace HO_5 := Aside0.mk (Kd.R_below (rK HO_5) hb); replace HB := Aside0.mk (below_step bA hb); (try clear hb); have p454 : 0 ≤ (x6_1 : Int) := dA; have q454 : x6_1 < (t442.length : Int) := dA; obtain ⟨ad454, e454, hx454_0, hx454_1, hx454_2, hx454_3⟩ := at_T50 (Kd.R_reads' HO_3.out).2.2 x6_1 p454 q454; obtain rfl : ad452 = ad454 := (by injection e454); replace p454 := eq_true p454; replace q454 := eq_true q454) | ((with_reducible refine gate_callee (f := 28) rfl ?_); refine gL (some 47) Try.func28 #[.slice Ao8 t443.length co8, .int .i64 ((rd_T50 t442 x6_1).f0)] ?_; (with_reducible refine (impl_HighDemand.calls _ _ t443 ((rd_T50 t442 x6_1).f0) t455 _ ?side1 ?side2 A18.out).mono ?_); (case side1 => exact cO ⟨(Kd.R_reads' HO_4.out).2.2⟩); (case side2 => exact (Kd.R_reads' HO_4.out).2.1); rintro e w27 ⟨rfl, hb⟩; refine ⟨_, rfl, ?_⟩; replace HO_3 := Aside0.mk (Kd.R_below (rK HO_3) hb); replace HO_4 := Aside0.mk (Kd.R_below (rK HO_4) hb); replace HO_5 := Aside0.mk (Kd.R_below (rK HO_5) hb); replace HB := Aside0.mk (below_step bA hb); (try clear hb); have p456 : 0 ≤ (x6_1 : Int) := dA; have q456 : x6_1 < (t442.length : Int) := dA; obtain ⟨ad456, e456, hx456_0, hx456_1, hx456_2, hx456_3⟩ := at_T50 (Kd.R_reads' HO_3.out).2.2 x6_1 p456 q456; obtain rfl : ad452 = ad456 := (by injection e456); replace p456 := eq_true p456; replace q456 := eq_true q456; obtain ⟨Ao28, co28, eo28⟩ := Kd.R_slice HO_5.out; subst eo28) | (go_at_call 29; (with_reducible refine (laws_contains.calls kj9 _ _ t448 ((rd_T50 t442 x6_1).f0) true _ ?side1 ?side2 A20.out).mono ?_); (case side1 => exact cO ⟨(Kd.R_reads' HO_5.out).2.2⟩); (case side2 => exact (Kd.R_reads' HO_5.out).2.1); rintro e w' ⟨rfl, ⟨nd, rfl⟩⟩; have p458 : 0 ≤ (x6_1 : Int) := dA; have q458 : x6_1 < (t442.length : Int) := dA; obtain ⟨ad458, e458, hx458_0, hx458_1, hx458_2, hx458_3⟩ := at_T50 (Kd.R_reads' HO_3.out).2.2 x6_1 p458 q458; obtain rfl : ad452 = ad458 := (by injection e458); replace p458 := eq_true p458; replace q458 := eq_true q458) | (go_at_call 29; (with_reducible refine (laws_contains.calls kj9 _ _ t448 ((rd_T50 t442 x6_1).f0) true _ ?side1 ?side2 A24.out).mono ?_); (case side1 => exact cO ⟨(Kd.R_reads' HO_5.out).2.2⟩); (case side2 => exact (Kd.R_reads' HO_5.out).2.1); rintro e w' ⟨rfl, ⟨nd, rfl⟩⟩))
         go_roundg kj9
         case measure => have := HK1.out; have := HJ9.out; omega
         case rel => exact ⟨(wrap64 (x6_1 + 1)), rS, H', ⟨by have := HK1.out; have := HJ9.out; omega⟩, ⟨rK HO_3⟩, ⟨rK HO_4⟩, ⟨rK HO_5⟩, ⟨bA⟩⟩
        ·
         replace c25 := Bool.eq_false_iff.mpr c25
         subst c25
         have H1 : (if t453 = t455 then (laws_FnDemand.l0 kj9 l0 t442 t443 t448 (wrap64 (x6_1 + 1))) else (none)) = some r := by rw [if_neg (show ¬ (false = true) by decide)] at H; exact H
         clear H
         have H := H1
         clear H1
         have c29 : t453 = t455 := ifN H
         replace H := ifT H
         have c29b0 : (t453 == t455) = true := beq_iff_eq.mpr c29
         have c29b1 : (t453 != t455) = false := bne_eq_false_iff_eq.mpr c29
         clear c29
         have H' := Aside0.mk H
         clear H
         have p452 : 0 ≤ (x6_1 : Int) := dA
         have q452 : x6_1 < (t442.length : Int) := dA
         obtain ⟨ad452, e452, hx452_0, hx452_1, hx452_2, hx452_3⟩ := at_T50 (Kd.R_reads' HO_3.out).2.2 x6_1 p452 q452
         cases e452
         replace p452 := eq_true p452
         replace q452 := eq_true q452
         go_wp2_with (first | ((with_reducible refine gate_callee (f := 27) rfl ?_); refine gL (some 40) Try.func27 #[.slice Ao8 t443.length co8, .int .i64 ((rd_T50 t442 x6_1).f0)] ?_; (with_reducible refine (impl_LowDemand.calls _ _ t443 ((rd_T50 t442 x6_1).f0) t453 _ ?side1 ?side2 A17.out).mono ?_); (case side1 => exact cO ⟨(Kd.R_reads' HO_4.out).2.2⟩); (case side2 => exact (Kd.R_reads' HO_4.out).2.1); rintro e w30 ⟨rfl, hb⟩; refine ⟨_, rfl, ?_⟩; replace HO_3 := Aside0.mk (Kd.R_below (rK HO_3) hb); replace HO_4 := Aside0.mk (Kd.R_below (rK HO_4) hb); replace HO_5 := Aside0.mk (Kd.R_below (rK HO_5) hb); replace HB := Aside0.mk (below_step bA hb); (try clear hb); have p454 : 0 ≤ (x6_1 : Int) := dA; have q454 : x6_1 < (t442.length : Int) := dA; obtain ⟨ad454, e454, hx454_0, hx454_1, hx454_2, hx454_3⟩ := at_T50 (Kd.R_reads' HO_3.out).2.2 x6_1 p454 q454; obtain rfl : ad452 = ad454 := (by injection e454); replace p454 := eq_true p454; replace q454 := eq_true q454) | ((with_reducible refine gate_callee (f := 28) rfl ?_); refine gL (some 47) Try.func28 #[.slice Ao8 t443.length co8, .int .i64 ((rd_T50 t442 x6_1).f0)] ?_; (with_reducible refine (impl_HighDemand.calls _ _ t443 ((rd_T50 t442 x6_1).f0) t455 _ ?side1 ?side2 A18.out).mono ?_); (case side1 => exact cO ⟨(Kd.R_reads' HO_4.out).2.2⟩); (case side2 => exact (Kd.R_reads' HO_4.out).2.1); rintro e w31 ⟨rfl, hb⟩; refine ⟨_, rfl, ?_⟩; replace HO_3 := Aside0.mk (Kd.R_below (rK HO_3) hb); replace HO_4 := Aside0.mk (Kd.R_below (rK HO_4) hb); replace HO_5 := Aside0.mk (Kd.R_below (rK HO_5) hb); replace HB := Aside0.mk (below_step bA hb); (try clear hb); have p456 : 0 ≤ (x6_1 : Int) := dA; have q456 : x6_1 < (t442.length : Int) := dA; obtain ⟨ad456, e456, hx456_0, hx456_1, hx456_2, hx456_3⟩ := at_T50 (Kd.R_reads' HO_3.out).2.2 x6_1 p456 q456; obtain rfl : ad452 = ad456 := (by injection e456); replace p456 := eq_true p456; replace q456 := eq_true q456; obtain ⟨Ao32, co32, eo32⟩ := Kd.R_slice HO_5.out; subst eo32) | (go_at_call 29; (with_reducible refine (laws_contains.calls kj9 _ _ t448 ((rd_T50 t442 x6_1).f0) true _ ?side1 ?side2 A20.out).mono ?_); (case side1 => exact cO ⟨(Kd.R_reads' HO_5.out).2.2⟩); (case side2 => exact (Kd.R_reads' HO_5.out).2.1); rintro e w' ⟨rfl, ⟨nd, rfl⟩⟩; have p458 : 0 ≤ (x6_1 : Int) := dA; have q458 : x6_1 < (t442.length : Int) := dA; obtain ⟨ad458, e458, hx458_0, hx458_1, hx458_2, hx458_3⟩ := at_T50 (Kd.R_reads' HO_3.out).2.2 x6_1 p458 q458; obtain rfl : ad452 = ad458 := (by injection e458); replace p458 := eq_true p458; replace q458 := eq_true q458) | (go_at_call 29; (with_reducible refine (laws_contains.calls kj9 _ _ t448 ((rd_T50 t442 x6_1).f0) false _ ?side1 ?side2 A24.out).mono ?_); (case side1 => exact cO ⟨(Kd.R_reads' HO_5.out).2.2⟩); (case side2 => exact (Kd.R_reads' HO_5.out).2.1); rintro e w' ⟨rfl, ⟨nd, rfl⟩⟩))
         go_roundg kj9
         case measure => have := HK1.out; have := HJ9.out; omega
         case rel => exact ⟨(wrap64 (x6_1 + 1)), rS, H', ⟨by have := HK1.out; have := HJ9.out; omega⟩, ⟨rK HO_3⟩, ⟨rK HO_4⟩, ⟨rK HO_5⟩, ⟨bA⟩⟩
       ·
        replace c21 := Bool.eq_false_iff.mpr c21
        subst c21
        have H1 : ((laws_contains.f kj9 t448 ((rd_T50 t442 x6_1).f0)).bind fun t461 => (if t461 = true then (laws_FnDemand.l0 kj9 l0 t442 t443 t448 (wrap64 (x6_1 + 1))) else (if t453 = t455 then (laws_FnDemand.l0 kj9 l0 t442 t443 t448 (wrap64 (x6_1 + 1))) else (none)))) = some r := by rw [if_neg (show ¬ (false = true) by decide)] at H; exact H
        clear H
        have H := H1
        clear H1
        obtain ⟨t461, A33, H⟩ := bindE H
        try dsimp only at H
        by_cases c34 : t461 = true
        ·
         subst c34
         exact absurd (Option.some.inj (A20.out.symm.trans A33.out)) (by decide)
        ·
         replace c34 := Bool.eq_false_iff.mpr c34
         subst c34
         have H1 : (if t453 = t455 then (laws_FnDemand.l0 kj9 l0 t442 t443 t448 (wrap64 (x6_1 + 1))) else (none)) = some r := by rw [if_neg (show ¬ (false = true) by decide)] at H; exact H
         clear H
         have H := H1
         clear H1
         have c38 : t453 = t455 := ifN H
         replace H := ifT H
         have c38b0 : (t453 == t455) = true := beq_iff_eq.mpr c38
         have c38b1 : (t453 != t455) = false := bne_eq_false_iff_eq.mpr c38
         clear c38
         have H' := Aside0.mk H
         clear H
         have p452 : 0 ≤ (x6_1 : Int) := dA
         have q452 : x6_1 < (t442.length : Int) := dA
         obtain ⟨ad452, e452, hx452_0, hx452_1, hx452_2, hx452_3⟩ := at_T50 (Kd.R_reads' HO_3.out).2.2 x6_1 p452 q452
         cases e452
         replace p452 := eq_true p452
         replace q452 := eq_true q452
         go_wp2_with (first | ((with_reducible refine gate_callee (f := 27) rfl ?_); refine gL (some 40) Try.func27 #[.slice Ao8 t443.length co8, .int .i64 ((rd_T50 t442 x6_1).f0)] ?_; (with_reducible refine (impl_LowDemand.calls _ _ t443 ((rd_T50 t442 x6_1).f0) t453 _ ?side1 ?side2 A17.out).mono ?_); (case side1 => exact cO ⟨(Kd.R_reads' HO_4.out).2.2⟩); (case side2 => exact (Kd.R_reads' HO_4.out).2.1); rintro e w39 ⟨rfl, hb⟩; refine ⟨_, rfl, ?_⟩; replace HO_3 := Aside0.mk (Kd.R_below (rK HO_3) hb); replace HO_4 := Aside0.mk (Kd.R_below (rK HO_4) hb); replace HO_5 := Aside0.mk (Kd.R_below (rK HO_5) hb); replace HB := Aside0.mk (below_step bA hb); (try clear hb); have p454 : 0 ≤ (x6_1 : Int) := dA; have q454 : x6_1 < (t442.length : Int) := dA; obtain ⟨ad454, e454, hx454_0, hx454_1, hx454_2, hx454_3⟩ := at_T50 (Kd.R_reads' HO_3.out).2.2 x6_1 p454 q454; obtain rfl : ad452 = ad454 := (by injection e454); replace p454 := eq_true p454; replace q454 := eq_true q454) | ((with_reducible refine gate_callee (f := 28) rfl ?_); refine gL (some 47) Try.func28 #[.slice Ao8 t443.length co8, .int .i64 ((rd_T50 t442 x6_1).f0)] ?_; (with_reducible refine (impl_HighDemand.calls _ _ t443 ((rd_T50 t442 x6_1).f0) t455 _ ?side1 ?side2 A18.out).mono ?_); (case side1 => exact cO ⟨(Kd.R_reads' HO_4.out).2.2⟩); (case side2 => exact (Kd.R_reads' HO_4.out).2.1); rintro e w40 ⟨rfl, hb⟩; refine ⟨_, rfl, ?_⟩; replace HO_3 := Aside0.mk (Kd.R_below (rK HO_3) hb); replace HO_4 := Aside0.mk (Kd.R_below (rK HO_4) hb); replace HO_5 := Aside0.mk (Kd.R_below (rK HO_5) hb); replace HB := Aside0.mk (below_step bA hb); (try clear hb); have p456 : 0 ≤ (x6_1 : Int) := dA; have q456 : x6_1 < (t442.length : Int) := dA; obtain ⟨ad456, e456, hx456_0, hx456_1, hx456_2, hx456_3⟩ := at_T50 (Kd.R_reads' HO_3.out).2.2 x6_1 p456 q456; obtain rfl : ad452 = ad456 := (by injection e456); replace p456 := eq_true p456; replace q456 := eq_true q456; obtain ⟨Ao41, co41, eo41⟩ := Kd.R_slice HO_5.out; subst eo41) | (go_at_call 29; (with_reducible refine (laws_contains.calls kj9 _ _ t448 ((rd_T50 t442 x6_1).f0) false _ ?side1 ?side2 A20.out).mono ?_); (case side1 => exact cO ⟨(Kd.R_reads' HO_5.out).2.2⟩); (case side2 => exact (Kd.R_reads' HO_5.out).2.1); rintro e w' ⟨rfl, ⟨nd, rfl⟩⟩; have p460 : 0 ≤ (x6_1 : Int) := dA; have q460 : x6_1 < (t442.length : Int) := dA; obtain ⟨ad460, e460, hx460_0, hx460_1, hx460_2, hx460_3⟩ := at_T50 (Kd.R_reads' HO_3.out).2.2 x6_1 p460 q460; obtain rfl : ad452 = ad460 := (by injection e460); replace p460 := eq_true p460; replace q460 := eq_true q460) | (go_at_call 29; (with_reducible refine (laws_contains.calls kj9 _ _ t448 ((rd_T50 t442 x6_1).f0) false _ ?side1 ?side2 A33.out).mono ?_); (case side1 => exact cO ⟨(Kd.R_reads' HO_5.out).2.2⟩); (case side2 => exact (Kd.R_reads' HO_5.out).2.1); rintro e w' ⟨rfl, ⟨nd, rfl⟩⟩))
         go_roundg kj9
         case measure => have := HK1.out; have := HJ9.out; omega
         case rel => exact ⟨(wrap64 (x6_1 + 1)), rS, H', ⟨by have := HK1.out; have := HJ9.out; omega⟩, ⟨rK HO_3⟩, ⟨rK HO_4⟩, ⟨rK HO_5⟩, ⟨bA⟩⟩
      ·
       replace c14 := Bool.eq_false_iff.mpr c14
       subst c14
       have H1 : ((spec_DrawStageDemand.f kj9 l0).bind fun bt462 => ((impl_StageDemand.f kj9 bt462.1 bt462.2).bind fun t468 => (laws_FnDemand.l1 kj9 t442 t448 bt462.1 bt462.2 t468 0))) = some r := by rw [if_neg (show ¬ (false = true) by decide)] at H; exact H
       clear H
       have H := H1
       clear H1
       obtain ⟨⟨t462, t463⟩, A42, H⟩ := bindE H
       try dsimp only at H
       obtain ⟨t468, A43, H⟩ := bindE H
       try dsimp only at H
       have H' := Aside0.mk H
       clear H
       go_wp2_with (first | ((with_reducible refine gate_callee (f := 30) rfl ?_); refine gL (some 85) Try.func30 #[.slice A0 l0.length c0] ?_; (with_reducible refine (spec_DrawStageDemand.calls kj9 _ _ l0 t462 t463 _ ?side1 ?side2 A42.out).mono ?_); (case side1 => exact cB HR0); (case side2 => exact HC0.out); rintro e w44 ⟨v464, v466, rfl, ho0, ho1, hb⟩; refine ⟨_, rfl, ?_⟩; replace HO_3 := Aside0.mk (Kd.R_below (rK HO_3) hb); have HO465 := Aside0.mk (Kd.R_lower (Kd.R_new' ho0 (Kd.R_lt (rK HO_4))) (below_size bA)); replace HO_4 := Aside0.mk (Kd.R_elder' (rK HO_4) (Kd.R_base ho0) hb); have HO467 := Aside0.mk (Kd.R_lower (Kd.R_new' ho1 (Kd.R_lt (rK HO_5))) (below_size bA)); replace HO_5 := Aside0.mk (Kd.R_elder' (rK HO_5) (Kd.R_base ho1) hb); replace HB := Aside0.mk (below_step bA hb); (try clear hb); (try clear ho0); (try clear ho1); obtain ⟨Ao45, co45, eo45⟩ := Kd.R_slice HO465.out; subst eo45; obtain ⟨Ao46, co46, eo46⟩ := Kd.R_slice HO467.out; subst eo46) | ((with_reducible refine gate_callee (f := 31) rfl ?_); refine gL (some 90) Try.func31 #[.slice Ao45 t462.length co45, .slice Ao46 t463.length co46] ?_; (with_reducible refine (impl_StageDemand.calls kj9 _ _ t462 _ _ t463 t468 _ ?side1 ?side2 ?side3 ?side4 A43.out).mono ?_); (case side1 => exact cO ⟨(Kd.R_reads' HO465.out).2.2⟩); (case side2 => exact (Kd.R_reads' HO465.out).2.1); (case side3 => exact cO ⟨(Kd.R_reads' HO467.out).2.2⟩); (case side4 => exact (Kd.R_reads' HO467.out).2.1); rintro e w47 ⟨rfl, hb⟩; refine ⟨_, rfl, ?_⟩; replace HO_3 := Aside0.mk (Kd.R_below (rK HO_3) hb); replace HO_4 := Aside0.mk (Kd.R_below (rK HO_4) hb); replace HO_5 := Aside0.mk (Kd.R_below (rK HO_5) hb); replace HO465 := Aside0.mk (Kd.R_below (rK HO465) hb); replace HO467 := Aside0.mk (Kd.R_below (rK HO467) hb); replace HB := Aside0.mk (below_step bA hb); (try clear hb)))
       go_loopg [12] kj9 (fun kq v12 w' => ∃ (x12_3 : Int), v12 = .int .i64 x12_3 ∧ Aside0 (laws_FnDemand.l1 kq t442 t448 t462 t463 t468 x12_3 = some r) ∧ Aside0 (kq ≤ kj9) ∧ Aside0 (Kd.R k50 50 w' w.heap.size (fun _ => True) (.slice Ao7 t442.length co7) t442) ∧ Aside0 (Kd.R (Kd.int .i64) 3 w' w.heap.size (fun k_ => some k_ ≠ ((.slice Ao46 t463.length co46) : Value).ownBlock) v449 t448) ∧ Aside0 (Kd.R k120 120 w' w.heap.size (fun _ => True) (.slice Ao45 t462.length co45) t462) ∧ Aside0 (Kd.R (Kd.int .i64) 3 w' w.heap.size (fun k_ => some k_ ≠ (v449 : Value).ownBlock) (.slice Ao46 t463.length co46) t463) ∧ Aside0 (Below w.heap.size w w'))
       case atStart => exact ⟨(0), rS, H', ⟨Nat.le_refl _⟩, ⟨rK HO_3⟩, ⟨by (with_reducible repeat (first | apply Kd.R_alloc | apply Kd.R_drewN | apply Kd.R_drew)); exact Kd.R_mono HO_5.out (fun _ hk => hk.2)⟩, ⟨by (with_reducible repeat (first | apply Kd.R_alloc | apply Kd.R_drewN | apply Kd.R_drew)); exact Kd.R_mono HO465.out (fun _ hk => trivial)⟩, ⟨by (with_reducible repeat (first | apply Kd.R_alloc | apply Kd.R_drewN | apply Kd.R_drew)); exact Kd.R_mono HO467.out (fun _ hk => hk.2)⟩, ⟨bA⟩⟩
       case round =>
        clear H'
        try clear c1
        try clear c2
        try clear p2
        try clear c3
        try clear c4
        try clear p4
        try clear q4
        try clear hx4
        try clear p6
        try clear c10
        try clear c11
        try clear c11b0
        try clear c14
        try clear c15
        try clear c15b0
        try clear c16
        try clear c16b0
        try clear c19
        try clear c19b0
        try clear c21
        try clear c22
        try clear c22b0
        try clear c22b1
        try clear c23
        try clear c23b0
        try clear c23b1
        try clear c24
        try clear c25
        try clear c27
        try clear c28
        try clear c29
        try clear c29b0
        try clear c29b1
        try clear c30
        try clear c31
        try clear c34
        try clear c38
        try clear c38b0
        try clear c38b1
        try clear p45
        try clear q45
        try clear hx45
        try clear p46
        try clear q46
        try clear hx46
        try clear hx452_0
        try clear hx452_1
        try clear hx452_2
        try clear hx452_3
        try clear hx454_0
        try clear hx454_1
        try clear hx454_2
        try clear hx454_3
        try clear hx456_0
        try clear hx456_1
        try clear hx456_2
        try clear hx456_3
        try clear hx458_0
        try clear hx458_1
        try clear hx458_2
        try clear hx458_3
        try clear hx460_0
        try clear hx460_1
        try clear hx460_2
        try clear hx460_3
        try clear p2
        try clear p452
        try clear p454
        try clear p456
        try clear p458
        try clear p460
        try clear q452
        try clear q454
        try clear q456
        try clear q458
        try clear q460
        obtain ⟨x12_3, rfl, HA, HK3, HO_3, HO_5, HO_9, HO_10, HB⟩ := hrel
        cases gk with
        | zero => exact absurd HA.out (by simp [laws_FnDemand.l1])
        | succ k3 =>
         have H := HA.out
         clear HA
         simp only [laws_FnDemand.l1] at H
         by_cases c48 : x12_3 < (t463.length : Int)
         ·
          rw [if_pos c48] at H
          have c48b0 := decide_eq_true c48
          clear c48
          have c49 : 0 ≤ x12_3 := ifN H
          replace H := ifT H
          have c49b0 := decide_eq_true c49
          clear c49
          obtain ⟨t470, A50, H⟩ := bindE H
          try dsimp only at H
          have c51 : ¬ (t470 > t468) := ifN' H
          replace H := ifT' H
          have c51b0 := decide_eq_false c51
          clear c51
          have H' := Aside0.mk H
          clear H
          have p469 : 0 ≤ (x12_3 : Int) := dA
          have q469 : x12_3 < (t463.length : Int) := dA
          obtain ⟨ad469, e469, hx469_0⟩ := Kd.at_int (Kd.R_reads' HO_10.out).2.2 x12_3 p469 q469
          cases e469
          replace p469 := eq_true p469
          replace q469 := eq_true q469
          go_wp2_with (first | ((with_reducible refine gate_callee (f := 27) rfl ?_); refine gL (some 102) Try.func27 #[.slice Ao45 t462.length co45, .int .i64 (rd t463 x12_3)] ?_; (with_reducible refine (impl_LowDemand.calls _ _ t462 (rd t463 x12_3) t470 _ ?side1 ?side2 A50.out).mono ?_); (case side1 => exact cO ⟨(Kd.R_reads' HO_9.out).2.2⟩); (case side2 => exact (Kd.R_reads' HO_9.out).2.1); rintro e w52 ⟨rfl, hb⟩; refine ⟨_, rfl, ?_⟩; replace HO_3 := Aside0.mk (Kd.R_below (rK HO_3) hb); replace HO_5 := Aside0.mk (Kd.R_below (rK HO_5) hb); replace HO_9 := Aside0.mk (Kd.R_below (rK HO_9) hb); replace HO_10 := Aside0.mk (Kd.R_below (rK HO_10) hb); replace HB := Aside0.mk (below_step bA hb); (try clear hb)))
          go_roundg k3
          case measure => have := HK1.out; have := HJ9.out; have := HK3.out; omega
          case rel => exact ⟨(wrap64 (x12_3 + 1)), rS, H', ⟨by have := HK1.out; have := HJ9.out; have := HK3.out; omega⟩, ⟨rK HO_3⟩, ⟨rK HO_5⟩, ⟨rK HO_9⟩, ⟨rK HO_10⟩, ⟨bA⟩⟩
         ·
          rw [if_neg c48] at H
          have c48b0 := decide_eq_false c48
          clear c48
          obtain ⟨t471, A53, H⟩ := bindE H
          try dsimp only at H
          obtain ⟨t472, A54, H⟩ := bindE H
          try dsimp only at H
          have c55 : ¬ ((t471 != t472) = true) := ifN' H
          replace H := ifT' H
          have c55b0 : (t471 != t472) = false := by simpa using c55
          (try (have c55b1 : decide (t471 = t472) = true := by simpa using c55))
          (try (have c55b2 : (t471 == t472) = true := by simpa using c55))
          clear c55
          obtain ⟨t473, A56, H⟩ := bindE H
          try dsimp only at H
          by_cases c57 : t473 = true
          ·
           subst c57
           have H1 : ((laws_ascends.f k3 t448).bind fun t474 => (some t474)) = some r := by rw [if_pos rfl] at H; exact H
           clear H
           have H := H1
           clear H1
           obtain ⟨t474, A58, H⟩ := bindE H
           try dsimp only at H
           obtain rfl := Option.some.inj H
           go_wp2_with (first | ((with_reducible refine gate_callee (f := 32) rfl ?_); refine gL (some 106) Try.func32 #[.slice Ao7 t442.length co7] ?_; (with_reducible refine (impl_ArePaths.calls k3 _ _ t442 t471 _ ?side1 ?side2 A53.out).mono ?_); (case side1 => exact cO ⟨(Kd.R_reads' HO_3.out).2.2⟩); (case side2 => exact (Kd.R_reads' HO_3.out).2.1); rintro e w59 ⟨rfl, hb⟩; refine ⟨_, rfl, ?_⟩; replace HO_3 := Aside0.mk (Kd.R_below (rK HO_3) hb); replace HO_5 := Aside0.mk (Kd.R_below (rK HO_5) hb); replace HO_9 := Aside0.mk (Kd.R_below (rK HO_9) hb); replace HO_10 := Aside0.mk (Kd.R_below (rK HO_10) hb); replace HB := Aside0.mk (below_step bA hb); (try clear hb)) | ((with_reducible refine gate_callee (f := 33) rfl ?_); refine gL (some 108) Try.func33 #[.slice Ao7 t442.length co7] ?_; (with_reducible refine (spec_ArePaths.calls k3 _ _ t442 t472 _ ?side1 ?side2 A54.out).mono ?_); (case side1 => exact cO ⟨(Kd.R_reads' HO_3.out).2.2⟩); (case side2 => exact (Kd.R_reads' HO_3.out).2.1); rintro e w60 ⟨rfl, hb⟩; refine ⟨_, rfl, ?_⟩; replace HO_3 := Aside0.mk (Kd.R_below (rK HO_3) hb); replace HO_5 := Aside0.mk (Kd.R_below (rK HO_5) hb); replace HO_9 := Aside0.mk (Kd.R_below (rK HO_9) hb); replace HO_10 := Aside0.mk (Kd.R_below (rK HO_10) hb); replace HB := Aside0.mk (below_step bA hb); (try clear hb)) | ((with_reducible refine gate_callee (f := 32) rfl ?_); refine gL (some 111) Try.func32 #[.slice Ao7 t442.length co7] ?_; (with_reducible refine (impl_ArePaths.calls k3 _ _ t442 true _ ?side1 ?side2 A56.out).mono ?_); (case side1 => exact cO ⟨(Kd.R_reads' HO_3.out).2.2⟩); (case side2 => exact (Kd.R_reads' HO_3.out).2.1); rintro e w61 ⟨rfl, hb⟩; refine ⟨_, rfl, ?_⟩; replace HO_3 := Aside0.mk (Kd.R_below (rK HO_3) hb); replace HO_5 := Aside0.mk (Kd.R_below (rK HO_5) hb); replace HO_9 := Aside0.mk (Kd.R_below (rK HO_9) hb); replace HO_10 := Aside0.mk (Kd.R_below (rK HO_10) hb); replace HB := Aside0.mk (below_step bA hb); (try clear hb); obtain ⟨Ao62, co62, eo62⟩ := Kd.R_slice HO_5.out; subst eo62) | (go_at_call 23; (with_reducible refine (laws_ascends.calls k3 _ _ t448 t474 _ ?side1 ?side2 A58.out).mono ?_); (case side1 => exact cO ⟨(Kd.R_reads' HO_5.out).2.2⟩); (case side2 => exact (Kd.R_reads' HO_5.out).2.1); rintro e w' ⟨rfl, ⟨nd, rfl⟩⟩))
           go_ret
           exact ⟨rA, bA⟩
          ·
           replace c57 := Bool.eq_false_iff.mpr c57
           subst c57
           have H1 : (some true) = some r := by rw [if_neg (show ¬ (false = true) by decide)] at H; exact H
           clear H
           have H := H1
           clear H1
           obtain rfl := Option.some.inj H
           go_wp2_with (first | ((with_reducible refine gate_callee (f := 32) rfl ?_); refine gL (some 106) Try.func32 #[.slice Ao7 t442.length co7] ?_; (with_reducible refine (impl_ArePaths.calls k3 _ _ t442 t471 _ ?side1 ?side2 A53.out).mono ?_); (case side1 => exact cO ⟨(Kd.R_reads' HO_3.out).2.2⟩); (case side2 => exact (Kd.R_reads' HO_3.out).2.1); rintro e w63 ⟨rfl, hb⟩; refine ⟨_, rfl, ?_⟩; replace HO_3 := Aside0.mk (Kd.R_below (rK HO_3) hb); replace HO_5 := Aside0.mk (Kd.R_below (rK HO_5) hb); replace HO_9 := Aside0.mk (Kd.R_below (rK HO_9) hb); replace HO_10 := Aside0.mk (Kd.R_below (rK HO_10) hb); replace HB := Aside0.mk (below_step bA hb); (try clear hb)) | ((with_reducible refine gate_callee (f := 33) rfl ?_); refine gL (some 108) Try.func33 #[.slice Ao7 t442.length co7] ?_; (with_reducible refine (spec_ArePaths.calls k3 _ _ t442 t472 _ ?side1 ?side2 A54.out).mono ?_); (case side1 => exact cO ⟨(Kd.R_reads' HO_3.out).2.2⟩); (case side2 => exact (Kd.R_reads' HO_3.out).2.1); rintro e w64 ⟨rfl, hb⟩; refine ⟨_, rfl, ?_⟩; replace HO_3 := Aside0.mk (Kd.R_below (rK HO_3) hb); replace HO_5 := Aside0.mk (Kd.R_below (rK HO_5) hb); replace HO_9 := Aside0.mk (Kd.R_below (rK HO_9) hb); replace HO_10 := Aside0.mk (Kd.R_below (rK HO_10) hb); replace HB := Aside0.mk (below_step bA hb); (try clear hb)) | ((with_reducible refine gate_callee (f := 32) rfl ?_); refine gL (some 111) Try.func32 #[.slice Ao7 t442.length co7] ?_; (with_reducible refine (impl_ArePaths.calls k3 _ _ t442 false _ ?side1 ?side2 A56.out).mono ?_); (case side1 => exact cO ⟨(Kd.R_reads' HO_3.out).2.2⟩); (case side2 => exact (Kd.R_reads' HO_3.out).2.1); rintro e w65 ⟨rfl, hb⟩; refine ⟨_, rfl, ?_⟩; replace HO_3 := Aside0.mk (Kd.R_below (rK HO_3) hb); replace HO_5 := Aside0.mk (Kd.R_below (rK HO_5) hb); replace HO_9 := Aside0.mk (Kd.R_below (rK HO_9) hb); replace HO_10 := Aside0.mk (Kd.R_below (rK HO_10) hb); replace HB := Aside0.mk (below_step bA hb); (try clear hb)))
           go_ret
           exact ⟨rA, bA⟩

end Go.Proofs.Ytjgonpcajedkjaa.P
