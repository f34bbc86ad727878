/- Printed by myprint.py (wip/tools) over the kit's print: what Go's functions compute, and that they do. Lean checks it. -/
import Derived.Test.YtimmadeghcghoaaF0
import Derived.Test.YtimmadeghcghoaaFX04
namespace Go.Proofs.Ytimmadeghcghoaa.P
open Go.RowKit Go.Proofs.YtimmadeghcghoaaW.PrintWords Go.Proofs.YtimmadeghcghoaaW.PrintLast Go.Proofs.YtimmadeghcghoaaW.PrintMore Go.Proofs.Ytimmadeghcghoaa.Sq
attribute [local go_sem] max2_int min2_int max_two min_two max_three min_three max_four min_four
set_option linter.unusedVariables false
set_option linter.unusedSimpArgs false

/-! ### spec_Interleave: function 119 -/
mutual
def spec_Interleave.l0 : Nat → Int → Int → Int → Int → List Int → Int → Option (Bool)
 | 0, _, _, _, _, _, _ => none
 | k + 1, x0, x1, x2, x3, x9, x10 => if x10 < 4 then (spec_Interleave.l1 k x0 x1 x2 x3 x9 x10 0) else (spec_Interleave.l2 k x1 x2 x3 0 (Int.tmod (wrap64 (x0 + 1)) 8))
def spec_Interleave.l1 : Nat → Int → Int → Int → Int → List Int → Int → Int → Option (Bool)
 | 0, _, _, _, _, _, _, _ => none
 | k + 1, x0, x1, x2, x3, x9, x10, x11 => if x11 < x10 then (if 0 ≤ x10 then (if x10 < (x9.length : Int) then (if 0 ≤ x11 then (if x11 < (x9.length : Int) then (if (rd x9 x10) = (rd x9 x11) then (some false) else (spec_Interleave.l1 k x0 x1 x2 x3 x9 x10 (wrap64 (x11 + 1)))) else (none)) else (none)) else (none)) else (none)) else (if 0 ≤ x10 then (if x10 < (x9.length : Int) then ((spec_l1In.f (rd x9 x10) 0 7).bind fun t393 => (if t393 = true then (spec_Interleave.l0 k x0 x1 x2 x3 x9 (wrap64 (x10 + 1))) else (some false))) else (none)) else (none))
def spec_Interleave.l2 : Nat → Int → Int → Int → Int → Int → Option (Bool)
 | 0, _, _, _, _, _ => none
 | k + 1, x1, x2, x3, x12, x13 => if x13 = x1 then (some (x12 == 1)) else (if x13 = x2 then (spec_Interleave.l2 k x1 x2 x3 (wrap64 (x12 + 1)) (Int.tmod (wrap64 (x13 + 1)) 8)) else (if x13 = x3 then (spec_Interleave.l2 k x1 x2 x3 (wrap64 (x12 + 1)) (Int.tmod (wrap64 (x13 + 1)) 8)) else (spec_Interleave.l2 k x1 x2 x3 x12 (Int.tmod (wrap64 (x13 + 1)) 8))))
end
def spec_Interleave.f (k : Nat) (a0 : Int) (a1 : Int) (a2 : Int) (a3 : Int) : Option (Bool) := spec_Interleave.l0 k a0 a1 a2 a3 (([a0, a1, a2, a3] : List Int)) 0
theorem spec_Interleave.mono_l : ∀ k, (∀ y0 y1 y2 y3 y4 y5, LeO (spec_Interleave.l0 k y0 y1 y2 y3 y4 y5) (spec_Interleave.l0 (k + 1) y0 y1 y2 y3 y4 y5)) ∧ (∀ y0 y1 y2 y3 y4 y5 y6, LeO (spec_Interleave.l1 k y0 y1 y2 y3 y4 y5 y6) (spec_Interleave.l1 (k + 1) y0 y1 y2 y3 y4 y5 y6)) ∧ (∀ y0 y1 y2 y3 y4, LeO (spec_Interleave.l2 k y0 y1 y2 y3 y4) (spec_Interleave.l2 (k + 1) y0 y1 y2 y3 y4))
 | 0 => ⟨fun _ _ _ _ _ _ r h => by simp [spec_Interleave.l0] at h, fun _ _ _ _ _ _ _ r h => by simp [spec_Interleave.l1] at h, fun _ _ _ _ _ r h => by simp [spec_Interleave.l2] at h⟩
 | k + 1 => by
  obtain ⟨ih0, ih1, ih2⟩ := spec_Interleave.mono_l k
  refine ⟨?_, ?_, ?_⟩
  ·
   intro y0 y1 y2 y3 y4 y5
   unfold spec_Interleave.l0
   repeat' first | (with_reducible first | exact LeO.refl _ | exact LeO.none _ | refine LeO.ite ?_ ?_ | refine LeO.bind ?_ (fun _ => ?_) | exact ih0 _ _ _ _ _ _ | exact ih1 _ _ _ _ _ _ _ | exact ih2 _ _ _ _ _) | exact LeO.none _ | refine LeO.ite ?_ ?_ | refine LeO.bind ?_ (fun _ => ?_) | exact ih0 _ _ _ _ _ _ | exact ih1 _ _ _ _ _ _ _ | exact ih2 _ _ _ _ _
  ·
   intro y0 y1 y2 y3 y4 y5 y6
   unfold spec_Interleave.l1
   repeat' first | (with_reducible first | exact LeO.refl _ | exact LeO.none _ | refine LeO.ite ?_ ?_ | refine LeO.bind ?_ (fun _ => ?_) | exact ih0 _ _ _ _ _ _ | exact ih1 _ _ _ _ _ _ _ | exact ih2 _ _ _ _ _) | exact LeO.none _ | refine LeO.ite ?_ ?_ | refine LeO.bind ?_ (fun _ => ?_) | exact ih0 _ _ _ _ _ _ | exact ih1 _ _ _ _ _ _ _ | exact ih2 _ _ _ _ _
  ·
   intro y0 y1 y2 y3 y4
   unfold spec_Interleave.l2
   repeat' first | (with_reducible first | exact LeO.refl _ | exact LeO.none _ | refine LeO.ite ?_ ?_ | refine LeO.bind ?_ (fun _ => ?_) | exact ih0 _ _ _ _ _ _ | exact ih1 _ _ _ _ _ _ _ | exact ih2 _ _ _ _ _) | exact LeO.none _ | refine LeO.ite ?_ ?_ | refine LeO.bind ?_ (fun _ => ?_) | exact ih0 _ _ _ _ _ _ | exact ih1 _ _ _ _ _ _ _ | exact ih2 _ _ _ _ _
theorem spec_Interleave.mono : ∀ a0 a1 a2 a3 k, LeO (spec_Interleave.f k a0 a1 a2 a3) (spec_Interleave.f (k + 1) a0 a1 a2 a3) := by
 intro a0 a1 a2 a3 k
 obtain ⟨ih0, ih1, ih2⟩ := spec_Interleave.mono_l k
 unfold spec_Interleave.f
 repeat' first | (with_reducible first | exact LeO.refl _ | exact LeO.none _ | refine LeO.ite ?_ ?_ | refine LeO.bind ?_ (fun _ => ?_) | exact ih0 _ _ _ _ _ _ | exact ih1 _ _ _ _ _ _ _ | exact ih2 _ _ _ _ _) | exact LeO.none _ | refine LeO.ite ?_ ?_ | refine LeO.bind ?_ (fun _ => ?_) | exact ih0 _ _ _ _ _ _ | exact ih1 _ _ _ _ _ _ _ | exact ih2 _ _ _ _ _
set_option maxHeartbeats 8000000 in
set_option maxRecDepth 100000 in
theorem spec_Interleave.calls (k : Nat) (a0 : Int) (a1 : Int) (a2 : Int) (a3 : Int) (r : Bool) (w : World) (h : spec_Interleave.f k a0 a1 a2 a3 = some r) :
  Calls Try.prog 119 #[.int .i64 a0, .int .i64 a1, .int .i64 a2, .int .i64 a3] w fun e w' => e = .returned (.bool r) ∧ Below w.heap.size w w' := by
 have HB := Aside0.mk (Below.refl w.heap.size w)
 have H : (spec_Interleave.l0 k a0 a1 a2 a3 (([a0, a1, a2, a3] : List Int)) 0) = some r := h
 clear h
 obtain ⟨y387, hy387⟩ : ∃ y_ : List Int, y_ = (([a0, a1, a2, a3] : List Int)) := ⟨_, rfl⟩
 replace H : (spec_Interleave.l0 k a0 a1 a2 a3 y387 0) = some r := by first | (rw [hy387]; with_reducible exact H) | (have H2_ := (Option.bind_some _ _).symm.trans H; rw [hy387]; with_reducible exact H2_) | (have H2_ := (Option.bind_some _ _).symm.trans H; with_reducible exact H2_) | with_reducible exact H | (rw [hy387]; exact H) | exact H
 have Ny387 := Aside0.mk hy387
 clear hy387
 have H' := Aside0.mk H
 clear H
 go_enter Try.func119, Try.ntmps119
 go_wp2_with (first | ((with_reducible refine gate_dst (N := 18) rfl ?_); refine Kd.R_lit (Kd.int .i64) _ 3 ?hg (N := 18) ?hd (xs := ([a0, a1, a2, a3] : List Int)) (inner := [.int .i64 a0, .int .i64 a1, .int .i64 a2, .int .i64 a3]) (ok := fun _ => True) (okp := fun _ => True) ?hr ?hp (fun _ hk => hk) trivial (Below.refl _ _) (Nat.le_refl _) (by simp) ?_; (case hd => rfl); (case hg => rfl); (case hr => first | (go_simp; done) | (go_simp; rfl)); (case hp => exact (Reps.one (show Kd.M (Kd.int .i64) _ _ _ a0 [.int .i64 a0] from rfl) (Reps.one (show Kd.M (Kd.int .i64) _ _ _ a1 [.int .i64 a1] from rfl) (Reps.one (show Kd.M (Kd.int .i64) _ _ _ a2 [.int .i64 a2] from rfl) (Reps.one (show Kd.M (Kd.int .i64) _ _ _ a3 [.int .i64 a3] from rfl) (Reps.none _ _)))))); intro v388 w5 ho6 hb hg_ hnew_; clear hg_ hnew_; (first | rw [← Ny387.out] at ho6 | (simp only [Int.reduceToNat] at ho6; rw [← Ny387.out] at ho6)); have HO389 := Aside0.mk (Kd.R_lower ho6 (below_size bA)); replace HB := Aside0.mk (below_step bA hb); clear hb ho6))
 repeat (go_quiet (first | ((with_reducible refine gate_dst (N := 18) rfl ?_); refine Kd.R_lit (Kd.int .i64) _ 3 ?hg (N := 18) ?hd (xs := ([a0, a1, a2, a3] : List Int)) (inner := [.int .i64 a0, .int .i64 a1, .int .i64 a2, .int .i64 a3]) (ok := fun _ => True) (okp := fun _ => True) ?hr ?hp (fun _ hk => hk) trivial (Below.refl _ _) (Nat.le_refl _) (by simp) ?_; (case hd => rfl); (case hg => rfl); (case hr => first | (go_simp; done) | (go_simp; rfl)); (case hp => exact (Reps.one (show Kd.M (Kd.int .i64) _ _ _ a0 [.int .i64 a0] from rfl) (Reps.one (show Kd.M (Kd.int .i64) _ _ _ a1 [.int .i64 a1] from rfl) (Reps.one (show Kd.M (Kd.int .i64) _ _ _ a2 [.int .i64 a2] from rfl) (Reps.one (show Kd.M (Kd.int .i64) _ _ _ a3 [.int .i64 a3] from rfl) (Reps.none _ _)))))); intro v388 w5 ho6 hb hg_ hnew_; clear hg_ hnew_; (first | rw [← Ny387.out] at ho6 | (simp only [Int.reduceToNat] at ho6; rw [← Ny387.out] at ho6)); have HO389 := Aside0.mk (Kd.R_lower ho6 (below_size bA)); replace HB := Aside0.mk (below_step bA hb); clear hb ho6)); try go_wp2_with (first | ((with_reducible refine gate_dst (N := 18) rfl ?_); refine Kd.R_lit (Kd.int .i64) _ 3 ?hg (N := 18) ?hd (xs := ([a0, a1, a2, a3] : List Int)) (inner := [.int .i64 a0, .int .i64 a1, .int .i64 a2, .int .i64 a3]) (ok := fun _ => True) (okp := fun _ => True) ?hr ?hp (fun _ hk => hk) trivial (Below.refl _ _) (Nat.le_refl _) (by simp) ?_; (case hd => rfl); (case hg => rfl); (case hr => first | (go_simp; done) | (go_simp; rfl)); (case hp => exact (Reps.one (show Kd.M (Kd.int .i64) _ _ _ a0 [.int .i64 a0] from rfl) (Reps.one (show Kd.M (Kd.int .i64) _ _ _ a1 [.int .i64 a1] from rfl) (Reps.one (show Kd.M (Kd.int .i64) _ _ _ a2 [.int .i64 a2] from rfl) (Reps.one (show Kd.M (Kd.int .i64) _ _ _ a3 [.int .i64 a3] from rfl) (Reps.none _ _)))))); intro v388 w5 ho6 hb hg_ hnew_; clear hg_ hnew_; (first | rw [← Ny387.out] at ho6 | (simp only [Int.reduceToNat] at ho6; rw [← Ny387.out] at ho6)); have HO389 := Aside0.mk (Kd.R_lower ho6 (below_size bA)); replace HB := Aside0.mk (below_step bA hb); clear hb ho6)))
 go_loopg [10] k (fun kq v10 w' => ∃ (x10_1 : Int), v10 = .int .i64 x10_1 ∧ Aside0 (spec_Interleave.l0 kq a0 a1 a2 a3 y387 x10_1 = some r) ∧ Aside0 (kq ≤ k) ∧ Aside0 (Kd.R (Kd.int .i64) 3 w' w.heap.size (fun _ => True) v388 y387) ∧ Aside0 (Below w.heap.size w w'))
 case atStart => exact ⟨(0), rS, H', ⟨Nat.le_refl _⟩, ⟨rK HO389⟩, ⟨bA⟩⟩
 case round =>
  clear H'
  try clear c1
  try clear p2
  obtain ⟨x10_1, rfl, HA, HK1, HO_9, HB⟩ := hrel
  cases gk with
  | zero => exact absurd HA.out (by simp [spec_Interleave.l0])
  | succ k1 =>
   have H := HA.out
   clear HA
   simp only [spec_Interleave.l0] at H
   by_cases c7 : x10_1 < 4
   ·
    rw [if_pos c7] at H
    have c7b0 : decide (x10_1 < 4) = true := decide_eq_true c7
    clear c7
    have H' := Aside0.mk H
    clear H
    go_wp2
    repeat (go_quiet (fail); try go_wp2)
    go_loopg [11] k1 (fun kq v11 w' => ∃ (x11_2 : Int), v11 = .int .i64 x11_2 ∧ Aside0 (spec_Interleave.l1 kq a0 a1 a2 a3 y387 x10_1 x11_2 = some r) ∧ Aside0 (kq ≤ k1) ∧ Aside0 (Kd.R (Kd.int .i64) 3 w' w.heap.size (fun _ => True) v388 y387) ∧ Aside0 (Below w.heap.size w w'))
    case atStart => exact ⟨(0), rS, H', ⟨Nat.le_refl _⟩, ⟨rK HO_9⟩, ⟨bA⟩⟩
    case round =>
     clear H'
     try clear c1
     try clear p2
     try clear c7
     try clear c7b0
     try clear p2
     obtain ⟨x11_2, rfl, HA, HK2, HO_9, HB⟩ := hrel
     cases gk with
     | zero => exact absurd HA.out (by simp [spec_Interleave.l1])
     | succ k2 =>
      have H := HA.out
      clear HA
      simp only [spec_Interleave.l1] at H
      by_cases c8 : x11_2 < x10_1
      ·
       rw [if_pos c8] at H
       have c8b0 : decide (x11_2 < x10_1) = true := decide_eq_true c8
       clear c8
       have c9 : 0 ≤ x10_1 := ifN H
       replace H := ifT H
       have c9b0 : decide (0 ≤ x10_1) = true := decide_eq_true c9
       clear c9
       have c10 : x10_1 < (y387.length : Int) := ifN H
       replace H := ifT H
       have c10b0 : decide (x10_1 < (y387.length : Int)) = true := decide_eq_true c10
       clear c10
       have c11 : 0 ≤ x11_2 := ifN H
       replace H := ifT H
       have c11b0 : decide (0 ≤ x11_2) = true := decide_eq_true c11
       clear c11
       have c12 : x11_2 < (y387.length : Int) := ifN H
       replace H := ifT H
       have c12b0 : decide (x11_2 < (y387.length : Int)) = true := decide_eq_true c12
       clear c12
       by_cases c13 : (rd y387 x10_1) = (rd y387 x11_2)
       ·
        rw [if_pos c13] at H
        have c13b0 : ((rd y387 x10_1) == (rd y387 x11_2)) = true := beq_iff_eq.mpr c13
        have c13b1 : ((rd y387 x10_1) != (rd y387 x11_2)) = false := bne_eq_false_iff_eq.mpr c13
        clear c13
        obtain rfl := Option.some.inj H
        obtain ⟨Ao14, co14, eo14⟩ := Kd.R_slice HO_9.out
        subst eo14
        have p390 : 0 ≤ (x10_1 : Int) := dA
        have q390 : x10_1 < (y387.length : Int) := dA
        obtain ⟨ad390, e390, hx390_0⟩ := Kd.at_int (Kd.R_reads' HO_9.out).2.2 x10_1 p390 q390
        cases e390
        replace p390 := eq_true p390
        replace q390 := eq_true q390
        have p391 : 0 ≤ (x11_2 : Int) := dA
        have q391 : x11_2 < (y387.length : Int) := dA
        obtain ⟨ad391, e391, hx391_0⟩ := Kd.at_int (Kd.R_reads' HO_9.out).2.2 x11_2 p391 q391
        obtain rfl : ad390 = ad391 := (by injection e391)
        replace p391 := eq_true p391
        replace q391 := eq_true q391
        go_wp2
        repeat (go_quiet (fail); try go_wp2)
        go_ret
        exact ⟨rA, bA⟩
       ·
        rw [if_neg c13] at H
        have c13b0 : ((rd y387 x10_1) == (rd y387 x11_2)) = false := beq_eq_false_iff_ne.mpr c13
        have c13b1 : ((rd y387 x10_1) != (rd y387 x11_2)) = true := bne_iff_ne.mpr c13
        have H' := Aside0.mk H
        clear H
        obtain ⟨Ao15, co15, eo15⟩ := Kd.R_slice HO_9.out
        subst eo15
        have p390 : 0 ≤ (x10_1 : Int) := dA
        have q390 : x10_1 < (y387.length : Int) := dA
        obtain ⟨ad390, e390, hx390_0⟩ := Kd.at_int (Kd.R_reads' HO_9.out).2.2 x10_1 p390 q390
        cases e390
        replace p390 := eq_true p390
        replace q390 := eq_true q390
        have p391 : 0 ≤ (x11_2 : Int) := dA
        have q391 : x11_2 < (y387.length : Int) := dA
        obtain ⟨ad391, e391, hx391_0⟩ := Kd.at_int (Kd.R_reads' HO_9.out).2.2 x11_2 p391 q391
        obtain rfl : ad390 = ad391 := (by injection e391)
        replace p391 := eq_true p391
        replace q391 := eq_true q391
        go_wp2
        repeat (go_quiet (fail); try go_wp2)
        go_roundg k2
        case measure => have := HK1.out; have := HK2.out; omega
        case rel => exact ⟨(wrap64 (x11_2 + 1)), rS, H', ⟨by have := HK1.out; have := HK2.out; omega⟩, ⟨rK HO_9⟩, ⟨bA⟩⟩
      ·
       rw [if_neg c8] at H
       have c8b0 : decide (x11_2 < x10_1) = false := decide_eq_false c8
       clear c8
       have c16 : 0 ≤ x10_1 := ifN H
       replace H := ifT H
       have c16b0 : decide (0 ≤ x10_1) = true := decide_eq_true c16
       clear c16
       have c17 : x10_1 < (y387.length : Int) := ifN H
       replace H := ifT H
       have c17b0 : decide (x10_1 < (y387.length : Int)) = true := decide_eq_true c17
       clear c17
       obtain ⟨t393, A18, H⟩ := bindE H
       try dsimp only at H
       by_cases c19 : t393 = true
       ·
        subst c19
        have H1 : (spec_Interleave.l0 k2 a0 a1 a2 a3 y387 (wrap64 (x10_1 + 1))) = some r := by rw [if_pos rfl] at H; exact H
        clear H
        have H := H1
        clear H1
        have H' := Aside0.mk H
        clear H
        obtain ⟨Ao20, co20, eo20⟩ := Kd.R_slice HO_9.out
        subst eo20
        have p392 : 0 ≤ (x10_1 : Int) := dA
        have q392 : x10_1 < (y387.length : Int) := dA
        obtain ⟨ad392, e392, hx392_0⟩ := Kd.at_int (Kd.R_reads' HO_9.out).2.2 x10_1 p392 q392
        cases e392
        replace p392 := eq_true p392
        replace q392 := eq_true q392
        go_wp2_with (first | (go_at_call 67; (with_reducible refine (spec_l1In.calls (rd y387 x10_1) 0 7 true _ A18.out).mono ?_); rintro e w' ⟨rfl, ⟨nd, rfl⟩⟩; (try first | exact ⟨rfl, _, World.drewN_drewN _ _ _⟩ | exact ⟨rfl, _, Eq.trans (World.drewN_drewN _ _ _) (congrArg (World.drewN _) (Nat.add_assoc _ _ _))⟩)))
        repeat (go_quiet (first | (go_at_call 67; (with_reducible refine (spec_l1In.calls (rd y387 x10_1) 0 7 true _ A18.out).mono ?_); rintro e w' ⟨rfl, ⟨nd, rfl⟩⟩; (try first | exact ⟨rfl, _, World.drewN_drewN _ _ _⟩ | exact ⟨rfl, _, Eq.trans (World.drewN_drewN _ _ _) (congrArg (World.drewN _) (Nat.add_assoc _ _ _))⟩))); try go_wp2_with (first | (go_at_call 67; (with_reducible refine (spec_l1In.calls (rd y387 x10_1) 0 7 true _ A18.out).mono ?_); rintro e w' ⟨rfl, ⟨nd, rfl⟩⟩; (try first | exact ⟨rfl, _, World.drewN_drewN _ _ _⟩ | exact ⟨rfl, _, Eq.trans (World.drewN_drewN _ _ _) (congrArg (World.drewN _) (Nat.add_assoc _ _ _))⟩))))
        go_roundg k2
        case measure => have := HK1.out; have := HK2.out; omega
        case rel => exact ⟨(wrap64 (x10_1 + 1)), rS, H', ⟨by have := HK1.out; have := HK2.out; omega⟩, ⟨rK HO_9⟩, ⟨bA⟩⟩
       ·
        replace c19 := Bool.eq_false_iff.mpr c19
        subst c19
        have H1 : (some false) = some r := by rw [if_neg (show ¬ (false = true) by decide)] at H; exact H
        clear H
        have H := H1
        clear H1
        obtain rfl := Option.some.inj H
        obtain ⟨Ao21, co21, eo21⟩ := Kd.R_slice HO_9.out
        subst eo21
        have p392 : 0 ≤ (x10_1 : Int) := dA
        have q392 : x10_1 < (y387.length : Int) := dA
        obtain ⟨ad392, e392, hx392_0⟩ := Kd.at_int (Kd.R_reads' HO_9.out).2.2 x10_1 p392 q392
        cases e392
        replace p392 := eq_true p392
        replace q392 := eq_true q392
        go_wp2_with (first | (go_at_call 67; (with_reducible refine (spec_l1In.calls (rd y387 x10_1) 0 7 false _ A18.out).mono ?_); rintro e w' ⟨rfl, ⟨nd, rfl⟩⟩; (try first | exact ⟨rfl, _, World.drewN_drewN _ _ _⟩ | exact ⟨rfl, _, Eq.trans (World.drewN_drewN _ _ _) (congrArg (World.drewN _) (Nat.add_assoc _ _ _))⟩)))
        repeat (go_quiet (first | (go_at_call 67; (with_reducible refine (spec_l1In.calls (rd y387 x10_1) 0 7 false _ A18.out).mono ?_); rintro e w' ⟨rfl, ⟨nd, rfl⟩⟩; (try first | exact ⟨rfl, _, World.drewN_drewN _ _ _⟩ | exact ⟨rfl, _, Eq.trans (World.drewN_drewN _ _ _) (congrArg (World.drewN _) (Nat.add_assoc _ _ _))⟩))); try go_wp2_with (first | (go_at_call 67; (with_reducible refine (spec_l1In.calls (rd y387 x10_1) 0 7 false _ A18.out).mono ?_); rintro e w' ⟨rfl, ⟨nd, rfl⟩⟩; (try first | exact ⟨rfl, _, World.drewN_drewN _ _ _⟩ | exact ⟨rfl, _, Eq.trans (World.drewN_drewN _ _ _) (congrArg (World.drewN _) (Nat.add_assoc _ _ _))⟩))))
        go_ret
        exact ⟨rA, bA⟩
   ·
    rw [if_neg c7] at H
    have c7b0 : decide (x10_1 < 4) = false := decide_eq_false c7
    clear c7
    have H' := Aside0.mk H
    clear H
    go_wp2
    repeat (go_quiet (fail); try go_wp2)
    go_loopg [12, 13] k1 (fun kq v12 v13 w' => ∃ (x12_2 : Int) (x13_2 : Int), v12 = .int .i64 x12_2 ∧ v13 = .int .i64 x13_2 ∧ Aside0 (spec_Interleave.l2 kq a1 a2 a3 x12_2 x13_2 = some r) ∧ Aside0 (kq ≤ k1) ∧ Aside0 (Below w.heap.size w w'))
    case atStart => exact ⟨(0), (Int.tmod (wrap64 (a0 + 1)) 8), rS, rS, H', ⟨Nat.le_refl _⟩, ⟨bA⟩⟩
    case round =>
     clear H'
     try clear c1
     try clear p2
     try clear p3
     try clear q3
     try clear hx3
     try clear p6
     try clear c7
     try clear c7b0
     try clear c8
     try clear c8b0
     try clear c9
     try clear c9b0
     try clear c10
     try clear c10b0
     try clear c11
     try clear c11b0
     try clear c12
     try clear c12b0
     try clear c13
     try clear c13b0
     try clear c13b1
     try clear c16
     try clear c16b0
     try clear c17
     try clear c17b0
     try clear c19
     try clear hx390_0
     try clear hx391_0
     try clear hx392_0
     try clear p2
     try clear p390
     try clear p391
     try clear p392
     try clear q390
     try clear q391
     try clear q392
     obtain ⟨x12_2, x13_2, rfl, rfl, HA, HK2, HB⟩ := hrel
     cases gk with
     | zero => exact absurd HA.out (by simp [spec_Interleave.l2])
     | succ k2 =>
      have H := HA.out
      clear HA
      simp only [spec_Interleave.l2] at H
      by_cases c22 : x13_2 = a1
      ·
       rw [if_pos c22] at H
       have c22b0 : (x13_2 == a1) = true := beq_iff_eq.mpr c22
       have c22b1 : (x13_2 != a1) = false := bne_eq_false_iff_eq.mpr c22
       clear c22
       obtain rfl := Option.some.inj H
       go_wp2
       repeat (go_quiet (fail); try go_wp2)
       go_ret
       exact ⟨rA, bA⟩
      ·
       rw [if_neg c22] at H
       have c22b0 : (x13_2 == a1) = false := beq_eq_false_iff_ne.mpr c22
       have c22b1 : (x13_2 != a1) = true := bne_iff_ne.mpr c22
       by_cases c23 : x13_2 = a2
       ·
        rw [if_pos c23] at H
        have c23b0 : (x13_2 == a2) = true := beq_iff_eq.mpr c23
        have c23b1 : (x13_2 != a2) = false := bne_eq_false_iff_eq.mpr c23
        clear c23
        have H' := Aside0.mk H
        clear H
        go_wp2
        repeat (go_quiet (fail); try go_wp2)
        go_roundg k2
        case measure => have := HK1.out; have := HK2.out; omega
        case rel => exact ⟨(wrap64 (x12_2 + 1)), (Int.tmod (wrap64 (x13_2 + 1)) 8), rS, rS, H', ⟨by have := HK1.out; have := HK2.out; omega⟩, ⟨bA⟩⟩
       ·
        rw [if_neg c23] at H
        have c23b0 : (x13_2 == a2) = false := beq_eq_false_iff_ne.mpr c23
        have c23b1 : (x13_2 != a2) = true := bne_iff_ne.mpr c23
        by_cases c24 : x13_2 = a3
        ·
         rw [if_pos c24] at H
         have c24b0 : (x13_2 == a3) = true := beq_iff_eq.mpr c24
         have c24b1 : (x13_2 != a3) = false := bne_eq_false_iff_eq.mpr c24
         clear c24
         have H' := Aside0.mk H
         clear H
         go_wp2
         repeat (go_quiet (fail); try go_wp2)
         go_roundg k2
         case measure => have := HK1.out; have := HK2.out; omega
         case rel => exact ⟨(wrap64 (x12_2 + 1)), (Int.tmod (wrap64 (x13_2 + 1)) 8), rS, rS, H', ⟨by have := HK1.out; have := HK2.out; omega⟩, ⟨bA⟩⟩
        ·
         rw [if_neg c24] at H
         have c24b0 : (x13_2 == a3) = false := beq_eq_false_iff_ne.mpr c24
         have c24b1 : (x13_2 != a3) = true := bne_iff_ne.mpr c24
         have H' := Aside0.mk H
         clear H
         go_wp2
         repeat (go_quiet (fail); try go_wp2)
         go_roundg k2
         case measure => have := HK1.out; have := HK2.out; omega
         case rel => exact ⟨(x12_2), (Int.tmod (wrap64 (x13_2 + 1)) 8), rS, rS, H', ⟨by have := HK1.out; have := HK2.out; omega⟩, ⟨bA⟩⟩

/-! ### spec_InPlace: function 120 -/
def spec_InPlace.f (a0 : Int) : Option (Int) := (spec_l1In.f a0 0 3).bind fun t394 => (if t394 = true then (some (wrap64 (2 * a0))) else (some (-1)))
set_option maxHeartbeats 8000000 in
set_option maxRecDepth 100000 in
theorem spec_InPlace.calls (a0 : Int) (r : Int) (w : World) (h : spec_InPlace.f a0 = some r) :
  Calls Try.prog 120 #[.int .i64 a0] w fun e w' => e = .returned (.int .i64 r) ∧ Drawn0 w w' := by
 have H : ((spec_l1In.f a0 0 3).bind fun t394 => (if t394 = true then (some (wrap64 (2 * a0))) else (some (-1)))) = some r := h
 clear h
 obtain ⟨t394, A2, H⟩ := bindE H
 try dsimp only at H
 by_cases c3 : t394 = true
 ·
  subst c3
  have H1 : (some (wrap64 (2 * a0))) = some r := by rw [if_pos rfl] at H; exact H
  clear H
  have H := H1
  clear H1
  obtain rfl := Option.some.inj H
  go_enter Try.func120, Try.ntmps120
  go_wp2_with (first | ((with_reducible refine gate_callee (f := 67) rfl ?_); refine gL (some 4) Try.func67 #[.int .i64 a0, .int .i64 0, .int .i64 3] ?_; (with_reducible refine (spec_l1In.calls a0 0 3 true _ A2.out).mono ?_); rintro e w' ⟨rfl, ⟨nd, rfl⟩⟩; refine ⟨_, rfl, ?_⟩))
  go_ret
  exact ⟨by first | rfl | (simp; done) | (simp [*]; done), by repeat (first | exact Drawn0.refl _ | apply Drawn0.step)⟩
 ·
  replace c3 := Bool.eq_false_iff.mpr c3
  subst c3
  have H1 : (some (-1)) = some r := by rw [if_neg (show ¬ (false = true) by decide)] at H; exact H
  clear H
  have H := H1
  clear H1
  obtain rfl := Option.some.inj H
  go_enter Try.func120, Try.ntmps120
  go_wp2_with (first | ((with_reducible refine gate_callee (f := 67) rfl ?_); refine gL (some 4) Try.func67 #[.int .i64 a0, .int .i64 0, .int .i64 3] ?_; (with_reducible refine (spec_l1In.calls a0 0 3 false _ A2.out).mono ?_); rintro e w' ⟨rfl, ⟨nd, rfl⟩⟩; refine ⟨_, rfl, ?_⟩))
  go_ret
  exact ⟨by first | rfl | (simp; done) | (simp [*]; done), by repeat (first | exact Drawn0.refl _ | apply Drawn0.step)⟩

/-! ### spec_OutPlace: function 121 -/
def spec_OutPlace.f (a0 : Int) : Option (Int) := (spec_l1In.f a0 0 3).bind fun t395 => (if t395 = true then (some (wrap64 ((wrap64 (2 * a0)) + 1))) else (some (-1)))
set_option maxHeartbeats 8000000 in
set_option maxRecDepth 100000 in
theorem spec_OutPlace.calls (a0 : Int) (r : Int) (w : World) (h : spec_OutPlace.f a0 = some r) :
  Calls Try.prog 121 #[.int .i64 a0] w fun e w' => e = .returned (.int .i64 r) ∧ Drawn0 w w' := by
 have H : ((spec_l1In.f a0 0 3).bind fun t395 => (if t395 = true then (some (wrap64 ((wrap64 (2 * a0)) + 1))) else (some (-1)))) = some r := h
 clear h
 obtain ⟨t395, A2, H⟩ := bindE H
 try dsimp only at H
 by_cases c3 : t395 = true
 ·
  subst c3
  have H1 : (some (wrap64 ((wrap64 (2 * a0)) + 1))) = some r := by rw [if_pos rfl] at H; exact H
  clear H
  have H := H1
  clear H1
  obtain rfl := Option.some.inj H
  go_enter Try.func121, Try.ntmps121
  go_wp2_with (first | ((with_reducible refine gate_callee (f := 67) rfl ?_); refine gL (some 4) Try.func67 #[.int .i64 a0, .int .i64 0, .int .i64 3] ?_; (with_reducible refine (spec_l1In.calls a0 0 3 true _ A2.out).mono ?_); rintro e w' ⟨rfl, ⟨nd, rfl⟩⟩; refine ⟨_, rfl, ?_⟩))
  go_ret
  exact ⟨by first | rfl | (simp; done) | (simp [*]; done), by repeat (first | exact Drawn0.refl _ | apply Drawn0.step)⟩
 ·
  replace c3 := Bool.eq_false_iff.mpr c3
  subst c3
  have H1 : (some (-1)) = some r := by rw [if_neg (show ¬ (false = true) by decide)] at H; exact H
  clear H
  have H := H1
  clear H1
  obtain rfl := Option.some.inj H
  go_enter Try.func121, Try.ntmps121
  go_wp2_with (first | ((with_reducible refine gate_callee (f := 67) rfl ?_); refine gL (some 4) Try.func67 #[.int .i64 a0, .int .i64 0, .int .i64 3] ?_; (with_reducible refine (spec_l1In.calls a0 0 3 false _ A2.out).mono ?_); rintro e w' ⟨rfl, ⟨nd, rfl⟩⟩; refine ⟨_, rfl, ?_⟩))
  go_ret
  exact ⟨by first | rfl | (simp; done) | (simp [*]; done), by repeat (first | exact Drawn0.refl _ | apply Drawn0.step)⟩

/-! ### spec_Conflict: function 91 -/
def spec_Conflict.j0 : Nat → Bool → Int → Int → Int → Int → Int → Int → Int → Int → Option (Bool)
 | 0, _, _, _, _, _, _, _, _, _ => none
 | k + 1, x5, x397000, x397001, x397002, x397003, x398000, x398001, x398002, x398003 => if x5 = true then (some false) else (if x397001 = 2 then (if x398002 = x397002 then (some true) else (some (x398003 == x397002))) else (if x398001 = 2 then (if x397002 = x398002 then (some true) else (some (x397003 == x398002))) else (if x397002 = x398002 then (some false) else (if x397003 = x398003 then (some true) else ((spec_InPlace.f x397002).bind fun t400 => ((spec_OutPlace.f x397003).bind fun t401 => ((spec_InPlace.f x398002).bind fun t402 => ((spec_OutPlace.f x398003).bind fun t403 => ((spec_Interleave.f k t400 t401 t402 t403).bind fun t404 => (some t404))))))))))
def spec_Conflict.f (k : Nat) (a0_0 : Int) (a0_1 : Int) (a0_2 : Int) (a0_3 : Int) (a1_0 : Int) (a1_1 : Int) (a1_2 : Int) (a1_3 : Int) : Option (Bool) := (spec_IsPath.f a0_0 a0_1 a0_2 a0_3).bind fun t398 => (if t398 = true then ((spec_IsPath.f a1_0 a1_1 a1_2 a1_3).bind fun t399 => (if t399 = true then (if a0_1 = 2 then (spec_Conflict.j0 k (a1_1 == 2) a0_0 a0_1 a0_2 a0_3 a1_0 a1_1 a1_2 a1_3) else (spec_Conflict.j0 k false a0_0 a0_1 a0_2 a0_3 a1_0 a1_1 a1_2 a1_3)) else (spec_Conflict.j0 k true a0_0 a0_1 a0_2 a0_3 a1_0 a1_1 a1_2 a1_3))) else (spec_Conflict.j0 k true a0_0 a0_1 a0_2 a0_3 a1_0 a1_1 a1_2 a1_3))
theorem spec_Conflict.mono_l : ∀ k, (∀ y0 y1 y2 y3 y4 y5 y6 y7 y8, LeO (spec_Conflict.j0 k y0 y1 y2 y3 y4 y5 y6 y7 y8) (spec_Conflict.j0 (k + 1) y0 y1 y2 y3 y4 y5 y6 y7 y8))
 | 0 => fun _ _ _ _ _ _ _ _ _ r h => by simp [spec_Conflict.j0] at h
 | k + 1 => by
  have ih0 := spec_Conflict.mono_l k
  ·
   intro y0 y1 y2 y3 y4 y5 y6 y7 y8
   unfold spec_Conflict.j0
   repeat' first | (with_reducible first | exact LeO.refl _ | exact LeO.none _ | refine LeO.ite ?_ ?_ | refine LeO.bind ?_ (fun _ => ?_) | exact ih0 _ _ _ _ _ _ _ _ _ | exact spec_Interleave.mono _ _ _ _ _) | exact LeO.none _ | refine LeO.ite ?_ ?_ | refine LeO.bind ?_ (fun _ => ?_) | exact ih0 _ _ _ _ _ _ _ _ _ | exact spec_Interleave.mono _ _ _ _ _
theorem spec_Conflict.mono : ∀ a0 a1 a2 a3 a4 a5 a6 a7 k, LeO (spec_Conflict.f k a0 a1 a2 a3 a4 a5 a6 a7) (spec_Conflict.f (k + 1) a0 a1 a2 a3 a4 a5 a6 a7) := by
 intro a0 a1 a2 a3 a4 a5 a6 a7 k
 have ih0 := spec_Conflict.mono_l k
 unfold spec_Conflict.f
 repeat' first | (with_reducible first | exact LeO.refl _ | exact LeO.none _ | refine LeO.ite ?_ ?_ | refine LeO.bind ?_ (fun _ => ?_) | exact ih0 _ _ _ _ _ _ _ _ _ | exact spec_Interleave.mono _ _ _ _ _) | exact LeO.none _ | refine LeO.ite ?_ ?_ | refine LeO.bind ?_ (fun _ => ?_) | exact ih0 _ _ _ _ _ _ _ _ _ | exact spec_Interleave.mono _ _ _ _ _
def spec_Conflict.T11 : Bool × List (List Nat × List Nat) := (true, [([], []), ([0], [0]), ([1], [1]), ([], []), ([3], [3]), ([4, 2], [4]), ([], []), ([6], [6]), ([7, 5], [7]), ([], []), ([9], [9]), ([10, 8], [10]), ([2, 5, 8, 11, 11], [2, 5, 8, 11]), ([12, 12, 0, 1, 2, 3, 4, 5, 6, 7, 8, 9, 10, 11, 12], [12])])
def spec_Conflict.B11 : List Nat := [0, 1, 3, 0, 8, 31, 0, 64, 255, 0, 512, 2047, 4095, 8191]
theorem spec_Conflict.tab11 : rtab .any (opsOf Try.f91 11) = spec_Conflict.T11 := by kernel_rfl
theorem spec_Conflict.bits11 : waitsOk spec_Conflict.T11.2 spec_Conflict.B11 = true := by kernel_rfl
set_option maxHeartbeats 8000000 in
set_option maxRecDepth 100000 in
theorem spec_Conflict.calls (k : Nat) (a0_0 : Int) (a0_1 : Int) (a0_2 : Int) (a0_3 : Int) (a1_0 : Int) (a1_1 : Int) (a1_2 : Int) (a1_3 : Int) (r : Bool) (w : World) (h : spec_Conflict.f k a0_0 a0_1 a0_2 a0_3 a1_0 a1_1 a1_2 a1_3 = some r) :
  Calls Try.prog 91 #[.agg #[.int .i64 a0_0, .int .i64 a0_1, .int .i64 a0_2, .int .i64 a0_3], .agg #[.int .i64 a1_0, .int .i64 a1_1, .int .i64 a1_2, .int .i64 a1_3]] w fun e w' => e = .returned (.bool r) ∧ Below w.heap.size w w' := by
 have hu90 := Try.underlying90
 have HB := Aside0.mk (Below.refl w.heap.size w)
 have H : ((spec_IsPath.f a0_0 a0_1 a0_2 a0_3).bind fun t398 => (if t398 = true then ((spec_IsPath.f a1_0 a1_1 a1_2 a1_3).bind fun t399 => (if t399 = true then (if a0_1 = 2 then (spec_Conflict.j0 k (a1_1 == 2) a0_0 a0_1 a0_2 a0_3 a1_0 a1_1 a1_2 a1_3) else (spec_Conflict.j0 k false a0_0 a0_1 a0_2 a0_3 a1_0 a1_1 a1_2 a1_3)) else (spec_Conflict.j0 k true a0_0 a0_1 a0_2 a0_3 a1_0 a1_1 a1_2 a1_3))) else (spec_Conflict.j0 k true a0_0 a0_1 a0_2 a0_3 a1_0 a1_1 a1_2 a1_3))) = some r := h
 clear h
 have HC3 := Aside0.mk H
 clear H
 go_enter Try.func91, Try.ntmps91
 go_upto_region 1 with (first | ((with_reducible refine gate_dst (N := 2) rfl ?_); refine bE (N := 2) (cs := #[.int .i64 a0_0, .int .i64 a0_1, .int .i64 a0_2, .int .i64 a0_3]) (t := 90) ?_; intro gb396 hg w4 hbox hb; have n0_ := Aside0.mk (below_step bA hb); have n1_ := Aside0.mk (hbox); have n2_ := Aside0.mk ((by rw [hg]; exact (below_size bA) : w.heap.size ≤ gb396)); have n3_ := Aside0.mk ((by rw [hg]; exact (below_size bA) : w.heap.size ≤ gb396)); clear HB; have HB := n0_; have BK396 := n1_; have GW396 := n2_; have GE396 := n3_; clear n0_ n1_ n2_ n3_; clear hb hbox hg) | ((with_reducible refine gate_dst (N := 3) rfl ?_); refine bE (N := 3) (cs := #[.int .i64 a1_0, .int .i64 a1_1, .int .i64 a1_2, .int .i64 a1_3]) (t := 90) ?_; intro gb397 hg w5 hbox hb; have n0_ := Aside0.mk (blk_below (g := gb396) (bK BK396) hb); have n1_ := Aside0.mk (below_step bG hb); have n2_ := Aside0.mk (hbox); have n3_ := Aside0.mk ((by rw [hg]; exact (below_size bG) : w.heap.size ≤ gb397)); have n4_ := Aside0.mk ((by rw [hg]; exact (below_size bG) : w.heap.size ≤ gb397)); have n5_ := Aside0.mk ((by rw [hg]; exact Nat.ne_of_lt (blk_lt (g := gb396) (o := .cells #[.int .i64 a0_0, .int .i64 a0_1, .int .i64 a0_2, .int .i64 a0_3] 90 (0, 0)) (bK BK396)) : gb396 ≠ gb397)); have n6_ := Aside0.mk ((by rw [hg]; exact Nat.ne_of_gt (blk_lt (g := gb396) (o := .cells #[.int .i64 a0_0, .int .i64 a0_1, .int .i64 a0_2, .int .i64 a0_3] 90 (0, 0)) (bK BK396)) : gb397 ≠ gb396)); clear BK396; clear HB; have BK396 := n0_; have HB := n1_; have BK397 := n2_; have GW397 := n3_; have GE397 := n4_; have NB396_397 := n5_; have NB397_396 := n6_; clear n0_ n1_ n2_ n3_ n4_ n5_ n6_; clear hb hbox hg))
 (try simp only [Act.put, List.setIfInBounds_toArray, List.set_cons_zero, List.set_cons_succ])
 go_cut [5] (fun v5 wc => ∃ (kq : Nat) (x5_2 : Bool), v5 = .bool x5_2 ∧ Aside0 (spec_Conflict.j0 kq x5_2 a0_0 a0_1 a0_2 a0_3 a1_0 a1_1 a1_2 a1_3 = some r) ∧ Aside0 (kq ≤ k) ∧ Aside0 (wc.heap[gb396]? = some (.cells #[.int .i64 a0_0, .int .i64 a0_1, .int .i64 a0_2, .int .i64 a0_3] 90 (0, 0))) ∧ Aside0 (wc.heap[gb397]? = some (.cells #[.int .i64 a1_0, .int .i64 a1_1, .int .i64 a1_2, .int .i64 a1_3] 90 (0, 0))) ∧ Aside0 (Below w.heap.size w wc))
 case first =>
  have H := HC3.out
  clear HC3
  obtain ⟨t398, A6, H⟩ := bindE H
  try dsimp only at H
  by_cases c7 : t398 = true
  ·
   subst c7
   have H1 : ((spec_IsPath.f a1_0 a1_1 a1_2 a1_3).bind fun t399 => (if t399 = true then (if a0_1 = 2 then (spec_Conflict.j0 k (a1_1 == 2) a0_0 a0_1 a0_2 a0_3 a1_0 a1_1 a1_2 a1_3) else (spec_Conflict.j0 k false a0_0 a0_1 a0_2 a0_3 a1_0 a1_1 a1_2 a1_3)) else (spec_Conflict.j0 k true a0_0 a0_1 a0_2 a0_3 a1_0 a1_1 a1_2 a1_3))) = some r := by rw [if_pos rfl] at H; exact H
   clear H
   have H := H1
   clear H1
   obtain ⟨t399, A8, H⟩ := bindE H
   try dsimp only at H
   by_cases c9 : t399 = true
   ·
    subst c9
    have H1 : (if a0_1 = 2 then (spec_Conflict.j0 k (a1_1 == 2) a0_0 a0_1 a0_2 a0_3 a1_0 a1_1 a1_2 a1_3) else (spec_Conflict.j0 k false a0_0 a0_1 a0_2 a0_3 a1_0 a1_1 a1_2 a1_3)) = some r := by rw [if_pos rfl] at H; exact H
    clear H
    have H := H1
    clear H1
    by_cases c10 : a0_1 = 2
    ·
     rw [if_pos c10] at H
     have c10b0 : (a0_1 == 2) = true := beq_iff_eq.mpr c10
     have c10b1 : (a0_1 != 2) = false := bne_eq_false_iff_eq.mpr c10
     clear c10
     (first | rw [c10b0] | (simp only [i64_w, i32_w]; rw [c10b0]) | skip)
     have H' := Aside0.mk H
     clear H
     have hnb11 := NB396_397.out
     have hnc11 := NB397_396.out
     obtain ⟨hcz12_0, hcz12_1, hcz12_2, hcz12_3, hfz12_0, hfz12_1, hfz12_2, hfz12_3⟩ := blkc4 BK396
     go_wp2_with (first | ((with_reducible refine gate_callee (f := 111) rfl ?_); refine gL (some 7) Try.func111 #[.agg #[.int .i64 a0_0, .int .i64 a0_1, .int .i64 a0_2, .int .i64 a0_3]] ?_; (with_reducible refine (spec_IsPath.calls a0_0 a0_1 a0_2 a0_3 true _ A6.out).mono ?_); rintro e w13 ⟨rfl, hb⟩; refine ⟨_, rfl, ?_⟩; replace BK396 := Aside0.mk (blk_below (g := gb396) (bK BK396) hb); replace BK397 := Aside0.mk (blk_below (g := gb397) (bK BK397) hb); replace HB := Aside0.mk (below_step bG hb); (try clear hb); (try clear hb2); (try clear hk); (try clear hi); have hcz14_0 : w13.cell? ⟨gb397, 0, none⟩ = some (.int .i64 a1_0) := bC BK397 0; have hcz14_1 : w13.cell? ⟨gb397, 1, none⟩ = some (.int .i64 a1_1) := bC BK397 1; have hcz14_2 : w13.cell? ⟨gb397, 2, none⟩ = some (.int .i64 a1_2) := bC BK397 2; have hcz14_3 : w13.cell? ⟨gb397, 3, none⟩ = some (.int .i64 a1_3) := bC BK397 3; have hfz14_0 := blk_frozen BK397.out 0; have hfz14_1 := blk_frozen BK397.out 1; have hfz14_2 := blk_frozen BK397.out 2; have hfz14_3 := blk_frozen BK397.out 3) | (go_at_call 111; (with_reducible refine (spec_IsPath.calls a1_0 a1_1 a1_2 a1_3 true _ A8.out).mono ?_); rintro e w15 ⟨rfl, hb⟩; replace BK396 := Aside0.mk (blk_below (g := gb396) (bK BK396) hb); replace BK397 := Aside0.mk (blk_below (g := gb397) (bK BK397) hb); replace HB := Aside0.mk (below_step bG hb); (try clear hb); (try clear hb2); (try clear hk); (try clear hi); obtain ⟨hcz16_0, hcz16_1, hcz16_2, hcz16_3, hfz16_0, hfz16_1, hfz16_2, hfz16_3⟩ := blkc4 BK396; obtain ⟨hcz17_0, hcz17_1, hcz17_2, hcz17_3, hfz17_0, hfz17_1, hfz17_2, hfz17_3⟩ := blkc4 BK397))
     go_meet
     case rel => exact ⟨_, ((a1_1 == 2)), rS, H', ⟨by first | omega | exact Nat.le_refl _⟩, ⟨bK BK396⟩, ⟨bK BK397⟩, ⟨bG⟩⟩
    ·
     rw [if_neg c10] at H
     have c10b0 : (a0_1 == 2) = false := beq_eq_false_iff_ne.mpr c10
     have c10b1 : (a0_1 != 2) = true := bne_iff_ne.mpr c10
     (first | rw [c10b0] | (simp only [i64_w, i32_w]; rw [c10b0]) | skip)
     have H' := Aside0.mk H
     clear H
     have hnb18 := NB396_397.out
     have hnc18 := NB397_396.out
     obtain ⟨hcz19_0, hcz19_1, hcz19_2, hcz19_3, hfz19_0, hfz19_1, hfz19_2, hfz19_3⟩ := blkc4 BK396
     go_wp2_with (first | ((with_reducible refine gate_callee (f := 111) rfl ?_); refine gL (some 7) Try.func111 #[.agg #[.int .i64 a0_0, .int .i64 a0_1, .int .i64 a0_2, .int .i64 a0_3]] ?_; (with_reducible refine (spec_IsPath.calls a0_0 a0_1 a0_2 a0_3 true _ A6.out).mono ?_); rintro e w20 ⟨rfl, hb⟩; refine ⟨_, rfl, ?_⟩; replace BK396 := Aside0.mk (blk_below (g := gb396) (bK BK396) hb); replace BK397 := Aside0.mk (blk_below (g := gb397) (bK BK397) hb); replace HB := Aside0.mk (below_step bG hb); (try clear hb); (try clear hb2); (try clear hk); (try clear hi); have hcz21_0 : w20.cell? ⟨gb397, 0, none⟩ = some (.int .i64 a1_0) := bC BK397 0; have hcz21_1 : w20.cell? ⟨gb397, 1, none⟩ = some (.int .i64 a1_1) := bC BK397 1; have hcz21_2 : w20.cell? ⟨gb397, 2, none⟩ = some (.int .i64 a1_2) := bC BK397 2; have hcz21_3 : w20.cell? ⟨gb397, 3, none⟩ = some (.int .i64 a1_3) := bC BK397 3; have hfz21_0 := blk_frozen BK397.out 0; have hfz21_1 := blk_frozen BK397.out 1; have hfz21_2 := blk_frozen BK397.out 2; have hfz21_3 := blk_frozen BK397.out 3) | (go_at_call 111; (with_reducible refine (spec_IsPath.calls a1_0 a1_1 a1_2 a1_3 true _ A8.out).mono ?_); rintro e w22 ⟨rfl, hb⟩; replace BK396 := Aside0.mk (blk_below (g := gb396) (bK BK396) hb); replace BK397 := Aside0.mk (blk_below (g := gb397) (bK BK397) hb); replace HB := Aside0.mk (below_step bG hb); (try clear hb); (try clear hb2); (try clear hk); (try clear hi); obtain ⟨hcz23_0, hcz23_1, hcz23_2, hcz23_3, hfz23_0, hfz23_1, hfz23_2, hfz23_3⟩ := blkc4 BK396))
     go_meet
     case rel => exact ⟨_, (false), rS, H', ⟨by first | omega | exact Nat.le_refl _⟩, ⟨bK BK396⟩, ⟨bK BK397⟩, ⟨bG⟩⟩
   ·
    replace c9 := Bool.eq_false_iff.mpr c9
    subst c9
    have H1 : (spec_Conflict.j0 k true a0_0 a0_1 a0_2 a0_3 a1_0 a1_1 a1_2 a1_3) = some r := by rw [if_neg (show ¬ (false = true) by decide)] at H; exact H
    clear H
    have H := H1
    clear H1
    have H' := Aside0.mk H
    clear H
    have hnb24 := NB396_397.out
    have hnc24 := NB397_396.out
    obtain ⟨hcz25_0, hcz25_1, hcz25_2, hcz25_3, hfz25_0, hfz25_1, hfz25_2, hfz25_3⟩ := blkc4 BK396
    go_wp2_with (first | ((with_reducible refine gate_callee (f := 111) rfl ?_); refine gL (some 7) Try.func111 #[.agg #[.int .i64 a0_0, .int .i64 a0_1, .int .i64 a0_2, .int .i64 a0_3]] ?_; (with_reducible refine (spec_IsPath.calls a0_0 a0_1 a0_2 a0_3 true _ A6.out).mono ?_); rintro e w26 ⟨rfl, hb⟩; refine ⟨_, rfl, ?_⟩; replace BK396 := Aside0.mk (blk_below (g := gb396) (bK BK396) hb); replace BK397 := Aside0.mk (blk_below (g := gb397) (bK BK397) hb); replace HB := Aside0.mk (below_step bG hb); (try clear hb); (try clear hb2); (try clear hk); (try clear hi); have hcz27_0 : w26.cell? ⟨gb397, 0, none⟩ = some (.int .i64 a1_0) := bC BK397 0; have hcz27_1 : w26.cell? ⟨gb397, 1, none⟩ = some (.int .i64 a1_1) := bC BK397 1; have hcz27_2 : w26.cell? ⟨gb397, 2, none⟩ = some (.int .i64 a1_2) := bC BK397 2; have hcz27_3 : w26.cell? ⟨gb397, 3, none⟩ = some (.int .i64 a1_3) := bC BK397 3; have hfz27_0 := blk_frozen BK397.out 0; have hfz27_1 := blk_frozen BK397.out 1; have hfz27_2 := blk_frozen BK397.out 2; have hfz27_3 := blk_frozen BK397.out 3) | (go_at_call 111; (with_reducible refine (spec_IsPath.calls a1_0 a1_1 a1_2 a1_3 false _ A8.out).mono ?_); rintro e w28 ⟨rfl, hb⟩; replace BK396 := Aside0.mk (blk_below (g := gb396) (bK BK396) hb); replace BK397 := Aside0.mk (blk_below (g := gb397) (bK BK397) hb); replace HB := Aside0.mk (below_step bG hb); (try clear hb); (try clear hb2); (try clear hk); (try clear hi)))
    go_meet
    case rel => exact ⟨_, (true), rS, H', ⟨by first | omega | exact Nat.le_refl _⟩, ⟨bK BK396⟩, ⟨bK BK397⟩, ⟨bG⟩⟩
  ·
   replace c7 := Bool.eq_false_iff.mpr c7
   subst c7
   have H1 : (spec_Conflict.j0 k true a0_0 a0_1 a0_2 a0_3 a1_0 a1_1 a1_2 a1_3) = some r := by rw [if_neg (show ¬ (false = true) by decide)] at H; exact H
   clear H
   have H := H1
   clear H1
   have H' := Aside0.mk H
   clear H
   have hnb29 := NB396_397.out
   have hnc29 := NB397_396.out
   obtain ⟨hcz30_0, hcz30_1, hcz30_2, hcz30_3, hfz30_0, hfz30_1, hfz30_2, hfz30_3⟩ := blkc4 BK396
   go_wp2_with (first | ((with_reducible refine gate_callee (f := 111) rfl ?_); refine gL (some 7) Try.func111 #[.agg #[.int .i64 a0_0, .int .i64 a0_1, .int .i64 a0_2, .int .i64 a0_3]] ?_; (with_reducible refine (spec_IsPath.calls a0_0 a0_1 a0_2 a0_3 false _ A6.out).mono ?_); rintro e w31 ⟨rfl, hb⟩; refine ⟨_, rfl, ?_⟩; replace BK396 := Aside0.mk (blk_below (g := gb396) (bK BK396) hb); replace BK397 := Aside0.mk (blk_below (g := gb397) (bK BK397) hb); replace HB := Aside0.mk (below_step bG hb); (try clear hb); (try clear hb2); (try clear hk); (try clear hi)))
   go_meet
   case rel => exact ⟨_, (true), rS, H', ⟨by first | omega | exact Nat.le_refl _⟩, ⟨bK BK396⟩, ⟨bK BK397⟩, ⟨bG⟩⟩
 case rest =>
  clear HC3
  try clear c1
  try clear c2
  try clear p2
  try clear c7
  try clear c9
  try clear c10
  try clear c10b0
  try clear c10b1
  try clear c11
  try clear c18
  try clear c24
  try clear c29
  try clear hcz12_0
  try clear hcz12_1
  try clear hcz12_2
  try clear hcz12_3
  try clear hcz14_0
  try clear hcz14_1
  try clear hcz14_2
  try clear hcz14_3
  try clear hcz16_0
  try clear hcz16_1
  try clear hcz16_2
  try clear hcz16_3
  try clear hcz17_0
  try clear hcz17_1
  try clear hcz17_2
  try clear hcz17_3
  try clear hcz19_0
  try clear hcz19_1
  try clear hcz19_2
  try clear hcz19_3
  try clear hcz21_0
  try clear hcz21_1
  try clear hcz21_2
  try clear hcz21_3
  try clear hcz23_0
  try clear hcz23_1
  try clear hcz23_2
  try clear hcz23_3
  try clear hcz25_0
  try clear hcz25_1
  try clear hcz25_2
  try clear hcz25_3
  try clear hcz27_0
  try clear hcz27_1
  try clear hcz27_2
  try clear hcz27_3
  try clear hcz30_0
  try clear hcz30_1
  try clear hcz30_2
  try clear hcz30_3
  try clear hfz12_0
  try clear hfz12_1
  try clear hfz12_2
  try clear hfz12_3
  try clear hfz14_0
  try clear hfz14_1
  try clear hfz14_2
  try clear hfz14_3
  try clear hfz16_0
  try clear hfz16_1
  try clear hfz16_2
  try clear hfz16_3
  try clear hfz17_0
  try clear hfz17_1
  try clear hfz17_2
  try clear hfz17_3
  try clear hfz19_0
  try clear hfz19_1
  try clear hfz19_2
  try clear hfz19_3
  try clear hfz21_0
  try clear hfz21_1
  try clear hfz21_2
  try clear hfz21_3
  try clear hfz23_0
  try clear hfz23_1
  try clear hfz23_2
  try clear hfz23_3
  try clear hfz25_0
  try clear hfz25_1
  try clear hfz25_2
  try clear hfz25_3
  try clear hfz27_0
  try clear hfz27_1
  try clear hfz27_2
  try clear hfz27_3
  try clear hfz30_0
  try clear hfz30_1
  try clear hfz30_2
  try clear hfz30_3
  obtain ⟨kq, x5_2, rfl, HA, HJ2, BK396, BK397, HB⟩ := hcut
  cases kq with
  | zero => exact absurd HA.out (by simp [spec_Conflict.j0])
  | succ kj2 =>
   have H := HA.out
   clear HA
   simp only [spec_Conflict.j0] at H
   by_cases c32 : x5_2 = true
   ·
    subst c32
    have H1 : (some false) = some r := by rw [if_pos rfl] at H; exact H
    clear H
    have H := H1
    clear H1
    obtain rfl := Option.some.inj H
    go_wp2
    go_ret
    exact ⟨rA, bG⟩
   ·
    replace c32 := Bool.eq_false_iff.mpr c32
    subst c32
    have H1 : (if a0_1 = 2 then (if a1_2 = a0_2 then (some true) else (some (a1_3 == a0_2))) else (if a1_1 = 2 then (if a0_2 = a1_2 then (some true) else (some (a0_3 == a1_2))) else (if a0_2 = a1_2 then (some false) else (if a0_3 = a1_3 then (some true) else ((spec_InPlace.f a0_2).bind fun t400 => ((spec_OutPlace.f a0_3).bind fun t401 => ((spec_InPlace.f a1_2).bind fun t402 => ((spec_OutPlace.f a1_3).bind fun t403 => ((spec_Interleave.f kj2 t400 t401 t402 t403).bind fun t404 => (some t404)))))))))) = some r := by rw [if_neg (show ¬ (false = true) by decide)] at H; exact H
    clear H
    have H := H1
    clear H1
    by_cases c33 : a0_1 = 2
    ·
     rw [if_pos c33] at H
     have c33b0 : (a0_1 == 2) = true := beq_iff_eq.mpr c33
     have c33b1 : (a0_1 != 2) = false := bne_eq_false_iff_eq.mpr c33
     clear c33
     by_cases c34 : a1_2 = a0_2
     ·
      rw [if_pos c34] at H
      have c34b0 : (a1_2 == a0_2) = true := beq_iff_eq.mpr c34
      have c34b1 : (a1_2 != a0_2) = false := bne_eq_false_iff_eq.mpr c34
      clear c34
      obtain rfl := Option.some.inj H
      have hnb35 := NB396_397.out
      have hnc35 := NB397_396.out
      obtain ⟨hcz36_0, hcz36_1, hcz36_2, hcz36_3, hfz36_0, hfz36_1, hfz36_2, hfz36_3⟩ := blkc4 BK396
      obtain ⟨hcz37_0, hcz37_1, hcz37_2, hcz37_3, hfz37_0, hfz37_1, hfz37_2, hfz37_3⟩ := blkc4 BK397
      go_wp2
      go_ret
      exact ⟨rA, bG⟩
     ·
      rw [if_neg c34] at H
      have c34b0 : (a1_2 == a0_2) = false := beq_eq_false_iff_ne.mpr c34
      have c34b1 : (a1_2 != a0_2) = true := bne_iff_ne.mpr c34
      obtain rfl := Option.some.inj H
      have hnb38 := NB396_397.out
      have hnc38 := NB397_396.out
      obtain ⟨hcz39_0, hcz39_1, hcz39_2, hcz39_3, hfz39_0, hfz39_1, hfz39_2, hfz39_3⟩ := blkc4 BK396
      obtain ⟨hcz40_0, hcz40_1, hcz40_2, hcz40_3, hfz40_0, hfz40_1, hfz40_2, hfz40_3⟩ := blkc4 BK397
      go_wp2
      go_ret
      exact ⟨rA, bG⟩
    ·
     rw [if_neg c33] at H
     have c33b0 : (a0_1 == 2) = false := beq_eq_false_iff_ne.mpr c33
     have c33b1 : (a0_1 != 2) = true := bne_iff_ne.mpr c33
     by_cases c41 : a1_1 = 2
     ·
      rw [if_pos c41] at H
      have c41b0 : (a1_1 == 2) = true := beq_iff_eq.mpr c41
      have c41b1 : (a1_1 != 2) = false := bne_eq_false_iff_eq.mpr c41
      clear c41
      by_cases c42 : a0_2 = a1_2
      ·
       rw [if_pos c42] at H
       have c42b0 : (a0_2 == a1_2) = true := beq_iff_eq.mpr c42
       have c42b1 : (a0_2 != a1_2) = false := bne_eq_false_iff_eq.mpr c42
       clear c42
       obtain rfl := Option.some.inj H
       have hnb43 := NB396_397.out
       have hnc43 := NB397_396.out
       obtain ⟨hcz44_0, hcz44_1, hcz44_2, hcz44_3, hfz44_0, hfz44_1, hfz44_2, hfz44_3⟩ := blkc4 BK396
       obtain ⟨hcz45_0, hcz45_1, hcz45_2, hcz45_3, hfz45_0, hfz45_1, hfz45_2, hfz45_3⟩ := blkc4 BK397
       go_wp2
       go_ret
       exact ⟨rA, bG⟩
      ·
       rw [if_neg c42] at H
       have c42b0 : (a0_2 == a1_2) = false := beq_eq_false_iff_ne.mpr c42
       have c42b1 : (a0_2 != a1_2) = true := bne_iff_ne.mpr c42
       obtain rfl := Option.some.inj H
       have hnb46 := NB396_397.out
       have hnc46 := NB397_396.out
       obtain ⟨hcz47_0, hcz47_1, hcz47_2, hcz47_3, hfz47_0, hfz47_1, hfz47_2, hfz47_3⟩ := blkc4 BK396
       obtain ⟨hcz48_0, hcz48_1, hcz48_2, hcz48_3, hfz48_0, hfz48_1, hfz48_2, hfz48_3⟩ := blkc4 BK397
       go_wp2
       go_ret
       exact ⟨rA, bG⟩
     ·
      rw [if_neg c41] at H
      have c41b0 : (a1_1 == 2) = false := beq_eq_false_iff_ne.mpr c41
      have c41b1 : (a1_1 != 2) = true := bne_iff_ne.mpr c41
      by_cases c49 : a0_2 = a1_2
      ·
       rw [if_pos c49] at H
       have c49b0 : (a0_2 == a1_2) = true := beq_iff_eq.mpr c49
       have c49b1 : (a0_2 != a1_2) = false := bne_eq_false_iff_eq.mpr c49
       clear c49
       obtain rfl := Option.some.inj H
       have hnb50 := NB396_397.out
       have hnc50 := NB397_396.out
       obtain ⟨hcz51_0, hcz51_1, hcz51_2, hcz51_3, hfz51_0, hfz51_1, hfz51_2, hfz51_3⟩ := blkc4 BK396
       obtain ⟨hcz52_0, hcz52_1, hcz52_2, hcz52_3, hfz52_0, hfz52_1, hfz52_2, hfz52_3⟩ := blkc4 BK397
       go_wp2
       go_ret
       exact ⟨rA, bG⟩
      ·
       rw [if_neg c49] at H
       have c49b0 : (a0_2 == a1_2) = false := beq_eq_false_iff_ne.mpr c49
       have c49b1 : (a0_2 != a1_2) = true := bne_iff_ne.mpr c49
       by_cases c53 : a0_3 = a1_3
       ·
        rw [if_pos c53] at H
        have c53b0 : (a0_3 == a1_3) = true := beq_iff_eq.mpr c53
        have c53b1 : (a0_3 != a1_3) = false := bne_eq_false_iff_eq.mpr c53
        clear c53
        obtain rfl := Option.some.inj H
        have hnb54 := NB396_397.out
        have hnc54 := NB397_396.out
        obtain ⟨hcz55_0, hcz55_1, hcz55_2, hcz55_3, hfz55_0, hfz55_1, hfz55_2, hfz55_3⟩ := blkc4 BK396
        obtain ⟨hcz56_0, hcz56_1, hcz56_2, hcz56_3, hfz56_0, hfz56_1, hfz56_2, hfz56_3⟩ := blkc4 BK397
        go_wp2
        go_ret
        exact ⟨rA, bG⟩
       ·
        rw [if_neg c53] at H
        have c53b0 : (a0_3 == a1_3) = false := beq_eq_false_iff_ne.mpr c53
        have c53b1 : (a0_3 != a1_3) = true := bne_iff_ne.mpr c53
        obtain ⟨t400, A57, H⟩ := bindE H
        try dsimp only at H
        obtain ⟨t401, A58, H⟩ := bindE H
        try dsimp only at H
        obtain ⟨t402, A59, H⟩ := bindE H
        try dsimp only at H
        obtain ⟨t403, A60, H⟩ := bindE H
        try dsimp only at H
        obtain ⟨t404, A61, H⟩ := bindE H
        try dsimp only at H
        obtain rfl := Option.some.inj H
        have hnb62 := NB396_397.out
        have hnc62 := NB397_396.out
        obtain ⟨hcz63_0, hcz63_1, hcz63_2, hcz63_3, hfz63_0, hfz63_1, hfz63_2, hfz63_3⟩ := blkc4 BK396
        obtain ⟨hcz64_0, hcz64_1, hcz64_2, hcz64_3, hfz64_0, hfz64_1, hfz64_2, hfz64_3⟩ := blkc4 BK397
        try go_wp2
        replace BK396 := Aside0.mk (blk_drew BK396.out)
        replace BK397 := Aside0.mk (blk_drew BK397.out)
        have HBo := HB
        replace HB := Aside0.mk (below_drew1 HB.out)
        refine start_ (n := 14) (S := fun w' => w'.cell? ⟨gb396, 0, none⟩ = some (.int .i64 a0_0) ∧ w'.cell? ⟨gb396, 1, none⟩ = some (.int .i64 a0_1) ∧ w'.cell? ⟨gb396, 2, none⟩ = some (.int .i64 a0_2) ∧ w'.cell? ⟨gb396, 3, none⟩ = some (.int .i64 a0_3) ∧ w'.cell? ⟨gb397, 0, none⟩ = some (.int .i64 a1_0) ∧ w'.cell? ⟨gb397, 1, none⟩ = some (.int .i64 a1_1) ∧ w'.cell? ⟨gb397, 2, none⟩ = some (.int .i64 a1_2) ∧ w'.cell? ⟨gb397, 3, none⟩ = some (.int .i64 a1_3)) (ds := []) (mb 14 0) (by kernel_rfl) rfl rfl ⟨bC BK396 0, bC BK396 1, bC BK396 2, bC BK396 3, bC BK397 0, bC BK397 1, bC BK397 2, bC BK397 3⟩ (fun hHeld => ?_); refine with_tabW spec_Conflict.tab11 spec_Conflict.bits11 (fun HT_ HW_ => ?_)
        generalize wc.drew = w65 at BK396 BK397 HB hHeld ⊢
        refine pA (i := 0) (N := some 68) (mb 14 1) HT_ ?_
        refine pA (i := 3) (N := some 71) (mb 14 9) HT_ ?_
        refine pA (i := 6) (N := some 74) (mb 14 73) HT_ ?_
        refine pA (i := 9) (N := some 77) (mb 14 585) HT_ ?_
        refine tA8 (i := 1) (N := some 69) (mb 14 587) HT_ HW_ hHeld ?_
        refine tA8 (i := 4) (N := some 72) (mb 14 603) HT_ HW_ hHeld ?_
        refine tA8 (i := 7) (N := some 75) (mb 14 731) HT_ HW_ hHeld ?_
        refine tA8 (i := 10) (N := some 78) (mb 14 1755) HT_ HW_ hHeld ?_
        refine oA (i := 2) (N := some 70) (mb 14 1759) HT_ (fun K hK => ?_)
        refine gA Try.func120 #[.int .i64 a0_2] ?_
        with_reducible refine (spec_InPlace.calls a0_2 t400 _ A57.out).mono ?_
        rintro e w' ⟨rfl, ⟨nd, rfl⟩⟩
        refine ⟨_, rfl, ?_⟩
        refine hK.out _ _ ⟨bC BK396 0, bC BK396 1, bC BK396 2, bC BK396 3, bC BK397 0, bC BK397 1, bC BK397 2, bC BK397 3⟩ (fun hHeld => ?_)
        clear hK K
        refine nB ?_
        refine oA (i := 5) (N := some 73) (mb 14 1791) HT_ (fun K hK => ?_)
        refine gA Try.func121 #[.int .i64 a0_3] ?_
        with_reducible refine (spec_OutPlace.calls a0_3 t401 _ A58.out).mono ?_
        rintro e w' ⟨rfl, ⟨nd, rfl⟩⟩
        refine ⟨_, rfl, ?_⟩
        refine hK.out _ _ ⟨bC BK396 0, bC BK396 1, bC BK396 2, bC BK396 3, bC BK397 0, bC BK397 1, bC BK397 2, bC BK397 3⟩ (fun hHeld => ?_)
        clear hK K
        refine nB ?_
        refine oA (i := 8) (N := some 76) (mb 14 2047) HT_ (fun K hK => ?_)
        refine gA Try.func120 #[.int .i64 a1_2] ?_
        with_reducible refine (spec_InPlace.calls a1_2 t402 _ A59.out).mono ?_
        rintro e w' ⟨rfl, ⟨nd, rfl⟩⟩
        refine ⟨_, rfl, ?_⟩
        refine hK.out _ _ ⟨bC BK396 0, bC BK396 1, bC BK396 2, bC BK396 3, bC BK397 0, bC BK397 1, bC BK397 2, bC BK397 3⟩ (fun hHeld => ?_)
        clear hK K
        refine nB ?_
        refine oA (i := 11) (N := some 79) (mb 14 4095) HT_ (fun K hK => ?_)
        refine gA Try.func121 #[.int .i64 a1_3] ?_
        with_reducible refine (spec_OutPlace.calls a1_3 t403 _ A60.out).mono ?_
        rintro e w' ⟨rfl, ⟨nd, rfl⟩⟩
        refine ⟨_, rfl, ?_⟩
        refine hK.out _ _ ⟨bC BK396 0, bC BK396 1, bC BK396 2, bC BK396 3, bC BK397 0, bC BK397 1, bC BK397 2, bC BK397 3⟩ (fun hHeld => ?_)
        clear hK K
        refine nB ?_
        refine oA (i := 12) (N := some 80) (mb 14 8191) HT_ (fun K hK => ?_)
        refine gA Try.func119 #[.int .i64 t400, .int .i64 t401, .int .i64 t402, .int .i64 t403] ?_
        with_reducible refine (spec_Interleave.calls kj2 t400 t401 t402 t403 t404 _ A61.out).mono ?_
        rintro e w66 ⟨rfl, hb⟩
        refine ⟨_, rfl, ?_⟩
        replace BK396 := Aside0.mk (blk_below (g := gb396) (bK BK396) hb)
        replace BK397 := Aside0.mk (blk_below (g := gb397) (bK BK397) hb)
        replace HB := Aside0.mk (below_step bG hb)
        (try clear hb)
        (try clear hb2)
        (try clear hk)
        (try clear hi)
        refine hK.out _ _ ⟨bC BK396 0, bC BK396 1, bC BK396 2, bC BK396 3, bC BK397 0, bC BK397 1, bC BK397 2, bC BK397 3⟩ (fun hHeld => ?_)
        clear hK K
        refine nB ?_
        refine pA (i := 13) (N := some 4) (mb 14 16383) HT_ ?_
        refine eA HT_ ?_
        try go_wp2
        go_ret
        exact ⟨rA, bG⟩

/-! ### spec_IsTogether: function 98 -/
mutual
def spec_IsTogether.l0 : Nat → List (S90) → List Int → Int → Option (Bool)
 | 0, _, _, _ => none
 | k + 1, x0, x1, x5 => if x5 < (x1.length : Int) then (if 0 ≤ x5 then ((spec_FindPath.f k x0 (rd x1 x5)).bind fun t407 => (if t407 < 0 then (spec_IsTogether.j1 k x0 x1 x5 t407 true) else (if x5 > 0 then (if 0 ≤ (wrap64 (x5 - 1)) then (if (wrap64 (x5 - 1)) < (x1.length : Int) then (spec_IsTogether.j1 k x0 x1 x5 t407 (decide ((rd x1 (wrap64 (x5 - 1))) ≥ (rd x1 x5)))) else (none)) else (none)) else (spec_IsTogether.j1 k x0 x1 x5 t407 false)))) else (none)) else ((spec_ArePaths.f k x0).bind fun t405 => (some t405))
def spec_IsTogether.j1 : Nat → List (S90) → List Int → Int → Int → Bool → Option (Bool)
 | 0, _, _, _, _, _ => none
 | k + 1, x0, x1, x5, x6, x37 => if x37 = true then (some false) else (spec_IsTogether.l1 k x0 x1 x5 x6 0)
def spec_IsTogether.l1 : Nat → List (S90) → List Int → Int → Int → Int → Option (Bool)
 | 0, _, _, _, _, _ => none
 | k + 1, x0, x1, x5, x6, x7 => if x7 < x5 then (if 0 ≤ x6 then (if x6 < (x0.length : Int) then (if 0 ≤ x7 then (if x7 < (x1.length : Int) then ((spec_FindPath.f k x0 (rd x1 x7)).bind fun t412 => (if 0 ≤ t412 then (if t412 < (x0.length : Int) then ((spec_Conflict.f k ((rd_T90 x0 x6).f0) ((rd_T90 x0 x6).f1) ((rd_T90 x0 x6).f2) ((rd_T90 x0 x6).f3) ((rd_T90 x0 t412).f0) ((rd_T90 x0 t412).f1) ((rd_T90 x0 t412).f2) ((rd_T90 x0 t412).f3)).bind fun t414 => (if t414 = true then (some false) else (spec_IsTogether.l1 k x0 x1 x5 x6 (wrap64 (x7 + 1))))) else (none)) else (none))) else (none)) else (none)) else (none)) else (none)) else (spec_IsTogether.l0 k x0 x1 (wrap64 (x5 + 1)))
end
def spec_IsTogether.f (k : Nat) (l0 : List (S90)) (l1 : List Int) : Option (Bool) := spec_IsTogether.l0 k l0 l1 0
theorem spec_IsTogether.mono_l : ∀ k, (∀ y0 y1 y2, LeO (spec_IsTogether.l0 k y0 y1 y2) (spec_IsTogether.l0 (k + 1) y0 y1 y2)) ∧ (∀ y0 y1 y2 y3 y4, LeO (spec_IsTogether.j1 k y0 y1 y2 y3 y4) (spec_IsTogether.j1 (k + 1) y0 y1 y2 y3 y4)) ∧ (∀ y0 y1 y2 y3 y4, LeO (spec_IsTogether.l1 k y0 y1 y2 y3 y4) (spec_IsTogether.l1 (k + 1) y0 y1 y2 y3 y4))
 | 0 => ⟨fun _ _ _ r h => by simp [spec_IsTogether.l0] at h, fun _ _ _ _ _ r h => by simp [spec_IsTogether.j1] at h, fun _ _ _ _ _ r h => by simp [spec_IsTogether.l1] at h⟩
 | k + 1 => by
  obtain ⟨ih0, ih1, ih2⟩ := spec_IsTogether.mono_l k
  refine ⟨?_, ?_, ?_⟩
  ·
   intro y0 y1 y2
   unfold spec_IsTogether.l0
   repeat' first | (with_reducible first | exact LeO.refl _ | exact LeO.none _ | refine LeO.ite ?_ ?_ | refine LeO.bind ?_ (fun _ => ?_) | exact ih0 _ _ _ | exact ih1 _ _ _ _ _ | exact ih2 _ _ _ _ _ | exact spec_ArePaths.mono _ _ | exact spec_Conflict.mono _ _ _ _ _ _ _ _ _ | exact spec_FindPath.mono _ _ _) | exact LeO.none _ | refine LeO.ite ?_ ?_ | refine LeO.bind ?_ (fun _ => ?_) | exact ih0 _ _ _ | exact ih1 _ _ _ _ _ | exact ih2 _ _ _ _ _ | exact spec_ArePaths.mono _ _ | exact spec_Conflict.mono _ _ _ _ _ _ _ _ _ | exact spec_FindPath.mono _ _ _
  ·
   intro y0 y1 y2 y3 y4
   unfold spec_IsTogether.j1
   repeat' first | (with_reducible first | exact LeO.refl _ | exact LeO.none _ | refine LeO.ite ?_ ?_ | refine LeO.bind ?_ (fun _ => ?_) | exact ih0 _ _ _ | exact ih1 _ _ _ _ _ | exact ih2 _ _ _ _ _ | exact spec_ArePaths.mono _ _ | exact spec_Conflict.mono _ _ _ _ _ _ _ _ _ | exact spec_FindPath.mono _ _ _) | exact LeO.none _ | refine LeO.ite ?_ ?_ | refine LeO.bind ?_ (fun _ => ?_) | exact ih0 _ _ _ | exact ih1 _ _ _ _ _ | exact ih2 _ _ _ _ _ | exact spec_ArePaths.mono _ _ | exact spec_Conflict.mono _ _ _ _ _ _ _ _ _ | exact spec_FindPath.mono _ _ _
  ·
   intro y0 y1 y2 y3 y4
   unfold spec_IsTogether.l1
   repeat' first | (with_reducible first | exact LeO.refl _ | exact LeO.none _ | refine LeO.ite ?_ ?_ | refine LeO.bind ?_ (fun _ => ?_) | exact ih0 _ _ _ | exact ih1 _ _ _ _ _ | exact ih2 _ _ _ _ _ | exact spec_ArePaths.mono _ _ | exact spec_Conflict.mono _ _ _ _ _ _ _ _ _ | exact spec_FindPath.mono _ _ _) | exact LeO.none _ | refine LeO.ite ?_ ?_ | refine LeO.bind ?_ (fun _ => ?_) | exact ih0 _ _ _ | exact ih1 _ _ _ _ _ | exact ih2 _ _ _ _ _ | exact spec_ArePaths.mono _ _ | exact spec_Conflict.mono _ _ _ _ _ _ _ _ _ | exact spec_FindPath.mono _ _ _
theorem spec_IsTogether.mono : ∀ a0 a1 k, LeO (spec_IsTogether.f k a0 a1) (spec_IsTogether.f (k + 1) a0 a1) := by
 intro a0 a1 k
 obtain ⟨ih0, ih1, ih2⟩ := spec_IsTogether.mono_l k
 unfold spec_IsTogether.f
 repeat' first | (with_reducible first | exact LeO.refl _ | exact LeO.none _ | refine LeO.ite ?_ ?_ | refine LeO.bind ?_ (fun _ => ?_) | exact ih0 _ _ _ | exact ih1 _ _ _ _ _ | exact ih2 _ _ _ _ _ | exact spec_ArePaths.mono _ _ | exact spec_Conflict.mono _ _ _ _ _ _ _ _ _ | exact spec_FindPath.mono _ _ _) | exact LeO.none _ | refine LeO.ite ?_ ?_ | refine LeO.bind ?_ (fun _ => ?_) | exact ih0 _ _ _ | exact ih1 _ _ _ _ _ | exact ih2 _ _ _ _ _ | exact spec_ArePaths.mono _ _ | exact spec_Conflict.mono _ _ _ _ _ _ _ _ _ | exact spec_FindPath.mono _ _ _
def spec_IsTogether.T5 : Bool × List (List Nat × List Nat) := (true, [([], []), ([0], [0]), ([1], [1]), ([2], [2]), ([3, 2], [2, 3]), ([4, 2, 2], [2, 4]), ([5], [5]), ([5], [5]), ([7, 5], [5, 7]), ([6, 8, 5], [5, 6, 8]), ([9, 5], [5, 9]), ([5], [5]), ([5], [5]), ([11, 12, 5], [5, 11, 12]), ([13, 5], [5, 13]), ([10, 14, 5], [5, 10, 14]), ([5, 15, 2], [2, 5, 15]), ([2, 16], [2, 16])])
def spec_IsTogether.B5 : List Nat := [0, 1, 3, 7, 15, 31, 63, 63, 191, 511, 1023, 63, 63, 6207, 14399, 32767, 65535, 131071]
theorem spec_IsTogether.tab5 : rtab .any (opsOf Try.f98 5) = spec_IsTogether.T5 := by kernel_rfl
theorem spec_IsTogether.bits5 : waitsOk spec_IsTogether.T5.2 spec_IsTogether.B5 = true := by kernel_rfl
def spec_IsTogether.T10 : Bool × List (List Nat × List Nat) := (true, [([], []), ([], []), ([0, 1], [0, 1]), ([2], [2]), ([], []), ([], []), ([], []), ([], []), ([6, 7], [6, 7]), ([8], [8]), ([5, 9], [5, 9]), ([4, 10], [4, 10]), ([11], [11]), ([3, 12, 10], [3, 12])])
def spec_IsTogether.B10 : List Nat := [0, 0, 3, 7, 0, 0, 0, 0, 192, 448, 992, 2032, 4080, 8191]
theorem spec_IsTogether.tab10 : rtab .any (opsOf Try.f98 10) = spec_IsTogether.T10 := by kernel_rfl
theorem spec_IsTogether.bits10 : waitsOk spec_IsTogether.T10.2 spec_IsTogether.B10 = true := by kernel_rfl
set_option maxHeartbeats 8000000 in
set_option maxRecDepth 100000 in
theorem spec_IsTogether.calls (k : Nat) (A0 : Option Addr) (c0 : Nat) (l0 : List (S90)) (A1 : Option Addr) (c1 : Nat) (l1 : List Int) (r : Bool) (w : World) (hr0 : Kd.C k90 w A0 l0.length l0) (hc0 : l0.length ≤ c0) (hr1 : Kd.C (Kd.int .i64) w A1 l1.length l1) (hc1 : l1.length ≤ c1) (h : spec_IsTogether.f k l0 l1 = some r) :
  Calls Try.prog 98 #[.slice A0 l0.length c0, .slice A1 l1.length c1] w fun e w' => e = .returned (.bool r) ∧ Below w.heap.size w w' := by
 have hu90 := Try.underlying90
 have HR0 := Aside0.mk hr0
 have HC0 := Aside0.mk hc0
 clear hr0 hc0
 have HR1 := Aside0.mk hr1
 have HC1 := Aside0.mk hc1
 clear hr1 hc1
 have HB := Aside0.mk (Below.refl w.heap.size w)
 have H : (spec_IsTogether.l0 k l0 l1 0) = some r := h
 clear h
 have H' := Aside0.mk H
 clear H
 go_enter Try.func98, Try.ntmps98
 go_wp2
 go_loopg [5] k (fun kq v5 w' => ∃ (x5_1 : Int), v5 = .int .i64 x5_1 ∧ Aside0 (spec_IsTogether.l0 kq l0 l1 x5_1 = some r) ∧ Aside0 (kq ≤ k) ∧ Aside0 (Below w.heap.size w w'))
 case atStart => exact ⟨(0), rS, H', ⟨Nat.le_refl _⟩, ⟨bA⟩⟩
 case round =>
  clear H'
  try clear c1
  try clear p2
  obtain ⟨x5_1, rfl, HA, HK1, HB⟩ := hrel
  cases gk with
  | zero => exact absurd HA.out (by simp [spec_IsTogether.l0])
  | succ k1 =>
   have H := HA.out
   clear HA
   simp only [spec_IsTogether.l0] at H
   by_cases c3 : x5_1 < (l1.length : Int)
   ·
    rw [if_pos c3] at H
    have c3b0 : decide (x5_1 < (l1.length : Int)) = true := decide_eq_true c3
    clear c3
    have c4 : 0 ≤ x5_1 := ifN H
    replace H := ifT H
    have c4b0 : decide (0 ≤ x5_1) = true := decide_eq_true c4
    clear c4
    obtain ⟨t407, A5, H⟩ := bindE H
    try dsimp only at H
    have HC6 := Aside0.mk H
    clear H
    have p406 : 0 ≤ (x5_1 : Int) := dA
    have q406 : x5_1 < (l1.length : Int) := dA
    obtain ⟨ad406, e406, hx406_0⟩ := Kd.at_int HR1.out x5_1 p406 q406
    cases e406
    replace hx406_0 := hC HB hx406_0
    replace p406 := eq_true p406
    replace q406 := eq_true q406
    go_upto_region 5 with (first | ((with_reducible refine gate_callee (f := 79) rfl ?_); refine gL (some 19) Try.func79 #[.slice A0 l0.length c0, .int .i64 (rd l1 x5_1)] ?_; (with_reducible refine (spec_FindPath.calls k1 _ _ l0 (rd l1 x5_1) t407 _ ?side1 ?side2 A5.out).mono ?_); (case side1 => exact cB HR0); (case side2 => exact HC0.out); rintro e w' ⟨rfl, ⟨nd, rfl⟩⟩; refine ⟨_, rfl, ?_⟩))
    (try simp only [Act.put, List.setIfInBounds_toArray, List.set_cons_zero, List.set_cons_succ])
    go_cut [37] (fun v37 wc => ∃ (kq : Nat) (x37_5 : Bool), v37 = .bool x37_5 ∧ Aside0 (spec_IsTogether.j1 kq l0 l1 x5_1 t407 x37_5 = some r) ∧ Aside0 (kq ≤ k1) ∧ Aside0 (Below w.heap.size w wc))
    case first =>
     have H := HC6.out
     clear HC6
     by_cases c7 : t407 < 0
     ·
      rw [if_pos c7] at H
      have c7b0 : decide (t407 < 0) = true := decide_eq_true c7
      clear c7
      (first | rw [c7b0] | (simp only [i64_w, i32_w]; rw [c7b0]) | skip)
      have H' := Aside0.mk H
      clear H
      try go_wp2
      have HBo := HB
      replace HB := Aside0.mk (below_drew1 HB.out)
      refine start_ (n := 18) (S := fun w' => True) (ds := []) (mb 18 0) (by kernel_rfl) rfl rfl trivial (fun hHeld => ?_); refine with_tabW spec_IsTogether.tab5 spec_IsTogether.bits5 (fun HT_ HW_ => ?_)
      generalize wr.drew = w8 at HB hHeld ⊢
      refine pA (i := 0) (N := some 20) (mb 18 1) HT_ ?_
      refine pA (i := 1) (N := some 21) (mb 18 3) HT_ ?_
      refine pA (i := 2) (N := some 22) (mb 18 7) HT_ ?_
      refine pU (i := 3) (N := some 23) (mb 18 15) HT_ ?_
      refine pU (i := 4) (N := some 24) (mb 18 31) HT_ ?_
      refine pU (i := 5) (N := some 25) (mb 18 63) HT_ ?_
      refine pU (i := 6) (N := some 26) (mb 18 127) HT_ ?_
      refine pU (i := 7) (N := some 27) (mb 18 255) HT_ ?_
      refine pU (i := 8) (N := some 28) (mb 18 511) HT_ ?_
      refine pU (i := 9) (N := some 29) (mb 18 1023) HT_ ?_
      refine pU (i := 10) (N := some 30) (mb 18 2047) HT_ ?_
      refine pU (i := 11) (N := some 31) (mb 18 4095) HT_ ?_
      refine pU (i := 12) (N := some 32) (mb 18 8191) HT_ ?_
      refine pU (i := 13) (N := some 33) (mb 18 16383) HT_ ?_
      refine pU (i := 14) (N := some 34) (mb 18 32767) HT_ ?_
      refine pU (i := 15) (N := some 35) (mb 18 65535) HT_ ?_
      refine pU (i := 16) (N := some 36) (mb 18 131071) HT_ ?_
      refine pA (i := 17) (N := some 37) (mb 18 262143) HT_ ?_
      refine eA HT_ ?_
      try go_wp2
      go_meet
      case rel => exact ⟨_, (true), rS, H', ⟨by have := HK1.out; first | omega | exact Nat.le_refl _⟩, ⟨bA⟩⟩
     ·
      rw [if_neg c7] at H
      have c7b0 : decide (t407 < 0) = false := decide_eq_false c7
      clear c7
      (first | rw [c7b0] | (simp only [i64_w, i32_w]; rw [c7b0]) | skip)
      by_cases c9 : x5_1 > 0
      ·
       rw [if_pos c9] at H
       have c9b0 : decide (0 < x5_1) = true := decide_eq_true c9
       clear c9
       obtain ⟨ji10, hji10⟩ : ∃ j_ : Int, (wrap64 (x5_1 - 1)) = j_ := ⟨_, rfl⟩
       replace H : (if 0 ≤ (ji10) then (if (ji10) < (l1.length : Int) then (spec_IsTogether.j1 k1 l0 l1 x5_1 t407 (decide ((rd l1 (ji10)) ≥ (rd l1 x5_1)))) else (none)) else (none)) = some r := by first | (rw [hji10] at H; exact H) | (simp only [hji10] at H ⊢; exact H)
       have hji10w : (IntKind.i64.wrap (x5_1 - 1)) = ji10 := (i64_w _).trans hji10
       have c11 : 0 ≤ (ji10) := ifN H
       replace H := ifT H
       have c11b0 : decide (0 ≤ (ji10)) = true := decide_eq_true c11
       clear c11
       have c12 : (ji10) < (l1.length : Int) := ifN H
       replace H := ifT H
       have c12b0 : decide ((ji10) < (l1.length : Int)) = true := decide_eq_true c12
       clear c12
       have H' := Aside0.mk H
       clear H
       try go_wp2
       have HBo := HB
       replace HB := Aside0.mk (below_drew1 HB.out)
       have p408 : 0 ≤ ((ji10) : Int) := dA
       have q408 : (ji10) < (l1.length : Int) := dA
       obtain ⟨ad408, e408, hx408_0⟩ := Kd.at_int HR1.out (ji10) p408 q408
       have hw408_0 := hx408_0
       obtain rfl : ad406 = ad408 := (by injection e408)
       replace hx408_0 := hC HB hx408_0
       replace p408 := eq_true p408
       replace q408 := eq_true q408
       have p409 : 0 ≤ (x5_1 : Int) := dA
       have q409 : x5_1 < (l1.length : Int) := dA
       obtain ⟨ad409, e409, hx409_0⟩ := Kd.at_int HR1.out x5_1 p409 q409
       have hw409_0 := hx409_0
       obtain rfl : ad406 = ad409 := (by injection e409)
       replace hx409_0 := hC HB hx409_0
       replace p409 := eq_true p409
       replace q409 := eq_true q409
       refine start_ (n := 18) (S := fun w' => w'.cell? (ad406.add ((ji10)).toNat) = some (.int .i64 (rd l1 (ji10))) ∧ w'.cell? (ad406.add (x5_1).toNat) = some (.int .i64 (rd l1 x5_1))) (ds := []) (mb 18 0) (by kernel_rfl) rfl rfl ⟨(hC HB hw408_0), (hC HB hw409_0)⟩ (fun hHeld => ?_); refine with_tabW spec_IsTogether.tab5 spec_IsTogether.bits5 (fun HT_ HW_ => ?_)
       generalize wr.drew = w13 at HB hx408_0 hx409_0 hHeld ⊢
       refine pA (i := 0) (N := some 20) (mb 18 1) HT_ ?_
       refine pA (i := 1) (N := some 21) (mb 18 3) HT_ ?_
       refine pA (i := 2) (N := some 22) (mb 18 7) HT_ ?_
       refine pA (i := 3) (N := some 23) (mb 18 15) HT_ ?_
       refine pA (i := 4) (N := some 24) (mb 18 31) HT_ ?_
       refine pA (i := 5) (N := some 25) (mb 18 63) HT_ ?_
       refine pA (i := 6) (N := some 26) (mb 18 127) HT_ ?_
       refine pA (i := 7) (N := some 27) (mb 18 255) HT_ ?_
       refine pA (i := 8) (N := some 28) (mb 18 511) HT_ ?_
       refine pA (i := 9) (N := some 29) (mb 18 1023) HT_ ?_
       refine pA (i := 11) (N := some 31) (mb 18 3071) HT_ ?_
       refine pA (i := 12) (N := some 32) (mb 18 7167) HT_ ?_
       refine pA (i := 13) (N := some 33) (mb 18 15359) HT_ ?_
       refine tA2 (i := 10) (N := some 30) (mb 18 16383) HT_ HW_ hHeld ?_
       refine tA2 (i := 14) (N := some 34) (mb 18 32767) HT_ HW_ hHeld ?_
       refine pA (i := 15) (N := some 35) (mb 18 65535) HT_ ?_
       refine pA (i := 16) (N := some 36) (mb 18 131071) HT_ ?_
       refine pA (i := 17) (N := some 37) (mb 18 262143) HT_ ?_
       refine eA HT_ ?_
       try go_wp2
       go_meet
       case rel => exact ⟨_, (decide ((rd l1 (ji10)) ≥ (rd l1 x5_1))), (by first | rfl | (simp; done) | (simp only [← hji10] <;> (first | rfl | simp)) | (simp [*]; done)), H', ⟨by have := HK1.out; first | omega | exact Nat.le_refl _⟩, ⟨bA⟩⟩
      ·
       rw [if_neg c9] at H
       have c9b0 : decide (0 < x5_1) = false := decide_eq_false c9
       clear c9
       have H' := Aside0.mk H
       clear H
       try go_wp2
       have HBo := HB
       replace HB := Aside0.mk (below_drew1 HB.out)
       refine start_ (n := 18) (S := fun w' => True) (ds := []) (mb 18 0) (by kernel_rfl) rfl rfl trivial (fun hHeld => ?_); refine with_tabW spec_IsTogether.tab5 spec_IsTogether.bits5 (fun HT_ HW_ => ?_)
       generalize wr.drew = w14 at HB hHeld ⊢
       refine pA (i := 0) (N := some 20) (mb 18 1) HT_ ?_
       refine pA (i := 1) (N := some 21) (mb 18 3) HT_ ?_
       refine pA (i := 2) (N := some 22) (mb 18 7) HT_ ?_
       refine pA (i := 3) (N := some 23) (mb 18 15) HT_ ?_
       refine pA (i := 4) (N := some 24) (mb 18 31) HT_ ?_
       refine pA (i := 5) (N := some 25) (mb 18 63) HT_ ?_
       refine pU (i := 6) (N := some 26) (mb 18 127) HT_ ?_
       refine pU (i := 7) (N := some 27) (mb 18 255) HT_ ?_
       refine pU (i := 8) (N := some 28) (mb 18 511) HT_ ?_
       refine pU (i := 9) (N := some 29) (mb 18 1023) HT_ ?_
       refine pU (i := 10) (N := some 30) (mb 18 2047) HT_ ?_
       refine pU (i := 11) (N := some 31) (mb 18 4095) HT_ ?_
       refine pU (i := 12) (N := some 32) (mb 18 8191) HT_ ?_
       refine pU (i := 13) (N := some 33) (mb 18 16383) HT_ ?_
       refine pU (i := 14) (N := some 34) (mb 18 32767) HT_ ?_
       refine pU (i := 15) (N := some 35) (mb 18 65535) HT_ ?_
       refine pA (i := 16) (N := some 36) (mb 18 131071) HT_ ?_
       refine pA (i := 17) (N := some 37) (mb 18 262143) HT_ ?_
       refine eA HT_ ?_
       try go_wp2
       go_meet
       case rel => exact ⟨_, (false), rS, H', ⟨by have := HK1.out; first | omega | exact Nat.le_refl _⟩, ⟨bA⟩⟩
    case rest =>
     clear HC6
     try clear c1
     try clear p2
     try clear c3
     try clear c3b0
     try clear c4
     try clear c4b0
     try clear p4
     try clear q4
     try clear hx4
     try clear p6
     try clear c7
     try clear c7b0
     try clear c9
     try clear c9b0
     try clear c11
     try clear c11b0
     try clear c12
     try clear c12b0
     try clear hx406_0
     try clear hx408_0
     try clear hx409_0
     try clear p2
     try clear p406
     try clear p408
     try clear p409
     try clear q406
     try clear q408
     try clear q409
     obtain ⟨kq, x37_5, rfl, HA, HJ5, HB⟩ := hcut
     cases kq with
     | zero => exact absurd HA.out (by simp [spec_IsTogether.j1])
     | succ kj5 =>
      have H := HA.out
      clear HA
      simp only [spec_IsTogether.j1] at H
      by_cases c15 : x37_5 = true
      ·
       subst c15
       have H1 : (some false) = some r := by rw [if_pos rfl] at H; exact H
       clear H
       have H := H1
       clear H1
       obtain rfl := Option.some.inj H
       go_wp2
       go_ret
       exact ⟨rA, bA⟩
      ·
       replace c15 := Bool.eq_false_iff.mpr c15
       subst c15
       have H1 : (spec_IsTogether.l1 kj5 l0 l1 x5_1 t407 0) = some r := by rw [if_neg (show ¬ (false = true) by decide)] at H; exact H
       clear H
       have H := H1
       clear H1
       have H' := Aside0.mk H
       clear H
       go_wp2
       go_loopg [7] kj5 (fun kq v7 w' => ∃ (x7_3 : Int), v7 = .int .i64 x7_3 ∧ Aside0 (spec_IsTogether.l1 kq l0 l1 x5_1 t407 x7_3 = some r) ∧ Aside0 (kq ≤ kj5) ∧ Aside0 (Below w.heap.size w w'))
       case atStart => exact ⟨(0), rS, H', ⟨Nat.le_refl _⟩, ⟨bA⟩⟩
       case round =>
        clear H'
        try clear c1
        try clear p2
        try clear c3
        try clear c3b0
        try clear c4
        try clear c4b0
        try clear p4
        try clear q4
        try clear hx4
        try clear p6
        try clear c7
        try clear c7b0
        try clear c9
        try clear c9b0
        try clear c11
        try clear c11b0
        try clear c12
        try clear c12b0
        try clear c15
        try clear hx406_0
        try clear hx408_0
        try clear hx409_0
        try clear p2
        try clear p4
        try clear p406
        try clear p408
        try clear p409
        try clear p6
        try clear q4
        try clear q406
        try clear q408
        try clear q409
        obtain ⟨x7_3, rfl, HA, HK3, HB⟩ := hrel
        cases gk with
        | zero => exact absurd HA.out (by simp [spec_IsTogether.l1])
        | succ k3 =>
         have H := HA.out
         clear HA
         simp only [spec_IsTogether.l1] at H
         by_cases c16 : x7_3 < x5_1
         ·
          rw [if_pos c16] at H
          have c16b0 : decide (x7_3 < x5_1) = true := decide_eq_true c16
          clear c16
          have c17 : 0 ≤ t407 := ifN H
          replace H := ifT H
          have c17b0 : decide (0 ≤ t407) = true := decide_eq_true c17
          clear c17
          have c18 : t407 < (l0.length : Int) := ifN H
          replace H := ifT H
          have c18b0 : decide (t407 < (l0.length : Int)) = true := decide_eq_true c18
          clear c18
          have c19 : 0 ≤ x7_3 := ifN H
          replace H := ifT H
          have c19b0 : decide (0 ≤ x7_3) = true := decide_eq_true c19
          clear c19
          have c20 : x7_3 < (l1.length : Int) := ifN H
          replace H := ifT H
          have c20b0 : decide (x7_3 < (l1.length : Int)) = true := decide_eq_true c20
          clear c20
          obtain ⟨t412, A21, H⟩ := bindE H
          try dsimp only at H
          have c22 : 0 ≤ t412 := ifN H
          replace H := ifT H
          have c22b0 : decide (0 ≤ t412) = true := decide_eq_true c22
          clear c22
          have c23 : t412 < (l0.length : Int) := ifN H
          replace H := ifT H
          have c23b0 : decide (t412 < (l0.length : Int)) = true := decide_eq_true c23
          clear c23
          obtain ⟨t414, A24, H⟩ := bindE H
          try dsimp only at H
          by_cases c25 : t414 = true
          ·
           subst c25
           have H1 : (some false) = some r := by rw [if_pos rfl] at H; exact H
           clear H
           have H := H1
           clear H1
           obtain rfl := Option.some.inj H
           try go_wp2
           have HBo := HB
           replace HB := Aside0.mk (below_drew1 HB.out)
           have p410 : 0 ≤ (t407 : Int) := dA
           have q410 : t407 < (l0.length : Int) := dA
           obtain ⟨ad410, e410, hx410_0, hx410_1, hx410_2, hx410_3⟩ := at_T90 HR0.out t407 p410 q410
           have hw410_3 := hx410_3
           have hw410_2 := hx410_2
           have hw410_1 := hx410_1
           have hw410_0 := hx410_0
           cases e410
           replace hx410_0 := hC HB hx410_0
           replace hx410_1 := hC HB hx410_1
           replace hx410_2 := hC HB hx410_2
           replace hx410_3 := hC HB hx410_3
           replace p410 := eq_true p410
           replace q410 := eq_true q410
           have p411 : 0 ≤ (x7_3 : Int) := dA
           have q411 : x7_3 < (l1.length : Int) := dA
           obtain ⟨ad411, e411, hx411_0⟩ := Kd.at_int HR1.out x7_3 p411 q411
           have hw411_0 := hx411_0
           obtain rfl : ad406 = ad411 := (by injection e411)
           replace hx411_0 := hC HB hx411_0
           replace p411 := eq_true p411
           replace q411 := eq_true q411
           have p413 : 0 ≤ (t412 : Int) := dA
           have q413 : t412 < (l0.length : Int) := dA
           obtain ⟨ad413, e413, hx413_0, hx413_1, hx413_2, hx413_3⟩ := at_T90 HR0.out t412 p413 q413
           have hw413_3 := hx413_3
           have hw413_2 := hx413_2
           have hw413_1 := hx413_1
           have hw413_0 := hx413_0
           obtain rfl : ad410 = ad413 := (by injection e413)
           replace hx413_0 := hC HB hx413_0
           replace hx413_1 := hC HB hx413_1
           replace hx413_2 := hC HB hx413_2
           replace hx413_3 := hC HB hx413_3
           replace p413 := eq_true p413
           replace q413 := eq_true q413
           refine start_ (n := 14) (S := fun w' => w'.cell? (ad410.add ((t407).toNat * 4)) = some (.int .i64 ((rd_T90 l0 t407).f0)) ∧ w'.cell? ⟨(ad410.add ((t407).toNat * 4)).block, (ad410.add ((t407).toNat * 4)).off + 1, none⟩ = some (.int .i64 ((rd_T90 l0 t407).f1)) ∧ w'.cell? ⟨(ad410.add ((t407).toNat * 4)).block, (ad410.add ((t407).toNat * 4)).off + 2, none⟩ = some (.int .i64 ((rd_T90 l0 t407).f2)) ∧ w'.cell? ⟨(ad410.add ((t407).toNat * 4)).block, (ad410.add ((t407).toNat * 4)).off + 3, none⟩ = some (.int .i64 ((rd_T90 l0 t407).f3)) ∧ w'.cell? (ad406.add (x7_3).toNat) = some (.int .i64 (rd l1 x7_3)) ∧ w'.cell? (ad410.add ((t412).toNat * 4)) = some (.int .i64 ((rd_T90 l0 t412).f0)) ∧ w'.cell? ⟨(ad410.add ((t412).toNat * 4)).block, (ad410.add ((t412).toNat * 4)).off + 1, none⟩ = some (.int .i64 ((rd_T90 l0 t412).f1)) ∧ w'.cell? ⟨(ad410.add ((t412).toNat * 4)).block, (ad410.add ((t412).toNat * 4)).off + 2, none⟩ = some (.int .i64 ((rd_T90 l0 t412).f2)) ∧ w'.cell? ⟨(ad410.add ((t412).toNat * 4)).block, (ad410.add ((t412).toNat * 4)).off + 3, none⟩ = some (.int .i64 ((rd_T90 l0 t412).f3))) (ds := []) (mb 14 0) (by kernel_rfl) rfl rfl ⟨(hC HB hw410_0), (hC HB hw410_1), (hC HB hw410_2), (hC HB hw410_3), (hC HB hw411_0), (hC HB hw413_0), (hC HB hw413_1), (hC HB hw413_2), (hC HB hw413_3)⟩ (fun hHeld => ?_); refine with_tabW spec_IsTogether.tab10 spec_IsTogether.bits10 (fun HT_ HW_ => ?_)
           generalize wr.drew = w26 at HB hx410_0 hx410_1 hx410_2 hx410_3 hx411_0 hx413_0 hx413_1 hx413_2 hx413_3 hHeld ⊢
           refine pA (i := 0) (N := some 43) (mb 14 1) HT_ ?_
           refine pA (i := 1) (N := some 44) (mb 14 3) HT_ ?_
           refine pA (i := 2) (N := some 45) (mb 14 7) HT_ ?_
           refine pA (i := 4) (N := some 47) (mb 14 23) HT_ ?_
           refine pA (i := 5) (N := some 48) (mb 14 55) HT_ ?_
           refine pA (i := 6) (N := some 49) (mb 14 119) HT_ ?_
           refine pA (i := 7) (N := some 50) (mb 14 247) HT_ ?_
           refine pA (i := 8) (N := some 51) (mb 14 503) HT_ ?_
           refine tA9 (i := 3) (N := some 46) (mb 14 511) HT_ HW_ hHeld ?_
           refine tA9 (i := 9) (N := some 52) (mb 14 1023) HT_ HW_ hHeld ?_
           refine oA (i := 10) (N := some 53) (mb 14 2047) HT_ (fun K hK => ?_)
           refine gA Try.func79 #[.slice (some ad410) l0.length c0, .int .i64 (rd l1 x7_3)] ?_
           with_reducible refine (spec_FindPath.calls k3 _ _ l0 (rd l1 x7_3) t412 _ ?side1 ?side2 A21.out).mono ?_
           (case side1 => exact cB HR0)
           (case side2 => exact HC0.out)
           rintro e w' ⟨rfl, ⟨nd, rfl⟩⟩
           refine ⟨_, rfl, ?_⟩
           refine hK.out _ _ ⟨(hC HB hw410_0), (hC HB hw410_1), (hC HB hw410_2), (hC HB hw410_3), (hC HB hw411_0), (hC HB hw413_0), (hC HB hw413_1), (hC HB hw413_2), (hC HB hw413_3)⟩ (fun hHeld => ?_)
           clear hK K
           refine nB ?_
           refine pA (i := 11) (N := some 54) (mb 14 4095) HT_ ?_
           refine tA9 (i := 12) (N := some 55) (mb 14 8191) HT_ HW_ hHeld ?_
           refine oA (i := 13) (N := some 56) (mb 14 16383) HT_ (fun K hK => ?_)
           refine gA Try.func91 #[.agg #[.int .i64 ((rd_T90 l0 t407).f0), .int .i64 ((rd_T90 l0 t407).f1), .int .i64 ((rd_T90 l0 t407).f2), .int .i64 ((rd_T90 l0 t407).f3)], .agg #[.int .i64 ((rd_T90 l0 t412).f0), .int .i64 ((rd_T90 l0 t412).f1), .int .i64 ((rd_T90 l0 t412).f2), .int .i64 ((rd_T90 l0 t412).f3)]] ?_
           with_reducible refine (spec_Conflict.calls k3 ((rd_T90 l0 t407).f0) ((rd_T90 l0 t407).f1) ((rd_T90 l0 t407).f2) ((rd_T90 l0 t407).f3) ((rd_T90 l0 t412).f0) ((rd_T90 l0 t412).f1) ((rd_T90 l0 t412).f2) ((rd_T90 l0 t412).f3) true _ A24.out).mono ?_
           rintro e w27 ⟨rfl, hb⟩
           refine ⟨_, rfl, ?_⟩
           replace HB := Aside0.mk (below_step bA hb)
           (try clear hb)
           (try clear hb2)
           (try clear hk)
           (try clear hi)
           refine hK.out _ _ ⟨(hC HB hw410_0), (hC HB hw410_1), (hC HB hw410_2), (hC HB hw410_3), (hC HB hw411_0), (hC HB hw413_0), (hC HB hw413_1), (hC HB hw413_2), (hC HB hw413_3)⟩ (fun hHeld => ?_)
           clear hK K
           refine nB ?_
           refine eA HT_ ?_
           try go_wp2
           go_ret
           exact ⟨rA, bA⟩
          ·
           replace c25 := Bool.eq_false_iff.mpr c25
           subst c25
           have H1 : (spec_IsTogether.l1 k3 l0 l1 x5_1 t407 (wrap64 (x7_3 + 1))) = some r := by rw [if_neg (show ¬ (false = true) by decide)] at H; exact H
           clear H
           have H := H1
           clear H1
           have H' := Aside0.mk H
           clear H
           try go_wp2
           have HBo := HB
           replace HB := Aside0.mk (below_drew1 HB.out)
           have p410 : 0 ≤ (t407 : Int) := dA
           have q410 : t407 < (l0.length : Int) := dA
           obtain ⟨ad410, e410, hx410_0, hx410_1, hx410_2, hx410_3⟩ := at_T90 HR0.out t407 p410 q410
           have hw410_3 := hx410_3
           have hw410_2 := hx410_2
           have hw410_1 := hx410_1
           have hw410_0 := hx410_0
           cases e410
           replace hx410_0 := hC HB hx410_0
           replace hx410_1 := hC HB hx410_1
           replace hx410_2 := hC HB hx410_2
           replace hx410_3 := hC HB hx410_3
           replace p410 := eq_true p410
           replace q410 := eq_true q410
           have p411 : 0 ≤ (x7_3 : Int) := dA
           have q411 : x7_3 < (l1.length : Int) := dA
           obtain ⟨ad411, e411, hx411_0⟩ := Kd.at_int HR1.out x7_3 p411 q411
           have hw411_0 := hx411_0
           obtain rfl : ad406 = ad411 := (by injection e411)
           replace hx411_0 := hC HB hx411_0
           replace p411 := eq_true p411
           replace q411 := eq_true q411
           have p413 : 0 ≤ (t412 : Int) := dA
           have q413 : t412 < (l0.length : Int) := dA
           obtain ⟨ad413, e413, hx413_0, hx413_1, hx413_2, hx413_3⟩ := at_T90 HR0.out t412 p413 q413
           have hw413_3 := hx413_3
           have hw413_2 := hx413_2
           have hw413_1 := hx413_1
           have hw413_0 := hx413_0
           obtain rfl : ad410 = ad413 := (by injection e413)
           replace hx413_0 := hC HB hx413_0
           replace hx413_1 := hC HB hx413_1
           replace hx413_2 := hC HB hx413_2
           replace hx413_3 := hC HB hx413_3
           replace p413 := eq_true p413
           replace q413 := eq_true q413
           refine start_ (n := 14) (S := fun w' => w'.cell? (ad410.add ((t407).toNat * 4)) = some (.int .i64 ((rd_T90 l0 t407).f0)) ∧ w'.cell? ⟨(ad410.add ((t407).toNat * 4)).block, (ad410.add ((t407).toNat * 4)).off + 1, none⟩ = some (.int .i64 ((rd_T90 l0 t407).f1)) ∧ w'.cell? ⟨(ad410.add ((t407).toNat * 4)).block, (ad410.add ((t407).toNat * 4)).off + 2, none⟩ = some (.int .i64 ((rd_T90 l0 t407).f2)) ∧ w'.cell? ⟨(ad410.add ((t407).toNat * 4)).block, (ad410.add ((t407).toNat * 4)).off + 3, none⟩ = some (.int .i64 ((rd_T90 l0 t407).f3)) ∧ w'.cell? (ad406.add (x7_3).toNat) = some (.int .i64 (rd l1 x7_3)) ∧ w'.cell? (ad410.add ((t412).toNat * 4)) = some (.int .i64 ((rd_T90 l0 t412).f0)) ∧ w'.cell? ⟨(ad410.add ((t412).toNat * 4)).block, (ad410.add ((t412).toNat * 4)).off + 1, none⟩ = some (.int .i64 ((rd_T90 l0 t412).f1)) ∧ w'.cell? ⟨(ad410.add ((t412).toNat * 4)).block, (ad410.add ((t412).toNat * 4)).off + 2, none⟩ = some (.int .i64 ((rd_T90 l0 t412).f2)) ∧ w'.cell? ⟨(ad410.add ((t412).toNat * 4)).block, (ad410.add ((t412).toNat * 4)).off + 3, none⟩ = some (.int .i64 ((rd_T90 l0 t412).f3))) (ds := []) (mb 14 0) (by kernel_rfl) rfl rfl ⟨(hC HB hw410_0), (hC HB hw410_1), (hC HB hw410_2), (hC HB hw410_3), (hC HB hw411_0), (hC HB hw413_0), (hC HB hw413_1), (hC HB hw413_2), (hC HB hw413_3)⟩ (fun hHeld => ?_); refine with_tabW spec_IsTogether.tab10 spec_IsTogether.bits10 (fun HT_ HW_ => ?_)
           generalize wr.drew = w28 at HB hx410_0 hx410_1 hx410_2 hx410_3 hx411_0 hx413_0 hx413_1 hx413_2 hx413_3 hHeld ⊢
           refine pA (i := 0) (N := some 43) (mb 14 1) HT_ ?_
           refine pA (i := 1) (N := some 44) (mb 14 3) HT_ ?_
           refine pA (i := 2) (N := some 45) (mb 14 7) HT_ ?_
           refine pA (i := 4) (N := some 47) (mb 14 23) HT_ ?_
           refine pA (i := 5) (N := some 48) (mb 14 55) HT_ ?_
           refine pA (i := 6) (N := some 49) (mb 14 119) HT_ ?_
           refine pA (i := 7) (N := some 50) (mb 14 247) HT_ ?_
           refine pA (i := 8) (N := some 51) (mb 14 503) HT_ ?_
           refine tA9 (i := 3) (N := some 46) (mb 14 511) HT_ HW_ hHeld ?_
           refine tA9 (i := 9) (N := some 52) (mb 14 1023) HT_ HW_ hHeld ?_
           refine oA (i := 10) (N := some 53) (mb 14 2047) HT_ (fun K hK => ?_)
           refine gA Try.func79 #[.slice (some ad410) l0.length c0, .int .i64 (rd l1 x7_3)] ?_
           with_reducible refine (spec_FindPath.calls k3 _ _ l0 (rd l1 x7_3) t412 _ ?side1 ?side2 A21.out).mono ?_
           (case side1 => exact cB HR0)
           (case side2 => exact HC0.out)
           rintro e w' ⟨rfl, ⟨nd, rfl⟩⟩
           refine ⟨_, rfl, ?_⟩
           refine hK.out _ _ ⟨(hC HB hw410_0), (hC HB hw410_1), (hC HB hw410_2), (hC HB hw410_3), (hC HB hw411_0), (hC HB hw413_0), (hC HB hw413_1), (hC HB hw413_2), (hC HB hw413_3)⟩ (fun hHeld => ?_)
           clear hK K
           refine nB ?_
           refine pA (i := 11) (N := some 54) (mb 14 4095) HT_ ?_
           refine tA9 (i := 12) (N := some 55) (mb 14 8191) HT_ HW_ hHeld ?_
           refine oA (i := 13) (N := some 56) (mb 14 16383) HT_ (fun K hK => ?_)
           refine gA Try.func91 #[.agg #[.int .i64 ((rd_T90 l0 t407).f0), .int .i64 ((rd_T90 l0 t407).f1), .int .i64 ((rd_T90 l0 t407).f2), .int .i64 ((rd_T90 l0 t407).f3)], .agg #[.int .i64 ((rd_T90 l0 t412).f0), .int .i64 ((rd_T90 l0 t412).f1), .int .i64 ((rd_T90 l0 t412).f2), .int .i64 ((rd_T90 l0 t412).f3)]] ?_
           with_reducible refine (spec_Conflict.calls k3 ((rd_T90 l0 t407).f0) ((rd_T90 l0 t407).f1) ((rd_T90 l0 t407).f2) ((rd_T90 l0 t407).f3) ((rd_T90 l0 t412).f0) ((rd_T90 l0 t412).f1) ((rd_T90 l0 t412).f2) ((rd_T90 l0 t412).f3) false _ A24.out).mono ?_
           rintro e w29 ⟨rfl, hb⟩
           refine ⟨_, rfl, ?_⟩
           replace HB := Aside0.mk (below_step bA hb)
           (try clear hb)
           (try clear hb2)
           (try clear hk)
           (try clear hi)
           refine hK.out _ _ ⟨(hC HB hw410_0), (hC HB hw410_1), (hC HB hw410_2), (hC HB hw410_3), (hC HB hw411_0), (hC HB hw413_0), (hC HB hw413_1), (hC HB hw413_2), (hC HB hw413_3)⟩ (fun hHeld => ?_)
           clear hK K
           refine nB ?_
           refine eA HT_ ?_
           try go_wp2
           go_roundg k3
           case measure => have := HK1.out; have := HJ5.out; have := HK3.out; omega
           case rel => exact ⟨(wrap64 (x7_3 + 1)), rS, H', ⟨by have := HK1.out; have := HJ5.out; have := HK3.out; omega⟩, ⟨bA⟩⟩
         ·
          rw [if_neg c16] at H
          have c16b0 : decide (x7_3 < x5_1) = false := decide_eq_false c16
          clear c16
          have H' := Aside0.mk H
          clear H
          go_wp2
          go_roundg k3
          case measure => have := HK1.out; have := HJ5.out; have := HK3.out; omega
          case rel => exact ⟨(wrap64 (x5_1 + 1)), rS, H', ⟨by have := HK1.out; have := HJ5.out; have := HK3.out; omega⟩, ⟨bA⟩⟩
   ·
    rw [if_neg c3] at H
    have c3b0 : decide (x5_1 < (l1.length : Int)) = false := decide_eq_false c3
    clear c3
    obtain ⟨t405, A30, H⟩ := bindE H
    try dsimp only at H
    obtain rfl := Option.some.inj H
    go_wp2_with (first | ((with_reducible refine gate_callee (f := 80) rfl ?_); refine gL (some 58) Try.func80 #[.slice A0 l0.length c0] ?_; (with_reducible refine (spec_ArePaths.calls k1 _ _ l0 t405 _ ?side1 ?side2 A30.out).mono ?_); (case side1 => exact cB HR0); (case side2 => exact HC0.out); rintro e w31 ⟨rfl, hb⟩; refine ⟨_, rfl, ?_⟩; replace HB := Aside0.mk (below_step bA hb); (try clear hb); (try clear hb2); (try clear hk); (try clear hi)))
    go_ret
    exact ⟨rA, bA⟩

/-! ### spec_Max: function 110 -/
def spec_Max.f (a0 : Int) (a1 : Int) : Option (Int) := if a1 > a0 then (some a1) else (some a0)
set_option maxHeartbeats 8000000 in
set_option maxRecDepth 100000 in
theorem spec_Max.calls (a0 : Int) (a1 : Int) (r : Int) (w : World) (h : spec_Max.f a0 a1 = some r) :
  Calls Try.prog 110 #[.int .i64 a0, .int .i64 a1] w fun e w' => e = .returned (.int .i64 r) ∧ Drawn0 w w' := by
 have H : (if a1 > a0 then (some a1) else (some a0)) = some r := h
 clear h
 by_cases c3 : a1 > a0
 ·
  rw [if_pos c3] at H
  have c3b0 : decide (a0 < a1) = true := decide_eq_true c3
  clear c3
  obtain rfl := Option.some.inj H
  go_enter Try.func110, Try.ntmps110
  go_wp2
  go_ret
  exact ⟨by first | rfl | (simp; done) | (simp [*]; done), by repeat (first | exact Drawn0.refl _ | apply Drawn0.step)⟩
 ·
  rw [if_neg c3] at H
  have c3b0 : decide (a0 < a1) = false := decide_eq_false c3
  clear c3
  obtain rfl := Option.some.inj H
  go_enter Try.func110, Try.ntmps110
  go_wp2
  go_ret
  exact ⟨by first | rfl | (simp; done) | (simp [*]; done), by repeat (first | exact Drawn0.refl _ | apply Drawn0.step)⟩

/-! ### spec_l6Has: function 104 -/
def spec_l6Has.l0 : Nat → List Int → Int → Int → Option (Bool)
 | 0, _, _, _ => none
 | k + 1, x0, x1, x5 => if x5 < (x0.length : Int) then (if 0 ≤ x5 then (if (rd x0 x5) = x1 then (some true) else (spec_l6Has.l0 k x0 x1 (wrap64 (x5 + 1)))) else (none)) else (some false)
def spec_l6Has.f (k : Nat) (l0 : List Int) (a1 : Int) : Option (Bool) := spec_l6Has.l0 k l0 a1 0
theorem spec_l6Has.mono_l : ∀ k, (∀ y0 y1 y2, LeO (spec_l6Has.l0 k y0 y1 y2) (spec_l6Has.l0 (k + 1) y0 y1 y2))
 | 0 => fun _ _ _ r h => by simp [spec_l6Has.l0] at h
 | k + 1 => by
  have ih0 := spec_l6Has.mono_l k
  ·
   intro y0 y1 y2
   unfold spec_l6Has.l0
   repeat' first | (with_reducible first | exact LeO.refl _ | exact LeO.none _ | refine LeO.ite ?_ ?_ | refine LeO.bind ?_ (fun _ => ?_) | exact ih0 _ _ _) | exact LeO.none _ | refine LeO.ite ?_ ?_ | refine LeO.bind ?_ (fun _ => ?_) | exact ih0 _ _ _
theorem spec_l6Has.mono : ∀ a0 a1 k, LeO (spec_l6Has.f k a0 a1) (spec_l6Has.f (k + 1) a0 a1) := by
 intro a0 a1 k
 have ih0 := spec_l6Has.mono_l k
 unfold spec_l6Has.f
 repeat' first | (with_reducible first | exact LeO.refl _ | exact LeO.none _ | refine LeO.ite ?_ ?_ | refine LeO.bind ?_ (fun _ => ?_) | exact ih0 _ _ _) | exact LeO.none _ | refine LeO.ite ?_ ?_ | refine LeO.bind ?_ (fun _ => ?_) | exact ih0 _ _ _
set_option maxHeartbeats 8000000 in
set_option maxRecDepth 100000 in
theorem spec_l6Has.calls (k : Nat) (A0 : Option Addr) (c0 : Nat) (l0 : List Int) (a1 : Int) (r : Bool) (w : World) (hr0 : Kd.C (Kd.int .i64) w A0 l0.length l0) (hc0 : l0.length ≤ c0) (h : spec_l6Has.f k l0 a1 = some r) :
  Calls Try.prog 104 #[.slice A0 l0.length c0, .int .i64 a1] w fun e w' => e = .returned (.bool r) ∧ Drawn0 w w' := by
 have HR0 := Aside0.mk hr0
 have HC0 := Aside0.mk hc0
 clear hr0 hc0
 have H : (spec_l6Has.l0 k l0 a1 0) = some r := h
 clear h
 have H' := Aside0.mk H
 clear H
 go_enter Try.func104, Try.ntmps104
 go_wp2
 go_loopg [5] k (fun kq v5 w' => ∃ (x5_1 : Int), v5 = .int .i64 x5_1 ∧ Aside0 (spec_l6Has.l0 kq l0 a1 x5_1 = some r) ∧ Aside0 (kq ≤ k) ∧ Drawn0 w w')
 case atStart => exact ⟨(0), rS, H', ⟨Nat.le_refl _⟩, by repeat (first | exact Drawn0.refl _ | apply Drawn0.step)⟩
 case round =>
  clear H'
  try clear c1
  try clear p2
  obtain ⟨x5_1, rfl, HA, HK1, ⟨m1, rfl⟩⟩ := hrel
  cases gk with
  | zero => exact absurd HA.out (by simp [spec_l6Has.l0])
  | succ k1 =>
   have H := HA.out
   clear HA
   simp only [spec_l6Has.l0] at H
   by_cases c3 : x5_1 < (l0.length : Int)
   ·
    rw [if_pos c3] at H
    have c3b0 : decide (x5_1 < (l0.length : Int)) = true := decide_eq_true c3
    clear c3
    have c4 : 0 ≤ x5_1 := ifN H
    replace H := ifT H
    have c4b0 : decide (0 ≤ x5_1) = true := decide_eq_true c4
    clear c4
    by_cases c5 : (rd l0 x5_1) = a1
    ·
     rw [if_pos c5] at H
     have c5b0 : ((rd l0 x5_1) == a1) = true := beq_iff_eq.mpr c5
     have c5b1 : ((rd l0 x5_1) != a1) = false := bne_eq_false_iff_eq.mpr c5
     clear c5
     obtain rfl := Option.some.inj H
     have p415 : 0 ≤ (x5_1 : Int) := dA
     have q415 : x5_1 < (l0.length : Int) := dA
     obtain ⟨ad415, e415, hx415_0⟩ := Kd.at_int HR0.out x5_1 p415 q415
     cases e415
     replace p415 := eq_true p415
     replace q415 := eq_true q415
     go_wp2
     go_ret
     exact ⟨by first | rfl | (simp; done) | (simp [*]; done), by repeat (first | exact Drawn0.refl _ | apply Drawn0.step)⟩
    ·
     rw [if_neg c5] at H
     have c5b0 : ((rd l0 x5_1) == a1) = false := beq_eq_false_iff_ne.mpr c5
     have c5b1 : ((rd l0 x5_1) != a1) = true := bne_iff_ne.mpr c5
     have H' := Aside0.mk H
     clear H
     have p415 : 0 ≤ (x5_1 : Int) := dA
     have q415 : x5_1 < (l0.length : Int) := dA
     obtain ⟨ad415, e415, hx415_0⟩ := Kd.at_int HR0.out x5_1 p415 q415
     cases e415
     replace p415 := eq_true p415
     replace q415 := eq_true q415
     go_wp2
     go_roundg k1
     case measure => have := HK1.out; omega
     case rel => exact ⟨(wrap64 (x5_1 + 1)), rS, H', ⟨by have := HK1.out; omega⟩, by repeat (first | exact Drawn0.refl _ | apply Drawn0.step)⟩
   ·
    rw [if_neg c3] at H
    have c3b0 : decide (x5_1 < (l0.length : Int)) = false := decide_eq_false c3
    clear c3
    obtain rfl := Option.some.inj H
    go_wp2
    go_ret
    exact ⟨by first | rfl | (simp; done) | (simp [*]; done), by repeat (first | exact Drawn0.refl _ | apply Drawn0.step)⟩

/-! ### spec_Closes: function 128 -/
def spec_Closes.l0 : Nat → List Int → List Int → List Int → Int → Option (List Int)
 | 0, _, _, _, _ => none
 | k + 1, x0, x1, x5, x6 => if x6 < (x0.length : Int) then (if 0 ≤ x6 then ((spec_l6Has.f k x1 (rd x0 x6)).bind fun t420 => (if t420 = true then (spec_Closes.l0 k x0 x1 x5 (wrap64 (x6 + 1))) else (if x5.length < 17592186044416 then (spec_Closes.l0 k x0 x1 (x5 ++ [rd x0 x6]) (wrap64 (x6 + 1))) else (none)))) else (none)) else (some x5)
def spec_Closes.f (k : Nat) (l0 : List Int) (l1 : List Int) : Option (List Int) := spec_Closes.l0 k l0 l1 (([] : List Int)) 0
theorem spec_Closes.mono_l : ∀ k, (∀ y0 y1 y2 y3, LeO (spec_Closes.l0 k y0 y1 y2 y3) (spec_Closes.l0 (k + 1) y0 y1 y2 y3))
 | 0 => fun _ _ _ _ r h => by simp [spec_Closes.l0] at h
 | k + 1 => by
  have ih0 := spec_Closes.mono_l k
  ·
   intro y0 y1 y2 y3
   unfold spec_Closes.l0
   repeat' first | (with_reducible first | exact LeO.refl _ | exact LeO.none _ | refine LeO.ite ?_ ?_ | refine LeO.bind ?_ (fun _ => ?_) | exact ih0 _ _ _ _ | exact spec_l6Has.mono _ _ _) | exact LeO.none _ | refine LeO.ite ?_ ?_ | refine LeO.bind ?_ (fun _ => ?_) | exact ih0 _ _ _ _ | exact spec_l6Has.mono _ _ _
theorem spec_Closes.mono : ∀ a0 a1 k, LeO (spec_Closes.f k a0 a1) (spec_Closes.f (k + 1) a0 a1) := by
 intro a0 a1 k
 have ih0 := spec_Closes.mono_l k
 unfold spec_Closes.f
 repeat' first | (with_reducible first | exact LeO.refl _ | exact LeO.none _ | refine LeO.ite ?_ ?_ | refine LeO.bind ?_ (fun _ => ?_) | exact ih0 _ _ _ _ | exact spec_l6Has.mono _ _ _) | exact LeO.none _ | refine LeO.ite ?_ ?_ | refine LeO.bind ?_ (fun _ => ?_) | exact ih0 _ _ _ _ | exact spec_l6Has.mono _ _ _
set_option maxHeartbeats 8000000 in
set_option maxRecDepth 100000 in
theorem spec_Closes.calls (k : Nat) (A0 : Option Addr) (c0 : Nat) (l0 : List Int) (A1 : Option Addr) (c1 : Nat) (l1 : List Int) (r : List Int) (w : World) (hr0 : Kd.C (Kd.int .i64) w A0 l0.length l0) (hc0 : l0.length ≤ c0) (hr1 : Kd.C (Kd.int .i64) w A1 l1.length l1) (hc1 : l1.length ≤ c1) (h : spec_Closes.f k l0 l1 = some r) :
  Calls Try.prog 128 #[.slice A0 l0.length c0, .slice A1 l1.length c1] w fun e w' => ∃ v0_ : Value, e = .returned (v0_) ∧ Kd.R (Kd.int .i64) 3 w' w.heap.size (fun _ => True) v0_ r ∧ Below w.heap.size w w' := by
 have HR0 := Aside0.mk hr0
 have HC0 := Aside0.mk hc0
 clear hr0 hc0
 have HR1 := Aside0.mk hr1
 have HC1 := Aside0.mk hc1
 clear hr1 hc1
 have HB := Aside0.mk (Below.refl w.heap.size w)
 have H : (spec_Closes.l0 k l0 l1 (([] : List Int)) 0) = some r := h
 clear h
 obtain ⟨y416, hy416⟩ : ∃ y_ : List Int, y_ = (([] : List Int)) := ⟨_, rfl⟩
 replace H : (spec_Closes.l0 k l0 l1 y416 0) = some r := by first | (rw [hy416]; with_reducible exact H) | (have H2_ := (Option.bind_some _ _).symm.trans H; rw [hy416]; with_reducible exact H2_) | (have H2_ := (Option.bind_some _ _).symm.trans H; with_reducible exact H2_) | with_reducible exact H | (rw [hy416]; exact H) | exact H
 have Ny416 := Aside0.mk hy416
 clear hy416
 have H' := Aside0.mk H
 clear H
 go_enter Try.func128, Try.ntmps128
 go_wp2_with (first | ((with_reducible refine gate_dst (N := 7) rfl ?_); refine Kd.R_lit (Kd.int .i64) _ 3 ?hg (N := 7) ?hd (xs := ([] : List Int)) (inner := []) (ok := fun _ => True) (okp := fun _ => True) ?hr ?hp (fun _ hk => hk) trivial (Below.refl _ _) (Nat.le_refl _) (by simp) ?_; (case hd => rfl); (case hg => rfl); (case hr => first | (go_simp; done) | (go_simp; rfl)); (case hp => exact (Reps.none _ _)); intro v417 w3 ho4 hb hg_ hnew_; clear hg_ hnew_; (first | rw [← Ny416.out] at ho4 | (simp only [Int.reduceToNat] at ho4; rw [← Ny416.out] at ho4)); have HO418 := Aside0.mk (Kd.R_lower ho4 (below_size bA)); replace HB := Aside0.mk (below_step bA hb); clear hb ho4))
 go_loopg [5, 6] k (fun kq v5 v6 w' => ∃ (x5_1 : List Int) (x6_1 : Int), v6 = .int .i64 x6_1 ∧ Aside0 (spec_Closes.l0 kq l0 l1 x5_1 x6_1 = some r) ∧ Aside0 (kq ≤ k) ∧ Aside0 (Kd.R (Kd.int .i64) 3 w' w.heap.size (fun _ => True) v5 x5_1) ∧ Aside0 (Below w.heap.size w w'))
 case atStart => exact ⟨(y416), (0), rS, H', ⟨Nat.le_refl _⟩, ⟨rK HO418⟩, ⟨bA⟩⟩
 case round =>
  clear H'
  try clear c1
  try clear p2
  obtain ⟨x5_1, x6_1, rfl, HA, HK1, HO_5, HB⟩ := hrel
  cases gk with
  | zero => exact absurd HA.out (by simp [spec_Closes.l0])
  | succ k1 =>
   have H := HA.out
   clear HA
   simp only [spec_Closes.l0] at H
   by_cases c5 : x6_1 < (l0.length : Int)
   ·
    rw [if_pos c5] at H
    have c5b0 : decide (x6_1 < (l0.length : Int)) = true := decide_eq_true c5
    clear c5
    have c6 : 0 ≤ x6_1 := ifN H
    replace H := ifT H
    have c6b0 : decide (0 ≤ x6_1) = true := decide_eq_true c6
    clear c6
    obtain ⟨t420, A7, H⟩ := bindE H
    try dsimp only at H
    by_cases c8 : t420 = true
    ·
     subst c8
     have H1 : (spec_Closes.l0 k1 l0 l1 x5_1 (wrap64 (x6_1 + 1))) = some r := by rw [if_pos rfl] at H; exact H
     clear H
     have H := H1
     clear H1
     have H' := Aside0.mk H
     clear H
     have p419 : 0 ≤ (x6_1 : Int) := dA
     have q419 : x6_1 < (l0.length : Int) := dA
     obtain ⟨ad419, e419, hx419_0⟩ := Kd.at_int HR0.out x6_1 p419 q419
     cases e419
     replace hx419_0 := hC HB hx419_0
     replace p419 := eq_true p419
     replace q419 := eq_true q419
     go_wp2_with (first | ((with_reducible refine gate_callee (f := 104) rfl ?_); refine gL (some 19) Try.func104 #[.slice A1 l1.length c1, .int .i64 (rd l0 x6_1)] ?_; (with_reducible refine (spec_l6Has.calls k1 _ _ l1 (rd l0 x6_1) true _ ?side1 ?side2 A7.out).mono ?_); (case side1 => exact cB HR1); (case side2 => exact HC1.out); rintro e w' ⟨rfl, ⟨nd, rfl⟩⟩; refine ⟨_, rfl, ?_⟩))
     go_roundg k1
     case measure => have := HK1.out; omega
     case rel => exact ⟨(x5_1), (wrap64 (x6_1 + 1)), rS, H', ⟨by have := HK1.out; omega⟩, ⟨rK HO_5⟩, ⟨bA⟩⟩
    ·
     replace c8 := Bool.eq_false_iff.mpr c8
     subst c8
     have H1 : (if x5_1.length < 17592186044416 then (spec_Closes.l0 k1 l0 l1 (x5_1 ++ [rd l0 x6_1]) (wrap64 (x6_1 + 1))) else (none)) = some r := by rw [if_neg (show ¬ (false = true) by decide)] at H; exact H
     clear H
     have H := H1
     clear H1
     have c9 : x5_1.length < 17592186044416 := ifN H
     replace H := ifT H
     have LMc9 := Aside0.mk c9
     clear c9
     obtain ⟨y422, hy422⟩ : ∃ y_ : List Int, y_ = (x5_1 ++ [rd l0 x6_1]) := ⟨_, rfl⟩
     replace H : (spec_Closes.l0 k1 l0 l1 y422 (wrap64 (x6_1 + 1))) = some r := by first | (rw [hy422]; with_reducible exact H) | (have H2_ := (Option.bind_some _ _).symm.trans H; rw [hy422]; with_reducible exact H2_) | (have H2_ := (Option.bind_some _ _).symm.trans H; with_reducible exact H2_) | with_reducible exact H | (rw [hy422]; exact H) | exact H
     have Ny422 := Aside0.mk hy422
     clear hy422
     have H' := Aside0.mk H
     clear H
     have p419 : 0 ≤ (x6_1 : Int) := dA
     have q419 : x6_1 < (l0.length : Int) := dA
     obtain ⟨ad419, e419, hx419_0⟩ := Kd.at_int HR0.out x6_1 p419 q419
     cases e419
     replace hx419_0 := hC HB hx419_0
     replace p419 := eq_true p419
     replace q419 := eq_true q419
     go_wp2_with (first | ((with_reducible refine gate_callee (f := 104) rfl ?_); refine gL (some 19) Try.func104 #[.slice A1 l1.length c1, .int .i64 (rd l0 x6_1)] ?_; (with_reducible refine (spec_l6Has.calls k1 _ _ l1 (rd l0 x6_1) false _ ?side1 ?side2 A7.out).mono ?_); (case side1 => exact cB HR1); (case side2 => exact HC1.out); rintro e w' ⟨rfl, ⟨nd, rfl⟩⟩; refine ⟨_, rfl, ?_⟩; have p421 : 0 ≤ (x6_1 : Int) := dA; have q421 : x6_1 < (l0.length : Int) := dA; obtain ⟨ad421, e421, hx421_0⟩ := Kd.at_int HR0.out x6_1 p421 q421; obtain rfl : ad419 = ad421 := (by injection e421); replace hx421_0 := hC HB hx421_0; replace p421 := eq_true p421; replace q421 := eq_true q421) | ((with_reducible refine gate_builtin (b := .append) (xs := #[.tmp 21, .tmp 26]) rfl ?_); at_builtin; refine Kd.R_append (Kd.int .i64) (w0 := w) w.heap.size rfl (.tmp 21) (.tmp 26) 22 3 (.int .i64 0) 8 rfl Try.underlying22 info3 rfl (by decide) (by omega) u5 x5_1 (rd l0 x6_1) [.int .i64 (rd l0 x6_1)] (fun _ => True) (fun _ => False) rfl rfl ?aP (fun _ hk => hk.elim) ?aF ?aO ?aB ?aS ?aL ?_; (case aP => exact rfl); (case aB => exact bA); (case aF => exact (fun _ _ => trivial)); (case aO => exact (rK HO_5)); (case aS => exact (below_size bA)); (case aL => have := LMc9.out; omega); intro v423 w10 ho hb hg hat; rw [← Ny422.out] at ho; have n0_ := Aside0.mk (hb); have n1_ := Aside0.mk (ho); clear HB; clear HO_5; have HB := n0_; have HO424 := n1_; clear n0_ n1_; clear ho hb hg hat))
     go_roundg k1
     case measure => have := HK1.out; omega
     case rel => exact ⟨(y422), (wrap64 (x6_1 + 1)), rS, H', ⟨by have := HK1.out; omega⟩, ⟨rK HO424⟩, ⟨bA⟩⟩
   ·
    rw [if_neg c5] at H
    have c5b0 : decide (x6_1 < (l0.length : Int)) = false := decide_eq_false c5
    clear c5
    obtain rfl := Option.some.inj H
    go_wp2
    go_ret
    exact ⟨_, by first | rfl | (simp [errW_none, errW_some] <;> rfl) | (simp [*, errW_none, errW_some] <;> rfl), by (with_reducible repeat (first | apply Kd.R_alloc | apply Kd.R_drewN | apply Kd.R_drew)); exact HO_5.out, bA⟩

/-! ### spec_ClearOf: function 129 -/
def spec_ClearOf.f (a0_0 : Int) (a0_1 : Int) (a0_2 : Int) (a0_3 : Int) : Option (Int) := (spec_IsPath.f a0_0 a0_1 a0_2 a0_3).bind fun t426 => (if t426 = true then ((some (([0, 2, 5, 3] : List Int) : List Int)).bind fun y427 => (if 0 ≤ a0_1 then (if a0_1 < (y427.length : Int) then (some (rd y427 a0_1)) else (none)) else (none))) else (some 0))
set_option maxHeartbeats 8000000 in
set_option maxRecDepth 100000 in
theorem spec_ClearOf.calls (a0_0 : Int) (a0_1 : Int) (a0_2 : Int) (a0_3 : Int) (r : Int) (w : World) (h : spec_ClearOf.f a0_0 a0_1 a0_2 a0_3 = some r) :
  Calls Try.prog 129 #[.agg #[.int .i64 a0_0, .int .i64 a0_1, .int .i64 a0_2, .int .i64 a0_3]] w fun e w' => e = .returned (.int .i64 r) ∧ Below w.heap.size w w' := by
 have hu90 := Try.underlying90
 have HB := Aside0.mk (Below.refl w.heap.size w)
 have H : ((spec_IsPath.f a0_0 a0_1 a0_2 a0_3).bind fun t426 => (if t426 = true then ((some (([0, 2, 5, 3] : List Int) : List Int)).bind fun y427 => (if 0 ≤ a0_1 then (if a0_1 < (y427.length : Int) then (some (rd y427 a0_1)) else (none)) else (none))) else (some 0))) = some r := h
 clear h
 obtain ⟨t426, A2, H⟩ := bindE H
 try dsimp only at H
 by_cases c3 : t426 = true
 ·
  subst c3
  have H1 : ((some (([0, 2, 5, 3] : List Int) : List Int)).bind fun y427 => (if 0 ≤ a0_1 then (if a0_1 < (y427.length : Int) then (some (rd y427 a0_1)) else (none)) else (none))) = some r := by rw [if_pos rfl] at H; exact H
  clear H
  have H := H1
  clear H1
  obtain ⟨y427, hy427⟩ : ∃ y_ : List Int, y_ = (([0, 2, 5, 3] : List Int)) := ⟨_, rfl⟩
  replace H : (if 0 ≤ a0_1 then (if a0_1 < (y427.length : Int) then (some (rd y427 a0_1)) else (none)) else (none)) = some r := by first | (rw [hy427]; with_reducible exact H) | (have H2_ := (Option.bind_some _ _).symm.trans H; rw [hy427]; with_reducible exact H2_) | (have H2_ := (Option.bind_some _ _).symm.trans H; with_reducible exact H2_) | with_reducible exact H | (rw [hy427]; exact H) | exact H
  have Ny427 := Aside0.mk hy427
  clear hy427
  have c4 : 0 ≤ a0_1 := ifN H
  replace H := ifT H
  have c4b0 : decide (0 ≤ a0_1) = true := decide_eq_true c4
  clear c4
  have c5 : a0_1 < (y427.length : Int) := ifN H
  replace H := ifT H
  have c5b0 : decide (a0_1 < (y427.length : Int)) = true := decide_eq_true c5
  clear c5
  obtain rfl := Option.some.inj H
  go_enter Try.func129, Try.ntmps129
  go_wp2_with (first | ((with_reducible refine gate_dst (N := 1) rfl ?_); refine bE (N := 1) (cs := #[.int .i64 a0_0, .int .i64 a0_1, .int .i64 a0_2, .int .i64 a0_3]) (t := 90) ?_; intro gb425 hg w6 hbox hb; have n0_ := Aside0.mk (below_step bA hb); have n1_ := Aside0.mk (hbox); have n2_ := Aside0.mk ((by rw [hg]; exact (below_size bA) : w.heap.size ≤ gb425)); have n3_ := Aside0.mk ((by rw [hg]; exact (below_size bA) : w.heap.size ≤ gb425)); clear HB; have HB := n0_; have BK425 := n1_; have GW425 := n2_; have GE425 := n3_; clear n0_ n1_ n2_ n3_; clear hb hbox hg; have hcz7_0 : w6.cell? ⟨gb425, 0, none⟩ = some (.int .i64 a0_0) := bC BK425 0; have hcz7_1 : w6.cell? ⟨gb425, 1, none⟩ = some (.int .i64 a0_1) := bC BK425 1; have hcz7_2 : w6.cell? ⟨gb425, 2, none⟩ = some (.int .i64 a0_2) := bC BK425 2; have hcz7_3 : w6.cell? ⟨gb425, 3, none⟩ = some (.int .i64 a0_3) := bC BK425 3; have hfz7_0 := blk_frozen BK425.out 0; have hfz7_1 := blk_frozen BK425.out 1; have hfz7_2 := blk_frozen BK425.out 2; have hfz7_3 := blk_frozen BK425.out 3) | ((with_reducible refine gate_callee (f := 111) rfl ?_); refine gL (some 4) Try.func111 #[.agg #[.int .i64 a0_0, .int .i64 a0_1, .int .i64 a0_2, .int .i64 a0_3]] ?_; (with_reducible refine (spec_IsPath.calls a0_0 a0_1 a0_2 a0_3 true _ A2.out).mono ?_); rintro e w8 ⟨rfl, hb⟩; refine ⟨_, rfl, ?_⟩; replace BK425 := Aside0.mk (blk_below (g := gb425) (bK BK425) hb); replace HB := Aside0.mk (below_step bG hb); (try clear hb); (try clear hb2); (try clear hk); (try clear hi)) | ((with_reducible refine gate_dst (N := 6) rfl ?_); refine Kd.R_lit (Kd.int .i64) _ 3 ?hg (N := 6) ?hd (xs := ([0, 2, 5, 3] : List Int)) (inner := [.int .i64 0, .int .i64 2, .int .i64 5, .int .i64 3]) (ok := fun _ => True) (okp := fun _ => True) ?hr ?hp (fun _ hk => hk) trivial (Below.refl _ _) (Nat.le_refl _) (by simp) ?_; (case hd => rfl); (case hg => rfl); (case hr => first | (go_simp; done) | (go_simp; rfl)); (case hp => exact (Reps.one (show Kd.M (Kd.int .i64) _ _ _ 0 [.int .i64 0] from rfl) (Reps.one (show Kd.M (Kd.int .i64) _ _ _ 2 [.int .i64 2] from rfl) (Reps.one (show Kd.M (Kd.int .i64) _ _ _ 5 [.int .i64 5] from rfl) (Reps.one (show Kd.M (Kd.int .i64) _ _ _ 3 [.int .i64 3] from rfl) (Reps.none _ _)))))); intro v428 w9 ho10 hb hg_ hnew_; clear hg_ hnew_; (first | rw [← Ny427.out] at ho10 | (simp only [Int.reduceToNat] at ho10; rw [← Ny427.out] at ho10)); have HO429 := Aside0.mk (Kd.R_lower ho10 (below_size bG)); replace BK425 := Aside0.mk (blk_below (g := gb425) (bK BK425) hb); replace HB := Aside0.mk (below_step bG hb); clear hb ho10; obtain ⟨hcz11_0, hcz11_1, hcz11_2, hcz11_3, hfz11_0, hfz11_1, hfz11_2, hfz11_3⟩ := blkc4 BK425; obtain ⟨Ao12, co12, eo12⟩ := Kd.R_slice HO429.out; subst eo12; have p430 : 0 ≤ (a0_1 : Int) := dA; have q430 : a0_1 < (y427.length : Int) := dA; obtain ⟨ad430, e430, hx430_0⟩ := Kd.at_int (Kd.R_reads' HO429.out).2.2 a0_1 p430 q430; cases e430; replace p430 := eq_true p430; replace q430 := eq_true q430))
  go_ret
  exact ⟨rA, bG⟩
 ·
  replace c3 := Bool.eq_false_iff.mpr c3
  subst c3
  have H1 : (some 0) = some r := by rw [if_neg (show ¬ (false = true) by decide)] at H; exact H
  clear H
  have H := H1
  clear H1
  obtain rfl := Option.some.inj H
  go_enter Try.func129, Try.ntmps129
  go_wp2_with (first | ((with_reducible refine gate_dst (N := 1) rfl ?_); refine bE (N := 1) (cs := #[.int .i64 a0_0, .int .i64 a0_1, .int .i64 a0_2, .int .i64 a0_3]) (t := 90) ?_; intro gb425 hg w13 hbox hb; have n0_ := Aside0.mk (below_step bA hb); have n1_ := Aside0.mk (hbox); have n2_ := Aside0.mk ((by rw [hg]; exact (below_size bA) : w.heap.size ≤ gb425)); have n3_ := Aside0.mk ((by rw [hg]; exact (below_size bA) : w.heap.size ≤ gb425)); clear HB; have HB := n0_; have BK425 := n1_; have GW425 := n2_; have GE425 := n3_; clear n0_ n1_ n2_ n3_; clear hb hbox hg; have hcz14_0 : w13.cell? ⟨gb425, 0, none⟩ = some (.int .i64 a0_0) := bC BK425 0; have hcz14_1 : w13.cell? ⟨gb425, 1, none⟩ = some (.int .i64 a0_1) := bC BK425 1; have hcz14_2 : w13.cell? ⟨gb425, 2, none⟩ = some (.int .i64 a0_2) := bC BK425 2; have hcz14_3 : w13.cell? ⟨gb425, 3, none⟩ = some (.int .i64 a0_3) := bC BK425 3; have hfz14_0 := blk_frozen BK425.out 0; have hfz14_1 := blk_frozen BK425.out 1; have hfz14_2 := blk_frozen BK425.out 2; have hfz14_3 := blk_frozen BK425.out 3) | ((with_reducible refine gate_callee (f := 111) rfl ?_); refine gL (some 4) Try.func111 #[.agg #[.int .i64 a0_0, .int .i64 a0_1, .int .i64 a0_2, .int .i64 a0_3]] ?_; (with_reducible refine (spec_IsPath.calls a0_0 a0_1 a0_2 a0_3 false _ A2.out).mono ?_); rintro e w15 ⟨rfl, hb⟩; refine ⟨_, rfl, ?_⟩; replace BK425 := Aside0.mk (blk_below (g := gb425) (bK BK425) hb); replace HB := Aside0.mk (below_step bG hb); (try clear hb); (try clear hb2); (try clear hk); (try clear hi)))
  go_ret
  exact ⟨rA, bG⟩

/-! ### spec_ClearBetween: function 99 -/
mutual
def spec_ClearBetween.l0 : Nat → List (S90) → List Int → List Int → Int → List Int → List Int → Int → Option (Int)
 | 0, _, _, _, _, _, _, _ => none
 | k + 1, x0, x1, x2, x7, x8, x9, x10 => if x10 < (x8.length : Int) then ((spec_IsTogether.f k x0 x1).bind fun t437 => (if t437 = true then ((spec_IsTogether.f k x0 x2).bind fun t438 => (spec_ClearBetween.j1 k x0 x1 x2 x7 x8 x9 x10 t438)) else (spec_ClearBetween.j1 k x0 x1 x2 x7 x8 x9 x10 false))) else (spec_ClearBetween.j1 k x0 x1 x2 x7 x8 x9 x10 false)
def spec_ClearBetween.j1 : Nat → List (S90) → List Int → List Int → Int → List Int → List Int → Int → Bool → Option (Int)
 | 0, _, _, _, _, _, _, _, _ => none
 | k + 1, x0, x1, x2, x7, x8, x9, x10, x32 => if x32 = true then (spec_ClearBetween.l1 k x0 x1 x2 x7 x8 x9 x10 0) else (some x7)
def spec_ClearBetween.l1 : Nat → List (S90) → List Int → List Int → Int → List Int → List Int → Int → Int → Option (Int)
 | 0, _, _, _, _, _, _, _, _ => none
 | k + 1, x0, x1, x2, x7, x8, x9, x10, x11 => if x11 < (x9.length : Int) then (if 0 ≤ x10 then (if x10 < (x8.length : Int) then ((spec_FindPath.f k x0 (rd x8 x10)).bind fun t440 => (if 0 ≤ t440 then (if t440 < (x0.length : Int) then (if 0 ≤ x11 then ((spec_FindPath.f k x0 (rd x9 x11)).bind fun t444 => (if 0 ≤ t444 then (if t444 < (x0.length : Int) then ((spec_Conflict.f k ((rd_T90 x0 t440).f0) ((rd_T90 x0 t440).f1) ((rd_T90 x0 t440).f2) ((rd_T90 x0 t440).f3) ((rd_T90 x0 t444).f0) ((rd_T90 x0 t444).f1) ((rd_T90 x0 t444).f2) ((rd_T90 x0 t444).f3)).bind fun t446 => (if t446 = true then ((spec_ClearOf.f ((rd_T90 x0 t440).f0) ((rd_T90 x0 t440).f1) ((rd_T90 x0 t440).f2) ((rd_T90 x0 t440).f3)).bind fun t447 => ((spec_Max.f x7 t447).bind fun t448 => (spec_ClearBetween.l1 k x0 x1 x2 t448 x8 x9 x10 (wrap64 (x11 + 1))))) else (spec_ClearBetween.l1 k x0 x1 x2 x7 x8 x9 x10 (wrap64 (x11 + 1))))) else (none)) else (none))) else (none)) else (none)) else (none))) else (none)) else (none)) else (spec_ClearBetween.l0 k x0 x1 x2 x7 x8 x9 (wrap64 (x10 + 1)))
end
def spec_ClearBetween.f (k : Nat) (l0 : List (S90)) (l1 : List Int) (l2 : List Int) : Option (Int) := (spec_Closes.f k l1 l2).bind fun t431 => ((spec_Closes.f k l2 l1).bind fun t434 => (spec_ClearBetween.l0 k l0 l1 l2 0 t431 t434 0))
theorem spec_ClearBetween.mono_l : ∀ k, (∀ y0 y1 y2 y3 y4 y5 y6, LeO (spec_ClearBetween.l0 k y0 y1 y2 y3 y4 y5 y6) (spec_ClearBetween.l0 (k + 1) y0 y1 y2 y3 y4 y5 y6)) ∧ (∀ y0 y1 y2 y3 y4 y5 y6 y7, LeO (spec_ClearBetween.j1 k y0 y1 y2 y3 y4 y5 y6 y7) (spec_ClearBetween.j1 (k + 1) y0 y1 y2 y3 y4 y5 y6 y7)) ∧ (∀ y0 y1 y2 y3 y4 y5 y6 y7, LeO (spec_ClearBetween.l1 k y0 y1 y2 y3 y4 y5 y6 y7) (spec_ClearBetween.l1 (k + 1) y0 y1 y2 y3 y4 y5 y6 y7))
 | 0 => ⟨fun _ _ _ _ _ _ _ r h => by simp [spec_ClearBetween.l0] at h, fun _ _ _ _ _ _ _ _ r h => by simp [spec_ClearBetween.j1] at h, fun _ _ _ _ _ _ _ _ r h => by simp [spec_ClearBetween.l1] at h⟩
 | k + 1 => by
  obtain ⟨ih0, ih1, ih2⟩ := spec_ClearBetween.mono_l k
  refine ⟨?_, ?_, ?_⟩
  ·
   intro y0 y1 y2 y3 y4 y5 y6
   unfold spec_ClearBetween.l0
   repeat' first | (with_reducible first | exact LeO.refl _ | exact LeO.none _ | refine LeO.ite ?_ ?_ | refine LeO.bind ?_ (fun _ => ?_) | exact ih0 _ _ _ _ _ _ _ | exact ih1 _ _ _ _ _ _ _ _ | exact ih2 _ _ _ _ _ _ _ _ | exact spec_Closes.mono _ _ _ | exact spec_Conflict.mono _ _ _ _ _ _ _ _ _ | exact spec_FindPath.mono _ _ _ | exact spec_IsTogether.mono _ _ _) | exact LeO.none _ | refine LeO.ite ?_ ?_ | refine LeO.bind ?_ (fun _ => ?_) | exact ih0 _ _ _ _ _ _ _ | exact ih1 _ _ _ _ _ _ _ _ | exact ih2 _ _ _ _ _ _ _ _ | exact spec_Closes.mono _ _ _ | exact spec_Conflict.mono _ _ _ _ _ _ _ _ _ | exact spec_FindPath.mono _ _ _ | exact spec_IsTogether.mono _ _ _
  ·
   intro y0 y1 y2 y3 y4 y5 y6 y7
   unfold spec_ClearBetween.j1
   repeat' first | (with_reducible first | exact LeO.refl _ | exact LeO.none _ | refine LeO.ite ?_ ?_ | refine LeO.bind ?_ (fun _ => ?_) | exact ih0 _ _ _ _ _ _ _ | exact ih1 _ _ _ _ _ _ _ _ | exact ih2 _ _ _ _ _ _ _ _ | exact spec_Closes.mono _ _ _ | exact spec_Conflict.mono _ _ _ _ _ _ _ _ _ | exact spec_FindPath.mono _ _ _ | exact spec_IsTogether.mono _ _ _) | exact LeO.none _ | refine LeO.ite ?_ ?_ | refine LeO.bind ?_ (fun _ => ?_) | exact ih0 _ _ _ _ _ _ _ | exact ih1 _ _ _ _ _ _ _ _ | exact ih2 _ _ _ _ _ _ _ _ | exact spec_Closes.mono _ _ _ | exact spec_Conflict.mono _ _ _ _ _ _ _ _ _ | exact spec_FindPath.mono _ _ _ | exact spec_IsTogether.mono _ _ _
  ·
   intro y0 y1 y2 y3 y4 y5 y6 y7
   unfold spec_ClearBetween.l1
   repeat' first | (with_reducible first | exact LeO.refl _ | exact LeO.none _ | refine LeO.ite ?_ ?_ | refine LeO.bind ?_ (fun _ => ?_) | exact ih0 _ _ _ _ _ _ _ | exact ih1 _ _ _ _ _ _ _ _ | exact ih2 _ _ _ _ _ _ _ _ | exact spec_Closes.mono _ _ _ | exact spec_Conflict.mono _ _ _ _ _ _ _ _ _ | exact spec_FindPath.mono _ _ _ | exact spec_IsTogether.mono _ _ _) | exact LeO.none _ | refine LeO.ite ?_ ?_ | refine LeO.bind ?_ (fun _ => ?_) | exact ih0 _ _ _ _ _ _ _ | exact ih1 _ _ _ _ _ _ _ _ | exact ih2 _ _ _ _ _ _ _ _ | exact spec_Closes.mono _ _ _ | exact spec_Conflict.mono _ _ _ _ _ _ _ _ _ | exact spec_FindPath.mono _ _ _ | exact spec_IsTogether.mono _ _ _
theorem spec_ClearBetween.mono : ∀ a0 a1 a2 k, LeO (spec_ClearBetween.f k a0 a1 a2) (spec_ClearBetween.f (k + 1) a0 a1 a2) := by
 intro a0 a1 a2 k
 obtain ⟨ih0, ih1, ih2⟩ := spec_ClearBetween.mono_l k
 unfold spec_ClearBetween.f
 repeat' first | (with_reducible first | exact LeO.refl _ | exact LeO.none _ | refine LeO.ite ?_ ?_ | refine LeO.bind ?_ (fun _ => ?_) | exact ih0 _ _ _ _ _ _ _ | exact ih1 _ _ _ _ _ _ _ _ | exact ih2 _ _ _ _ _ _ _ _ | exact spec_Closes.mono _ _ _ | exact spec_Conflict.mono _ _ _ _ _ _ _ _ _ | exact spec_FindPath.mono _ _ _ | exact spec_IsTogether.mono _ _ _) | exact LeO.none _ | refine LeO.ite ?_ ?_ | refine LeO.bind ?_ (fun _ => ?_) | exact ih0 _ _ _ _ _ _ _ | exact ih1 _ _ _ _ _ _ _ _ | exact ih2 _ _ _ _ _ _ _ _ | exact spec_Closes.mono _ _ _ | exact spec_Conflict.mono _ _ _ _ _ _ _ _ _ | exact spec_FindPath.mono _ _ _ | exact spec_IsTogether.mono _ _ _
def spec_ClearBetween.T11 : Bool × List (List Nat × List Nat) := (true, [([], []), ([], []), ([], []), ([], []), ([], []), ([3, 4], [3, 4]), ([5], [5]), ([2, 6], [2, 6]), ([1, 7], [1, 7]), ([8], [8]), ([0, 9, 7], [0, 9])])
def spec_ClearBetween.B11 : List Nat := [0, 0, 0, 0, 0, 24, 56, 124, 254, 510, 1023]
theorem spec_ClearBetween.tab11 : rtab .any (opsOf Try.f99 11) = spec_ClearBetween.T11 := by kernel_rfl
theorem spec_ClearBetween.bits11 : waitsOk spec_ClearBetween.T11.2 spec_ClearBetween.B11 = true := by kernel_rfl
set_option maxHeartbeats 8000000 in
set_option maxRecDepth 100000 in
theorem spec_ClearBetween.calls (k : Nat) (A0 : Option Addr) (c0 : Nat) (l0 : List (S90)) (A1 : Option Addr) (c1 : Nat) (l1 : List Int) (A2 : Option Addr) (c2 : Nat) (l2 : List Int) (r : Int) (w : World) (hr0 : Kd.C k90 w A0 l0.length l0) (hc0 : l0.length ≤ c0) (hr1 : Kd.C (Kd.int .i64) w A1 l1.length l1) (hc1 : l1.length ≤ c1) (hr2 : Kd.C (Kd.int .i64) w A2 l2.length l2) (hc2 : l2.length ≤ c2) (h : spec_ClearBetween.f k l0 l1 l2 = some r) :
  Calls Try.prog 99 #[.slice A0 l0.length c0, .slice A1 l1.length c1, .slice A2 l2.length c2] w fun e w' => e = .returned (.int .i64 r) ∧ Below w.heap.size w w' := by
 have hu90 := Try.underlying90
 have HR0 := Aside0.mk hr0
 have HC0 := Aside0.mk hc0
 clear hr0 hc0
 have HR1 := Aside0.mk hr1
 have HC1 := Aside0.mk hc1
 clear hr1 hc1
 have HR2 := Aside0.mk hr2
 have HC2 := Aside0.mk hc2
 clear hr2 hc2
 have HB := Aside0.mk (Below.refl w.heap.size w)
 have H : ((spec_Closes.f k l1 l2).bind fun t431 => ((spec_Closes.f k l2 l1).bind fun t434 => (spec_ClearBetween.l0 k l0 l1 l2 0 t431 t434 0))) = some r := h
 clear h
 obtain ⟨t431, A4, H⟩ := bindE H
 try dsimp only at H
 obtain ⟨t434, A5, H⟩ := bindE H
 try dsimp only at H
 have H' := Aside0.mk H
 clear H
 go_enter Try.func99, Try.ntmps99
 go_wp2_with (first | ((with_reducible refine gate_callee (f := 128) rfl ?_); refine gL (some 15) Try.func128 #[.slice A1 l1.length c1, .slice A2 l2.length c2] ?_; (with_reducible refine (spec_Closes.calls k _ _ l1 _ _ l2 t431 _ ?side1 ?side2 ?side3 ?side4 A4.out).mono ?_); (case side1 => exact cO HR1); (case side2 => exact HC1.out); (case side3 => exact cO HR2); (case side4 => exact HC2.out); rintro e w6 ⟨v432, rfl, ho0, hb⟩; refine ⟨_, rfl, ?_⟩; have HO433 := Aside0.mk (Kd.R_lower ho0 (below_size bA)); replace HB := Aside0.mk (below_step bA hb); (try clear hb); (try clear hb2); (try clear hk); (try clear hi); (try clear ho0)) | ((with_reducible refine gate_callee (f := 128) rfl ?_); refine gL (some 18) Try.func128 #[.slice A2 l2.length c2, .slice A1 l1.length c1] ?_; (with_reducible refine (spec_Closes.calls k _ _ l2 _ _ l1 t434 _ ?side1 ?side2 ?side3 ?side4 A5.out).mono ?_); (case side1 => exact cB HR2); (case side2 => exact HC2.out); (case side3 => exact cB HR1); (case side4 => exact HC1.out); rintro e w7 ⟨v435, rfl, ho0, hb⟩; refine ⟨_, rfl, ?_⟩; have HO436 := Aside0.mk (Kd.R_lower (Kd.R_new' ho0 (Kd.R_lt (rK HO433))) (below_size bA)); replace HO433 := Aside0.mk (Kd.R_elder' (rK HO433) (Kd.R_base ho0) hb); replace HB := Aside0.mk (below_step bA hb); (try clear hb); (try clear hb2); (try clear hk); (try clear hi); (try clear ho0)))
 go_loopg [7, 10] k (fun kq v7 v10 w' => ∃ (x7_1 : Int) (x10_1 : Int), v7 = .int .i64 x7_1 ∧ v10 = .int .i64 x10_1 ∧ Aside0 (spec_ClearBetween.l0 kq l0 l1 l2 x7_1 t431 t434 x10_1 = some r) ∧ Aside0 (kq ≤ k) ∧ Aside0 (Kd.R (Kd.int .i64) 3 w' w.heap.size (fun k_ => some k_ ≠ (v435 : Value).ownBlock) v432 t431) ∧ Aside0 (Kd.R (Kd.int .i64) 3 w' w.heap.size (fun k_ => some k_ ≠ (v432 : Value).ownBlock) v435 t434) ∧ Aside0 (Below w.heap.size w w'))
 case atStart => exact ⟨(0), (0), rS, rS, H', ⟨Nat.le_refl _⟩, ⟨by (with_reducible repeat (first | apply Kd.R_alloc | apply Kd.R_drewN | apply Kd.R_drew)); exact Kd.R_mono HO433.out (fun _ hk => hk.2)⟩, ⟨by (with_reducible repeat (first | apply Kd.R_alloc | apply Kd.R_drewN | apply Kd.R_drew)); exact Kd.R_mono HO436.out (fun _ hk => hk.2)⟩, ⟨bA⟩⟩
 case round =>
  clear H'
  try clear c1
  try clear c2
  try clear p2
  obtain ⟨x7_1, x10_1, rfl, rfl, HA, HK1, HO_8, HO_9, HB⟩ := hrel
  cases gk with
  | zero => exact absurd HA.out (by simp [spec_ClearBetween.l0])
  | succ k1 =>
   have H := HA.out
   clear HA
   simp only [spec_ClearBetween.l0] at H
   have HC8 := Aside0.mk H
   clear H
   go_upto_region 5 with (fail)
   go_cut [32] (fun v32 wc => ∃ (kq : Nat) (x32_7 : Bool), v32 = .bool x32_7 ∧ Aside0 (spec_ClearBetween.j1 kq l0 l1 l2 x7_1 t431 t434 x10_1 x32_7 = some r) ∧ Aside0 (kq ≤ k1) ∧ Aside0 (Kd.R (Kd.int .i64) 3 wc w.heap.size (fun k_ => some k_ ≠ (v435 : Value).ownBlock) v432 t431) ∧ Aside0 (Kd.R (Kd.int .i64) 3 wc w.heap.size (fun k_ => some k_ ≠ (v432 : Value).ownBlock) v435 t434) ∧ Aside0 (Below w.heap.size w wc))
   case first =>
    have H := HC8.out
    clear HC8
    by_cases c9 : x10_1 < (t431.length : Int)
    ·
     rw [if_pos c9] at H
     have c9b0 : decide (x10_1 < (t431.length : Int)) = true := decide_eq_true c9
     clear c9
     (first | rw [c9b0] | (simp only [i64_w, i32_w]; rw [c9b0]) | skip)
     obtain ⟨t437, A10, H⟩ := bindE H
     try dsimp only at H
     by_cases c11 : t437 = true
     ·
      subst c11
      have H1 : ((spec_IsTogether.f k1 l0 l2).bind fun t438 => (spec_ClearBetween.j1 k1 l0 l1 l2 x7_1 t431 t434 x10_1 t438)) = some r := by rw [if_pos rfl] at H; exact H
      clear H
      have H := H1
      clear H1
      obtain ⟨t438, A12, H⟩ := bindE H
      try dsimp only at H
      have H' := Aside0.mk H
      clear H
      obtain ⟨Ao13, co13, eo13⟩ := Kd.R_slice HO_8.out
      subst eo13
      go_wp2_with (first | (go_at_call 98; (with_reducible refine (spec_IsTogether.calls k1 _ _ l0 _ _ l1 true _ ?side1 ?side2 ?side3 ?side4 A10.out).mono ?_); (case side1 => exact cB HR0); (case side2 => exact HC0.out); (case side3 => exact cB HR1); (case side4 => exact HC1.out); rintro e w14 ⟨rfl, hb⟩; replace HO_8 := Aside0.mk (Kd.R_below (rK HO_8) hb); replace HO_9 := Aside0.mk (Kd.R_below (rK HO_9) hb); replace HB := Aside0.mk (below_step bA hb); (try clear hb); (try clear hb2); (try clear hk); (try clear hi)) | (go_at_call 98; (with_reducible refine (spec_IsTogether.calls k1 _ _ l0 _ _ l2 t438 _ ?side1 ?side2 ?side3 ?side4 A12.out).mono ?_); (case side1 => exact cB HR0); (case side2 => exact HC0.out); (case side3 => exact cB HR2); (case side4 => exact HC2.out); rintro e w15 ⟨rfl, hb⟩; replace HO_8 := Aside0.mk (Kd.R_below (rK HO_8) hb); replace HO_9 := Aside0.mk (Kd.R_below (rK HO_9) hb); replace HB := Aside0.mk (below_step bA hb); (try clear hb); (try clear hb2); (try clear hk); (try clear hi)))
      go_meet
      case rel => exact ⟨_, (t438), rS, H', ⟨by have := HK1.out; first | omega | exact Nat.le_refl _⟩, ⟨rK HO_8⟩, ⟨rK HO_9⟩, ⟨bA⟩⟩
     ·
      replace c11 := Bool.eq_false_iff.mpr c11
      subst c11
      have H1 : (spec_ClearBetween.j1 k1 l0 l1 l2 x7_1 t431 t434 x10_1 false) = some r := by rw [if_neg (show ¬ (false = true) by decide)] at H; exact H
      clear H
      have H := H1
      clear H1
      have H' := Aside0.mk H
      clear H
      obtain ⟨Ao16, co16, eo16⟩ := Kd.R_slice HO_8.out
      subst eo16
      go_wp2_with (first | (go_at_call 98; (with_reducible refine (spec_IsTogether.calls k1 _ _ l0 _ _ l1 false _ ?side1 ?side2 ?side3 ?side4 A10.out).mono ?_); (case side1 => exact cB HR0); (case side2 => exact HC0.out); (case side3 => exact cB HR1); (case side4 => exact HC1.out); rintro e w17 ⟨rfl, hb⟩; replace HO_8 := Aside0.mk (Kd.R_below (rK HO_8) hb); replace HO_9 := Aside0.mk (Kd.R_below (rK HO_9) hb); replace HB := Aside0.mk (below_step bA hb); (try clear hb); (try clear hb2); (try clear hk); (try clear hi)))
      go_meet
      case rel => exact ⟨_, (false), rS, H', ⟨by have := HK1.out; first | omega | exact Nat.le_refl _⟩, ⟨rK HO_8⟩, ⟨rK HO_9⟩, ⟨bA⟩⟩
    ·
     rw [if_neg c9] at H
     have c9b0 : decide (x10_1 < (t431.length : Int)) = false := decide_eq_false c9
     clear c9
     (first | rw [c9b0] | (simp only [i64_w, i32_w]; rw [c9b0]) | skip)
     have H' := Aside0.mk H
     clear H
     obtain ⟨Ao18, co18, eo18⟩ := Kd.R_slice HO_8.out
     subst eo18
     go_wp2
     go_meet
     case rel => exact ⟨_, (false), rS, H', ⟨by have := HK1.out; first | omega | exact Nat.le_refl _⟩, ⟨rK HO_8⟩, ⟨rK HO_9⟩, ⟨bA⟩⟩
   case rest =>
    clear HC8
    try clear c1
    try clear c2
    try clear p2
    try clear c9
    try clear c9b0
    try clear c11
    try clear c12
    try clear p2
    obtain ⟨kq, x32_7, rfl, HA, HJ7, HO_8, HO_9, HB⟩ := hcut
    cases kq with
    | zero => exact absurd HA.out (by simp [spec_ClearBetween.j1])
    | succ kj7 =>
     have H := HA.out
     clear HA
     simp only [spec_ClearBetween.j1] at H
     by_cases c19 : x32_7 = true
     ·
      subst c19
      have H1 : (spec_ClearBetween.l1 kj7 l0 l1 l2 x7_1 t431 t434 x10_1 0) = some r := by rw [if_pos rfl] at H; exact H
      clear H
      have H := H1
      clear H1
      have H' := Aside0.mk H
      clear H
      go_wp2
      go_loopg [7, 11] kj7 (fun kq v7 v11 w' => ∃ (x7_3 : Int) (x11_3 : Int), v7 = .int .i64 x7_3 ∧ v11 = .int .i64 x11_3 ∧ Aside0 (spec_ClearBetween.l1 kq l0 l1 l2 x7_3 t431 t434 x10_1 x11_3 = some r) ∧ Aside0 (kq ≤ kj7) ∧ Aside0 (Kd.R (Kd.int .i64) 3 w' w.heap.size (fun k_ => some k_ ≠ (v435 : Value).ownBlock) v432 t431) ∧ Aside0 (Kd.R (Kd.int .i64) 3 w' w.heap.size (fun k_ => some k_ ≠ (v432 : Value).ownBlock) v435 t434) ∧ Aside0 (Below w.heap.size w w'))
      case atStart => exact ⟨(x7_1), (0), rS, rS, H', ⟨Nat.le_refl _⟩, ⟨rK HO_8⟩, ⟨rK HO_9⟩, ⟨bA⟩⟩
      case round =>
       clear H'
       try clear c1
       try clear c2
       try clear p2
       try clear c9
       try clear c9b0
       try clear c11
       try clear c12
       try clear c19
       try clear p2
       obtain ⟨x7_3, x11_3, rfl, rfl, HA, HK3, HO_8, HO_9, HB⟩ := hrel
       cases gk with
       | zero => exact absurd HA.out (by simp [spec_ClearBetween.l1])
       | succ k3 =>
        have H := HA.out
        clear HA
        simp only [spec_ClearBetween.l1] at H
        by_cases c20 : x11_3 < (t434.length : Int)
        ·
         rw [if_pos c20] at H
         have c20b0 : decide (x11_3 < (t434.length : Int)) = true := decide_eq_true c20
         clear c20
         have c21 : 0 ≤ x10_1 := ifN H
         replace H := ifT H
         have c21b0 : decide (0 ≤ x10_1) = true := decide_eq_true c21
         clear c21
         have c22 : x10_1 < (t431.length : Int) := ifN H
         replace H := ifT H
         have c22b0 : decide (x10_1 < (t431.length : Int)) = true := decide_eq_true c22
         clear c22
         obtain ⟨t440, A23, H⟩ := bindE H
         try dsimp only at H
         have c24 : 0 ≤ t440 := ifN H
         replace H := ifT H
         have c24b0 : decide (0 ≤ t440) = true := decide_eq_true c24
         clear c24
         have c25 : t440 < (l0.length : Int) := ifN H
         replace H := ifT H
         have c25b0 : decide (t440 < (l0.length : Int)) = true := decide_eq_true c25
         clear c25
         have c26 : 0 ≤ x11_3 := ifN H
         replace H := ifT H
         have c26b0 : decide (0 ≤ x11_3) = true := decide_eq_true c26
         clear c26
         obtain ⟨t444, A27, H⟩ := bindE H
         try dsimp only at H
         have c28 : 0 ≤ t444 := ifN H
         replace H := ifT H
         have c28b0 : decide (0 ≤ t444) = true := decide_eq_true c28
         clear c28
         have c29 : t444 < (l0.length : Int) := ifN H
         replace H := ifT H
         have c29b0 : decide (t444 < (l0.length : Int)) = true := decide_eq_true c29
         clear c29
         obtain ⟨t446, A30, H⟩ := bindE H
         try dsimp only at H
         by_cases c31 : t446 = true
         ·
          subst c31
          have H1 : ((spec_ClearOf.f ((rd_T90 l0 t440).f0) ((rd_T90 l0 t440).f1) ((rd_T90 l0 t440).f2) ((rd_T90 l0 t440).f3)).bind fun t447 => ((spec_Max.f x7_3 t447).bind fun t448 => (spec_ClearBetween.l1 k3 l0 l1 l2 t448 t431 t434 x10_1 (wrap64 (x11_3 + 1))))) = some r := by rw [if_pos rfl] at H; exact H
          clear H
          have H := H1
          clear H1
          obtain ⟨t447, A32, H⟩ := bindE H
          try dsimp only at H
          obtain ⟨t448, A33, H⟩ := bindE H
          try dsimp only at H
          have H' := Aside0.mk H
          clear H
          obtain ⟨Ao34, co34, eo34⟩ := Kd.R_slice HO_9.out
          subst eo34
          obtain ⟨Ao35, co35, eo35⟩ := Kd.R_slice HO_8.out
          subst eo35
          have p439 : 0 ≤ (x10_1 : Int) := dA
          have q439 : x10_1 < (t431.length : Int) := dA
          obtain ⟨ad439, e439, hx439_0⟩ := Kd.at_int (Kd.R_reads' HO_8.out).2.2 x10_1 p439 q439
          cases e439
          replace p439 := eq_true p439
          replace q439 := eq_true q439
          try go_wp2_with (first | ((with_reducible refine gate_callee (f := 79) rfl ?_); refine gL (some 47) Try.func79 #[.slice A0 l0.length c0, .int .i64 (rd t431 x10_1)] ?_; (with_reducible refine (spec_FindPath.calls k3 _ _ l0 (rd t431 x10_1) t440 _ ?side1 ?side2 A23.out).mono ?_); (case side1 => exact cB HR0); (case side2 => exact HC0.out); rintro e w' ⟨rfl, ⟨nd, rfl⟩⟩; refine ⟨_, rfl, ?_⟩; (try (rw [drewN_self wr]; generalize hq_ : World.drewN wr _ = wr; have n0_ : Aside0 (Kd.R (Kd.int .i64) 3 wr w.heap.size (fun k_ => some k_ ≠ (.slice Ao34 t434.length co34 : Value).ownBlock) (.slice (some ad439) t431.length co35) t431) := ⟨by rw [← hq_]; exact (rK HO_8)⟩; have n1_ : Aside0 (Kd.R (Kd.int .i64) 3 wr w.heap.size (fun k_ => some k_ ≠ (.slice (some ad439) t431.length co35 : Value).ownBlock) (.slice Ao34 t434.length co34) t434) := ⟨by rw [← hq_]; exact (rK HO_9)⟩; have n2_ : Aside0 (Below w.heap.size w wr) := ⟨by rw [← hq_]; exact bA⟩; clear HO_8 HO_9 HB hq_; have HO_8 := n0_; have HO_9 := n1_; have HB := n2_; clear n0_ n1_ n2_)); have p441 : 0 ≤ (t440 : Int) := dA; have q441 : t440 < (l0.length : Int) := dA; obtain ⟨ad441, e441, hx441_0, hx441_1, hx441_2, hx441_3⟩ := at_T90 HR0.out t440 p441 q441; cases e441; replace hx441_0 := hC HB hx441_0; replace hx441_1 := hC HB hx441_1; replace hx441_2 := hC HB hx441_2; replace hx441_3 := hC HB hx441_3; replace p441 := eq_true p441; replace q441 := eq_true q441) | ((with_reducible refine gate_dst (N := 12) rfl ?_); refine bE (N := 12) (cs := #[.int .i64 0, .int .i64 0, .int .i64 0, .int .i64 0]) (t := 90) ?_; intro gb442 hg w36 hbox hb; have n0_ := Aside0.mk (Kd.R_below (rK HO_8) hb); have n1_ := Aside0.mk (Kd.R_below (rK HO_9) hb); have n2_ := Aside0.mk (below_step bA hb); have n3_ := Aside0.mk (hbox); have n4_ := Aside0.mk ((by rw [hg]; exact (below_size bA) : w.heap.size ≤ gb442)); have n5_ := Aside0.mk ((by rw [hg]; exact (below_size bA) : w.heap.size ≤ gb442)); clear HO_8; clear HO_9; clear HB; have HO_8 := n0_; have HO_9 := n1_; have HB := n2_; have BK442 := n3_; have GW442 := n4_; have GE442 := n5_; clear n0_ n1_ n2_ n3_ n4_ n5_; clear hb hbox hg; obtain ⟨hcz37_0, hcz37_1, hcz37_2, hcz37_3, hfz37_0, hfz37_1, hfz37_2, hfz37_3⟩ := blkc4 BK442))
          have n0_ : Aside0 (Kd.R (Kd.int .i64) 3 ((((w36.setCell ⟨gb442, 0, none⟩ (.int .i64 ((rd_T90 l0 t440).f0))).setCell ⟨gb442, 1, none⟩ (.int .i64 ((rd_T90 l0 t440).f1))).setCell ⟨gb442, 2, none⟩ (.int .i64 ((rd_T90 l0 t440).f2))).setCell ⟨gb442, 3, none⟩ (.int .i64 ((rd_T90 l0 t440).f3))) w.heap.size (fun k_ => some k_ ≠ (.slice Ao34 t434.length co34 : Value).ownBlock) (.slice (some ad439) t431.length co35) t431) := ⟨by (with_reducible repeat (first | apply Kd.R_alloc | apply Kd.R_drewN | apply Kd.R_drew)); exact Kd.R_mono (Kd.R_far (p := ⟨gb442, 3, none⟩) (Kd.R_far (p := ⟨gb442, 2, none⟩) (Kd.R_far (p := ⟨gb442, 1, none⟩) (Kd.R_far (p := ⟨gb442, 0, none⟩) (Kd.R_types HO_8.out BK442.out (by decide)) (fun _ hk => hk.2) (.int .i64 ((rd_T90 l0 t440).f0))) (fun _ hk => hk.2) (.int .i64 ((rd_T90 l0 t440).f1))) (fun _ hk => hk.2) (.int .i64 ((rd_T90 l0 t440).f2))) (fun _ hk => hk.2) (.int .i64 ((rd_T90 l0 t440).f3))) (fun _ hk => hk.1)⟩
          have n1_ : Aside0 (Kd.R (Kd.int .i64) 3 ((((w36.setCell ⟨gb442, 0, none⟩ (.int .i64 ((rd_T90 l0 t440).f0))).setCell ⟨gb442, 1, none⟩ (.int .i64 ((rd_T90 l0 t440).f1))).setCell ⟨gb442, 2, none⟩ (.int .i64 ((rd_T90 l0 t440).f2))).setCell ⟨gb442, 3, none⟩ (.int .i64 ((rd_T90 l0 t440).f3))) w.heap.size (fun k_ => some k_ ≠ (.slice (some ad439) t431.length co35 : Value).ownBlock) (.slice Ao34 t434.length co34) t434) := ⟨by (with_reducible repeat (first | apply Kd.R_alloc | apply Kd.R_drewN | apply Kd.R_drew)); exact Kd.R_mono (Kd.R_far (p := ⟨gb442, 3, none⟩) (Kd.R_far (p := ⟨gb442, 2, none⟩) (Kd.R_far (p := ⟨gb442, 1, none⟩) (Kd.R_far (p := ⟨gb442, 0, none⟩) (Kd.R_types HO_9.out BK442.out (by decide)) (fun _ hk => hk.2) (.int .i64 ((rd_T90 l0 t440).f0))) (fun _ hk => hk.2) (.int .i64 ((rd_T90 l0 t440).f1))) (fun _ hk => hk.2) (.int .i64 ((rd_T90 l0 t440).f2))) (fun _ hk => hk.2) (.int .i64 ((rd_T90 l0 t440).f3))) (fun _ hk => hk.1)⟩
          have n2_ : Aside0 (((((w36.setCell ⟨gb442, 0, none⟩ (.int .i64 ((rd_T90 l0 t440).f0))).setCell ⟨gb442, 1, none⟩ (.int .i64 ((rd_T90 l0 t440).f1))).setCell ⟨gb442, 2, none⟩ (.int .i64 ((rd_T90 l0 t440).f2))).setCell ⟨gb442, 3, none⟩ (.int .i64 ((rd_T90 l0 t440).f3))).heap[gb442]? = some (.cells #[.int .i64 ((rd_T90 l0 t440).f0), .int .i64 ((rd_T90 l0 t440).f1), .int .i64 ((rd_T90 l0 t440).f2), .int .i64 ((rd_T90 l0 t440).f3)] 90 (0, 0))) := ⟨by (with_reducible repeat (first | refine blk_drewN ?_ _ | refine blk_drew ?_ | refine blk_alloc ?_ _)); refine blk_put (cs := #[.int .i64 ((rd_T90 l0 t440).f0), .int .i64 ((rd_T90 l0 t440).f1), .int .i64 ((rd_T90 l0 t440).f2), .int .i64 0]) ?_ 3 _ rfl; (with_reducible repeat (first | refine blk_drewN ?_ _ | refine blk_drew ?_ | refine blk_alloc ?_ _)); refine blk_put (cs := #[.int .i64 ((rd_T90 l0 t440).f0), .int .i64 ((rd_T90 l0 t440).f1), .int .i64 0, .int .i64 0]) ?_ 2 _ rfl; (with_reducible repeat (first | refine blk_drewN ?_ _ | refine blk_drew ?_ | refine blk_alloc ?_ _)); refine blk_put (cs := #[.int .i64 ((rd_T90 l0 t440).f0), .int .i64 0, .int .i64 0, .int .i64 0]) ?_ 1 _ rfl; (with_reducible repeat (first | refine blk_drewN ?_ _ | refine blk_drew ?_ | refine blk_alloc ?_ _)); refine blk_put (cs := #[.int .i64 0, .int .i64 0, .int .i64 0, .int .i64 0]) ?_ 0 _ rfl; (with_reducible repeat (first | refine blk_drewN ?_ _ | refine blk_drew ?_ | refine blk_alloc ?_ _)); exact BK442.out⟩
          have n3_ : Aside0 (Below w.heap.size w ((((w36.setCell ⟨gb442, 0, none⟩ (.int .i64 ((rd_T90 l0 t440).f0))).setCell ⟨gb442, 1, none⟩ (.int .i64 ((rd_T90 l0 t440).f1))).setCell ⟨gb442, 2, none⟩ (.int .i64 ((rd_T90 l0 t440).f2))).setCell ⟨gb442, 3, none⟩ (.int .i64 ((rd_T90 l0 t440).f3)))) := ⟨bG⟩
          (try clear HO_8)
          (try clear HO_9)
          (try clear BK442)
          (try clear HB)
          generalize ((((w36.setCell ⟨gb442, 0, none⟩ (.int .i64 ((rd_T90 l0 t440).f0))).setCell ⟨gb442, 1, none⟩ (.int .i64 ((rd_T90 l0 t440).f1))).setCell ⟨gb442, 2, none⟩ (.int .i64 ((rd_T90 l0 t440).f2))).setCell ⟨gb442, 3, none⟩ (.int .i64 ((rd_T90 l0 t440).f3))) = w38 at n0_ n1_ n2_ n3_ ⊢
          have HO_8 := n0_
          have HO_9 := n1_
          have BK442 := n2_
          have HB := n3_
          clear n0_ n1_ n2_ n3_
          replace HO_8 := Aside0.mk (Kd.R_drew HO_8.out)
          replace HO_9 := Aside0.mk (Kd.R_drew HO_9.out)
          replace BK442 := Aside0.mk (blk_drew BK442.out)
          have HBo := HB
          replace HB := Aside0.mk (below_drew1 HB.out)
          have p443 : 0 ≤ (x11_3 : Int) := dA
          have q443 : x11_3 < (t434.length : Int) := dA
          obtain ⟨ad443, e443, hx443_0⟩ := Kd.at_int (Kd.R_reads' HO_9.out).2.2 x11_3 p443 q443
          cases e443
          replace p443 := eq_true p443
          replace q443 := eq_true q443
          have p445 : 0 ≤ (t444 : Int) := dA
          have q445 : t444 < (l0.length : Int) := dA
          obtain ⟨ad445, e445, hx445_0, hx445_1, hx445_2, hx445_3⟩ := at_T90 HR0.out t444 p445 q445
          have hw445_3 := hx445_3
          have hw445_2 := hx445_2
          have hw445_1 := hx445_1
          have hw445_0 := hx445_0
          obtain rfl : ad441 = ad445 := (by injection e445)
          replace hx445_0 := hC HB hx445_0
          replace hx445_1 := hC HB hx445_1
          replace hx445_2 := hC HB hx445_2
          replace hx445_3 := hC HB hx445_3
          replace p445 := eq_true p445
          replace q445 := eq_true q445
          refine start_ (n := 11) (S := fun w' => w'.cell? ⟨gb442, 0, none⟩ = some (.int .i64 ((rd_T90 l0 t440).f0)) ∧ w'.cell? ⟨gb442, 1, none⟩ = some (.int .i64 ((rd_T90 l0 t440).f1)) ∧ w'.cell? ⟨gb442, 2, none⟩ = some (.int .i64 ((rd_T90 l0 t440).f2)) ∧ w'.cell? ⟨gb442, 3, none⟩ = some (.int .i64 ((rd_T90 l0 t440).f3)) ∧ w'.cell? (ad443.add (x11_3).toNat) = some (.int .i64 (rd t434 x11_3)) ∧ w'.cell? (ad441.add ((t444).toNat * 4)) = some (.int .i64 ((rd_T90 l0 t444).f0)) ∧ w'.cell? ⟨(ad441.add ((t444).toNat * 4)).block, (ad441.add ((t444).toNat * 4)).off + 1, none⟩ = some (.int .i64 ((rd_T90 l0 t444).f1)) ∧ w'.cell? ⟨(ad441.add ((t444).toNat * 4)).block, (ad441.add ((t444).toNat * 4)).off + 2, none⟩ = some (.int .i64 ((rd_T90 l0 t444).f2)) ∧ w'.cell? ⟨(ad441.add ((t444).toNat * 4)).block, (ad441.add ((t444).toNat * 4)).off + 3, none⟩ = some (.int .i64 ((rd_T90 l0 t444).f3))) (ds := []) (mb 11 0) (by kernel_rfl) rfl rfl ⟨bC BK442 0, bC BK442 1, bC BK442 2, bC BK442 3, hx443_0, (hC HB hw445_0), (hC HB hw445_1), (hC HB hw445_2), (hC HB hw445_3)⟩ (fun hHeld => ?_); refine with_tabW spec_ClearBetween.tab11 spec_ClearBetween.bits11 (fun HT_ HW_ => ?_)
          generalize w38.drew = w39 at HO_8 HO_9 BK442 HB hx443_0 hx445_0 hx445_1 hx445_2 hx445_3 hHeld ⊢
          refine pA (i := 1) (N := some 51) (mb 11 2) HT_ ?_
          refine pA (i := 2) (N := some 52) (mb 11 6) HT_ ?_
          refine pA (i := 3) (N := some 53) (mb 11 14) HT_ ?_
          refine pA (i := 4) (N := some 54) (mb 11 30) HT_ ?_
          refine pA (i := 5) (N := some 55) (mb 11 62) HT_ ?_
          refine tA9 (i := 0) (N := some 50) (mb 11 63) HT_ HW_ hHeld ?_
          refine tA9 (i := 6) (N := some 56) (mb 11 127) HT_ HW_ hHeld ?_
          refine oA (i := 7) (N := some 57) (mb 11 255) HT_ (fun K hK => ?_)
          refine gA Try.func79 #[.slice (some ad441) l0.length c0, .int .i64 (rd t434 x11_3)] ?_
          with_reducible refine (spec_FindPath.calls k3 _ _ l0 (rd t434 x11_3) t444 _ ?side1 ?side2 A27.out).mono ?_
          (case side1 => exact cB HR0)
          (case side2 => exact HC0.out)
          rintro e w' ⟨rfl, ⟨nd, rfl⟩⟩
          refine ⟨_, rfl, ?_⟩
          refine hK.out _ _ ⟨bC BK442 0, bC BK442 1, bC BK442 2, bC BK442 3, hHeld.2.2.2.2.1, (hC HB hw445_0), (hC HB hw445_1), (hC HB hw445_2), (hC HB hw445_3)⟩ (fun hHeld => ?_)
          clear hK K
          refine nB ?_
          refine pA (i := 8) (N := some 58) (mb 11 511) HT_ ?_
          refine tA9 (i := 9) (N := some 59) (mb 11 1023) HT_ HW_ hHeld ?_
          refine oA (i := 10) (N := some 60) (mb 11 2047) HT_ (fun K hK => ?_)
          refine gA Try.func91 #[.agg #[.int .i64 ((rd_T90 l0 t440).f0), .int .i64 ((rd_T90 l0 t440).f1), .int .i64 ((rd_T90 l0 t440).f2), .int .i64 ((rd_T90 l0 t440).f3)], .agg #[.int .i64 ((rd_T90 l0 t444).f0), .int .i64 ((rd_T90 l0 t444).f1), .int .i64 ((rd_T90 l0 t444).f2), .int .i64 ((rd_T90 l0 t444).f3)]] ?_
          with_reducible refine (spec_Conflict.calls k3 ((rd_T90 l0 t440).f0) ((rd_T90 l0 t440).f1) ((rd_T90 l0 t440).f2) ((rd_T90 l0 t440).f3) ((rd_T90 l0 t444).f0) ((rd_T90 l0 t444).f1) ((rd_T90 l0 t444).f2) ((rd_T90 l0 t444).f3) true _ A30.out).mono ?_
          rintro e w40 ⟨rfl, hb⟩
          have HS4_ := (hb.cell (World.block_lt_of_cell? _ _ (hHeld.2.2.2.2.1))).trans (hHeld.2.2.2.2.1)
          refine ⟨_, rfl, ?_⟩
          replace HO_8 := Aside0.mk (Kd.R_below (rK HO_8) hb)
          replace HO_9 := Aside0.mk (Kd.R_below (rK HO_9) hb)
          replace BK442 := Aside0.mk (blk_below (g := gb442) (bK BK442) hb)
          replace HB := Aside0.mk (below_step bG hb)
          (try clear hb)
          (try clear hb2)
          (try clear hk)
          (try clear hi)
          refine hK.out _ _ ⟨bC BK442 0, bC BK442 1, bC BK442 2, bC BK442 3, HS4_, (hC HB hw445_0), (hC HB hw445_1), (hC HB hw445_2), (hC HB hw445_3)⟩ (fun hHeld => ?_)
          clear hK K
          refine nB ?_
          refine eA HT_ ?_
          obtain ⟨hcz41_0, hcz41_1, hcz41_2, hcz41_3, hfz41_0, hfz41_1, hfz41_2, hfz41_3⟩ := blkc4 BK442
          try go_wp2_with (first | ((with_reducible refine gate_callee (f := 129) rfl ?_); refine gL (some 63) Try.func129 #[.agg #[.int .i64 ((rd_T90 l0 t440).f0), .int .i64 ((rd_T90 l0 t440).f1), .int .i64 ((rd_T90 l0 t440).f2), .int .i64 ((rd_T90 l0 t440).f3)]] ?_; (with_reducible refine (spec_ClearOf.calls ((rd_T90 l0 t440).f0) ((rd_T90 l0 t440).f1) ((rd_T90 l0 t440).f2) ((rd_T90 l0 t440).f3) t447 _ A32.out).mono ?_); rintro e w42 ⟨rfl, hb⟩; refine ⟨_, rfl, ?_⟩; replace HO_8 := Aside0.mk (Kd.R_below (rK HO_8) hb); replace HO_9 := Aside0.mk (Kd.R_below (rK HO_9) hb); replace BK442 := Aside0.mk (blk_below (g := gb442) (bK BK442) hb); replace HB := Aside0.mk (below_step bG hb); (try clear hb); (try clear hb2); (try clear hk); (try clear hi)) | ((with_reducible refine gate_callee (f := 110) rfl ?_); refine gL (some 64) Try.func110 #[.int .i64 x7_3, .int .i64 t447] ?_; (with_reducible refine (spec_Max.calls x7_3 t447 t448 _ A33.out).mono ?_); rintro e w' ⟨rfl, ⟨nd, rfl⟩⟩; refine ⟨_, rfl, ?_⟩))
          go_roundg k3
          case measure => have := HK1.out; have := HJ7.out; have := HK3.out; omega
          case rel => exact ⟨(t448), (wrap64 (x11_3 + 1)), rS, rS, H', ⟨by have := HK1.out; have := HJ7.out; have := HK3.out; omega⟩, ⟨rK HO_8⟩, ⟨rK HO_9⟩, ⟨bG⟩⟩
         ·
          replace c31 := Bool.eq_false_iff.mpr c31
          subst c31
          have H1 : (spec_ClearBetween.l1 k3 l0 l1 l2 x7_3 t431 t434 x10_1 (wrap64 (x11_3 + 1))) = some r := by rw [if_neg (show ¬ (false = true) by decide)] at H; exact H
          clear H
          have H := H1
          clear H1
          have H' := Aside0.mk H
          clear H
          obtain ⟨Ao43, co43, eo43⟩ := Kd.R_slice HO_9.out
          subst eo43
          obtain ⟨Ao44, co44, eo44⟩ := Kd.R_slice HO_8.out
          subst eo44
          have p439 : 0 ≤ (x10_1 : Int) := dA
          have q439 : x10_1 < (t431.length : Int) := dA
          obtain ⟨ad439, e439, hx439_0⟩ := Kd.at_int (Kd.R_reads' HO_8.out).2.2 x10_1 p439 q439
          cases e439
          replace p439 := eq_true p439
          replace q439 := eq_true q439
          try go_wp2_with (first | ((with_reducible refine gate_callee (f := 79) rfl ?_); refine gL (some 47) Try.func79 #[.slice A0 l0.length c0, .int .i64 (rd t431 x10_1)] ?_; (with_reducible refine (spec_FindPath.calls k3 _ _ l0 (rd t431 x10_1) t440 _ ?side1 ?side2 A23.out).mono ?_); (case side1 => exact cB HR0); (case side2 => exact HC0.out); rintro e w' ⟨rfl, ⟨nd, rfl⟩⟩; refine ⟨_, rfl, ?_⟩; (try (rw [drewN_self wr]; generalize hq_ : World.drewN wr _ = wr; have n0_ : Aside0 (Kd.R (Kd.int .i64) 3 wr w.heap.size (fun k_ => some k_ ≠ (.slice Ao43 t434.length co43 : Value).ownBlock) (.slice (some ad439) t431.length co44) t431) := ⟨by rw [← hq_]; exact (rK HO_8)⟩; have n1_ : Aside0 (Kd.R (Kd.int .i64) 3 wr w.heap.size (fun k_ => some k_ ≠ (.slice (some ad439) t431.length co44 : Value).ownBlock) (.slice Ao43 t434.length co43) t434) := ⟨by rw [← hq_]; exact (rK HO_9)⟩; have n2_ : Aside0 (Below w.heap.size w wr) := ⟨by rw [← hq_]; exact bA⟩; clear HO_8 HO_9 HB hq_; have HO_8 := n0_; have HO_9 := n1_; have HB := n2_; clear n0_ n1_ n2_)); have p441 : 0 ≤ (t440 : Int) := dA; have q441 : t440 < (l0.length : Int) := dA; obtain ⟨ad441, e441, hx441_0, hx441_1, hx441_2, hx441_3⟩ := at_T90 HR0.out t440 p441 q441; cases e441; replace hx441_0 := hC HB hx441_0; replace hx441_1 := hC HB hx441_1; replace hx441_2 := hC HB hx441_2; replace hx441_3 := hC HB hx441_3; replace p441 := eq_true p441; replace q441 := eq_true q441) | ((with_reducible refine gate_dst (N := 12) rfl ?_); refine bE (N := 12) (cs := #[.int .i64 0, .int .i64 0, .int .i64 0, .int .i64 0]) (t := 90) ?_; intro gb442 hg w45 hbox hb; have n0_ := Aside0.mk (Kd.R_below (rK HO_8) hb); have n1_ := Aside0.mk (Kd.R_below (rK HO_9) hb); have n2_ := Aside0.mk (below_step bA hb); have n3_ := Aside0.mk (hbox); have n4_ := Aside0.mk ((by rw [hg]; exact (below_size bA) : w.heap.size ≤ gb442)); have n5_ := Aside0.mk ((by rw [hg]; exact (below_size bA) : w.heap.size ≤ gb442)); clear HO_8; clear HO_9; clear HB; have HO_8 := n0_; have HO_9 := n1_; have HB := n2_; have BK442 := n3_; have GW442 := n4_; have GE442 := n5_; clear n0_ n1_ n2_ n3_ n4_ n5_; clear hb hbox hg; obtain ⟨hcz46_0, hcz46_1, hcz46_2, hcz46_3, hfz46_0, hfz46_1, hfz46_2, hfz46_3⟩ := blkc4 BK442))
          have n0_ : Aside0 (Kd.R (Kd.int .i64) 3 ((((w45.setCell ⟨gb442, 0, none⟩ (.int .i64 ((rd_T90 l0 t440).f0))).setCell ⟨gb442, 1, none⟩ (.int .i64 ((rd_T90 l0 t440).f1))).setCell ⟨gb442, 2, none⟩ (.int .i64 ((rd_T90 l0 t440).f2))).setCell ⟨gb442, 3, none⟩ (.int .i64 ((rd_T90 l0 t440).f3))) w.heap.size (fun k_ => some k_ ≠ (.slice Ao43 t434.length co43 : Value).ownBlock) (.slice (some ad439) t431.length co44) t431) := ⟨by (with_reducible repeat (first | apply Kd.R_alloc | apply Kd.R_drewN | apply Kd.R_drew)); exact Kd.R_mono (Kd.R_far (p := ⟨gb442, 3, none⟩) (Kd.R_far (p := ⟨gb442, 2, none⟩) (Kd.R_far (p := ⟨gb442, 1, none⟩) (Kd.R_far (p := ⟨gb442, 0, none⟩) (Kd.R_types HO_8.out BK442.out (by decide)) (fun _ hk => hk.2) (.int .i64 ((rd_T90 l0 t440).f0))) (fun _ hk => hk.2) (.int .i64 ((rd_T90 l0 t440).f1))) (fun _ hk => hk.2) (.int .i64 ((rd_T90 l0 t440).f2))) (fun _ hk => hk.2) (.int .i64 ((rd_T90 l0 t440).f3))) (fun _ hk => hk.1)⟩
          have n1_ : Aside0 (Kd.R (Kd.int .i64) 3 ((((w45.setCell ⟨gb442, 0, none⟩ (.int .i64 ((rd_T90 l0 t440).f0))).setCell ⟨gb442, 1, none⟩ (.int .i64 ((rd_T90 l0 t440).f1))).setCell ⟨gb442, 2, none⟩ (.int .i64 ((rd_T90 l0 t440).f2))).setCell ⟨gb442, 3, none⟩ (.int .i64 ((rd_T90 l0 t440).f3))) w.heap.size (fun k_ => some k_ ≠ (.slice (some ad439) t431.length co44 : Value).ownBlock) (.slice Ao43 t434.length co43) t434) := ⟨by (with_reducible repeat (first | apply Kd.R_alloc | apply Kd.R_drewN | apply Kd.R_drew)); exact Kd.R_mono (Kd.R_far (p := ⟨gb442, 3, none⟩) (Kd.R_far (p := ⟨gb442, 2, none⟩) (Kd.R_far (p := ⟨gb442, 1, none⟩) (Kd.R_far (p := ⟨gb442, 0, none⟩) (Kd.R_types HO_9.out BK442.out (by decide)) (fun _ hk => hk.2) (.int .i64 ((rd_T90 l0 t440).f0))) (fun _ hk => hk.2) (.int .i64 ((rd_T90 l0 t440).f1))) (fun _ hk => hk.2) (.int .i64 ((rd_T90 l0 t440).f2))) (fun _ hk => hk.2) (.int .i64 ((rd_T90 l0 t440).f3))) (fun _ hk => hk.1)⟩
          have n2_ : Aside0 (((((w45.setCell ⟨gb442, 0, none⟩ (.int .i64 ((rd_T90 l0 t440).f0))).setCell ⟨gb442, 1, none⟩ (.int .i64 ((rd_T90 l0 t440).f1))).setCell ⟨gb442, 2, none⟩ (.int .i64 ((rd_T90 l0 t440).f2))).setCell ⟨gb442, 3, none⟩ (.int .i64 ((rd_T90 l0 t440).f3))).heap[gb442]? = some (.cells #[.int .i64 ((rd_T90 l0 t440).f0), .int .i64 ((rd_T90 l0 t440).f1), .int .i64 ((rd_T90 l0 t440).f2), .int .i64 ((rd_T90 l0 t440).f3)] 90 (0, 0))) := ⟨by (with_reducible repeat (first | refine blk_drewN ?_ _ | refine blk_drew ?_ | refine blk_alloc ?_ _)); refine blk_put (cs := #[.int .i64 ((rd_T90 l0 t440).f0), .int .i64 ((rd_T90 l0 t440).f1), .int .i64 ((rd_T90 l0 t440).f2), .int .i64 0]) ?_ 3 _ rfl; (with_reducible repeat (first | refine blk_drewN ?_ _ | refine blk_drew ?_ | refine blk_alloc ?_ _)); refine blk_put (cs := #[.int .i64 ((rd_T90 l0 t440).f0), .int .i64 ((rd_T90 l0 t440).f1), .int .i64 0, .int .i64 0]) ?_ 2 _ rfl; (with_reducible repeat (first | refine blk_drewN ?_ _ | refine blk_drew ?_ | refine blk_alloc ?_ _)); refine blk_put (cs := #[.int .i64 ((rd_T90 l0 t440).f0), .int .i64 0, .int .i64 0, .int .i64 0]) ?_ 1 _ rfl; (with_reducible repeat (first | refine blk_drewN ?_ _ | refine blk_drew ?_ | refine blk_alloc ?_ _)); refine blk_put (cs := #[.int .i64 0, .int .i64 0, .int .i64 0, .int .i64 0]) ?_ 0 _ rfl; (with_reducible repeat (first | refine blk_drewN ?_ _ | refine blk_drew ?_ | refine blk_alloc ?_ _)); exact BK442.out⟩
          have n3_ : Aside0 (Below w.heap.size w ((((w45.setCell ⟨gb442, 0, none⟩ (.int .i64 ((rd_T90 l0 t440).f0))).setCell ⟨gb442, 1, none⟩ (.int .i64 ((rd_T90 l0 t440).f1))).setCell ⟨gb442, 2, none⟩ (.int .i64 ((rd_T90 l0 t440).f2))).setCell ⟨gb442, 3, none⟩ (.int .i64 ((rd_T90 l0 t440).f3)))) := ⟨bG⟩
          (try clear HO_8)
          (try clear HO_9)
          (try clear BK442)
          (try clear HB)
          generalize ((((w45.setCell ⟨gb442, 0, none⟩ (.int .i64 ((rd_T90 l0 t440).f0))).setCell ⟨gb442, 1, none⟩ (.int .i64 ((rd_T90 l0 t440).f1))).setCell ⟨gb442, 2, none⟩ (.int .i64 ((rd_T90 l0 t440).f2))).setCell ⟨gb442, 3, none⟩ (.int .i64 ((rd_T90 l0 t440).f3))) = w47 at n0_ n1_ n2_ n3_ ⊢
          have HO_8 := n0_
          have HO_9 := n1_
          have BK442 := n2_
          have HB := n3_
          clear n0_ n1_ n2_ n3_
          replace HO_8 := Aside0.mk (Kd.R_drew HO_8.out)
          replace HO_9 := Aside0.mk (Kd.R_drew HO_9.out)
          replace BK442 := Aside0.mk (blk_drew BK442.out)
          have HBo := HB
          replace HB := Aside0.mk (below_drew1 HB.out)
          have p443 : 0 ≤ (x11_3 : Int) := dA
          have q443 : x11_3 < (t434.length : Int) := dA
          obtain ⟨ad443, e443, hx443_0⟩ := Kd.at_int (Kd.R_reads' HO_9.out).2.2 x11_3 p443 q443
          cases e443
          replace p443 := eq_true p443
          replace q443 := eq_true q443
          have p445 : 0 ≤ (t444 : Int) := dA
          have q445 : t444 < (l0.length : Int) := dA
          obtain ⟨ad445, e445, hx445_0, hx445_1, hx445_2, hx445_3⟩ := at_T90 HR0.out t444 p445 q445
          have hw445_3 := hx445_3
          have hw445_2 := hx445_2
          have hw445_1 := hx445_1
          have hw445_0 := hx445_0
          obtain rfl : ad441 = ad445 := (by injection e445)
          replace hx445_0 := hC HB hx445_0
          replace hx445_1 := hC HB hx445_1
          replace hx445_2 := hC HB hx445_2
          replace hx445_3 := hC HB hx445_3
          replace p445 := eq_true p445
          replace q445 := eq_true q445
          refine start_ (n := 11) (S := fun w' => w'.cell? ⟨gb442, 0, none⟩ = some (.int .i64 ((rd_T90 l0 t440).f0)) ∧ w'.cell? ⟨gb442, 1, none⟩ = some (.int .i64 ((rd_T90 l0 t440).f1)) ∧ w'.cell? ⟨gb442, 2, none⟩ = some (.int .i64 ((rd_T90 l0 t440).f2)) ∧ w'.cell? ⟨gb442, 3, none⟩ = some (.int .i64 ((rd_T90 l0 t440).f3)) ∧ w'.cell? (ad443.add (x11_3).toNat) = some (.int .i64 (rd t434 x11_3)) ∧ w'.cell? (ad441.add ((t444).toNat * 4)) = some (.int .i64 ((rd_T90 l0 t444).f0)) ∧ w'.cell? ⟨(ad441.add ((t444).toNat * 4)).block, (ad441.add ((t444).toNat * 4)).off + 1, none⟩ = some (.int .i64 ((rd_T90 l0 t444).f1)) ∧ w'.cell? ⟨(ad441.add ((t444).toNat * 4)).block, (ad441.add ((t444).toNat * 4)).off + 2, none⟩ = some (.int .i64 ((rd_T90 l0 t444).f2)) ∧ w'.cell? ⟨(ad441.add ((t444).toNat * 4)).block, (ad441.add ((t444).toNat * 4)).off + 3, none⟩ = some (.int .i64 ((rd_T90 l0 t444).f3))) (ds := []) (mb 11 0) (by kernel_rfl) rfl rfl ⟨bC BK442 0, bC BK442 1, bC BK442 2, bC BK442 3, hx443_0, (hC HB hw445_0), (hC HB hw445_1), (hC HB hw445_2), (hC HB hw445_3)⟩ (fun hHeld => ?_); refine with_tabW spec_ClearBetween.tab11 spec_ClearBetween.bits11 (fun HT_ HW_ => ?_)
          generalize w47.drew = w48 at HO_8 HO_9 BK442 HB hx443_0 hx445_0 hx445_1 hx445_2 hx445_3 hHeld ⊢
          refine pA (i := 1) (N := some 51) (mb 11 2) HT_ ?_
          refine pA (i := 2) (N := some 52) (mb 11 6) HT_ ?_
          refine pA (i := 3) (N := some 53) (mb 11 14) HT_ ?_
          refine pA (i := 4) (N := some 54) (mb 11 30) HT_ ?_
          refine pA (i := 5) (N := some 55) (mb 11 62) HT_ ?_
          refine tA9 (i := 0) (N := some 50) (mb 11 63) HT_ HW_ hHeld ?_
          refine tA9 (i := 6) (N := some 56) (mb 11 127) HT_ HW_ hHeld ?_
          refine oA (i := 7) (N := some 57) (mb 11 255) HT_ (fun K hK => ?_)
          refine gA Try.func79 #[.slice (some ad441) l0.length c0, .int .i64 (rd t434 x11_3)] ?_
          with_reducible refine (spec_FindPath.calls k3 _ _ l0 (rd t434 x11_3) t444 _ ?side1 ?side2 A27.out).mono ?_
          (case side1 => exact cB HR0)
          (case side2 => exact HC0.out)
          rintro e w' ⟨rfl, ⟨nd, rfl⟩⟩
          refine ⟨_, rfl, ?_⟩
          refine hK.out _ _ ⟨bC BK442 0, bC BK442 1, bC BK442 2, bC BK442 3, hHeld.2.2.2.2.1, (hC HB hw445_0), (hC HB hw445_1), (hC HB hw445_2), (hC HB hw445_3)⟩ (fun hHeld => ?_)
          clear hK K
          refine nB ?_
          refine pA (i := 8) (N := some 58) (mb 11 511) HT_ ?_
          refine tA9 (i := 9) (N := some 59) (mb 11 1023) HT_ HW_ hHeld ?_
          refine oA (i := 10) (N := some 60) (mb 11 2047) HT_ (fun K hK => ?_)
          refine gA Try.func91 #[.agg #[.int .i64 ((rd_T90 l0 t440).f0), .int .i64 ((rd_T90 l0 t440).f1), .int .i64 ((rd_T90 l0 t440).f2), .int .i64 ((rd_T90 l0 t440).f3)], .agg #[.int .i64 ((rd_T90 l0 t444).f0), .int .i64 ((rd_T90 l0 t444).f1), .int .i64 ((rd_T90 l0 t444).f2), .int .i64 ((rd_T90 l0 t444).f3)]] ?_
          with_reducible refine (spec_Conflict.calls k3 ((rd_T90 l0 t440).f0) ((rd_T90 l0 t440).f1) ((rd_T90 l0 t440).f2) ((rd_T90 l0 t440).f3) ((rd_T90 l0 t444).f0) ((rd_T90 l0 t444).f1) ((rd_T90 l0 t444).f2) ((rd_T90 l0 t444).f3) false _ A30.out).mono ?_
          rintro e w49 ⟨rfl, hb⟩
          have HS4_ := (hb.cell (World.block_lt_of_cell? _ _ (hHeld.2.2.2.2.1))).trans (hHeld.2.2.2.2.1)
          refine ⟨_, rfl, ?_⟩
          replace HO_8 := Aside0.mk (Kd.R_below (rK HO_8) hb)
          replace HO_9 := Aside0.mk (Kd.R_below (rK HO_9) hb)
          replace BK442 := Aside0.mk (blk_below (g := gb442) (bK BK442) hb)
          replace HB := Aside0.mk (below_step bG hb)
          (try clear hb)
          (try clear hb2)
          (try clear hk)
          (try clear hi)
          refine hK.out _ _ ⟨bC BK442 0, bC BK442 1, bC BK442 2, bC BK442 3, HS4_, (hC HB hw445_0), (hC HB hw445_1), (hC HB hw445_2), (hC HB hw445_3)⟩ (fun hHeld => ?_)
          clear hK K
          refine nB ?_
          refine eA HT_ ?_
          try go_wp2
          go_roundg k3
          case measure => have := HK1.out; have := HJ7.out; have := HK3.out; omega
          case rel => exact ⟨(x7_3), (wrap64 (x11_3 + 1)), rS, rS, H', ⟨by have := HK1.out; have := HJ7.out; have := HK3.out; omega⟩, ⟨rK HO_8⟩, ⟨rK HO_9⟩, ⟨bG⟩⟩
        ·
         rw [if_neg c20] at H
         have c20b0 : decide (x11_3 < (t434.length : Int)) = false := decide_eq_false c20
         clear c20
         have H' := Aside0.mk H
         clear H
         obtain ⟨Ao50, co50, eo50⟩ := Kd.R_slice HO_9.out
         subst eo50
         go_wp2
         go_roundg k3
         case measure => have := HK1.out; have := HJ7.out; have := HK3.out; omega
         case rel => exact ⟨(x7_3), (wrap64 (x10_1 + 1)), rS, rS, H', ⟨by have := HK1.out; have := HJ7.out; have := HK3.out; omega⟩, ⟨rK HO_8⟩, ⟨rK HO_9⟩, ⟨bA⟩⟩
     ·
      replace c19 := Bool.eq_false_iff.mpr c19
      subst c19
      have H1 : (some x7_1) = some r := by rw [if_neg (show ¬ (false = true) by decide)] at H; exact H
      clear H
      have H := H1
      clear H1
      obtain rfl := Option.some.inj H
      go_wp2
      go_ret
      exact ⟨rA, bA⟩

/-! ### spec_IsControl: function 55 -/
def spec_IsControl.j0 : Nat → List (S90) → Bool → List Int → Int → List Int → Int → Option (Bool)
 | 0, _, _, _, _, _, _ => none
 | k + 1, x0, x28, x450000, x450001, x450002, x450003 => if x28 = true then (some false) else (if (x450002.length : Int) = 0 then (some (x450003 == 0)) else ((spec_ClearBetween.f k x0 x450000 x450002).bind fun t453 => ((spec_l1In.f x450003 1 t453).bind fun t454 => (some t454))))
def spec_IsControl.f (k : Nat) (l0 : List (S90)) (l1_0 : List Int) (a1_1 : Int) (l1_2 : List Int) (a1_3 : Int) : Option (Bool) := if (l1_0.length : Int) = 0 then (spec_IsControl.j0 k l0 true l1_0 a1_1 l1_2 a1_3) else ((spec_IsTogether.f k l0 l1_0).bind fun t450 => (if t450 = true then ((spec_IsTogether.f k l0 l1_2).bind fun t451 => (if t451 = true then ((spec_l1In.f a1_1 0 1000000).bind fun t452 => (spec_IsControl.j0 k l0 (!t452) l1_0 a1_1 l1_2 a1_3)) else (spec_IsControl.j0 k l0 true l1_0 a1_1 l1_2 a1_3))) else (spec_IsControl.j0 k l0 true l1_0 a1_1 l1_2 a1_3)))
theorem spec_IsControl.mono_l : ∀ k, (∀ y0 y1 y2 y3 y4 y5, LeO (spec_IsControl.j0 k y0 y1 y2 y3 y4 y5) (spec_IsControl.j0 (k + 1) y0 y1 y2 y3 y4 y5))
 | 0 => fun _ _ _ _ _ _ r h => by simp [spec_IsControl.j0] at h
 | k + 1 => by
  have ih0 := spec_IsControl.mono_l k
  ·
   intro y0 y1 y2 y3 y4 y5
   unfold spec_IsControl.j0
   repeat' first | (with_reducible first | exact LeO.refl _ | exact LeO.none _ | refine LeO.ite ?_ ?_ | refine LeO.bind ?_ (fun _ => ?_) | exact ih0 _ _ _ _ _ _ | exact spec_ClearBetween.mono _ _ _ _ | exact spec_IsTogether.mono _ _ _) | exact LeO.none _ | refine LeO.ite ?_ ?_ | refine LeO.bind ?_ (fun _ => ?_) | exact ih0 _ _ _ _ _ _ | exact spec_ClearBetween.mono _ _ _ _ | exact spec_IsTogether.mono _ _ _
theorem spec_IsControl.mono : ∀ a0 a1 a2 a3 a4 k, LeO (spec_IsControl.f k a0 a1 a2 a3 a4) (spec_IsControl.f (k + 1) a0 a1 a2 a3 a4) := by
 intro a0 a1 a2 a3 a4 k
 have ih0 := spec_IsControl.mono_l k
 unfold spec_IsControl.f
 repeat' first | (with_reducible first | exact LeO.refl _ | exact LeO.none _ | refine LeO.ite ?_ ?_ | refine LeO.bind ?_ (fun _ => ?_) | exact ih0 _ _ _ _ _ _ | exact spec_ClearBetween.mono _ _ _ _ | exact spec_IsTogether.mono _ _ _) | exact LeO.none _ | refine LeO.ite ?_ ?_ | refine LeO.bind ?_ (fun _ => ?_) | exact ih0 _ _ _ _ _ _ | exact spec_ClearBetween.mono _ _ _ _ | exact spec_IsTogether.mono _ _ _
def spec_IsControl.T5 : Bool × List (List Nat × List Nat) := (true, [([], []), ([0], [0]), ([], []), ([], []), ([3], [3]), ([], []), ([5], [5]), ([2, 4, 6], [2, 4, 6]), ([1, 7, 7], [1, 7]), ([8, 8, 0, 1, 2, 3, 4, 5, 6, 7, 8], [8])])
def spec_IsControl.B5 : List Nat := [0, 1, 0, 0, 8, 0, 32, 124, 255, 511]
theorem spec_IsControl.tab5 : rtab .any (opsOf Try.f55 5) = spec_IsControl.T5 := by kernel_rfl
theorem spec_IsControl.bits5 : waitsOk spec_IsControl.T5.2 spec_IsControl.B5 = true := by kernel_rfl
set_option maxHeartbeats 8000000 in
set_option maxRecDepth 100000 in
theorem spec_IsControl.calls (k : Nat) (A0 : Option Addr) (c0 : Nat) (l0 : List (S90)) (A1_0 : Option Addr) (c1_0 : Nat) (l1_0 : List Int) (a1_1 : Int) (A1_2 : Option Addr) (c1_2 : Nat) (l1_2 : List Int) (a1_3 : Int) (r : Bool) (w : World) (hr0 : Kd.C k90 w A0 l0.length l0) (hc0 : l0.length ≤ c0) (hr1_0 : Kd.C (Kd.int .i64) w A1_0 l1_0.length l1_0) (hc1_0 : l1_0.length ≤ c1_0) (hr1_2 : Kd.C (Kd.int .i64) w A1_2 l1_2.length l1_2) (hc1_2 : l1_2.length ≤ c1_2) (h : spec_IsControl.f k l0 l1_0 a1_1 l1_2 a1_3 = some r) :
  Calls Try.prog 55 #[.slice A0 l0.length c0, .agg #[.slice A1_0 l1_0.length c1_0, .int .i64 a1_1, .slice A1_2 l1_2.length c1_2, .int .i64 a1_3]] w fun e w' => e = .returned (.bool r) ∧ Below w.heap.size w w' := by
 have hu70 := Try.underlying70
 have HR0 := Aside0.mk hr0
 have HC0 := Aside0.mk hc0
 clear hr0 hc0
 have HR1_0 := Aside0.mk hr1_0
 have HC1_0 := Aside0.mk hc1_0
 clear hr1_0 hc1_0
 have HR1_2 := Aside0.mk hr1_2
 have HC1_2 := Aside0.mk hc1_2
 clear hr1_2 hc1_2
 have HB := Aside0.mk (Below.refl w.heap.size w)
 have H : (if (l1_0.length : Int) = 0 then (spec_IsControl.j0 k l0 true l1_0 a1_1 l1_2 a1_3) else ((spec_IsTogether.f k l0 l1_0).bind fun t450 => (if t450 = true then ((spec_IsTogether.f k l0 l1_2).bind fun t451 => (if t451 = true then ((spec_l1In.f a1_1 0 1000000).bind fun t452 => (spec_IsControl.j0 k l0 (!t452) l1_0 a1_1 l1_2 a1_3)) else (spec_IsControl.j0 k l0 true l1_0 a1_1 l1_2 a1_3))) else (spec_IsControl.j0 k l0 true l1_0 a1_1 l1_2 a1_3)))) = some r := h
 clear h
 have HC3 := Aside0.mk H
 clear H
 go_enter Try.func55, Try.ntmps55
 go_upto_region 1 with (first | ((with_reducible refine gate_dst (N := 3) rfl ?_); refine bE (N := 3) (cs := #[.slice A1_0 l1_0.length c1_0, .int .i64 a1_1, .slice A1_2 l1_2.length c1_2, .int .i64 a1_3]) (t := 70) ?_; intro gb449 hg w4 hbox hb; have n0_ := Aside0.mk (below_step bA hb); have n1_ := Aside0.mk (hbox); have n2_ := Aside0.mk ((by rw [hg]; exact (below_size bA) : w.heap.size ≤ gb449)); have n3_ := Aside0.mk ((by rw [hg]; exact (below_size bA) : w.heap.size ≤ gb449)); clear HB; have HB := n0_; have BK449 := n1_; have GW449 := n2_; have GE449 := n3_; clear n0_ n1_ n2_ n3_; clear hb hbox hg))
 (try simp only [Act.put, List.setIfInBounds_toArray, List.set_cons_zero, List.set_cons_succ])
 go_cut [28] (fun v28 wc => ∃ (kq : Nat) (x28_2 : Bool), v28 = .bool x28_2 ∧ Aside0 (spec_IsControl.j0 kq l0 x28_2 l1_0 a1_1 l1_2 a1_3 = some r) ∧ Aside0 (kq ≤ k) ∧ Aside0 (wc.heap[gb449]? = some (.cells #[(.slice A1_0 l1_0.length c1_0), .int .i64 a1_1, (.slice A1_2 l1_2.length c1_2), .int .i64 a1_3] 70 (0, 0))) ∧ Aside0 (Below w.heap.size w wc))
 case first =>
  have H := HC3.out
  clear HC3
  by_cases c5 : (l1_0.length : Int) = 0
  ·
   rw [if_pos c5] at H
   have c5b0 : ((l1_0.length : Int) == 0) = true := beq_iff_eq.mpr c5
   have c5b1 : ((l1_0.length : Int) != 0) = false := bne_eq_false_iff_eq.mpr c5
   clear c5
   (first | rw [c5b0] | (simp only [i64_w, i32_w]; rw [c5b0]) | skip)
   have H' := Aside0.mk H
   clear H
   obtain ⟨hcz6_0, hcz6_1, hcz6_2, hcz6_3, hfz6_0, hfz6_1, hfz6_2, hfz6_3⟩ := blkc4 BK449
   go_wp2
   go_meet
   case rel => exact ⟨_, (true), rS, H', ⟨by first | omega | exact Nat.le_refl _⟩, ⟨bK BK449⟩, ⟨bG⟩⟩
  ·
   rw [if_neg c5] at H
   have c5b0 : ((l1_0.length : Int) == 0) = false := beq_eq_false_iff_ne.mpr c5
   have c5b1 : ((l1_0.length : Int) != 0) = true := bne_iff_ne.mpr c5
   have c5b2 : ¬ (l1_0 = []) := fun h_ => c5 (by rw [h_]; rfl)
   (first | rw [c5b0] | (simp only [i64_w, i32_w]; rw [c5b0]) | skip)
   obtain ⟨t450, A7, H⟩ := bindE H
   try dsimp only at H
   by_cases c8 : t450 = true
   ·
    subst c8
    have H1 : ((spec_IsTogether.f k l0 l1_2).bind fun t451 => (if t451 = true then ((spec_l1In.f a1_1 0 1000000).bind fun t452 => (spec_IsControl.j0 k l0 (!t452) l1_0 a1_1 l1_2 a1_3)) else (spec_IsControl.j0 k l0 true l1_0 a1_1 l1_2 a1_3))) = some r := by rw [if_pos rfl] at H; exact H
    clear H
    have H := H1
    clear H1
    obtain ⟨t451, A9, H⟩ := bindE H
    try dsimp only at H
    by_cases c10 : t451 = true
    ·
     subst c10
     have H1 : ((spec_l1In.f a1_1 0 1000000).bind fun t452 => (spec_IsControl.j0 k l0 (!t452) l1_0 a1_1 l1_2 a1_3)) = some r := by rw [if_pos rfl] at H; exact H
     clear H
     have H := H1
     clear H1
     obtain ⟨t452, A11, H⟩ := bindE H
     try dsimp only at H
     have H' := Aside0.mk H
     clear H
     obtain ⟨hcz12_0, hcz12_1, hcz12_2, hcz12_3, hfz12_0, hfz12_1, hfz12_2, hfz12_3⟩ := blkc4 BK449
     go_wp2_with (first | (go_at_call 98; (with_reducible refine (spec_IsTogether.calls k _ _ l0 _ _ l1_0 true _ ?side1 ?side2 ?side3 ?side4 A7.out).mono ?_); (case side1 => exact cB HR0); (case side2 => exact HC0.out); (case side3 => exact cB HR1_0); (case side4 => exact HC1_0.out); rintro e w13 ⟨rfl, hb⟩; replace BK449 := Aside0.mk (blk_below (g := gb449) (bK BK449) hb); replace HB := Aside0.mk (below_step bG hb); (try clear hb); (try clear hb2); (try clear hk); (try clear hi); have hcz14_0 : w13.cell? ⟨gb449, 0, none⟩ = some (.slice A1_0 l1_0.length c1_0) := bC BK449 0; have hcz14_1 : w13.cell? ⟨gb449, 1, none⟩ = some (.int .i64 a1_1) := bC BK449 1; have hcz14_2 : w13.cell? ⟨gb449, 2, none⟩ = some (.slice A1_2 l1_2.length c1_2) := bC BK449 2; have hcz14_3 : w13.cell? ⟨gb449, 3, none⟩ = some (.int .i64 a1_3) := bC BK449 3; have hfz14_0 := blk_frozen BK449.out 0; have hfz14_1 := blk_frozen BK449.out 1; have hfz14_2 := blk_frozen BK449.out 2; have hfz14_3 := blk_frozen BK449.out 3) | (go_at_call 98; (with_reducible refine (spec_IsTogether.calls k _ _ l0 _ _ l1_2 true _ ?side1 ?side2 ?side3 ?side4 A9.out).mono ?_); (case side1 => exact cB HR0); (case side2 => exact HC0.out); (case side3 => exact cB HR1_2); (case side4 => exact HC1_2.out); rintro e w15 ⟨rfl, hb⟩; replace BK449 := Aside0.mk (blk_below (g := gb449) (bK BK449) hb); replace HB := Aside0.mk (below_step bG hb); (try clear hb); (try clear hb2); (try clear hk); (try clear hi); have hcz16_0 : w15.cell? ⟨gb449, 0, none⟩ = some (.slice A1_0 l1_0.length c1_0) := bC BK449 0; have hcz16_1 : w15.cell? ⟨gb449, 1, none⟩ = some (.int .i64 a1_1) := bC BK449 1; have hcz16_2 : w15.cell? ⟨gb449, 2, none⟩ = some (.slice A1_2 l1_2.length c1_2) := bC BK449 2; have hcz16_3 : w15.cell? ⟨gb449, 3, none⟩ = some (.int .i64 a1_3) := bC BK449 3; have hfz16_0 := blk_frozen BK449.out 0; have hfz16_1 := blk_frozen BK449.out 1; have hfz16_2 := blk_frozen BK449.out 2; have hfz16_3 := blk_frozen BK449.out 3) | (go_at_call 67; (with_reducible refine (spec_l1In.calls a1_1 0 1000000 t452 _ A11.out).mono ?_); rintro e w' ⟨rfl, ⟨nd, rfl⟩⟩))
     go_meet
     case rel => exact ⟨_, (!t452), rS, H', ⟨by first | omega | exact Nat.le_refl _⟩, ⟨bK BK449⟩, ⟨bG⟩⟩
    ·
     replace c10 := Bool.eq_false_iff.mpr c10
     subst c10
     have H1 : (spec_IsControl.j0 k l0 true l1_0 a1_1 l1_2 a1_3) = some r := by rw [if_neg (show ¬ (false = true) by decide)] at H; exact H
     clear H
     have H := H1
     clear H1
     have H' := Aside0.mk H
     clear H
     obtain ⟨hcz17_0, hcz17_1, hcz17_2, hcz17_3, hfz17_0, hfz17_1, hfz17_2, hfz17_3⟩ := blkc4 BK449
     go_wp2_with (first | (go_at_call 98; (with_reducible refine (spec_IsTogether.calls k _ _ l0 _ _ l1_0 true _ ?side1 ?side2 ?side3 ?side4 A7.out).mono ?_); (case side1 => exact cB HR0); (case side2 => exact HC0.out); (case side3 => exact cB HR1_0); (case side4 => exact HC1_0.out); rintro e w18 ⟨rfl, hb⟩; replace BK449 := Aside0.mk (blk_below (g := gb449) (bK BK449) hb); replace HB := Aside0.mk (below_step bG hb); (try clear hb); (try clear hb2); (try clear hk); (try clear hi); have hcz19_0 : w18.cell? ⟨gb449, 0, none⟩ = some (.slice A1_0 l1_0.length c1_0) := bC BK449 0; have hcz19_1 : w18.cell? ⟨gb449, 1, none⟩ = some (.int .i64 a1_1) := bC BK449 1; have hcz19_2 : w18.cell? ⟨gb449, 2, none⟩ = some (.slice A1_2 l1_2.length c1_2) := bC BK449 2; have hcz19_3 : w18.cell? ⟨gb449, 3, none⟩ = some (.int .i64 a1_3) := bC BK449 3; have hfz19_0 := blk_frozen BK449.out 0; have hfz19_1 := blk_frozen BK449.out 1; have hfz19_2 := blk_frozen BK449.out 2; have hfz19_3 := blk_frozen BK449.out 3) | (go_at_call 98; (with_reducible refine (spec_IsTogether.calls k _ _ l0 _ _ l1_2 false _ ?side1 ?side2 ?side3 ?side4 A9.out).mono ?_); (case side1 => exact cB HR0); (case side2 => exact HC0.out); (case side3 => exact cB HR1_2); (case side4 => exact HC1_2.out); rintro e w20 ⟨rfl, hb⟩; replace BK449 := Aside0.mk (blk_below (g := gb449) (bK BK449) hb); replace HB := Aside0.mk (below_step bG hb); (try clear hb); (try clear hb2); (try clear hk); (try clear hi)))
     go_meet
     case rel => exact ⟨_, (true), rS, H', ⟨by first | omega | exact Nat.le_refl _⟩, ⟨bK BK449⟩, ⟨bG⟩⟩
   ·
    replace c8 := Bool.eq_false_iff.mpr c8
    subst c8
    have H1 : (spec_IsControl.j0 k l0 true l1_0 a1_1 l1_2 a1_3) = some r := by rw [if_neg (show ¬ (false = true) by decide)] at H; exact H
    clear H
    have H := H1
    clear H1
    have H' := Aside0.mk H
    clear H
    obtain ⟨hcz21_0, hcz21_1, hcz21_2, hcz21_3, hfz21_0, hfz21_1, hfz21_2, hfz21_3⟩ := blkc4 BK449
    go_wp2_with (first | (go_at_call 98; (with_reducible refine (spec_IsTogether.calls k _ _ l0 _ _ l1_0 false _ ?side1 ?side2 ?side3 ?side4 A7.out).mono ?_); (case side1 => exact cB HR0); (case side2 => exact HC0.out); (case side3 => exact cB HR1_0); (case side4 => exact HC1_0.out); rintro e w22 ⟨rfl, hb⟩; replace BK449 := Aside0.mk (blk_below (g := gb449) (bK BK449) hb); replace HB := Aside0.mk (below_step bG hb); (try clear hb); (try clear hb2); (try clear hk); (try clear hi)))
    go_meet
    case rel => exact ⟨_, (true), rS, H', ⟨by first | omega | exact Nat.le_refl _⟩, ⟨bK BK449⟩, ⟨bG⟩⟩
 case rest =>
  clear HC3
  try clear c1
  try clear p2
  try clear c5
  try clear c5b0
  try clear c5b1
  try clear c5b2
  try clear c8
  try clear c10
  try clear hcz12_0
  try clear hcz12_1
  try clear hcz12_2
  try clear hcz12_3
  try clear hcz14_0
  try clear hcz14_1
  try clear hcz14_2
  try clear hcz14_3
  try clear hcz16_0
  try clear hcz16_1
  try clear hcz16_2
  try clear hcz16_3
  try clear hcz17_0
  try clear hcz17_1
  try clear hcz17_2
  try clear hcz17_3
  try clear hcz19_0
  try clear hcz19_1
  try clear hcz19_2
  try clear hcz19_3
  try clear hcz21_0
  try clear hcz21_1
  try clear hcz21_2
  try clear hcz21_3
  try clear hcz6_0
  try clear hcz6_1
  try clear hcz6_2
  try clear hcz6_3
  try clear hfz12_0
  try clear hfz12_1
  try clear hfz12_2
  try clear hfz12_3
  try clear hfz14_0
  try clear hfz14_1
  try clear hfz14_2
  try clear hfz14_3
  try clear hfz16_0
  try clear hfz16_1
  try clear hfz16_2
  try clear hfz16_3
  try clear hfz17_0
  try clear hfz17_1
  try clear hfz17_2
  try clear hfz17_3
  try clear hfz19_0
  try clear hfz19_1
  try clear hfz19_2
  try clear hfz19_3
  try clear hfz21_0
  try clear hfz21_1
  try clear hfz21_2
  try clear hfz21_3
  try clear hfz6_0
  try clear hfz6_1
  try clear hfz6_2
  try clear hfz6_3
  obtain ⟨kq, x28_2, rfl, HA, HJ2, BK449, HB⟩ := hcut
  cases kq with
  | zero => exact absurd HA.out (by simp [spec_IsControl.j0])
  | succ kj2 =>
   have H := HA.out
   clear HA
   simp only [spec_IsControl.j0] at H
   by_cases c23 : x28_2 = true
   ·
    subst c23
    have H1 : (some false) = some r := by rw [if_pos rfl] at H; exact H
    clear H
    have H := H1
    clear H1
    obtain rfl := Option.some.inj H
    go_wp2
    go_ret
    exact ⟨rA, bG⟩
   ·
    replace c23 := Bool.eq_false_iff.mpr c23
    subst c23
    have H1 : (if (l1_2.length : Int) = 0 then (some (a1_3 == 0)) else ((spec_ClearBetween.f kj2 l0 l1_0 l1_2).bind fun t453 => ((spec_l1In.f a1_3 1 t453).bind fun t454 => (some t454)))) = some r := by rw [if_neg (show ¬ (false = true) by decide)] at H; exact H
    clear H
    have H := H1
    clear H1
    by_cases c24 : (l1_2.length : Int) = 0
    ·
     rw [if_pos c24] at H
     have c24b0 : ((l1_2.length : Int) == 0) = true := beq_iff_eq.mpr c24
     have c24b1 : ((l1_2.length : Int) != 0) = false := bne_eq_false_iff_eq.mpr c24
     clear c24
     obtain rfl := Option.some.inj H
     obtain ⟨hcz25_0, hcz25_1, hcz25_2, hcz25_3, hfz25_0, hfz25_1, hfz25_2, hfz25_3⟩ := blkc4 BK449
     go_wp2
     go_ret
     exact ⟨rA, bG⟩
    ·
     rw [if_neg c24] at H
     have c24b0 : ((l1_2.length : Int) == 0) = false := beq_eq_false_iff_ne.mpr c24
     have c24b1 : ((l1_2.length : Int) != 0) = true := bne_iff_ne.mpr c24
     have c24b2 : ¬ (l1_2 = []) := fun h_ => c24 (by rw [h_]; rfl)
     obtain ⟨t453, A26, H⟩ := bindE H
     try dsimp only at H
     obtain ⟨t454, A27, H⟩ := bindE H
     try dsimp only at H
     obtain rfl := Option.some.inj H
     obtain ⟨hcz28_0, hcz28_1, hcz28_2, hcz28_3, hfz28_0, hfz28_1, hfz28_2, hfz28_3⟩ := blkc4 BK449
     try go_wp2
     replace BK449 := Aside0.mk (blk_drew BK449.out)
     have HBo := HB
     replace HB := Aside0.mk (below_drew1 HB.out)
     refine start_ (n := 10) (S := fun w' => w'.cell? ⟨gb449, 0, none⟩ = some (.slice A1_0 l1_0.length c1_0) ∧ w'.cell? ⟨gb449, 1, none⟩ = some (.int .i64 a1_1) ∧ w'.cell? ⟨gb449, 2, none⟩ = some (.slice A1_2 l1_2.length c1_2) ∧ w'.cell? ⟨gb449, 3, none⟩ = some (.int .i64 a1_3)) (ds := []) (mb 10 0) (by kernel_rfl) rfl rfl ⟨bC BK449 0, bC BK449 1, bC BK449 2, bC BK449 3⟩ (fun hHeld => ?_); refine with_tabW spec_IsControl.tab5 spec_IsControl.bits5 (fun HT_ HW_ => ?_)
     generalize wc.drew = w29 at BK449 HB hHeld ⊢
     refine pA (i := 0) (N := some 36) (mb 10 1) HT_ ?_
     refine pA (i := 2) (N := some 38) (mb 10 5) HT_ ?_
     refine pA (i := 3) (N := some 39) (mb 10 13) HT_ ?_
     refine pA (i := 5) (N := some 41) (mb 10 45) HT_ ?_
     refine tA4 (i := 1) (N := some 37) (mb 10 47) HT_ HW_ hHeld ?_
     refine tA4 (i := 4) (N := some 40) (mb 10 63) HT_ HW_ hHeld ?_
     refine tA4 (i := 6) (N := some 42) (mb 10 127) HT_ HW_ hHeld ?_
     refine oA (i := 7) (N := some 43) (mb 10 255) HT_ (fun K hK => ?_)
     refine gA Try.func99 #[.slice A0 l0.length c0, .slice A1_0 l1_0.length c1_0, .slice A1_2 l1_2.length c1_2] ?_
     with_reducible refine (spec_ClearBetween.calls kj2 _ _ l0 _ _ l1_0 _ _ l1_2 t453 _ ?side1 ?side2 ?side3 ?side4 ?side5 ?side6 A26.out).mono ?_
     (case side1 => exact cB HR0)
     (case side2 => exact HC0.out)
     (case side3 => exact cB HR1_0)
     (case side4 => exact HC1_0.out)
     (case side5 => exact cB HR1_2)
     (case side6 => exact HC1_2.out)
     rintro e w30 ⟨rfl, hb⟩
     refine ⟨_, rfl, ?_⟩
     replace BK449 := Aside0.mk (blk_below (g := gb449) (bK BK449) hb)
     replace HB := Aside0.mk (below_step bG hb)
     (try clear hb)
     (try clear hb2)
     (try clear hk)
     (try clear hi)
     refine hK.out _ _ ⟨bC BK449 0, bC BK449 1, bC BK449 2, bC BK449 3⟩ (fun hHeld => ?_)
     clear hK K
     refine nB ?_
     refine oA (i := 8) (N := some 44) (mb 10 511) HT_ (fun K hK => ?_)
     refine gA Try.func67 #[.int .i64 a1_3, .int .i64 1, .int .i64 t453] ?_
     with_reducible refine (spec_l1In.calls a1_3 1 t453 t454 _ A27.out).mono ?_
     rintro e w' ⟨rfl, ⟨nd, rfl⟩⟩
     refine ⟨_, rfl, ?_⟩
     refine hK.out _ _ ⟨bC BK449 0, bC BK449 1, bC BK449 2, bC BK449 3⟩ (fun hHeld => ?_)
     clear hK K
     refine nB ?_
     refine pA (i := 9) (N := some 4) (mb 10 1023) HT_ ?_
     refine eA HT_ ?_
     try go_wp2
     go_ret
     exact ⟨rA, bG⟩

/-! ### spec_l14Copy: function 106 -/
def spec_l14Copy.f (l0_0 : List Int) (a0_1 : Int) (l0_2 : List Int) (a0_3 : Int) : Option (List Int × Int × List Int × Int) := (some (([] : List Int) : List Int)).bind fun y457 => (if y457.length + l0_0.length < 17592186044416 then ((some (([] : List Int) : List Int)).bind fun y463 => (if y463.length + l0_2.length < 17592186044416 then (some ((y457 ++ l0_0), a0_1, (y463 ++ l0_2), a0_3)) else (none))) else (none))
def spec_l14Copy.T1 : Bool × List (List Nat × List Nat) := (true, [([], []), ([], []), ([1], [1]), ([0, 2], [0, 2]), ([], []), ([4], [4]), ([], []), ([], []), ([7], [7]), ([6, 8, 3], [6, 8]), ([], []), ([10], [10]), ([3, 5, 9, 11], [3, 5, 9, 11]), ([12, 9, 0, 1, 2, 3, 4, 5, 6, 7, 8, 9, 10, 11, 12], [12])])
def spec_l14Copy.B1 : List Nat := [0, 0, 2, 7, 0, 16, 0, 0, 128, 463, 0, 1024, 4095, 8191]
theorem spec_l14Copy.tab1 : rtab .any (opsOf Try.f106 1) = spec_l14Copy.T1 := by kernel_rfl
theorem spec_l14Copy.bits1 : waitsOk spec_l14Copy.T1.2 spec_l14Copy.B1 = true := by kernel_rfl
set_option maxHeartbeats 8000000 in
set_option maxRecDepth 100000 in
theorem spec_l14Copy.calls (A0_0 : Option Addr) (c0_0 : Nat) (l0_0 : List Int) (a0_1 : Int) (A0_2 : Option Addr) (c0_2 : Nat) (l0_2 : List Int) (a0_3 : Int) (r1 : List Int) (r2 : Int) (r3 : List Int) (r4 : Int) (w : World) (hr0_0 : Kd.C (Kd.int .i64) w A0_0 l0_0.length l0_0) (hc0_0 : l0_0.length ≤ c0_0) (hr0_2 : Kd.C (Kd.int .i64) w A0_2 l0_2.length l0_2) (hc0_2 : l0_2.length ≤ c0_2) (h : spec_l14Copy.f l0_0 a0_1 l0_2 a0_3 = some (r1, r2, r3, r4)) :
  Calls Try.prog 106 #[.agg #[.slice A0_0 l0_0.length c0_0, .int .i64 a0_1, .slice A0_2 l0_2.length c0_2, .int .i64 a0_3]] w fun e w' => ∃ v0_ v2_ : Value, e = .returned (.agg #[v0_, .int .i64 r2, v2_, .int .i64 r4]) ∧ Kd.R (Kd.int .i64) 3 w' w.heap.size (fun k_ => some k_ ≠ (v2_ : Value).ownBlock) v0_ r1 ∧ Kd.R (Kd.int .i64) 3 w' w.heap.size (fun k_ => some k_ ≠ (v0_ : Value).ownBlock) v2_ r3 ∧ Below w.heap.size w w' := by
 have hu70 := Try.underlying70
 have HR0_0 := Aside0.mk hr0_0
 have HC0_0 := Aside0.mk hc0_0
 clear hr0_0 hc0_0
 have HR0_2 := Aside0.mk hr0_2
 have HC0_2 := Aside0.mk hc0_2
 clear hr0_2 hc0_2
 have HB := Aside0.mk (Below.refl w.heap.size w)
 have H : ((some (([] : List Int) : List Int)).bind fun y457 => (if y457.length + l0_0.length < 17592186044416 then ((some (([] : List Int) : List Int)).bind fun y463 => (if y463.length + l0_2.length < 17592186044416 then (some ((y457 ++ l0_0), a0_1, (y463 ++ l0_2), a0_3)) else (none))) else (none))) = some (r1, r2, r3, r4) := h
 clear h
 obtain ⟨y457, hy457⟩ : ∃ y_ : List Int, y_ = (([] : List Int)) := ⟨_, rfl⟩
 replace H : (if y457.length + l0_0.length < 17592186044416 then ((some (([] : List Int) : List Int)).bind fun y463 => (if y463.length + l0_2.length < 17592186044416 then (some ((y457 ++ l0_0), a0_1, (y463 ++ l0_2), a0_3)) else (none))) else (none)) = some (r1, r2, r3, r4) := by first | (rw [hy457]; with_reducible exact H) | (have H2_ := (Option.bind_some _ _).symm.trans H; rw [hy457]; with_reducible exact H2_) | (have H2_ := (Option.bind_some _ _).symm.trans H; with_reducible exact H2_) | with_reducible exact H | (rw [hy457]; exact H) | exact H
 have Ny457 := Aside0.mk hy457
 clear hy457
 have c2 : y457.length + l0_0.length < 17592186044416 := ifN H
 replace H := ifT H
 have LMc2 := Aside0.mk c2
 clear c2
 obtain ⟨y460, hy460⟩ : ∃ y_ : List Int, y_ = (y457 ++ l0_0) := ⟨_, rfl⟩
 replace H : ((some (([] : List Int) : List Int)).bind fun y463 => (if y463.length + l0_2.length < 17592186044416 then (some (y460, a0_1, (y463 ++ l0_2), a0_3)) else (none))) = some (r1, r2, r3, r4) := by first | (rw [hy460]; with_reducible exact H) | (have H2_ := (Option.bind_some _ _).symm.trans H; rw [hy460]; with_reducible exact H2_) | (have H2_ := (Option.bind_some _ _).symm.trans H; with_reducible exact H2_) | with_reducible exact H | (rw [hy460]; exact H) | exact H
 have Ny460 := Aside0.mk hy460
 clear hy460
 obtain ⟨y463, hy463⟩ : ∃ y_ : List Int, y_ = (([] : List Int)) := ⟨_, rfl⟩
 replace H : (if y463.length + l0_2.length < 17592186044416 then (some (y460, a0_1, (y463 ++ l0_2), a0_3)) else (none)) = some (r1, r2, r3, r4) := by first | (rw [hy463]; with_reducible exact H) | (have H2_ := (Option.bind_some _ _).symm.trans H; rw [hy463]; with_reducible exact H2_) | (have H2_ := (Option.bind_some _ _).symm.trans H; with_reducible exact H2_) | with_reducible exact H | (rw [hy463]; exact H) | exact H
 have Ny463 := Aside0.mk hy463
 clear hy463
 have c3 : y463.length + l0_2.length < 17592186044416 := ifN H
 replace H := ifT H
 have LMc3 := Aside0.mk c3
 clear c3
 obtain ⟨y466, hy466⟩ : ∃ y_ : List Int, y_ = (y463 ++ l0_2) := ⟨_, rfl⟩
 replace H : (some (y460, a0_1, y466, a0_3)) = some (r1, r2, r3, r4) := by first | (rw [hy466]; with_reducible exact H) | (have H2_ := (Option.bind_some _ _).symm.trans H; rw [hy466]; with_reducible exact H2_) | (have H2_ := (Option.bind_some _ _).symm.trans H; with_reducible exact H2_) | with_reducible exact H | (rw [hy466]; exact H) | exact H
 have Ny466 := Aside0.mk hy466
 clear hy466
 simp only [Option.some.injEq, Prod.mk.injEq] at H
 obtain ⟨rfl, rfl, rfl, rfl⟩ := H
 go_enter Try.func106, Try.ntmps106
 try go_wp2_with (first | ((with_reducible refine gate_dst (N := 1) rfl ?_); refine bE (N := 1) (cs := #[.slice A0_0 l0_0.length c0_0, .int .i64 a0_1, .slice A0_2 l0_2.length c0_2, .int .i64 a0_3]) (t := 70) ?_; intro gb455 hg w4 hbox hb; have n0_ := Aside0.mk (below_step bA hb); have n1_ := Aside0.mk (hbox); have n2_ := Aside0.mk ((by rw [hg]; exact (below_size bA) : w.heap.size ≤ gb455)); have n3_ := Aside0.mk ((by rw [hg]; exact (below_size bA) : w.heap.size ≤ gb455)); clear HB; have HB := n0_; have BK455 := n1_; have GW455 := n2_; have GE455 := n3_; clear n0_ n1_ n2_ n3_; clear hb hbox hg) | ((with_reducible refine gate_dst (N := 2) rfl ?_); refine bE (N := 2) (cs := #[.slice none 0 0, .int .i64 0, .slice none 0 0, .int .i64 0]) (t := 70) ?_; intro gb456 hg w5 hbox hb; have n0_ := Aside0.mk (blk_below (g := gb455) (bK BK455) hb); have n1_ := Aside0.mk (below_step bG hb); have n2_ := Aside0.mk (hbox); have n3_ := Aside0.mk ((by rw [hg]; exact (below_size bG) : w.heap.size ≤ gb456)); have n4_ := Aside0.mk ((by rw [hg]; exact (below_size bG) : w.heap.size ≤ gb456)); have n5_ := Aside0.mk ((by rw [hg]; exact Nat.ne_of_lt (blk_lt (g := gb455) (o := .cells #[.slice A0_0 l0_0.length c0_0, .int .i64 a0_1, .slice A0_2 l0_2.length c0_2, .int .i64 a0_3] 70 (0, 0)) (bK BK455)) : gb455 ≠ gb456)); have n6_ := Aside0.mk ((by rw [hg]; exact Nat.ne_of_gt (blk_lt (g := gb455) (o := .cells #[.slice A0_0 l0_0.length c0_0, .int .i64 a0_1, .slice A0_2 l0_2.length c0_2, .int .i64 a0_3] 70 (0, 0)) (bK BK455)) : gb456 ≠ gb455)); clear BK455; clear HB; have BK455 := n0_; have HB := n1_; have BK456 := n2_; have GW456 := n3_; have GE456 := n4_; have NB455_456 := n5_; have NB456_455 := n6_; clear n0_ n1_ n2_ n3_ n4_ n5_ n6_; clear hb hbox hg))
 replace BK455 := Aside0.mk (blk_drew BK455.out)
 replace BK456 := Aside0.mk (blk_drew BK456.out)
 have HBo := HB
 replace HB := Aside0.mk (below_drew1 HB.out)
 refine start_ (n := 14) (S := fun w' => w'.cell? ⟨gb455, 0, none⟩ = some (.slice A0_0 l0_0.length c0_0) ∧ w'.cell? ⟨gb455, 1, none⟩ = some (.int .i64 a0_1) ∧ w'.cell? ⟨gb455, 2, none⟩ = some (.slice A0_2 l0_2.length c0_2) ∧ w'.cell? ⟨gb455, 3, none⟩ = some (.int .i64 a0_3)) (ds := []) (mb 14 0) (by kernel_rfl) rfl rfl ⟨bC BK455 0, bC BK455 1, bC BK455 2, bC BK455 3⟩ (fun hHeld => ?_); refine with_tabW spec_l14Copy.tab1 spec_l14Copy.bits1 (fun HT_ HW_ => ?_)
 generalize w5.drew = w6 at BK455 BK456 HB hHeld ⊢
 refine pA (i := 1) (N := some 4) (mb 14 2) HT_ ?_
 refine pA (i := 4) (N := some 7) (mb 14 18) HT_ ?_
 refine pA (i := 7) (N := some 10) (mb 14 146) HT_ ?_
 refine pA (i := 10) (N := some 13) (mb 14 1170) HT_ ?_
 refine tA4 (i := 2) (N := some 5) (mb 14 1174) HT_ HW_ hHeld ?_
 refine tA4 (i := 5) (N := some 8) (mb 14 1206) HT_ HW_ hHeld ?_
 refine tA4 (i := 8) (N := some 11) (mb 14 1462) HT_ HW_ hHeld ?_
 refine tA4 (i := 11) (N := some 14) (mb 14 3510) HT_ HW_ hHeld ?_
 refine join_ (σ := Value × Value × Value) 3 (mb 14 3583) (fun s_ => [(3, s_.1), (6, s_.2.1), (9, s_.2.2)]) (fun s_ w' => (w'.cell? ⟨gb455, 0, none⟩ = some (.slice A0_0 l0_0.length c0_0) ∧ w'.cell? ⟨gb455, 1, none⟩ = some (.int .i64 a0_1) ∧ w'.cell? ⟨gb455, 2, none⟩ = some (.slice A0_2 l0_2.length c0_2) ∧ w'.cell? ⟨gb455, 3, none⟩ = some (.int .i64 a0_3)) ∧ (Kd.R (Kd.int .i64) 3 w' w.heap.size (fun k_ => some k_ ≠ (s_.2.2 : Value).ownBlock) s_.2.1 y460) ∧ (Kd.R (Kd.int .i64) 3 w' w.heap.size (fun k_ => some k_ ≠ (s_.2.1 : Value).ownBlock) s_.2.2 y463) ∧ (w'.heap[gb455]? = some (.cells #[.slice A0_0 l0_0.length c0_0, .int .i64 a0_1, .slice A0_2 l0_2.length c0_2, .int .i64 a0_3] 70 (0, 0))) ∧ (w'.heap[gb456]? = some (.cells #[.slice none 0 0, .int .i64 0, .slice none 0 0, .int .i64 0] 70 (0, 0))) ∧ (Below w.heap.size w w')) ?_ ?_
 rotate_left
 ·
  intro hCont
  refine two_ (i := 0) (j := 6) (Ni := some 3) (Nj := some 9) (mb 14 3511) (mb 14 3574) rfl rfl rfl rfl (two_of HT_.out (by kernel_rfl)) (by decide) (by decide) (fun K hK => ?_) (fun K hK => ?_)
  ·
   skip
   refine Kd.R_lit_step (Kd.int .i64) _ 3 ?hg (N := 3) ?hd (xs := ([] : List Int)) (inner := []) (ok := fun _ => True) (okp := fun _ => True) ?hr ?hp (fun _ hk => hk) trivial (Below.refl _ _) (Nat.le_refl _) (by simp) ?_; (case hd => rfl); (case hg => rfl); (case hr => first | (go_simp; done) | (go_simp; rfl)); (case hp => exact (Reps.none _ _))
   intro v458 w7 ho8 hb hg_ hnew_
   clear hg_ hnew_
   (first | rw [← Ny457.out] at ho8 | (simp only [Int.reduceToNat] at ho8; rw [← Ny457.out] at ho8))
   have HO459 := Aside0.mk (Kd.R_lower ho8 (below_size bG))
   replace BK455 := Aside0.mk (blk_below (g := gb455) (bK BK455) hb)
   replace BK456 := Aside0.mk (blk_below (g := gb456) (bK BK456) hb)
   replace HB := Aside0.mk (below_step bG hb)
   clear hb ho8
   refine hK.out _ _ ⟨bC BK455 0, bC BK455 1, bC BK455 2, bC BK455 3⟩ (fun hHeld => ?_)
   clear hK K
   refine nB ?_
   refine two_ (i := 3) (j := 6) (Ni := some 6) (Nj := some 9) (mb 14 3519) (mb 14 3575) rfl rfl rfl rfl (two_of HT_.out (by kernel_rfl)) (by decide) (by decide) (fun K hK => ?_) (fun K hK => ?_)
   ·
    skip
    refine Kd.R_append_rows_step (Kd.int .i64) (w0 := w) w.heap.size (by rfl) (.tmp 3) (.tmp 5) 22 3 (.int .i64 0) 8 rfl Try.underlying22 info3 rfl (by decide) (by omega) v458 y457 l0_0 _ _ _ (fun _ => True) (fun _ => False) rfl rfl ?aO ?aR (fun _ _ h => h) (fun _ h => h.elim) ?aF ?aB ?aS ?aL ?_
    (case aR => repeat (first | exact (Kd.C_below HR0_0.out HB.out) | (with_reducible refine Kd.C_alloc ?_ _) | (with_reducible refine Kd.C_drewN ?_ _) | (with_reducible refine Kd.C_drew ?_)))
    (case aB => exact bG)
    (case aF => exact (fun _ _ => trivial))
    (case aO => exact (rK HO459))
    (case aS => exact (below_size bG))
    (case aL => have := LMc2.out; omega)
    intro v461 w9 ho hb hg hat
    rw [← Ny460.out] at ho
    have n0_ := Aside0.mk (blk_grown (g := gb455) (o := .cells #[.slice A0_0 l0_0.length c0_0, .int .i64 a0_1, .slice A0_2 l0_2.length c0_2, .int .i64 a0_3] 70 (0, 0)) (bK BK455) hg (Kd.R_ne HO459.out BK455.out (by decide)))
    have n1_ := Aside0.mk (blk_grown (g := gb456) (o := .cells #[.slice none 0 0, .int .i64 0, .slice none 0 0, .int .i64 0] 70 (0, 0)) (bK BK456) hg (Kd.R_ne HO459.out BK456.out (by decide)))
    have n2_ := Aside0.mk (hb)
    have n3_ := Aside0.mk (ho)
    clear BK455
    clear BK456
    clear HB
    clear HO459
    have BK455 := n0_
    have BK456 := n1_
    have HB := n2_
    have HO462 := n3_
    clear n0_ n1_ n2_ n3_
    clear ho hb hg hat
    refine hK.out _ _ ⟨bC BK455 0, bC BK455 1, bC BK455 2, bC BK455 3⟩ (fun hHeld => ?_)
    clear hK K
    refine nB ?_
    refine oA (i := 6) (N := some 9) (mb 14 3583) HT_ (fun K hK => ?_)
    refine Kd.R_lit_step (Kd.int .i64) _ 3 ?hg (N := 9) ?hd (xs := ([] : List Int)) (inner := []) (ok := fun _ => True) (okp := fun _ => True) ?hr ?hp (fun _ hk => hk) trivial (Below.refl _ _) (Nat.le_refl _) (by simp) ?_; (case hd => rfl); (case hg => rfl); (case hr => first | (go_simp; done) | (go_simp; rfl)); (case hp => exact (Reps.none _ _))
    intro v464 w10 ho11 hb hg_ hnew_
    clear hg_ hnew_
    (first | rw [← Ny463.out] at ho11 | (simp only [Int.reduceToNat] at ho11; rw [← Ny463.out] at ho11))
    have HO465 := Aside0.mk (Kd.R_lower (Kd.R_new' ho11 (Kd.R_lt (rK HO462))) (below_size bG))
    replace HO462 := Aside0.mk (Kd.R_elder' (rK HO462) (Kd.R_base ho11) hb)
    replace BK455 := Aside0.mk (blk_below (g := gb455) (bK BK455) hb)
    replace BK456 := Aside0.mk (blk_below (g := gb456) (bK BK456) hb)
    replace HB := Aside0.mk (below_step bG hb)
    clear hb ho11
    refine hK.out _ _ ⟨bC BK455 0, bC BK455 1, bC BK455 2, bC BK455 3⟩ (fun hHeld => ?_)
    clear hK K
    refine nB ?_
    exact mB (hCont (v458, v461, v464) _ ⟨hHeld, (by (with_reducible repeat (first | apply Kd.R_alloc | apply Kd.R_drewN | apply Kd.R_drew)); exact Kd.R_mono HO462.out (fun _ hk => hk.2)), (by (with_reducible repeat (first | apply Kd.R_alloc | apply Kd.R_drewN | apply Kd.R_drew)); exact Kd.R_mono HO465.out (fun _ hk => hk.2)), (bK BK455), (bK BK456), bG⟩)
   ·
    skip
    refine Kd.R_lit_step (Kd.int .i64) _ 3 ?hg (N := 9) ?hd (xs := ([] : List Int)) (inner := []) (ok := fun _ => True) (okp := fun _ => True) ?hr ?hp (fun _ hk => hk) trivial (Below.refl _ _) (Nat.le_refl _) (by simp) ?_; (case hd => rfl); (case hg => rfl); (case hr => first | (go_simp; done) | (go_simp; rfl)); (case hp => exact (Reps.none _ _))
    intro v464 w9 ho10 hb hg_ hnew_
    clear hg_ hnew_
    (first | rw [← Ny463.out] at ho10 | (simp only [Int.reduceToNat] at ho10; rw [← Ny463.out] at ho10))
    have HO465 := Aside0.mk (Kd.R_lower (Kd.R_new' ho10 (Kd.R_lt (rK HO459))) (below_size bG))
    replace HO459 := Aside0.mk (Kd.R_elder' (rK HO459) (Kd.R_base ho10) hb)
    replace BK455 := Aside0.mk (blk_below (g := gb455) (bK BK455) hb)
    replace BK456 := Aside0.mk (blk_below (g := gb456) (bK BK456) hb)
    replace HB := Aside0.mk (below_step bG hb)
    clear hb ho10
    refine hK.out _ _ ⟨bC BK455 0, bC BK455 1, bC BK455 2, bC BK455 3⟩ (fun hHeld => ?_)
    clear hK K
    refine nB ?_
    refine oA (i := 3) (N := some 6) (mb 14 3583) HT_ (fun K hK => ?_)
    refine Kd.R_append_rows_step (Kd.int .i64) (w0 := w) w.heap.size (by rfl) (.tmp 3) (.tmp 5) 22 3 (.int .i64 0) 8 rfl Try.underlying22 info3 rfl (by decide) (by omega) v458 y457 l0_0 _ _ _ (fun k_ => some k_ ≠ (v464 : Value).ownBlock) (fun _ => False) rfl rfl ?aO ?aR (fun _ _ h => h) (fun _ h => h.elim) ?aF ?aB ?aS ?aL ?_
    (case aR => repeat (first | exact (Kd.C_below HR0_0.out HB.out) | (with_reducible refine Kd.C_alloc ?_ _) | (with_reducible refine Kd.C_drewN ?_ _) | (with_reducible refine Kd.C_drew ?_)))
    (case aB => exact bG)
    (case aF => exact (fun k_ hk => Kd.fresh' (Kd.R_lt (rK HO465)) k_ hk))
    (case aO => exact (by (with_reducible repeat (first | apply Kd.R_alloc | apply Kd.R_drewN | apply Kd.R_drew)); exact Kd.R_mono HO459.out (fun _ hk => hk.2)))
    (case aS => exact (below_size bG))
    (case aL => have := LMc2.out; omega)
    intro v461 w11 ho hb hg hat
    rw [← Ny460.out] at ho
    have n0_ := Aside0.mk (blk_grown (g := gb455) (o := .cells #[.slice A0_0 l0_0.length c0_0, .int .i64 a0_1, .slice A0_2 l0_2.length c0_2, .int .i64 a0_3] 70 (0, 0)) (bK BK455) hg (Kd.R_ne HO459.out BK455.out (by decide)))
    have n1_ := Aside0.mk (blk_grown (g := gb456) (o := .cells #[.slice none 0 0, .int .i64 0, .slice none 0 0, .int .i64 0] 70 (0, 0)) (bK BK456) hg (Kd.R_ne HO459.out BK456.out (by decide)))
    have n2_ := Aside0.mk (Kd.R_after (ok := (fun _ => True)) (rK HO465) hg hat)
    have n3_ := Aside0.mk (hb)
    have n4_ := Aside0.mk (ho)
    clear BK455
    clear BK456
    clear HO465
    clear HB
    clear HO459
    have BK455 := n0_
    have BK456 := n1_
    have HO465 := n2_
    have HB := n3_
    have HO462 := n4_
    clear n0_ n1_ n2_ n3_ n4_
    clear ho hb hg hat
    refine hK.out _ _ ⟨bC BK455 0, bC BK455 1, bC BK455 2, bC BK455 3⟩ (fun hHeld => ?_)
    clear hK K
    refine nB ?_
    exact mB (hCont (v458, v461, v464) _ ⟨hHeld, (rK HO462), (by (with_reducible repeat (first | apply Kd.R_alloc | apply Kd.R_drewN | apply Kd.R_drew)); exact Kd.R_mono HO465.out (fun _ hk => hk.2)), (bK BK455), (bK BK456), bG⟩)
  ·
   skip
   refine Kd.R_lit_step (Kd.int .i64) _ 3 ?hg (N := 9) ?hd (xs := ([] : List Int)) (inner := []) (ok := fun _ => True) (okp := fun _ => True) ?hr ?hp (fun _ hk => hk) trivial (Below.refl _ _) (Nat.le_refl _) (by simp) ?_; (case hd => rfl); (case hg => rfl); (case hr => first | (go_simp; done) | (go_simp; rfl)); (case hp => exact (Reps.none _ _))
   intro v464 w7 ho8 hb hg_ hnew_
   clear hg_ hnew_
   (first | rw [← Ny463.out] at ho8 | (simp only [Int.reduceToNat] at ho8; rw [← Ny463.out] at ho8))
   have HO465 := Aside0.mk (Kd.R_lower ho8 (below_size bG))
   replace BK455 := Aside0.mk (blk_below (g := gb455) (bK BK455) hb)
   replace BK456 := Aside0.mk (blk_below (g := gb456) (bK BK456) hb)
   replace HB := Aside0.mk (below_step bG hb)
   clear hb ho8
   refine hK.out _ _ ⟨bC BK455 0, bC BK455 1, bC BK455 2, bC BK455 3⟩ (fun hHeld => ?_)
   clear hK K
   refine nB ?_
   refine oA (i := 0) (N := some 3) (mb 14 3575) HT_ (fun K hK => ?_)
   refine Kd.R_lit_step (Kd.int .i64) _ 3 ?hg (N := 3) ?hd (xs := ([] : List Int)) (inner := []) (ok := fun _ => True) (okp := fun _ => True) ?hr ?hp (fun _ hk => hk) trivial (Below.refl _ _) (Nat.le_refl _) (by simp) ?_; (case hd => rfl); (case hg => rfl); (case hr => first | (go_simp; done) | (go_simp; rfl)); (case hp => exact (Reps.none _ _))
   intro v458 w9 ho10 hb hg_ hnew_
   clear hg_ hnew_
   (first | rw [← Ny457.out] at ho10 | (simp only [Int.reduceToNat] at ho10; rw [← Ny457.out] at ho10))
   have HO459 := Aside0.mk (Kd.R_lower (Kd.R_new' ho10 (Kd.R_lt (rK HO465))) (below_size bG))
   replace HO465 := Aside0.mk (Kd.R_elder' (rK HO465) (Kd.R_base ho10) hb)
   replace BK455 := Aside0.mk (blk_below (g := gb455) (bK BK455) hb)
   replace BK456 := Aside0.mk (blk_below (g := gb456) (bK BK456) hb)
   replace HB := Aside0.mk (below_step bG hb)
   clear hb ho10
   refine hK.out _ _ ⟨bC BK455 0, bC BK455 1, bC BK455 2, bC BK455 3⟩ (fun hHeld => ?_)
   clear hK K
   refine nB ?_
   refine oA (i := 3) (N := some 6) (mb 14 3583) HT_ (fun K hK => ?_)
   refine Kd.R_append_rows_step (Kd.int .i64) (w0 := w) w.heap.size (by rfl) (.tmp 3) (.tmp 5) 22 3 (.int .i64 0) 8 rfl Try.underlying22 info3 rfl (by decide) (by omega) v458 y457 l0_0 _ _ _ (fun k_ => some k_ ≠ (v464 : Value).ownBlock) (fun _ => False) rfl rfl ?aO ?aR (fun _ _ h => h) (fun _ h => h.elim) ?aF ?aB ?aS ?aL ?_
   (case aR => repeat (first | exact (Kd.C_below HR0_0.out HB.out) | (with_reducible refine Kd.C_alloc ?_ _) | (with_reducible refine Kd.C_drewN ?_ _) | (with_reducible refine Kd.C_drew ?_)))
   (case aB => exact bG)
   (case aF => exact (fun k_ hk => Kd.fresh' (Kd.R_lt (rK HO465)) k_ hk))
   (case aO => exact (by (with_reducible repeat (first | apply Kd.R_alloc | apply Kd.R_drewN | apply Kd.R_drew)); exact Kd.R_mono HO459.out (fun _ hk => hk.2)))
   (case aS => exact (below_size bG))
   (case aL => have := LMc2.out; omega)
   intro v461 w11 ho hb hg hat
   rw [← Ny460.out] at ho
   have n0_ := Aside0.mk (blk_grown (g := gb455) (o := .cells #[.slice A0_0 l0_0.length c0_0, .int .i64 a0_1, .slice A0_2 l0_2.length c0_2, .int .i64 a0_3] 70 (0, 0)) (bK BK455) hg (Kd.R_ne HO459.out BK455.out (by decide)))
   have n1_ := Aside0.mk (blk_grown (g := gb456) (o := .cells #[.slice none 0 0, .int .i64 0, .slice none 0 0, .int .i64 0] 70 (0, 0)) (bK BK456) hg (Kd.R_ne HO459.out BK456.out (by decide)))
   have n2_ := Aside0.mk (Kd.R_after (ok := (fun _ => True)) (rK HO465) hg hat)
   have n3_ := Aside0.mk (hb)
   have n4_ := Aside0.mk (ho)
   clear BK455
   clear BK456
   clear HO465
   clear HB
   clear HO459
   have BK455 := n0_
   have BK456 := n1_
   have HO465 := n2_
   have HB := n3_
   have HO462 := n4_
   clear n0_ n1_ n2_ n3_ n4_
   clear ho hb hg hat
   refine hK.out _ _ ⟨bC BK455 0, bC BK455 1, bC BK455 2, bC BK455 3⟩ (fun hHeld => ?_)
   clear hK K
   refine nB ?_
   exact mB (hCont (v458, v461, v464) _ ⟨hHeld, (rK HO462), (by (with_reducible repeat (first | apply Kd.R_alloc | apply Kd.R_drewN | apply Kd.R_drew)); exact Kd.R_mono HO465.out (fun _ hk => hk.2)), (bK BK455), (bK BK456), bG⟩)
 rintro ⟨v458, v461, v464⟩ w12 ⟨hS_, h0_, h1_, h2_, h3_, h4_⟩
 have n0_ : Aside0 (Kd.R (Kd.int .i64) 3 w12 w.heap.size (fun k_ => some k_ ≠ (v464 : Value).ownBlock) v461 y460) := ⟨h0_⟩
 have n1_ : Aside0 (Kd.R (Kd.int .i64) 3 w12 w.heap.size (fun k_ => some k_ ≠ (v461 : Value).ownBlock) v464 y463) := ⟨h1_⟩
 have n2_ : Aside0 (w12.heap[gb455]? = some (.cells #[.slice A0_0 l0_0.length c0_0, .int .i64 a0_1, .slice A0_2 l0_2.length c0_2, .int .i64 a0_3] 70 (0, 0))) := ⟨h2_⟩
 have n3_ : Aside0 (w12.heap[gb456]? = some (.cells #[.slice none 0 0, .int .i64 0, .slice none 0 0, .int .i64 0] 70 (0, 0))) := ⟨h3_⟩
 have n4_ : Aside0 (Below w.heap.size w w12) := ⟨h4_⟩
 clear BK455
 clear BK456
 clear HB
 clear h0_ h1_ h2_ h3_ h4_
 have HO462 := n0_
 have HO465 := n1_
 have BK455 := n2_
 have BK456 := n3_
 have HB := n4_
 clear n0_ n1_ n2_ n3_ n4_
 have hHeld : w12.cell? ⟨gb455, 0, none⟩ = some (.slice A0_0 l0_0.length c0_0) ∧ w12.cell? ⟨gb455, 1, none⟩ = some (.int .i64 a0_1) ∧ w12.cell? ⟨gb455, 2, none⟩ = some (.slice A0_2 l0_2.length c0_2) ∧ w12.cell? ⟨gb455, 3, none⟩ = some (.int .i64 a0_3) := hS_
 refine norm_ (a' := ?_) ?_ ?_
 rotate_left
 ·
  simp only [putAll, Act.put, List.setIfInBounds_toArray, List.set_cons_zero, List.set_cons_succ]
  rfl
 refine oA (i := 9) (N := some 12) (mb 14 4095) HT_ (fun K hK => ?_)
 refine Kd.R_append_rows_step (Kd.int .i64) (w0 := w) w.heap.size (by rfl) (.tmp 9) (.tmp 11) 22 3 (.int .i64 0) 8 rfl Try.underlying22 info3 rfl (by decide) (by omega) v464 y463 l0_2 _ _ _ (fun k_ => some k_ ≠ (v461 : Value).ownBlock) (fun _ => False) rfl rfl ?aO ?aR (fun _ _ h => h) (fun _ h => h.elim) ?aF ?aB ?aS ?aL ?_
 (case aR => repeat (first | exact (Kd.C_below HR0_2.out HB.out) | (with_reducible refine Kd.C_alloc ?_ _) | (with_reducible refine Kd.C_drewN ?_ _) | (with_reducible refine Kd.C_drew ?_)))
 (case aB => exact bG)
 (case aF => exact (fun k_ hk => Kd.fresh' (Kd.R_lt (rK HO462)) k_ hk))
 (case aO => exact (rK HO465))
 (case aS => exact (below_size bG))
 (case aL => have := LMc3.out; omega)
 intro v467 w13 ho hb hg hat
 rw [← Ny466.out] at ho
 have n0_ := Aside0.mk (blk_grown (g := gb455) (o := .cells #[.slice A0_0 l0_0.length c0_0, .int .i64 a0_1, .slice A0_2 l0_2.length c0_2, .int .i64 a0_3] 70 (0, 0)) (bK BK455) hg (Kd.R_ne HO465.out BK455.out (by decide)))
 have n1_ := Aside0.mk (blk_grown (g := gb456) (o := .cells #[.slice none 0 0, .int .i64 0, .slice none 0 0, .int .i64 0] 70 (0, 0)) (bK BK456) hg (Kd.R_ne HO465.out BK456.out (by decide)))
 have n2_ := Aside0.mk (Kd.R_after (ok := (fun _ => True)) (by (with_reducible repeat (first | apply Kd.R_alloc | apply Kd.R_drewN | apply Kd.R_drew)); exact Kd.R_mono HO462.out (fun _ hk => ⟨trivial, hk⟩)) hg hat)
 have n3_ := Aside0.mk (hb)
 have n4_ := Aside0.mk (ho)
 clear BK455
 clear BK456
 clear HO462
 clear HB
 clear HO465
 have BK455 := n0_
 have BK456 := n1_
 have HO462 := n2_
 have HB := n3_
 have HO468 := n4_
 clear n0_ n1_ n2_ n3_ n4_
 clear ho hb hg hat
 obtain ⟨Ao14, co14, eo14⟩ := Kd.R_slice HO468.out
 (first | subst eo14 | (injection eo14 with f1_ f2_ f3_; have f4_ := f1_.symm; have f5_ := f3_.symm; clear f1_ f2_ f3_; subst f4_; subst f5_))
 obtain ⟨Ao15, co15, eo15⟩ := Kd.R_slice HO462.out
 (first | subst eo15 | (injection eo15 with f1_ f2_ f3_; have f4_ := f1_.symm; have f5_ := f3_.symm; clear f1_ f2_ f3_; subst f4_; subst f5_))
 refine hK.out _ _ ⟨bC BK455 0, bC BK455 1, bC BK455 2, bC BK455 3⟩ (fun hHeld => ?_)
 clear hK K
 refine nB ?_
 refine pA (i := 12) (N := some 15) (mb 14 8191) HT_ ?_
 refine oA (i := 13) (N := none) (mb 14 16383) HT_ (fun K hK => ?_)
 have hs16 : w13.cell? ⟨gb456, 0, none⟩ = some (.slice none 0 0) := bC BK456 0
 have hfs16 := blk_frozen BK456.out 0
 have hns16_0 := NB455_456.out
 have hms16_0 := NB456_455.out
 have hs17 : w13.cell? ⟨gb456, 1, none⟩ = some (.int .i64 0) := bC BK456 1
 have hfs17 := blk_frozen BK456.out 1
 have hns17_0 := NB455_456.out
 have hms17_0 := NB456_455.out
 have hs18 : w13.cell? ⟨gb456, 2, none⟩ = some (.slice none 0 0) := bC BK456 2
 have hfs18 := blk_frozen BK456.out 2
 have hns18_0 := NB455_456.out
 have hms18_0 := NB456_455.out
 have hs19 : w13.cell? ⟨gb456, 3, none⟩ = some (.int .i64 0) := bC BK456 3
 have hfs19 := blk_frozen BK456.out 3
 have hns19_0 := NB455_456.out
 have hms19_0 := NB456_455.out
 refine skip_ (w1 := ?_) (by rfl) rfl ?_ ?_
 rotate_left
 ·
  go_simp
  rfl
 refine hK.out _ _ ⟨((cell_far (p := ⟨gb456, _, none⟩) NB455_456.out _).trans (((cell_far (p := ⟨gb456, _, none⟩) NB455_456.out _).trans (((cell_far (p := ⟨gb456, _, none⟩) NB455_456.out _).trans (((cell_far (p := ⟨gb456, _, none⟩) NB455_456.out _).trans (hHeld.1)))))))), ((cell_far (p := ⟨gb456, _, none⟩) NB455_456.out _).trans (((cell_far (p := ⟨gb456, _, none⟩) NB455_456.out _).trans (((cell_far (p := ⟨gb456, _, none⟩) NB455_456.out _).trans (((cell_far (p := ⟨gb456, _, none⟩) NB455_456.out _).trans (hHeld.2.1)))))))), ((cell_far (p := ⟨gb456, _, none⟩) NB455_456.out _).trans (((cell_far (p := ⟨gb456, _, none⟩) NB455_456.out _).trans (((cell_far (p := ⟨gb456, _, none⟩) NB455_456.out _).trans (((cell_far (p := ⟨gb456, _, none⟩) NB455_456.out _).trans (hHeld.2.2.1)))))))), ((cell_far (p := ⟨gb456, _, none⟩) NB455_456.out _).trans (((cell_far (p := ⟨gb456, _, none⟩) NB455_456.out _).trans (((cell_far (p := ⟨gb456, _, none⟩) NB455_456.out _).trans (((cell_far (p := ⟨gb456, _, none⟩) NB455_456.out _).trans (hHeld.2.2.2))))))))⟩ (fun hHeld => ?_)
 clear hK K
 refine eA HT_ ?_
 try go_wp2
 refine bodyPost_ret (results_cell_row rfl _ _ gb456 70 #[.slice Ao15 y460.length co15, .int .i64 a0_1, .slice Ao14 y466.length co14, .int .i64 a0_3] (0, 0) _ rfl (by (with_reducible repeat (first | refine blk_drewN ?_ _ | refine blk_drew ?_ | refine blk_alloc ?_ _)); refine blk_put (cs := #[.slice Ao15 y460.length co15, .int .i64 a0_1, .slice Ao14 y466.length co14, .int .i64 0]) ?_ 3 _ rfl; (with_reducible repeat (first | refine blk_drewN ?_ _ | refine blk_drew ?_ | refine blk_alloc ?_ _)); refine blk_put (cs := #[.slice Ao15 y460.length co15, .int .i64 a0_1, .slice none 0 0, .int .i64 0]) ?_ 2 _ rfl; (with_reducible repeat (first | refine blk_drewN ?_ _ | refine blk_drew ?_ | refine blk_alloc ?_ _)); refine blk_put (cs := #[.slice Ao15 y460.length co15, .int .i64 0, .slice none 0 0, .int .i64 0]) ?_ 1 _ rfl; (with_reducible repeat (first | refine blk_drewN ?_ _ | refine blk_drew ?_ | refine blk_alloc ?_ _)); refine blk_put (cs := #[.slice none 0 0, .int .i64 0, .slice none 0 0, .int .i64 0]) ?_ 0 _ rfl; (with_reducible repeat (first | refine blk_drewN ?_ _ | refine blk_drew ?_ | refine blk_alloc ?_ _)); exact BK456.out) Try.underlying70 rfl (by kernel_rfl)) rfl ?_
 exact ⟨_, _, by first | rfl | (simp [errW_none, errW_some] <;> rfl) | (simp [*, errW_none, errW_some] <;> rfl), by (with_reducible repeat (first | apply Kd.R_alloc | apply Kd.R_drewN | apply Kd.R_drew)); exact Kd.R_mono (Kd.R_far (p := ⟨gb456, 3, none⟩) (Kd.R_far (p := ⟨gb456, 2, none⟩) (Kd.R_far (p := ⟨gb456, 1, none⟩) (Kd.R_far (p := ⟨gb456, 0, none⟩) (Kd.R_types HO462.out BK456.out (by decide)) (fun _ hk => hk.2) (.slice Ao15 y460.length co15)) (fun _ hk => hk.2) (.int .i64 a0_1)) (fun _ hk => hk.2) (.slice Ao14 y466.length co14)) (fun _ hk => hk.2) (.int .i64 a0_3)) (fun _ hk => hk.1.2), by (with_reducible repeat (first | apply Kd.R_alloc | apply Kd.R_drewN | apply Kd.R_drew)); exact Kd.R_mono (Kd.R_far (p := ⟨gb456, 3, none⟩) (Kd.R_far (p := ⟨gb456, 2, none⟩) (Kd.R_far (p := ⟨gb456, 1, none⟩) (Kd.R_far (p := ⟨gb456, 0, none⟩) (Kd.R_types HO468.out BK456.out (by decide)) (fun _ hk => hk.2) (.slice Ao15 y460.length co15)) (fun _ hk => hk.2) (.int .i64 a0_1)) (fun _ hk => hk.2) (.slice Ao14 y466.length co14)) (fun _ hk => hk.2) (.int .i64 a0_3)) (fun _ hk => hk.1), bG⟩

/-! ### spec_Min: function 107 -/
def spec_Min.f (a0 : Int) (a1 : Int) : Option (Int) := if a1 < a0 then (some a1) else (some a0)
set_option maxHeartbeats 8000000 in
set_option maxRecDepth 100000 in
theorem spec_Min.calls (a0 : Int) (a1 : Int) (r : Int) (w : World) (h : spec_Min.f a0 a1 = some r) :
  Calls Try.prog 107 #[.int .i64 a0, .int .i64 a1] w fun e w' => e = .returned (.int .i64 r) ∧ Drawn0 w w' := by
 have H : (if a1 < a0 then (some a1) else (some a0)) = some r := h
 clear h
 by_cases c3 : a1 < a0
 ·
  rw [if_pos c3] at H
  have c3b0 : decide (a1 < a0) = true := decide_eq_true c3
  clear c3
  obtain rfl := Option.some.inj H
  go_enter Try.func107, Try.ntmps107
  go_wp2
  go_ret
  exact ⟨by first | rfl | (simp; done) | (simp [*]; done), by repeat (first | exact Drawn0.refl _ | apply Drawn0.step)⟩
 ·
  rw [if_neg c3] at H
  have c3b0 : decide (a1 < a0) = false := decide_eq_false c3
  clear c3
  obtain rfl := Option.some.inj H
  go_enter Try.func107, Try.ntmps107
  go_wp2
  go_ret
  exact ⟨by first | rfl | (simp; done) | (simp [*]; done), by repeat (first | exact Drawn0.refl _ | apply Drawn0.step)⟩

end Go.Proofs.Ytimmadeghcghoaa.P
