/- Printed by myprint.py (wip/tools) over the kit's print: what Go's functions compute, and that they do. Lean checks it. -/
import Derived.Test.YtjgonpcajedkjaaF0
import Derived.Test.YtjgonpcajedkjaaFX00
import Derived.Test.YtjgonpcajedkjaaFX00b
import Derived.Test.YtjgonpcajedkjaaFX00c
namespace Go.Proofs.Ytjgonpcajedkjaa.P
open Go.RowKit Go.Proofs.YtjgonpcajedkjaaW.PrintWords Go.Proofs.YtjgonpcajedkjaaW.PrintLast Go.Proofs.YtjgonpcajedkjaaW.PrintMore Go.Proofs.Ytjgonpcajedkjaa.Sq
attribute [local go_sem] max2_int min2_int max_two min_two max_three min_three max_four min_four
set_option linter.unusedVariables false
set_option linter.unusedSimpArgs false

/-! ### spec_AddToStage: function 134 -/
mutual
def spec_AddToStage.l0 : Nat → List (S50) → List Int → List Int → Int → Option (List Int)
 | 0, _, _, _, _ => none
 | k + 1, x0, x1, x5, x6 => if x6 < (x0.length : Int) then ((spec_IsTogether.f k x0 x1).bind fun t450 => (spec_AddToStage.j1 k x0 x1 x5 x6 t450)) else (spec_AddToStage.j1 k x0 x1 x5 x6 false)
def spec_AddToStage.j1 : Nat → List (S50) → List Int → List Int → Int → Bool → Option (List Int)
 | 0, _, _, _, _, _ => none
 | k + 1, x0, x1, x5, x6, x19 => if x19 = true then (if 0 ≤ x6 then (if x6 < (x0.length : Int) then ((spec_l6Put.f k x5 ((rd_T50 x0 x6).f0)).bind fun t452 => ((spec_IsTogether.f k x0 t452).bind fun t455 => (if t455 = true then (spec_AddToStage.l0 k x0 x1 t452 (wrap64 (x6 + 1))) else (spec_AddToStage.l0 k x0 x1 x5 (wrap64 (x6 + 1)))))) else (none)) else (none)) else (some x5)
end
def spec_AddToStage.f (k : Nat) (l0 : List (S50)) (l1 : List Int) : Option (List Int) := (some (([] : List Int) : List Int)).bind fun y444 => (if y444.length + l1.length < 17592186044416 then (spec_AddToStage.l0 k l0 l1 (y444 ++ l1) 0) else (none))
theorem spec_AddToStage.mono_l : ∀ k, (∀ y0 y1 y2 y3, LeO (spec_AddToStage.l0 k y0 y1 y2 y3) (spec_AddToStage.l0 (k + 1) y0 y1 y2 y3)) ∧ (∀ y0 y1 y2 y3 y4, LeO (spec_AddToStage.j1 k y0 y1 y2 y3 y4) (spec_AddToStage.j1 (k + 1) y0 y1 y2 y3 y4))
 | 0 => ⟨fun _ _ _ _ r h => by simp [spec_AddToStage.l0] at h, fun _ _ _ _ _ r h => by simp [spec_AddToStage.j1] at h⟩
 | k + 1 => by
  obtain ⟨ih0, ih1⟩ := spec_AddToStage.mono_l k
  refine ⟨?_, ?_⟩
  ·
   intro y0 y1 y2 y3
   unfold spec_AddToStage.l0
   repeat' first | (with_reducible first | exact LeO.refl _ | exact LeO.none _ | refine LeO.ite ?_ ?_ | refine LeO.bind ?_ (fun _ => ?_) | exact ih0 _ _ _ _ | exact ih1 _ _ _ _ _ | exact spec_IsTogether.mono _ _ _ | exact spec_l6Put.mono _ _ _)
  ·
   intro y0 y1 y2 y3 y4
   unfold spec_AddToStage.j1
   repeat' first | (with_reducible first | exact LeO.refl _ | exact LeO.none _ | refine LeO.ite ?_ ?_ | refine LeO.bind ?_ (fun _ => ?_) | exact ih0 _ _ _ _ | exact ih1 _ _ _ _ _ | exact spec_IsTogether.mono _ _ _ | exact spec_l6Put.mono _ _ _)
theorem spec_AddToStage.mono : ∀ a0 a1 k, LeO (spec_AddToStage.f k a0 a1) (spec_AddToStage.f (k + 1) a0 a1) := by
 intro a0 a1 k
 obtain ⟨ih0, ih1⟩ := spec_AddToStage.mono_l k
 unfold spec_AddToStage.f
 repeat' first | (with_reducible first | exact LeO.refl _ | exact LeO.none _ | refine LeO.ite ?_ ?_ | refine LeO.bind ?_ (fun _ => ?_) | exact ih0 _ _ _ _ | exact ih1 _ _ _ _ _ | exact spec_IsTogether.mono _ _ _ | exact spec_l6Put.mono _ _ _)
set_option maxHeartbeats 8000000 in
set_option maxRecDepth 100000 in
theorem spec_AddToStage.calls (k : Nat) (A0 : Option Addr) (c0 : Nat) (l0 : List (S50)) (A1 : Option Addr) (c1 : Nat) (l1 : List Int) (r : List Int) (w : World) (hr0 : Kd.C k50 w A0 l0.length l0) (hc0 : l0.length ≤ c0) (hr1 : Kd.C (Kd.int .i64) w A1 l1.length l1) (hc1 : l1.length ≤ c1) (h : spec_AddToStage.f k l0 l1 = some r) :
  Calls Try.prog 134 #[.slice A0 l0.length c0, .slice A1 l1.length c1] w fun e w' => ∃ v0_ : Value, e = .returned (v0_) ∧ Kd.R (Kd.int .i64) 3 w' w.heap.size (fun _ => True) v0_ r ∧ Below w.heap.size w w' := by
 have HR0 := Aside0.mk hr0
 have HC0 := Aside0.mk hc0
 clear hr0 hc0
 have HR1 := Aside0.mk hr1
 have HC1 := Aside0.mk hc1
 clear hr1 hc1
 have HB := Aside0.mk (Below.refl w.heap.size w)
 have H : ((some (([] : List Int) : List Int)).bind fun y444 => (if y444.length + l1.length < 17592186044416 then (spec_AddToStage.l0 k l0 l1 (y444 ++ l1) 0) else (none))) = some r := h
 clear h
 obtain ⟨y444, hy444⟩ : ∃ y_ : List Int, y_ = (([] : List Int)) := ⟨_, rfl⟩
 replace H : (if y444.length + l1.length < 17592186044416 then (spec_AddToStage.l0 k l0 l1 (y444 ++ l1) 0) else (none)) = some r := rH H hy444
 have Ny444 := Aside0.mk hy444
 clear hy444
 have c3 : y444.length + l1.length < 17592186044416 := ifN H
 replace H := ifT H
 have LMc3 := Aside0.mk c3
 clear c3
 obtain ⟨y447, hy447⟩ : ∃ y_ : List Int, y_ = (y444 ++ l1) := ⟨_, rfl⟩
 replace H : (spec_AddToStage.l0 k l0 l1 y447 0) = some r := rH H hy447
 have Ny447 := Aside0.mk hy447
 clear hy447
 have H' := Aside0.mk H
 clear H
 go_enter Try.func134, Try.ntmps134
 go_wp2_with (first | ((with_reducible refine gate_dst (N := 8) rfl ?_); refine Kd.R_lit (Kd.int .i64) _ 3 ?hg (N := 8) ?hd (xs := ([] : List Int)) (inner := []) (ok := fun _ => True) (okp := fun _ => True) ?hr ?hp (fun _ hk => hk) trivial (Below.refl _ _) (Nat.le_refl _) (by simp) ?_; (case hd => rfl); (case hg => rfl); (case hr => first | (go_simp; done) | (go_simp; rfl)); (case hp => exact (Reps.none _ _)); intro v445 w4 ho5 hb hg_ hnew_; clear hg_ hnew_; (first | rw [← Ny444.out] at ho5 | (simp only [Int.reduceToNat] at ho5; rw [← Ny444.out] at ho5)); have HO446 := Aside0.mk (Kd.R_lower ho5 (below_size bA)); replace HB := Aside0.mk (below_step bA hb); clear hb ho5) | ((with_reducible refine gate_builtin (b := .append) (xs := #[.tmp 8, .tmp 9]) rfl ?_); at_builtin; refine Kd.R_append_rows (Kd.int .i64) (w0 := w) w.heap.size rfl (.tmp 8) (.tmp 9) 35 3 (.int .i64 0) 8 rfl Try.underlying35 info3 rfl (by decide) (by omega) v445 y444 l1 _ _ _ (fun _ => True) (fun _ => False) rfl rfl ?aO ?aR (fun _ _ h => h) (fun _ h => h.elim) ?aF ?aB ?aS ?aL ?_; (case aR => repeat (first | exact (Kd.C_below HR1.out HB.out) | (with_reducible refine Kd.C_alloc ?_ _) | (with_reducible refine Kd.C_drewN ?_ _) | (with_reducible refine Kd.C_drew ?_))); (case aB => exact bA); (case aF => exact (fun _ _ => trivial)); (case aO => exact (rK HO446)); (case aS => exact (below_size bA)); (case aL => have := LMc3.out; omega); intro v448 w6 ho hb hg hat; rw [← Ny447.out] at ho; have n0_ := Aside0.mk (hb); have n1_ := Aside0.mk (ho); clear HB; clear HO446; have HB := n0_; have HO449 := n1_; clear n0_ n1_; clear ho hb hg hat))
 go_loopg [5, 6] k (fun kq v5 v6 w' => ∃ (x5_1 : List Int) (x6_1 : Int), v6 = .int .i64 x6_1 ∧ Aside0 (spec_AddToStage.l0 kq l0 l1 x5_1 x6_1 = some r) ∧ Aside0 (kq ≤ k) ∧ Aside0 (Kd.R (Kd.int .i64) 3 w' w.heap.size (fun _ => True) v5 x5_1) ∧ Aside0 (Below w.heap.size w w'))
 case atStart => exact ⟨(y447), (0), rS, H', ⟨Nat.le_refl _⟩, ⟨rK HO449⟩, ⟨bA⟩⟩
 case round =>
  clear H'
  try clear c1
  try clear p2
  try clear c3
  obtain ⟨x5_1, x6_1, rfl, HA, HK1, HO_5, HB⟩ := hrel
  cases gk with
  | zero => exact absurd HA.out (by simp [spec_AddToStage.l0])
  | succ k1 =>
   have H := HA.out
   clear HA
   simp only [spec_AddToStage.l0] at H
   have HC7 := Aside0.mk H
   clear H
   go_upto_region 3 with (fail)
   go_cut [19] (fun v19 wc => ∃ (kq : Nat) (x19_6 : Bool), v19 = .bool x19_6 ∧ Aside0 (spec_AddToStage.j1 kq l0 l1 x5_1 x6_1 x19_6 = some r) ∧ Aside0 (kq ≤ k1) ∧ Aside0 (Kd.R (Kd.int .i64) 3 wc w.heap.size (fun _ => True) u5 x5_1) ∧ Aside0 (Below w.heap.size w wc))
   case first =>
    have H := HC7.out
    clear HC7
    by_cases c8 : x6_1 < (l0.length : Int)
    ·
     rw [if_pos c8] at H
     have c8b0 := decide_eq_true c8
     clear c8
     (first | rw [c8b0] | (simp only [i64_w, i32_w]; rw [c8b0]) | skip)
     obtain ⟨t450, A9, H⟩ := bindE H
     try dsimp only at H
     have H' := Aside0.mk H
     clear H
     go_wp2_with (first | (go_at_call 112; (with_reducible refine (spec_IsTogether.calls k1 _ _ l0 _ _ l1 t450 _ ?side1 ?side2 ?side3 ?side4 A9.out).mono ?_); (case side1 => exact cB HR0); (case side2 => exact HC0.out); (case side3 => exact cB HR1); (case side4 => exact HC1.out); rintro e w10 ⟨rfl, hb⟩; replace HO_5 := Aside0.mk (Kd.R_below (rK HO_5) hb); replace HB := Aside0.mk (below_step bA hb); (try clear hb)))
     go_meet
     case rel => exact ⟨_, (t450), rS, H', ⟨by have := HK1.out; first | omega | exact Nat.le_refl _⟩, ⟨rK HO_5⟩, ⟨bA⟩⟩
    ·
     rw [if_neg c8] at H
     have c8b0 := decide_eq_false c8
     clear c8
     (first | rw [c8b0] | (simp only [i64_w, i32_w]; rw [c8b0]) | skip)
     have H' := Aside0.mk H
     clear H
     go_wp2
     go_meet
     case rel => exact ⟨_, (false), rS, H', ⟨by have := HK1.out; first | omega | exact Nat.le_refl _⟩, ⟨rK HO_5⟩, ⟨bA⟩⟩
   case rest =>
    clear HC7
    try clear c1
    try clear p2
    try clear c3
    try clear c8
    try clear c8b0
    try clear p2
    obtain ⟨kq, x19_6, rfl, HA, HJ6, HO_5, HB⟩ := hcut
    cases kq with
    | zero => exact absurd HA.out (by simp [spec_AddToStage.j1])
    | succ kj6 =>
     have H := HA.out
     clear HA
     simp only [spec_AddToStage.j1] at H
     by_cases c11 : x19_6 = true
     ·
      subst c11
      have H1 : (if 0 ≤ x6_1 then (if x6_1 < (l0.length : Int) then ((spec_l6Put.f kj6 x5_1 ((rd_T50 l0 x6_1).f0)).bind fun t452 => ((spec_IsTogether.f kj6 l0 t452).bind fun t455 => (if t455 = true then (spec_AddToStage.l0 kj6 l0 l1 t452 (wrap64 (x6_1 + 1))) else (spec_AddToStage.l0 kj6 l0 l1 x5_1 (wrap64 (x6_1 + 1)))))) else (none)) else (none)) = some r := by rw [if_pos rfl] at H; exact H
      clear H
      have H := H1
      clear H1
      have c12 : 0 ≤ x6_1 := ifN H
      replace H := ifT H
      have c12b0 := decide_eq_true c12
      clear c12
      have c13 : x6_1 < (l0.length : Int) := ifN H
      replace H := ifT H
      have c13b0 := decide_eq_true c13
      clear c13
      obtain ⟨t452, A14, H⟩ := bindE H
      try dsimp only at H
      obtain ⟨t455, A15, H⟩ := bindE H
      try dsimp only at H
      by_cases c16 : t455 = true
      ·
       subst c16
       have H1 : (spec_AddToStage.l0 kj6 l0 l1 t452 (wrap64 (x6_1 + 1))) = some r := by rw [if_pos rfl] at H; exact H
       clear H
       have H := H1
       clear H1
       have H' := Aside0.mk H
       clear H
       have p451 : 0 ≤ (x6_1 : Int) := dA
       have q451 : x6_1 < (l0.length : Int) := dA
       obtain ⟨ad451, e451, hx451_0, hx451_1, hx451_2, hx451_3⟩ := at_T50 HR0.out x6_1 p451 q451
       cases e451
       replace hx451_0 := hC HB hx451_0
       replace hx451_1 := hC HB hx451_1
       replace hx451_2 := hC HB hx451_2
       replace hx451_3 := hC HB hx451_3
       replace p451 := eq_true p451
       replace q451 := eq_true q451
       obtain ⟨Ao17, co17, eo17⟩ := Kd.R_slice HO_5.out
       subst eo17
       go_wp2_with (first | ((with_reducible refine gate_callee (f := 135) rfl ?_); refine gL (some 28) Try.func135 #[.slice Ao17 x5_1.length co17, .int .i64 ((rd_T50 l0 x6_1).f0)] ?_; (with_reducible refine (spec_l6Put.calls kj6 _ _ x5_1 ((rd_T50 l0 x6_1).f0) t452 _ ?side1 ?side2 A14.out).mono ?_); (case side1 => exact cO ⟨(Kd.R_reads' HO_5.out).2.2⟩); (case side2 => exact (Kd.R_reads' HO_5.out).2.1); rintro e w18 ⟨v453, rfl, ho0, hb⟩; refine ⟨_, rfl, ?_⟩; have HO454 := Aside0.mk (Kd.R_lower (Kd.R_new' ho0 (Kd.R_lt (rK HO_5))) (below_size bA)); replace HO_5 := Aside0.mk (Kd.R_elder' (rK HO_5) (Kd.R_base ho0) hb); replace HB := Aside0.mk (below_step bA hb); (try clear hb); (try clear ho0); obtain ⟨Ao19, co19, eo19⟩ := Kd.R_slice HO454.out; subst eo19) | ((with_reducible refine gate_callee (f := 112) rfl ?_); refine gL (some 31) Try.func112 #[.slice (some ad451) l0.length c0, .slice Ao19 t452.length co19] ?_; (with_reducible refine (spec_IsTogether.calls kj6 _ _ l0 _ _ t452 true _ ?side1 ?side2 ?side3 ?side4 A15.out).mono ?_); (case side1 => exact cB HR0); (case side2 => exact HC0.out); (case side3 => exact cO ⟨(Kd.R_reads' HO454.out).2.2⟩); (case side4 => exact (Kd.R_reads' HO454.out).2.1); rintro e w20 ⟨rfl, hb⟩; refine ⟨_, rfl, ?_⟩; replace HO_5 := Aside0.mk (Kd.R_below (rK HO_5) hb); replace HO454 := Aside0.mk (Kd.R_below (rK HO454) hb); replace HB := Aside0.mk (below_step bA hb); (try clear hb)))
       go_roundg kj6
       case measure => have := HK1.out; have := HJ6.out; omega
       case rel => exact ⟨(t452), (wrap64 (x6_1 + 1)), rS, H', ⟨by have := HK1.out; have := HJ6.out; omega⟩, ⟨by (with_reducible repeat (first | apply Kd.R_alloc | apply Kd.R_drewN | apply Kd.R_drew)); exact Kd.R_mono HO454.out (fun _ hk => trivial)⟩, ⟨bA⟩⟩
      ·
       replace c16 := Bool.eq_false_iff.mpr c16
       subst c16
       have H1 : (spec_AddToStage.l0 kj6 l0 l1 x5_1 (wrap64 (x6_1 + 1))) = some r := by rw [if_neg (show ¬ (false = true) by decide)] at H; exact H
       clear H
       have H := H1
       clear H1
       have H' := Aside0.mk H
       clear H
       have p451 : 0 ≤ (x6_1 : Int) := dA
       have q451 : x6_1 < (l0.length : Int) := dA
       obtain ⟨ad451, e451, hx451_0, hx451_1, hx451_2, hx451_3⟩ := at_T50 HR0.out x6_1 p451 q451
       cases e451
       replace hx451_0 := hC HB hx451_0
       replace hx451_1 := hC HB hx451_1
       replace hx451_2 := hC HB hx451_2
       replace hx451_3 := hC HB hx451_3
       replace p451 := eq_true p451
       replace q451 := eq_true q451
       obtain ⟨Ao21, co21, eo21⟩ := Kd.R_slice HO_5.out
       subst eo21
       go_wp2_with (first | ((with_reducible refine gate_callee (f := 135) rfl ?_); refine gL (some 28) Try.func135 #[.slice Ao21 x5_1.length co21, .int .i64 ((rd_T50 l0 x6_1).f0)] ?_; (with_reducible refine (spec_l6Put.calls kj6 _ _ x5_1 ((rd_T50 l0 x6_1).f0) t452 _ ?side1 ?side2 A14.out).mono ?_); (case side1 => exact cO ⟨(Kd.R_reads' HO_5.out).2.2⟩); (case side2 => exact (Kd.R_reads' HO_5.out).2.1); rintro e w22 ⟨v453, rfl, ho0, hb⟩; refine ⟨_, rfl, ?_⟩; have HO454 := Aside0.mk (Kd.R_lower (Kd.R_new' ho0 (Kd.R_lt (rK HO_5))) (below_size bA)); replace HO_5 := Aside0.mk (Kd.R_elder' (rK HO_5) (Kd.R_base ho0) hb); replace HB := Aside0.mk (below_step bA hb); (try clear hb); (try clear ho0); obtain ⟨Ao23, co23, eo23⟩ := Kd.R_slice HO454.out; subst eo23) | ((with_reducible refine gate_callee (f := 112) rfl ?_); refine gL (some 31) Try.func112 #[.slice (some ad451) l0.length c0, .slice Ao23 t452.length co23] ?_; (with_reducible refine (spec_IsTogether.calls kj6 _ _ l0 _ _ t452 false _ ?side1 ?side2 ?side3 ?side4 A15.out).mono ?_); (case side1 => exact cB HR0); (case side2 => exact HC0.out); (case side3 => exact cO ⟨(Kd.R_reads' HO454.out).2.2⟩); (case side4 => exact (Kd.R_reads' HO454.out).2.1); rintro e w24 ⟨rfl, hb⟩; refine ⟨_, rfl, ?_⟩; replace HO_5 := Aside0.mk (Kd.R_below (rK HO_5) hb); replace HO454 := Aside0.mk (Kd.R_below (rK HO454) hb); replace HB := Aside0.mk (below_step bA hb); (try clear hb)))
       go_roundg kj6
       case measure => have := HK1.out; have := HJ6.out; omega
       case rel => exact ⟨(x5_1), (wrap64 (x6_1 + 1)), rS, H', ⟨by have := HK1.out; have := HJ6.out; omega⟩, ⟨by (with_reducible repeat (first | apply Kd.R_alloc | apply Kd.R_drewN | apply Kd.R_drew)); exact Kd.R_mono HO_5.out (fun _ hk => trivial)⟩, ⟨bA⟩⟩
     ·
      replace c11 := Bool.eq_false_iff.mpr c11
      subst c11
      have H1 : (some x5_1) = some r := by rw [if_neg (show ¬ (false = true) by decide)] at H; exact H
      clear H
      have H := H1
      clear H1
      obtain rfl := Option.some.inj H
      go_wp2
      go_ret
      exact ⟨_, by first | rfl | (simp [errW_none, errW_some] <;> rfl) | (simp [*, errW_none, errW_some] <;> rfl), by (with_reducible repeat (first | apply Kd.R_alloc | apply Kd.R_drewN | apply Kd.R_drew)); exact HO_5.out, bA⟩

/-! ### spec_CoverOf: function 89 -/
mutual
def spec_CoverOf.l0 : Nat → List (S50) → List (List Int) → List Int → Int → Option ((List (List Int)))
 | 0, _, _, _, _ => none
 | k + 1, x0, x3, x4, x5 => if x5 < (x0.length : Int) then ((spec_ArePaths.f k x0).bind fun t462 => (spec_CoverOf.j1 k x0 x3 x4 x5 t462)) else (spec_CoverOf.j1 k x0 x3 x4 x5 false)
def spec_CoverOf.j1 : Nat → List (S50) → List (List Int) → List Int → Int → Bool → Option ((List (List Int)))
 | 0, _, _, _, _, _ => none
 | k + 1, x0, x3, x4, x5, x17 => if x17 = true then (if 0 ≤ x5 then (if x5 < (x0.length : Int) then ((spec_l6Has.f k x4 ((rd_T50 x0 x5).f0)).bind fun t464 => (if t464 = true then (spec_CoverOf.l0 k x0 x3 x4 (wrap64 (x5 + 1))) else ((spec_AddToStage.f k x0 (([(rd_T50 x0 x5).f0] : List Int))).bind fun t469 => (if x3.length < 5864062014805 then (spec_CoverOf.l1 k x0 (x3 ++ [t469]) x4 x5 t469 0) else (none))))) else (none)) else (none)) else (some x3)
def spec_CoverOf.l1 : Nat → List (S50) → List (List Int) → List Int → Int → List Int → Int → Option ((List (List Int)))
 | 0, _, _, _, _, _, _ => none
 | k + 1, x0, x3, x4, x5, x6, x7 => if x7 < (x6.length : Int) then (if 0 ≤ x7 then ((spec_l6Put.f k x4 (rd x6 x7)).bind fun t476 => (spec_CoverOf.l1 k x0 x3 t476 x5 x6 (wrap64 (x7 + 1)))) else (none)) else (spec_CoverOf.l0 k x0 x3 x4 (wrap64 (x5 + 1)))
end
def spec_CoverOf.f (k : Nat) (l0 : List (S50)) : Option ((List (List Int))) := spec_CoverOf.l0 k l0 (([] : List (List Int))) (([] : List Int)) 0
theorem spec_CoverOf.mono_l : ∀ k, (∀ y0 y1 y2 y3, LeO (spec_CoverOf.l0 k y0 y1 y2 y3) (spec_CoverOf.l0 (k + 1) y0 y1 y2 y3)) ∧ (∀ y0 y1 y2 y3 y4, LeO (spec_CoverOf.j1 k y0 y1 y2 y3 y4) (spec_CoverOf.j1 (k + 1) y0 y1 y2 y3 y4)) ∧ (∀ y0 y1 y2 y3 y4 y5, LeO (spec_CoverOf.l1 k y0 y1 y2 y3 y4 y5) (spec_CoverOf.l1 (k + 1) y0 y1 y2 y3 y4 y5))
 | 0 => ⟨fun _ _ _ _ r h => by simp [spec_CoverOf.l0] at h, fun _ _ _ _ _ r h => by simp [spec_CoverOf.j1] at h, fun _ _ _ _ _ _ r h => by simp [spec_CoverOf.l1] at h⟩
 | k + 1 => by
  obtain ⟨ih0, ih1, ih2⟩ := spec_CoverOf.mono_l k
  refine ⟨?_, ?_, ?_⟩
  ·
   intro y0 y1 y2 y3
   unfold spec_CoverOf.l0
   repeat' first | (with_reducible first | exact LeO.refl _ | exact LeO.none _ | refine LeO.ite ?_ ?_ | refine LeO.bind ?_ (fun _ => ?_) | exact ih0 _ _ _ _ | exact ih1 _ _ _ _ _ | exact ih2 _ _ _ _ _ _ | exact spec_AddToStage.mono _ _ _ | exact spec_ArePaths.mono _ _ | exact spec_l6Has.mono _ _ _ | exact spec_l6Put.mono _ _ _)
  ·
   intro y0 y1 y2 y3 y4
   unfold spec_CoverOf.j1
   repeat' first | (with_reducible first | exact LeO.refl _ | exact LeO.none _ | refine LeO.ite ?_ ?_ | refine LeO.bind ?_ (fun _ => ?_) | exact ih0 _ _ _ _ | exact ih1 _ _ _ _ _ | exact ih2 _ _ _ _ _ _ | exact spec_AddToStage.mono _ _ _ | exact spec_ArePaths.mono _ _ | exact spec_l6Has.mono _ _ _ | exact spec_l6Put.mono _ _ _)
  ·
   intro y0 y1 y2 y3 y4 y5
   unfold spec_CoverOf.l1
   repeat' first | (with_reducible first | exact LeO.refl _ | exact LeO.none _ | refine LeO.ite ?_ ?_ | refine LeO.bind ?_ (fun _ => ?_) | exact ih0 _ _ _ _ | exact ih1 _ _ _ _ _ | exact ih2 _ _ _ _ _ _ | exact spec_AddToStage.mono _ _ _ | exact spec_ArePaths.mono _ _ | exact spec_l6Has.mono _ _ _ | exact spec_l6Put.mono _ _ _)
theorem spec_CoverOf.mono : ∀ a0 k, LeO (spec_CoverOf.f k a0) (spec_CoverOf.f (k + 1) a0) := by
 intro a0 k
 obtain ⟨ih0, ih1, ih2⟩ := spec_CoverOf.mono_l k
 unfold spec_CoverOf.f
 repeat' first | (with_reducible first | exact LeO.refl _ | exact LeO.none _ | refine LeO.ite ?_ ?_ | refine LeO.bind ?_ (fun _ => ?_) | exact ih0 _ _ _ _ | exact ih1 _ _ _ _ _ | exact ih2 _ _ _ _ _ _ | exact spec_AddToStage.mono _ _ _ | exact spec_ArePaths.mono _ _ | exact spec_l6Has.mono _ _ _ | exact spec_l6Put.mono _ _ _)
set_option maxHeartbeats 8000000 in
set_option maxRecDepth 100000 in
theorem spec_CoverOf.calls (k : Nat) (A0 : Option Addr) (c0 : Nat) (l0 : List (S50)) (r : List (List Int)) (w : World) (hr0 : Kd.C k50 w A0 l0.length l0) (hc0 : l0.length ≤ c0) (h : spec_CoverOf.f k l0 = some r) :
  Calls Try.prog 89 #[.slice A0 l0.length c0] w fun e w' => ∃ v0_ : Value, e = .returned (v0_) ∧ Kd.S (Kd.slice 3 (Kd.int .i64)) 35 w' w.heap.size (fun _ => True) v0_ r ∧ Below w.heap.size w w' := by
 have HR0 := Aside0.mk hr0
 have HC0 := Aside0.mk hc0
 clear hr0 hc0
 have HB := Aside0.mk (Below.refl w.heap.size w)
 have H : (spec_CoverOf.l0 k l0 (([] : List (List Int))) (([] : List Int)) 0) = some r := h
 clear h
 obtain ⟨y456, hy456⟩ : ∃ y_ : List (List Int), y_ = (([] : List (List Int))) := ⟨_, rfl⟩
 replace H : (spec_CoverOf.l0 k l0 y456 (([] : List Int)) 0) = some r := rH H hy456
 have Ny456 := Aside0.mk hy456
 clear hy456
 obtain ⟨y459, hy459⟩ : ∃ y_ : List Int, y_ = (([] : List Int)) := ⟨_, rfl⟩
 replace H : (spec_CoverOf.l0 k l0 y456 y459 0) = some r := rH H hy459
 have Ny459 := Aside0.mk hy459
 clear hy459
 have H' := Aside0.mk H
 clear H
 go_enter Try.func89, Try.ntmps89
 go_wp2_with (first | ((with_reducible refine gate_dst (N := 8) rfl ?_); refine Kd.S_lit (Kd.slice 3 (Kd.int .i64)) _ 35 ?hg (N := 8) ?hd (xs := ([] : List (List Int))) (inner := []) (ok := fun _ => True) (okp := fun _ => True) ?hr ?hp (fun _ hk => hk) trivial (Below.refl _ _) (Nat.le_refl _) (by simp) ?_; (case hd => rfl); (case hg => rfl); (case hr => first | (go_simp; done) | (go_simp; rfl)); (case hp => exact (Reps.none _ _)); intro v457 w2 ho3 hb hg_ hnew_; clear hg_ hnew_; (first | rw [← Ny456.out] at ho3 | (simp only [Int.reduceToNat] at ho3; rw [← Ny456.out] at ho3)); have HO458 := Aside0.mk (Kd.S_lower ho3 (below_size bA)); replace HB := Aside0.mk (below_step bA hb); clear hb ho3) | ((with_reducible refine gate_dst (N := 9) rfl ?_); refine Kd.R_lit (Kd.int .i64) _ 3 ?hg (N := 9) ?hd (xs := ([] : List Int)) (inner := []) (ok := fun _ => True) (okp := fun _ => True) ?hr ?hp (fun _ hk => hk) trivial (Below.refl _ _) (Nat.le_refl _) (by simp) ?_; (case hd => rfl); (case hg => rfl); (case hr => first | (go_simp; done) | (go_simp; rfl)); (case hp => exact (Reps.none _ _)); intro v460 w4 ho5 hb hg_ hnew_; clear hg_ hnew_; (first | rw [← Ny459.out] at ho5 | (simp only [Int.reduceToNat] at ho5; rw [← Ny459.out] at ho5)); replace HO458 := Aside0.mk (Kd.S_elder' (sK HO458) (Kd.R_base ho5) hb); have HO461 := Aside0.mk (Kd.R_lower ho5 (below_size bA)); replace HB := Aside0.mk (below_step bA hb); clear hb ho5))
 go_loopg [3, 4, 5] k (fun kq v3 v4 v5 w' => ∃ (x3_1 : List (List Int)) (x4_1 : List Int) (x5_1 : Int), v5 = .int .i64 x5_1 ∧ Aside0 (spec_CoverOf.l0 kq l0 x3_1 x4_1 x5_1 = some r) ∧ Aside0 (kq ≤ k) ∧ Aside0 (Kd.S (Kd.slice 3 (Kd.int .i64)) 35 w' w.heap.size (fun k_ => some k_ ≠ (v4 : Value).ownBlock) v3 x3_1) ∧ Aside0 (Kd.R (Kd.int .i64) 3 w' w.heap.size (fun _ => True) v4 x4_1) ∧ Aside0 (Below w.heap.size w w'))
 case atStart => exact ⟨(y456), (y459), (0), rS, H', ⟨Nat.le_refl _⟩, ⟨by (with_reducible repeat (first | apply Kd.S_alloc | apply Kd.S_drewN | apply Kd.S_drew)); exact Kd.S_mono HO458.out (fun _ hk => hk.2)⟩, ⟨rK HO461⟩, ⟨bA⟩⟩
 case round =>
  clear H'
  try clear p2
  obtain ⟨x3_1, x4_1, x5_1, rfl, HA, HK1, HO_3, HO_4, HB⟩ := hrel
  cases gk with
  | zero => exact absurd HA.out (by simp [spec_CoverOf.l0])
  | succ k1 =>
   have H := HA.out
   clear HA
   simp only [spec_CoverOf.l0] at H
   have HC6 := Aside0.mk H
   clear H
   go_upto_region 4 with (fail)
   go_cut [17] (fun v17 wc => ∃ (kq : Nat) (x17_5 : Bool), v17 = .bool x17_5 ∧ Aside0 (spec_CoverOf.j1 kq l0 x3_1 x4_1 x5_1 x17_5 = some r) ∧ Aside0 (kq ≤ k1) ∧ Aside0 (Kd.S (Kd.slice 3 (Kd.int .i64)) 35 wc w.heap.size (fun k_ => some k_ ≠ (u4 : Value).ownBlock) u3 x3_1) ∧ Aside0 (Kd.R (Kd.int .i64) 3 wc w.heap.size (fun _ => True) u4 x4_1) ∧ Aside0 (Below w.heap.size w wc))
   case first =>
    have H := HC6.out
    clear HC6
    by_cases c7 : x5_1 < (l0.length : Int)
    ·
     rw [if_pos c7] at H
     have c7b0 := decide_eq_true c7
     clear c7
     (first | rw [c7b0] | (simp only [i64_w, i32_w]; rw [c7b0]) | skip)
     obtain ⟨t462, A8, H⟩ := bindE H
     try dsimp only at H
     have H' := Aside0.mk H
     clear H
     go_wp2_with (first | (go_at_call 33; (with_reducible refine (spec_ArePaths.calls k1 _ _ l0 t462 _ ?side1 ?side2 A8.out).mono ?_); (case side1 => exact cB HR0); (case side2 => exact HC0.out); rintro e w9 ⟨rfl, hb⟩; replace HO_3 := Aside0.mk (Kd.S_below (sK HO_3) hb); replace HO_4 := Aside0.mk (Kd.R_below (rK HO_4) hb); replace HB := Aside0.mk (below_step bA hb); (try clear hb)))
     go_meet
     case rel => exact ⟨_, (t462), rS, H', ⟨by have := HK1.out; first | omega | exact Nat.le_refl _⟩, ⟨sK HO_3⟩, ⟨rK HO_4⟩, ⟨bA⟩⟩
    ·
     rw [if_neg c7] at H
     have c7b0 := decide_eq_false c7
     clear c7
     (first | rw [c7b0] | (simp only [i64_w, i32_w]; rw [c7b0]) | skip)
     have H' := Aside0.mk H
     clear H
     go_wp2
     go_meet
     case rel => exact ⟨_, (false), rS, H', ⟨by have := HK1.out; first | omega | exact Nat.le_refl _⟩, ⟨sK HO_3⟩, ⟨rK HO_4⟩, ⟨bA⟩⟩
   case rest =>
    clear HC6
    try clear p2
    try clear c7
    try clear c7b0
    try clear c8
    try clear p2
    obtain ⟨kq, x17_5, rfl, HA, HJ5, HO_3, HO_4, HB⟩ := hcut
    cases kq with
    | zero => exact absurd HA.out (by simp [spec_CoverOf.j1])
    | succ kj5 =>
     have H := HA.out
     clear HA
     simp only [spec_CoverOf.j1] at H
     by_cases c10 : x17_5 = true
     ·
      subst c10
      have H1 : (if 0 ≤ x5_1 then (if x5_1 < (l0.length : Int) then ((spec_l6Has.f kj5 x4_1 ((rd_T50 l0 x5_1).f0)).bind fun t464 => (if t464 = true then (spec_CoverOf.l0 kj5 l0 x3_1 x4_1 (wrap64 (x5_1 + 1))) else ((spec_AddToStage.f kj5 l0 (([(rd_T50 l0 x5_1).f0] : List Int))).bind fun t469 => (if x3_1.length < 5864062014805 then (spec_CoverOf.l1 kj5 l0 (x3_1 ++ [t469]) x4_1 x5_1 t469 0) else (none))))) else (none)) else (none)) = some r := by rw [if_pos rfl] at H; exact H
      clear H
      have H := H1
      clear H1
      have c11 : 0 ≤ x5_1 := ifN H
      replace H := ifT H
      have c11b0 := decide_eq_true c11
      clear c11
      have c12 : x5_1 < (l0.length : Int) := ifN H
      replace H := ifT H
      have c12b0 := decide_eq_true c12
      clear c12
      obtain ⟨t464, A13, H⟩ := bindE H
      try dsimp only at H
      by_cases c14 : t464 = true
      ·
       subst c14
       have H1 : (spec_CoverOf.l0 kj5 l0 x3_1 x4_1 (wrap64 (x5_1 + 1))) = some r := by rw [if_pos rfl] at H; exact H
       clear H
       have H := H1
       clear H1
       have H' := Aside0.mk H
       clear H
       have p463 : 0 ≤ (x5_1 : Int) := dA
       have q463 : x5_1 < (l0.length : Int) := dA
       obtain ⟨ad463, e463, hx463_0, hx463_1, hx463_2, hx463_3⟩ := at_T50 HR0.out x5_1 p463 q463
       cases e463
       replace hx463_0 := hC HB hx463_0
       replace hx463_1 := hC HB hx463_1
       replace hx463_2 := hC HB hx463_2
       replace hx463_3 := hC HB hx463_3
       replace p463 := eq_true p463
       replace q463 := eq_true q463
       obtain ⟨Ao15, co15, eo15⟩ := Kd.R_slice HO_4.out
       subst eo15
       go_wp2_with (first | ((with_reducible refine gate_callee (f := 133) rfl ?_); refine gL (some 26) Try.func133 #[.slice Ao15 x4_1.length co15, .int .i64 ((rd_T50 l0 x5_1).f0)] ?_; (with_reducible refine (spec_l6Has.calls kj5 _ _ x4_1 ((rd_T50 l0 x5_1).f0) true _ ?side1 ?side2 A13.out).mono ?_); (case side1 => exact cO ⟨(Kd.R_reads' HO_4.out).2.2⟩); (case side2 => exact (Kd.R_reads' HO_4.out).2.1); rintro e w' ⟨rfl, ⟨nd, rfl⟩⟩; refine ⟨_, rfl, ?_⟩))
       go_roundg kj5
       case measure => have := HK1.out; have := HJ5.out; omega
       case rel => exact ⟨(x3_1), (x4_1), (wrap64 (x5_1 + 1)), rS, H', ⟨by have := HK1.out; have := HJ5.out; omega⟩, ⟨sK HO_3⟩, ⟨rK HO_4⟩, ⟨bA⟩⟩
      ·
       replace c14 := Bool.eq_false_iff.mpr c14
       subst c14
       have H1 : ((spec_AddToStage.f kj5 l0 (([(rd_T50 l0 x5_1).f0] : List Int))).bind fun t469 => (if x3_1.length < 5864062014805 then (spec_CoverOf.l1 kj5 l0 (x3_1 ++ [t469]) x4_1 x5_1 t469 0) else (none))) = some r := by rw [if_neg (show ¬ (false = true) by decide)] at H; exact H
       clear H
       have H := H1
       clear H1
       obtain ⟨y466, hy466⟩ : ∃ y_ : List Int, y_ = (([(rd_T50 l0 x5_1).f0] : List Int)) := ⟨_, rfl⟩
       replace H : ((spec_AddToStage.f kj5 l0 y466).bind fun t469 => (if x3_1.length < 5864062014805 then (spec_CoverOf.l1 kj5 l0 (x3_1 ++ [t469]) x4_1 x5_1 t469 0) else (none))) = some r := rH H hy466
       have Ny466 := Aside0.mk hy466
       clear hy466
       obtain ⟨t469, A16, H⟩ := bindE H
       try dsimp only at H
       have c17 : x3_1.length < 5864062014805 := ifN H
       replace H := ifT H
       have LMc17 := Aside0.mk c17
       clear c17
       obtain ⟨y472, hy472⟩ : ∃ y_ : List (List Int), y_ = (x3_1 ++ [t469]) := ⟨_, rfl⟩
       replace H : (spec_CoverOf.l1 kj5 l0 y472 x4_1 x5_1 t469 0) = some r := rH H hy472
       have Ny472 := Aside0.mk hy472
       clear hy472
       have H' := Aside0.mk H
       clear H
       have p463 : 0 ≤ (x5_1 : Int) := dA
       have q463 : x5_1 < (l0.length : Int) := dA
       obtain ⟨ad463, e463, hx463_0, hx463_1, hx463_2, hx463_3⟩ := at_T50 HR0.out x5_1 p463 q463
       cases e463
       replace hx463_0 := hC HB hx463_0
       replace hx463_1 := hC HB hx463_1
       replace hx463_2 := hC HB hx463_2
       replace hx463_3 := hC HB hx463_3
       replace p463 := eq_true p463
       replace q463 := eq_true q463
       obtain ⟨Ao18, co18, eo18⟩ := Kd.R_slice HO_4.out
       subst eo18
       go_wp2_with (first | ((with_reducible refine gate_callee (f := 133) rfl ?_); refine gL (some 26) Try.func133 #[.slice Ao18 x4_1.length co18, .int .i64 ((rd_T50 l0 x5_1).f0)] ?_; (with_reducible refine (spec_l6Has.calls kj5 _ _ x4_1 ((rd_T50 l0 x5_1).f0) false _ ?side1 ?side2 A13.out).mono ?_); (case side1 => exact cO ⟨(Kd.R_reads' HO_4.out).2.2⟩); (case side2 => exact (Kd.R_reads' HO_4.out).2.1); rintro e w' ⟨rfl, ⟨nd, rfl⟩⟩; refine ⟨_, rfl, ?_⟩; have p465 : 0 ≤ (x5_1 : Int) := dA; have q465 : x5_1 < (l0.length : Int) := dA; obtain ⟨ad465, e465, hx465_0, hx465_1, hx465_2, hx465_3⟩ := at_T50 HR0.out x5_1 p465 q465; obtain rfl : ad463 = ad465 := (by injection e465); replace hx465_0 := hC HB hx465_0; replace hx465_1 := hC HB hx465_1; replace hx465_2 := hC HB hx465_2; replace hx465_3 := hC HB hx465_3; replace p465 := eq_true p465; replace q465 := eq_true q465) | ((with_reducible refine gate_dst (N := 33) rfl ?_); refine Kd.R_lit (Kd.int .i64) _ 3 ?hg (N := 33) ?hd (xs := ([(rd_T50 l0 x5_1).f0] : List Int)) (inner := [.int .i64 ((rd_T50 l0 x5_1).f0)]) (ok := fun _ => True) (okp := fun _ => True) ?hr ?hp (fun _ hk => hk) trivial (Below.refl _ _) (Nat.le_refl _) (by simp) ?_; (case hd => rfl); (case hg => rfl); (case hr => first | (go_simp; done) | (go_simp; rfl)); (case hp => exact (Reps.one (show Kd.M (Kd.int .i64) _ _ _ ((rd_T50 l0 x5_1).f0) [.int .i64 ((rd_T50 l0 x5_1).f0)] from rfl) (Reps.none _ _))); intro v467 w19 ho20 hb hg_ hnew_; clear hg_ hnew_; (first | rw [← Ny466.out] at ho20 | (simp only [Int.reduceToNat] at ho20; rw [← Ny466.out] at ho20)); replace HO_3 := Aside0.mk (Kd.S_elder' (sK HO_3) (Kd.R_base ho20) hb); have HO468 := Aside0.mk (Kd.R_lower (Kd.R_new' ho20 (Kd.R_lt (rK HO_4))) (below_size bA)); replace HO_4 := Aside0.mk (Kd.R_elder' (rK HO_4) (Kd.R_base ho20) hb); replace HB := Aside0.mk (below_step bA hb); clear hb ho20; obtain ⟨Ao21, co21, eo21⟩ := Kd.R_slice HO468.out; subst eo21) | ((with_reducible refine gate_callee (f := 134) rfl ?_); refine gL (some 34) Try.func134 #[.slice (some ad463) l0.length c0, .slice Ao21 y466.length co21] ?_; (with_reducible refine (spec_AddToStage.calls kj5 _ _ l0 _ _ y466 t469 _ ?side1 ?side2 ?side3 ?side4 A16.out).mono ?_); (case side1 => exact cB HR0); (case side2 => exact HC0.out); (case side3 => exact cO ⟨(Kd.R_reads' HO468.out).2.2⟩); (case side4 => exact (Kd.R_reads' HO468.out).2.1); rintro e w22 ⟨v470, rfl, ho0, hb⟩; refine ⟨_, rfl, ?_⟩; replace HO_3 := Aside0.mk (Kd.S_elder' (sK HO_3) (Kd.R_base ho0) hb); have HO471 := Aside0.mk (Kd.R_lower (Kd.R_new' (Kd.R_new' ho0 (Kd.R_lt (rK HO_4))) (Kd.R_lt (rK HO468))) (below_size bA)); replace HO_4 := Aside0.mk (Kd.R_elder' (rK HO_4) (Kd.R_base ho0) hb); replace HO468 := Aside0.mk (Kd.R_elder' (rK HO468) (Kd.R_base ho0) hb); replace HB := Aside0.mk (below_step bA hb); (try clear hb); (try clear ho0); obtain ⟨Ao24, co24, eo24⟩ := Kd.R_slice HO471.out; subst eo24) | ((with_reducible refine gate_builtin (b := .append) (xs := #[.tmp 35, .tmp 37]) rfl ?_); at_builtin; refine Kd.S_append (Kd.slice 3 (Kd.int .i64)) (w0 := w) w.heap.size rfl (.tmp 35) (.tmp 37) 103 35 (.slice none 0 0) 24 rfl Try.underlying103 info35 rfl (by decide) (by omega) u3 x3_1 t469 [.slice Ao24 t469.length co24] (fun k_ => some k_ ≠ (.slice Ao18 x4_1.length co18 : Value).ownBlock ∧ some k_ ≠ (.slice Ao21 y466.length co21 : Value).ownBlock) (fun k_ => some k_ = (.slice Ao24 t469.length co24 : Value).ownBlock) rfl rfl ?aP (fun k_ hk_ => ((Kd.R_mono (ok' := fun k_ => ((fun k_ => some k_ ≠ (.slice Ao18 x4_1.length co18 : Value).ownBlock ∧ some k_ ≠ (.slice Ao21 y466.length co21 : Value).ownBlock)) k_ ∧ some k_ ≠ (u3 : Value).ownBlock) (Kd.R_apart' (HO471.out) (Kd.S_typed HO_3.out) (by decide)) (fun k_ hk => ⟨⟨hk.1.1.2, hk.1.2⟩, hk.2⟩))).1 k_ hk_.symm) ?aF ?aO ?aB ?aS ?aL ?_; (case aP => exact Kd.M_row (Kd.R_mono (Kd.R_tight rfl (Kd.R_mono (ok' := fun k_ => ((fun k_ => some k_ ≠ (.slice Ao18 x4_1.length co18 : Value).ownBlock ∧ some k_ ≠ (.slice Ao21 y466.length co21 : Value).ownBlock)) k_ ∧ some k_ ≠ (u3 : Value).ownBlock) (Kd.R_apart' (HO471.out) (Kd.S_typed HO_3.out) (by decide)) (fun k_ hk => ⟨⟨hk.1.1.2, hk.1.2⟩, hk.2⟩))) (fun _ h_ => h_))); (case aB => exact bA); (case aF => exact (fun k_ hk => ⟨Kd.fresh' (Kd.R_lt (rK HO_4)) k_ hk, Kd.fresh' (Kd.R_lt (rK HO468)) k_ hk⟩)); (case aO => exact (by (with_reducible repeat (first | apply Kd.S_alloc | apply Kd.S_drewN | apply Kd.S_drew)); exact Kd.S_mono HO_3.out (fun k_ hk => ⟨⟨hk.1.1, hk.1.2⟩, fun e_ => hk.2 e_⟩))); (case aS => exact (below_size bA)); (case aL => have := LMc17.out; omega); intro v473 w23 ho hb hg hat; rw [← Ny472.out] at ho; have n0_ := Aside0.mk (Kd.R_over' (rK HO_4) (Kd.S_typed (sK HO_3)) (by decide) hg); have n1_ := Aside0.mk (Kd.R_over' (rK HO468) (Kd.S_typed (sK HO_3)) (by decide) hg); have n2_ := Aside0.mk (Kd.R_over' (rK HO471) (Kd.S_typed (sK HO_3)) (by decide) hg); have n3_ := Aside0.mk (hb); have n4_ := Aside0.mk (ho); clear HO_4; clear HO468; clear HO471; clear HB; clear HO_3; have HO_4 := n0_; have HO468 := n1_; have HO471 := n2_; have HB := n3_; have HO474 := n4_; clear n0_ n1_ n2_ n3_ n4_; clear ho hb hg hat))
       go_loopg [4, 7] kj5 (fun kq v4 v7 w' => ∃ (x4_3 : List Int) (x7_3 : Int), v7 = .int .i64 x7_3 ∧ Aside0 (spec_CoverOf.l1 kq l0 y472 x4_3 x5_1 t469 x7_3 = some r) ∧ Aside0 (kq ≤ kj5) ∧ Aside0 (Kd.S (Kd.slice 3 (Kd.int .i64)) 35 w' w.heap.size (fun k_ => some k_ ≠ (v4 : Value).ownBlock) v473 y472) ∧ Aside0 (Kd.R (Kd.int .i64) 3 w' w.heap.size (fun k_ => some k_ ≠ ((.slice Ao24 t469.length co24) : Value).ownBlock) v4 x4_3) ∧ Aside0 (Kd.R (Kd.int .i64) 3 w' w.heap.size (fun k_ => some k_ ≠ (v4 : Value).ownBlock) (.slice Ao24 t469.length co24) t469) ∧ Aside0 (Below w.heap.size w w'))
       case atStart => exact ⟨(x4_1), (0), rS, H', ⟨Nat.le_refl _⟩, ⟨by (with_reducible repeat (first | apply Kd.S_alloc | apply Kd.S_drewN | apply Kd.S_drew)); exact Kd.S_mono HO474.out (fun _ hk => hk.1)⟩, ⟨by (with_reducible repeat (first | apply Kd.R_alloc | apply Kd.R_drewN | apply Kd.R_drew)); exact Kd.R_mono HO_4.out (fun _ hk => hk.2)⟩, ⟨by (with_reducible repeat (first | apply Kd.R_alloc | apply Kd.R_drewN | apply Kd.R_drew)); exact Kd.R_mono HO471.out (fun _ hk => hk.1.2)⟩, ⟨bA⟩⟩
       case round =>
        clear H'
        try clear c1
        try clear p2
        try clear p4
        try clear q4
        try clear hx4
        try clear p6
        try clear c7
        try clear c7b0
        try clear c8
        try clear c10
        try clear c11
        try clear c11b0
        try clear c12
        try clear c12b0
        try clear c13
        try clear c14
        try clear c17
        try clear hx463_0
        try clear hx463_1
        try clear hx463_2
        try clear hx463_3
        try clear hx465_0
        try clear hx465_1
        try clear hx465_2
        try clear hx465_3
        try clear p2
        try clear p463
        try clear p465
        try clear q463
        try clear q465
        obtain ⟨x4_3, x7_3, rfl, HA, HK3, HO_3, HO_4, HO_6, HB⟩ := hrel
        cases gk with
        | zero => exact absurd HA.out (by simp [spec_CoverOf.l1])
        | succ k3 =>
         have H := HA.out
         clear HA
         simp only [spec_CoverOf.l1] at H
         by_cases c25 : x7_3 < (t469.length : Int)
         ·
          rw [if_pos c25] at H
          have c25b0 := decide_eq_true c25
          clear c25
          have c26 : 0 ≤ x7_3 := ifN H
          replace H := ifT H
          have c26b0 := decide_eq_true c26
          clear c26
          obtain ⟨t476, A27, H⟩ := bindE H
          try dsimp only at H
          have H' := Aside0.mk H
          clear H
          have p475 : 0 ≤ (x7_3 : Int) := dA
          have q475 : x7_3 < (t469.length : Int) := dA
          obtain ⟨ad475, e475, hx475_0⟩ := Kd.at_int (Kd.R_reads' HO_6.out).2.2 x7_3 p475 q475
          cases e475
          replace p475 := eq_true p475
          replace q475 := eq_true q475
          obtain ⟨Ao28, co28, eo28⟩ := Kd.R_slice HO_4.out
          subst eo28
          go_wp2_with (first | ((with_reducible refine gate_callee (f := 135) rfl ?_); refine gL (some 50) Try.func135 #[.slice Ao28 x4_3.length co28, .int .i64 (rd t469 x7_3)] ?_; (with_reducible refine (spec_l6Put.calls k3 _ _ x4_3 (rd t469 x7_3) t476 _ ?side1 ?side2 A27.out).mono ?_); (case side1 => exact cO ⟨(Kd.R_reads' HO_4.out).2.2⟩); (case side2 => exact (Kd.R_reads' HO_4.out).2.1); rintro e w29 ⟨v477, rfl, ho0, hb⟩; refine ⟨_, rfl, ?_⟩; replace HO_3 := Aside0.mk (Kd.S_elder' (sK HO_3) (Kd.R_base ho0) hb); have HO478 := Aside0.mk (Kd.R_lower (Kd.R_new' (Kd.R_new' ho0 (Kd.R_lt (rK HO_4))) (Kd.R_lt (rK HO_6))) (below_size bA)); replace HO_4 := Aside0.mk (Kd.R_elder' (rK HO_4) (Kd.R_base ho0) hb); replace HO_6 := Aside0.mk (Kd.R_elder' (rK HO_6) (Kd.R_base ho0) hb); replace HB := Aside0.mk (below_step bA hb); (try clear hb); (try clear ho0)))
          go_roundg k3
          case measure => have := HK1.out; have := HJ5.out; have := HK3.out; omega
          case rel => exact ⟨(t476), (wrap64 (x7_3 + 1)), rS, H', ⟨by have := HK1.out; have := HJ5.out; have := HK3.out; omega⟩, ⟨by (with_reducible repeat (first | apply Kd.S_alloc | apply Kd.S_drewN | apply Kd.S_drew)); exact Kd.S_mono HO_3.out (fun _ hk => hk.2)⟩, ⟨by (with_reducible repeat (first | apply Kd.R_alloc | apply Kd.R_drewN | apply Kd.R_drew)); exact Kd.R_mono HO478.out (fun _ hk => hk.2)⟩, ⟨by (with_reducible repeat (first | apply Kd.R_alloc | apply Kd.R_drewN | apply Kd.R_drew)); exact Kd.R_mono HO_6.out (fun _ hk => hk.2)⟩, ⟨bA⟩⟩
         ·
          rw [if_neg c25] at H
          have c25b0 := decide_eq_false c25
          clear c25
          have H' := Aside0.mk H
          clear H
          go_wp2
          go_roundg k3
          case measure => have := HK1.out; have := HJ5.out; have := HK3.out; omega
          case rel => exact ⟨(y472), (x4_3), (wrap64 (x5_1 + 1)), rS, H', ⟨by have := HK1.out; have := HJ5.out; have := HK3.out; omega⟩, ⟨sK HO_3⟩, ⟨by (with_reducible repeat (first | apply Kd.R_alloc | apply Kd.R_drewN | apply Kd.R_drew)); exact Kd.R_mono HO_4.out (fun _ hk => trivial)⟩, ⟨bA⟩⟩
     ·
      replace c10 := Bool.eq_false_iff.mpr c10
      subst c10
      have H1 : (some x3_1) = some r := by rw [if_neg (show ¬ (false = true) by decide)] at H; exact H
      clear H
      have H := H1
      clear H1
      obtain rfl := Option.some.inj H
      go_wp2
      go_ret
      exact ⟨_, by first | rfl | (simp [errW_none, errW_some] <;> rfl) | (simp [*, errW_none, errW_some] <;> rfl), by (with_reducible repeat (first | apply Kd.S_alloc | apply Kd.S_drewN | apply Kd.S_drew)); exact Kd.S_mono HO_3.out (fun _ hk => trivial), bA⟩

/-! ### spec_PlanFor: function 151 -/
def spec_PlanFor.l0 : Nat → List (S50) → List (S85) → List (List Int) → Int → Option ((List (S85)))
 | 0, _, _, _, _ => none
 | k + 1, x0, x3, x4, x5 => if x5 < (x4.length : Int) then (if 0 ≤ x5 then ((spec_LeastGreen.f k x0 (rd_L4 x4 x5)).bind fun t487 => (if x3.length < 4398046511104 then (spec_PlanFor.l0 k x0 (x3 ++ [(⟨rd_L4 x4 x5, t487⟩ : S85)]) x4 (wrap64 (x5 + 1))) else (none))) else (none)) else ((spec_IsPlan.f k x0 x3).bind fun t491 => (if t491 = true then (some x3) else (some (([] : List (S85))))))
def spec_PlanFor.f (k : Nat) (l0 : List (S50)) : Option ((List (S85))) := (spec_CoverOf.f k l0).bind fun t482 => (spec_PlanFor.l0 k l0 (([] : List (S85))) t482 0)
theorem spec_PlanFor.mono_l : ∀ k, (∀ y0 y1 y2 y3, LeO (spec_PlanFor.l0 k y0 y1 y2 y3) (spec_PlanFor.l0 (k + 1) y0 y1 y2 y3))
 | 0 => fun _ _ _ _ r h => by simp [spec_PlanFor.l0] at h
 | k + 1 => by
  have ih0 := spec_PlanFor.mono_l k
  ·
   intro y0 y1 y2 y3
   unfold spec_PlanFor.l0
   repeat' first | (with_reducible first | exact LeO.refl _ | exact LeO.none _ | refine LeO.ite ?_ ?_ | refine LeO.bind ?_ (fun _ => ?_) | exact ih0 _ _ _ _ | exact spec_CoverOf.mono _ _ | exact spec_IsPlan.mono _ _ _ | exact spec_LeastGreen.mono _ _ _)
theorem spec_PlanFor.mono : ∀ a0 k, LeO (spec_PlanFor.f k a0) (spec_PlanFor.f (k + 1) a0) := by
 intro a0 k
 have ih0 := spec_PlanFor.mono_l k
 unfold spec_PlanFor.f
 repeat' first | (with_reducible first | exact LeO.refl _ | exact LeO.none _ | refine LeO.ite ?_ ?_ | refine LeO.bind ?_ (fun _ => ?_) | exact ih0 _ _ _ _ | exact spec_CoverOf.mono _ _ | exact spec_IsPlan.mono _ _ _ | exact spec_LeastGreen.mono _ _ _)
def spec_PlanFor.T6 : Bool × List (List Nat × List Nat) := (true, [([], []), ([], []), ([], []), ([1, 2], [1, 2]), ([3], [3]), ([], []), ([], []), ([], []), ([6, 7], [6, 7]), ([8], [8]), ([5, 9], [5, 9]), ([4, 10], [4, 10]), ([11], [11]), ([0, 12, 10], [0, 12]), ([13, 13, 0, 1, 2, 3, 4, 5, 6, 7, 8, 9, 10, 11, 12, 13], [0, 13])])
def spec_PlanFor.B6 : List Nat := [0, 0, 0, 6, 14, 0, 0, 0, 192, 448, 992, 2046, 4094, 8191, 16383]
theorem spec_PlanFor.tab6 : rtab .any (opsOf Try.f151 6) = spec_PlanFor.T6 := by kernel_rfl
theorem spec_PlanFor.bits6 : waitsOk spec_PlanFor.T6.2 spec_PlanFor.B6 = true := by kernel_rfl
set_option maxHeartbeats 8000000 in
set_option maxRecDepth 100000 in
theorem spec_PlanFor.calls (k : Nat) (A0 : Option Addr) (c0 : Nat) (l0 : List (S50)) (r : List (S85)) (w : World) (hr0 : Kd.C k50 w A0 l0.length l0) (hc0 : l0.length ≤ c0) (h : spec_PlanFor.f k l0 = some r) :
  Calls Try.prog 151 #[.slice A0 l0.length c0] w fun e w' => ∃ v0_ : Value, e = .returned (v0_) ∧ Kd.N k85 85 w' w.heap.size (fun k_ => (w.heap.size ≤ k_)) v0_ r ∧ Below w.heap.size w w' := by
 have hu85 := Try.underlying85
 have HR0 := Aside0.mk hr0
 have HC0 := Aside0.mk hc0
 clear hr0 hc0
 have HB := Aside0.mk (Below.refl w.heap.size w)
 have H : ((spec_CoverOf.f k l0).bind fun t482 => (spec_PlanFor.l0 k l0 (([] : List (S85))) t482 0)) = some r := h
 clear h
 obtain ⟨y479, hy479⟩ : ∃ y_ : List (S85), y_ = (([] : List (S85))) := ⟨_, rfl⟩
 replace H : ((spec_CoverOf.f k l0).bind fun t482 => (spec_PlanFor.l0 k l0 y479 t482 0)) = some r := rH H hy479
 have Ny479 := Aside0.mk hy479
 clear hy479
 obtain ⟨t482, A2, H⟩ := bindE H
 try dsimp only at H
 have H' := Aside0.mk H
 clear H
 go_enter Try.func151, Try.ntmps151
 go_wp2_with (first | ((with_reducible refine gate_dst (N := 6) rfl ?_); refine Kd.N_lit k85 _ 85 ?hg (N' := 6) ?hd (xs := ([] : List (S85))) (inner := []) (ok := (fun k_ => (w.heap.size ≤ k_))) (okp := (fun k_ => (w.heap.size ≤ k_))) ?hr ?hp (fun _ hk => hk) ((show ∀ k_, w.heap.size ≤ k_ → (fun k_ => (w.heap.size ≤ k_)) k_ from fun k_ hk => (Nat.le_trans (below_size bA) hk)) _ (Nat.le_refl _)) (Below.refl _ _) (Nat.le_refl _) (by simp) ?_; (case hd => rfl); (case hg => rfl); (case hr => first | (go_simp; done) | (go_simp; rfl)); (case hp => exact (Reps.none _ _)); intro v480 w3 ho4 hb hg_ hnew_; clear hg_ hnew_; (first | rw [← Ny479.out] at ho4 | (simp only [Int.reduceToNat] at ho4; rw [← Ny479.out] at ho4)); have HO481 := Aside0.mk (Kd.N_lower ho4 (below_size bA)); replace HB := Aside0.mk (below_step bA hb); clear hb ho4) | ((with_reducible refine gate_callee (f := 89) rfl ?_); refine gL (some 8) Try.func89 #[.slice A0 l0.length c0] ?_; (with_reducible refine (spec_CoverOf.calls k _ _ l0 t482 _ ?side1 ?side2 A2.out).mono ?_); (case side1 => exact cB HR0); (case side2 => exact HC0.out); rintro e w5 ⟨v483, rfl, ho0, hb⟩; refine ⟨_, rfl, ?_⟩; have n0_ := Aside0.mk (Kd.N_elder' (by (with_reducible repeat (first | apply Kd.N_alloc | apply Kd.N_drewN | apply Kd.N_drew)); exact HO481.out) (by first | exact Kd.N_base ho0 | exact Kd.N_base (Kd.S_N ho0)) hb); have n1_ := Aside0.mk (Kd.N_lower (Kd.N_mono (ok' := fun k_ => (w.heap.size ≤ k_) ∧ some k_ ≠ (v480 : Value).ownBlock) (Kd.S_N (Kd.S_bound ho0)) (fun k_ hk_ => ⟨(Nat.le_trans (below_size bA) hk_.2.1), (Kd.fresh' (Kd.N_lt (by (with_reducible repeat (first | apply Kd.N_alloc | apply Kd.N_drewN | apply Kd.N_drew)); exact HO481.out)) k_ hk_.2.1)⟩)) (below_size bA)); have n2_ := Aside0.mk (below_step bA hb); clear HO481; clear HB; have HO481 := n0_; have HO484 := n1_; have HB := n2_; clear n0_ n1_ n2_; (try clear hb); (try clear ho0)))
 go_loopg [3, 5] k (fun kq v3 v5 w' => ∃ (x3_1 : List (S85)) (x5_1 : Int), v5 = .int .i64 x5_1 ∧ Aside0 (spec_PlanFor.l0 kq l0 x3_1 t482 x5_1 = some r) ∧ Aside0 (kq ≤ k) ∧ Aside0 (Kd.N k85 85 w' w.heap.size (fun k_ => (w.heap.size ≤ k_) ∧ some k_ ≠ (v483 : Value).ownBlock) v3 x3_1) ∧ Aside0 (Kd.N (Kd.slice 3 (Kd.int .i64)) 35 w' w.heap.size (fun k_ => (w.heap.size ≤ k_) ∧ some k_ ≠ (v3 : Value).ownBlock) v483 t482) ∧ Aside0 (Below w.heap.size w w'))
 case atStart => exact ⟨(y479), (0), rS, H', ⟨Nat.le_refl _⟩, ⟨by (with_reducible repeat (first | apply Kd.N_alloc | apply Kd.N_drewN | apply Kd.N_drew)); exact HO481.out⟩, ⟨by (with_reducible repeat (first | apply Kd.N_alloc | apply Kd.N_drewN | apply Kd.N_drew)); exact HO484.out⟩, ⟨bA⟩⟩
 case round =>
  clear H'
  try clear c1
  try clear p2
  obtain ⟨x3_1, x5_1, rfl, HA, HK1, HO_3, HO_4, HB⟩ := hrel
  cases gk with
  | zero => exact absurd HA.out (by simp [spec_PlanFor.l0])
  | succ k1 =>
   have H := HA.out
   clear HA
   simp only [spec_PlanFor.l0] at H
   by_cases c6 : x5_1 < (t482.length : Int)
   ·
    rw [if_pos c6] at H
    have c6b0 := decide_eq_true c6
    clear c6
    have c7 : 0 ≤ x5_1 := ifN H
    replace H := ifT H
    have c7b0 := decide_eq_true c7
    clear c7
    obtain ⟨t487, A8, H⟩ := bindE H
    try dsimp only at H
    have c9 : x3_1.length < 4398046511104 := ifN H
    replace H := ifT H
    have LMc9 := Aside0.mk c9
    clear c9
    obtain ⟨y488, hy488⟩ : ∃ y_ : List (S85), y_ = (x3_1 ++ [(⟨rd_L4 t482 x5_1, t487⟩ : S85)]) := ⟨_, rfl⟩
    replace H : (spec_PlanFor.l0 k1 l0 y488 t482 (wrap64 (x5_1 + 1))) = some r := rH H hy488
    have Ny488 := Aside0.mk hy488
    clear hy488
    have H' := Aside0.mk H
    clear H
    obtain ⟨Ao10, co10, eo10⟩ := Kd.N_slice HO_4.out
    subst eo10
    try go_wp2
    replace HO_3 := Aside0.mk (Kd.N_drew HO_3.out)
    replace HO_4 := Aside0.mk (Kd.N_drew HO_4.out)
    have HBo := HB
    replace HB := Aside0.mk (below_drew1 HB.out)
    have p485 : 0 ≤ (x5_1 : Int) := dA
    have q485 : x5_1 < (t482.length : Int) := dA
    obtain ⟨ad485, A485_0, c485_0, e485, hx485_0, hl485_0, hi485_0⟩ := at_L4 (Kd.N_reads' HO_4.out).2.2 x5_1 p485 q485
    cases e485
    obtain ⟨ce485, hce485, hMe485, hcc485⟩ := Kd.N_get HO_4.out [] x5_1 p485 (by first | exact q485 | exact dA | (have e_ := (Kd.N_reads' HO_4.out).1; omega))
    obtain ⟨ua485_0, uc485_0, rfl, ul485_0, ge485_0⟩ := Kd.FK_slice_open hMe485
    have hv485_0 := hcc485 0 _ rfl
    rw [Nat.add_zero, show ((Kd.slice 3 (Kd.int .i64))).sz = 1 from rfl, Nat.mul_one] at hv485_0
    replace hv485_0 := Option.some.inj (hv485_0.symm.trans hx485_0)
    injection hv485_0 with hva_ hvn_ hvc_
    rw [hva_] at ge485_0
    rw [hvc_] at ul485_0
    have HL485_0 := Aside0.mk (show Kd.V (Kd.int .i64) 3 _ w.heap.size _ _ (rd_L4 t482 x5_1) from Kd.V_mk ul485_0 ge485_0)
    clear hva_ hvn_ hvc_ ge485_0 ul485_0
    clear hcc485 hce485
    have HR485_0 := Aside0.mk hi485_0
    have HC485_0 := Aside0.mk hl485_0
    clear hi485_0 hl485_0
    replace p485 := eq_true p485
    replace q485 := eq_true q485
    have p486 : 0 ≤ (x5_1 : Int) := dA
    have q486 : x5_1 < (t482.length : Int) := dA
    obtain ⟨ad486, A486_0, c486_0, e486, hx486_0, hl486_0, hi486_0⟩ := at_L4 (Kd.N_reads' HO_4.out).2.2 x5_1 p486 q486
    obtain rfl : ad485 = ad486 := (by injection e486)
    obtain ⟨ce486, hce486, hMe486, hcc486⟩ := Kd.N_get HO_4.out [] x5_1 p486 (by first | exact q486 | exact dA | (have e_ := (Kd.N_reads' HO_4.out).1; omega))
    obtain ⟨ua486_0, uc486_0, rfl, ul486_0, ge486_0⟩ := Kd.FK_slice_open hMe486
    have hv486_0 := hcc486 0 _ rfl
    rw [Nat.add_zero, show ((Kd.slice 3 (Kd.int .i64))).sz = 1 from rfl, Nat.mul_one] at hv486_0
    replace hv486_0 := Option.some.inj (hv486_0.symm.trans hx486_0)
    injection hv486_0 with hva_ hvn_ hvc_
    rw [hva_] at ge486_0
    rw [hvc_] at ul486_0
    have HL486_0 := Aside0.mk (show Kd.V (Kd.int .i64) 3 _ w.heap.size _ _ (rd_L4 t482 x5_1) from Kd.V_mk ul486_0 ge486_0)
    clear hva_ hvn_ hvc_ ge486_0 ul486_0
    clear hcc486 hce486
    have HR486_0 := Aside0.mk hi486_0
    have HC486_0 := Aside0.mk hl486_0
    clear hi486_0 hl486_0
    replace p486 := eq_true p486
    replace q486 := eq_true q486
    have ea_ := Option.some.inj (hx485_0.symm.trans hx486_0)
    injection ea_ with ea_ en_ ec_
    subst ea_
    subst ec_
    clear en_
    refine start_ (n := 15) (S := fun w' => w'.cell? (ad485.add (x5_1).toNat) = some (.slice A485_0 (rd_L4 t482 x5_1).length c485_0) ∧ w'.cell? (ad485.add (x5_1).toNat) = some (.slice A485_0 (rd_L4 t482 x5_1).length c485_0)) (ds := [12, 13]) (mb 15 0) (by kernel_rfl) rfl rfl ⟨hx485_0, hx486_0⟩ (fun hHeld => ?_); refine with_tabW spec_PlanFor.tab6 spec_PlanFor.bits6 (fun HT_ HW_ => ?_)
    generalize wr.drew = w11 at HO_3 HO_4 HB HL485_0 HL486_0 HR485_0 HR486_0 hx485_0 hx486_0 hHeld ⊢
    refine pa 0 15 (mb 15 1) HT_ ?_
    refine pa 1 16 (mb 15 3) HT_ ?_
    refine pa 2 17 (mb 15 7) HT_ ?_
    refine pa 3 18 (mb 15 15) HT_ ?_
    refine pa 5 20 (mb 15 47) HT_ ?_
    refine pa 6 21 (mb 15 111) HT_ ?_
    refine pa 7 22 (mb 15 239) HT_ ?_
    refine pa 8 23 (mb 15 495) HT_ ?_
    refine ta2 4 19 (mb 15 511) HT_ HW_ hHeld ?_
    refine ta2 9 24 (mb 15 1023) HT_ HW_ hHeld ?_
    refine oa 10 25 (mb 15 2047) HT_ (fun K hK => ?_)
    refine gA Try.func113 #[.slice A0 l0.length c0, .slice A485_0 (rd_L4 t482 x5_1).length c485_0] ?_
    with_reducible refine (spec_LeastGreen.calls k1 _ _ l0 _ _ (rd_L4 t482 x5_1) t487 _ ?side1 ?side2 ?side3 ?side4 A8.out).mono ?_
    (case side1 => exact cB HR0)
    (case side2 => exact HC0.out)
    (case side3 => repeat (first | exact (by repeat (first | (with_reducible exact HR486_0.out) | (with_reducible refine Kd.C_alloc ?_ _) | (with_reducible refine Kd.C_drewN ?_ _) | (with_reducible refine Kd.C_drew ?_) | exact HR486_0.out)) | (with_reducible refine Kd.C_alloc ?_ _) | (with_reducible refine Kd.C_drewN ?_ _) | (with_reducible refine Kd.C_drew ?_)))
    (case side4 => exact HC486_0.out)
    rintro e w' ⟨rfl, ⟨nd, rfl⟩⟩
    refine ⟨_, rfl, ?_⟩
    refine hK.out _ _ ⟨hHeld.1, hHeld.2⟩ (fun hHeld => ?_)
    clear hK K
    refine nB ?_
    refine pa 11 26 (mb 15 4095) HT_ ?_
    refine last_ (i := 12) (N := some 27) (mb 15 8191) rfl rfl (one_of HT_.out (by kernel_rfl)) (by decide) (fun K hK => ?_)
    refine value_ (w1 := ?_) (v := ?_) (by rfl) rfl ?_ ?_
    rotate_left 2
    ·
     go_simp
     constructor
     ·
      rfl
     ·
      rfl
    refine hK.out _ _ ?_
    clear hK K
    refine nB ?_
    refine last_ (i := 13) (N := some 28) (mb 15 16383) rfl rfl (one_of HT_.out (by kernel_rfl)) (by decide) (fun K hK => ?_)
    refine Kd.N_append_step k85 (w0 := w) w.heap.size (by rfl) (.tmp 15) (.tmp 27) 25 85 (.agg #[(.slice none 0 0), (.int .i64 0)]) 32 rfl Try.underlying25 info85 rfl (by decide) (by omega) u3 x3_1 (⟨rd_L4 t482 x5_1, t487⟩ : S85) [.slice A485_0 (rd_L4 t482 x5_1).length c485_0, .int .i64 t487] (fun k_ => (w.heap.size ≤ k_) ∧ some k_ ≠ (.slice (some ad485) t482.length co10 : Value).ownBlock) (fun k_ => ((fun k_ => (w.heap.size ≤ k_) ∧ some k_ ≠ (.slice (some ad485) t482.length co10 : Value).ownBlock)) k_ ∧ some k_ ≠ (u3 : Value).ownBlock) rfl rfl ?aP (fun _ hk => hk) ?aF ?aO ?aB ?aS ?aL ?_
    (case aP => exact (k85_mkF _ _ (⟨rd_L4 t482 x5_1, t487⟩ : S85) (Kd.V_reads' (Kd.V_mono (ok' := (fun k_ => ((fun k_ => (w.heap.size ≤ k_) ∧ some k_ ≠ (.slice (some ad485) t482.length co10 : Value).ownBlock)) k_ ∧ some k_ ≠ (u3 : Value).ownBlock)) (HL485_0.out) (fun k_ hk => ⟨⟨hk.1.1, hk.2⟩, hk.1.2⟩))).2.1 (Kd.V_F (e := 3) (base := w.heap.size) (Kd.V_mono (e := 3) (base := w.heap.size) (ok' := (fun k_ => ((fun k_ => (w.heap.size ≤ k_) ∧ some k_ ≠ (.slice (some ad485) t482.length co10 : Value).ownBlock)) k_ ∧ some k_ ≠ (u3 : Value).ownBlock)) (HL485_0.out) (fun k_ hk => ⟨⟨hk.1.1, hk.2⟩, hk.1.2⟩)))))
    (case aB => exact bA)
    (case aF => exact (fun k_ hk => ⟨(Nat.le_trans (below_size bA) hk), Kd.fresh' (Kd.N_lt (by (with_reducible repeat (first | apply Kd.N_alloc | apply Kd.N_drewN | apply Kd.N_drew)); exact HO_4.out)) k_ hk⟩))
    (case aO => exact (by (with_reducible repeat (first | apply Kd.N_alloc | apply Kd.N_drewN | apply Kd.N_drew)); exact HO_3.out))
    (case aS => exact (below_size bA))
    (case aL => have := LMc9.out; omega)
    intro v489 w12 ho hb hg hat
    rw [← Ny488.out] at ho
    have n0_ := Aside0.mk (Kd.N_afterv (ok := (fun k_ => (w.heap.size ≤ k_))) (by (with_reducible repeat (first | apply Kd.N_alloc | apply Kd.N_drewN | apply Kd.N_drew)); exact HO_4.out) hg hat)
    have n1_ := Aside0.mk (Kd.V_afterv (ok := (fun k_ => (w.heap.size ≤ k_) ∧ some k_ ≠ (.slice (some ad485) t482.length co10 : Value).ownBlock)) (by (with_reducible repeat (first | apply Kd.V_alloc | apply Kd.V_drewN | apply Kd.V_drew)); exact Kd.V_mono HL485_0.out (fun _ hk => ⟨⟨hk.1.1, hk.2⟩, hk.1.2⟩)) hg hat)
    have n2_ := Aside0.mk (Kd.V_afterv (ok := (fun k_ => (w.heap.size ≤ k_) ∧ some k_ ≠ (.slice (some ad485) t482.length co10 : Value).ownBlock)) (by (with_reducible repeat (first | apply Kd.V_alloc | apply Kd.V_drewN | apply Kd.V_drew)); exact Kd.V_mono HL486_0.out (fun _ hk => ⟨⟨hk.1.1, hk.2⟩, hk.1.2⟩)) hg hat)
    have n3_ := Aside0.mk (hb)
    have n4_ := Aside0.mk (ho)
    clear HO_4
    clear HL485_0
    clear HL486_0
    clear HB
    clear HO_3
    have HO_4 := n0_
    have HL485_0 := n1_
    have HL486_0 := n2_
    have HB := n3_
    have HO490 := n4_
    clear n0_ n1_ n2_ n3_ n4_
    clear ho hb hg hat
    refine hK.out _ _ ?_
    clear hK K
    refine nB ?_
    refine pa 14 3 (mb 15 32767) HT_ ?_
    refine eA HT_ ?_
    try go_wp2
    go_roundg k1
    case measure => have := HK1.out; omega
    case rel => exact ⟨(y488), (wrap64 (x5_1 + 1)), rS, H', ⟨by have := HK1.out; omega⟩, ⟨by (with_reducible repeat (first | apply Kd.N_alloc | apply Kd.N_drewN | apply Kd.N_drew)); exact HO490.out⟩, ⟨by (with_reducible repeat (first | apply Kd.N_alloc | apply Kd.N_drewN | apply Kd.N_drew)); exact HO_4.out⟩, ⟨bA⟩⟩
   ·
    rw [if_neg c6] at H
    have c6b0 := decide_eq_false c6
    clear c6
    obtain ⟨t491, A13, H⟩ := bindE H
    try dsimp only at H
    by_cases c14 : t491 = true
    ·
     subst c14
     have H1 : (some x3_1) = some r := by rw [if_pos rfl] at H; exact H
     clear H
     have H := H1
     clear H1
     obtain rfl := Option.some.inj H
     obtain ⟨Ao15, co15, eo15⟩ := Kd.N_slice HO_4.out
     subst eo15
     obtain ⟨Ao16, co16, eo16⟩ := Kd.N_slice HO_3.out
     subst eo16
     go_wp2_with (first | ((with_reducible refine gate_callee (f := 61) rfl ?_); refine gL (some 31) Try.func61 #[.slice A0 l0.length c0, .slice Ao16 x3_1.length co16] ?_; (with_reducible refine (spec_IsPlan.calls k1 _ _ l0 _ _ x3_1 true _ ?side1 ?side2 ?side3 ?side4 A13.out).mono ?_); (case side1 => exact cB HR0); (case side2 => exact HC0.out); (case side3 => repeat (first | exact (Kd.N_reads' HO_3.out).2.2 | (with_reducible refine Kd.C_alloc ?_ _) | (with_reducible refine Kd.C_drewN ?_ _) | (with_reducible refine Kd.C_drew ?_))); (case side4 => exact (Kd.N_reads' HO_3.out).2.1); rintro e w17 ⟨rfl, hb⟩; refine ⟨_, rfl, ?_⟩; have n0_ := Aside0.mk (Kd.N_below (by (with_reducible repeat (first | apply Kd.N_alloc | apply Kd.N_drewN | apply Kd.N_drew)); exact HO_3.out) hb); have n1_ := Aside0.mk (Kd.N_below (by (with_reducible repeat (first | apply Kd.N_alloc | apply Kd.N_drewN | apply Kd.N_drew)); exact HO_4.out) hb); have n2_ := Aside0.mk (below_step bA hb); clear HO_3; clear HO_4; clear HB; have HO_3 := n0_; have HO_4 := n1_; have HB := n2_; clear n0_ n1_ n2_; (try clear hb)))
     go_ret
     exact ⟨_, by first | rfl | (simp [errW_none, errW_some] <;> rfl) | (simp [*, errW_none, errW_some] <;> rfl), by (with_reducible repeat (first | apply Kd.N_alloc | apply Kd.N_drewN | apply Kd.N_drew)); exact Kd.N_mono HO_3.out (fun _ hk => hk.1), bA⟩
    ·
     replace c14 := Bool.eq_false_iff.mpr c14
     subst c14
     have H1 : (some (([] : List (S85)))) = some r := by rw [if_neg (show ¬ (false = true) by decide)] at H; exact H
     clear H
     have H := H1
     clear H1
     obtain ⟨y492, hy492⟩ : ∃ y_ : List (S85), y_ = (([] : List (S85))) := ⟨_, rfl⟩
     replace H : (some y492) = some r := rH H hy492
     have Ny492 := Aside0.mk hy492
     clear hy492
     obtain rfl := Option.some.inj H
     obtain ⟨Ao18, co18, eo18⟩ := Kd.N_slice HO_4.out
     subst eo18
     obtain ⟨Ao19, co19, eo19⟩ := Kd.N_slice HO_3.out
     subst eo19
     go_wp2_with (first | ((with_reducible refine gate_callee (f := 61) rfl ?_); refine gL (some 31) Try.func61 #[.slice A0 l0.length c0, .slice Ao19 x3_1.length co19] ?_; (with_reducible refine (spec_IsPlan.calls k1 _ _ l0 _ _ x3_1 false _ ?side1 ?side2 ?side3 ?side4 A13.out).mono ?_); (case side1 => exact cB HR0); (case side2 => exact HC0.out); (case side3 => repeat (first | exact (Kd.N_reads' HO_3.out).2.2 | (with_reducible refine Kd.C_alloc ?_ _) | (with_reducible refine Kd.C_drewN ?_ _) | (with_reducible refine Kd.C_drew ?_))); (case side4 => exact (Kd.N_reads' HO_3.out).2.1); rintro e w20 ⟨rfl, hb⟩; refine ⟨_, rfl, ?_⟩; have n0_ := Aside0.mk (Kd.N_below (by (with_reducible repeat (first | apply Kd.N_alloc | apply Kd.N_drewN | apply Kd.N_drew)); exact HO_3.out) hb); have n1_ := Aside0.mk (Kd.N_below (by (with_reducible repeat (first | apply Kd.N_alloc | apply Kd.N_drewN | apply Kd.N_drew)); exact HO_4.out) hb); have n2_ := Aside0.mk (below_step bA hb); clear HO_3; clear HO_4; clear HB; have HO_3 := n0_; have HO_4 := n1_; have HB := n2_; clear n0_ n1_ n2_; (try clear hb)) | ((with_reducible refine gate_dst (N := 33) rfl ?_); refine Kd.N_lit k85 _ 85 ?hg (N' := 33) ?hd (xs := ([] : List (S85))) (inner := []) (ok := (fun k_ => (w.heap.size ≤ k_) ∧ some k_ ≠ (.slice Ao19 x3_1.length co19 : Value).ownBlock ∧ some k_ ≠ (.slice Ao18 t482.length co18 : Value).ownBlock)) (okp := (fun k_ => (w.heap.size ≤ k_) ∧ some k_ ≠ (.slice Ao19 x3_1.length co19 : Value).ownBlock ∧ some k_ ≠ (.slice Ao18 t482.length co18 : Value).ownBlock)) ?hr ?hp (fun _ hk => hk) ((show ∀ k_, w20.heap.size ≤ k_ → (fun k_ => (w.heap.size ≤ k_) ∧ some k_ ≠ (.slice Ao19 x3_1.length co19 : Value).ownBlock ∧ some k_ ≠ (.slice Ao18 t482.length co18 : Value).ownBlock) k_ from fun k_ hk => ⟨(Nat.le_trans (below_size bA) hk), Kd.fresh' (Kd.N_lt (by (with_reducible repeat (first | apply Kd.N_alloc | apply Kd.N_drewN | apply Kd.N_drew)); exact HO_3.out)) k_ hk, Kd.fresh' (Kd.N_lt (by (with_reducible repeat (first | apply Kd.N_alloc | apply Kd.N_drewN | apply Kd.N_drew)); exact HO_4.out)) k_ hk⟩) _ (Nat.le_refl _)) (Below.refl _ _) (Nat.le_refl _) (by simp) ?_; (case hd => rfl); (case hg => rfl); (case hr => first | (go_simp; done) | (go_simp; rfl)); (case hp => exact (Reps.none _ _)); intro v493 w21 ho22 hb hg_ hnew_; clear hg_ hnew_; (first | rw [← Ny492.out] at ho22 | (simp only [Int.reduceToNat] at ho22; rw [← Ny492.out] at ho22)); have n0_ := Aside0.mk (Kd.N_elder' (by (with_reducible repeat (first | apply Kd.N_alloc | apply Kd.N_drewN | apply Kd.N_drew)); exact HO_3.out) (by first | exact Kd.N_base ho22 | exact Kd.N_base (Kd.S_N ho22)) hb); have n1_ := Aside0.mk (Kd.N_elder' (by (with_reducible repeat (first | apply Kd.N_alloc | apply Kd.N_drewN | apply Kd.N_drew)); exact HO_4.out) (by first | exact Kd.N_base ho22 | exact Kd.N_base (Kd.S_N ho22)) hb); have n2_ := Aside0.mk (Kd.N_lower ho22 (below_size bA)); have n3_ := Aside0.mk (below_step bA hb); clear HO_3; clear HO_4; clear HB; have HO_3 := n0_; have HO_4 := n1_; have HO494 := n2_; have HB := n3_; clear n0_ n1_ n2_ n3_; clear hb ho22))
     go_ret
     exact ⟨_, by first | rfl | (simp [errW_none, errW_some] <;> rfl) | (simp [*, errW_none, errW_some] <;> rfl), by (with_reducible repeat (first | apply Kd.N_alloc | apply Kd.N_drewN | apply Kd.N_drew)); exact Kd.N_mono HO494.out (fun _ hk => hk.1), bA⟩

/-! ### spec_l8Draw: function 124 -/
mutual
def spec_l8Draw.l0 : Nat → List (S50) → List (S85) → Int → List Int → Int → Int → Option ((List (S50)) × (List (S85)) × Int × Int)
 | 0, _, _, _, _, _, _ => none
 | k + 1, x4, x5, x6, x1000, x1001, x1002 => if x6 < 4 then (spec_l8Draw.j1 k x4 x5 x6 ((x5.length : Int) == 0) x1000 x1001 x1002) else (spec_l8Draw.j1 k x4 x5 x6 false x1000 x1001 x1002)
def spec_l8Draw.j1 : Nat → List (S50) → List (S85) → Int → Bool → List Int → Int → Int → Option ((List (S50)) × (List (S85)) × Int × Int)
 | 0, _, _, _, _, _, _, _ => none
 | k + 1, x4, x5, x6, x18, x1000, x1001, x1002 => if x18 = true then ((spec_l5Draw.f k x1000 x1001 x1002).bind fun bt503 => ((spec_PlanFor.f k bt503.1).bind fun t508 => (spec_l8Draw.l0 k bt503.1 t508 (wrap64 (x6 + 1)) x1000 bt503.2.1 bt503.2.2))) else (spec_l8Draw.l1 k x4 x5 0 x1000 x1001 x1002)
def spec_l8Draw.l1 : Nat → List (S50) → List (S85) → Int → List Int → Int → Int → Option ((List (S50)) × (List (S85)) × Int × Int)
 | 0, _, _, _, _, _, _ => none
 | k + 1, x4, x5, x7, x1000, x1001, x1002 => if x7 < (x5.length : Int) then (if 0 ≤ x7 then ((spec_l1Below.f x1000 x1001 x1002 12).bind fun bt512 => (spec_l8Draw.l1 k x4 (x5.set (x7 : Int).toNat (⟨(rd_T85 x5 x7).f0, wrap64 (((rd_T85 x5 x7).f1) + bt512.1)⟩ : S85)) (wrap64 (x7 + 1)) x1000 bt512.2.1 bt512.2.2)) else (none)) else (some (x4, x5, x1001, x1002))
end
def spec_l8Draw.f (k : Nat) (s0_0 : List Int) (s0_1 : Int) (s0_2 : Int) : Option ((List (S50)) × (List (S85)) × Int × Int) := (spec_l5Draw.f k s0_0 s0_1 s0_2).bind fun bt495 => ((spec_PlanFor.f k bt495.1).bind fun t500 => (spec_l8Draw.l0 k bt495.1 t500 0 s0_0 bt495.2.1 bt495.2.2))
theorem spec_l8Draw.mono_l : ∀ k, (∀ y0 y1 y2 y3 y4 y5, LeO (spec_l8Draw.l0 k y0 y1 y2 y3 y4 y5) (spec_l8Draw.l0 (k + 1) y0 y1 y2 y3 y4 y5)) ∧ (∀ y0 y1 y2 y3 y4 y5 y6, LeO (spec_l8Draw.j1 k y0 y1 y2 y3 y4 y5 y6) (spec_l8Draw.j1 (k + 1) y0 y1 y2 y3 y4 y5 y6)) ∧ (∀ y0 y1 y2 y3 y4 y5, LeO (spec_l8Draw.l1 k y0 y1 y2 y3 y4 y5) (spec_l8Draw.l1 (k + 1) y0 y1 y2 y3 y4 y5))
 | 0 => ⟨fun _ _ _ _ _ _ r h => by simp [spec_l8Draw.l0] at h, fun _ _ _ _ _ _ _ r h => by simp [spec_l8Draw.j1] at h, fun _ _ _ _ _ _ r h => by simp [spec_l8Draw.l1] at h⟩
 | k + 1 => by
  obtain ⟨ih0, ih1, ih2⟩ := spec_l8Draw.mono_l k
  refine ⟨?_, ?_, ?_⟩
  ·
   intro y0 y1 y2 y3 y4 y5
   unfold spec_l8Draw.l0
   repeat' first | (with_reducible first | exact LeO.refl _ | exact LeO.none _ | refine LeO.ite ?_ ?_ | refine LeO.bind ?_ (fun _ => ?_) | exact ih0 _ _ _ _ _ _ | exact ih1 _ _ _ _ _ _ _ | exact ih2 _ _ _ _ _ _ | exact spec_PlanFor.mono _ _ | exact spec_l5Draw.mono _ _ _ _)
  ·
   intro y0 y1 y2 y3 y4 y5 y6
   unfold spec_l8Draw.j1
   repeat' first | (with_reducible first | exact LeO.refl _ | exact LeO.none _ | refine LeO.ite ?_ ?_ | refine LeO.bind ?_ (fun _ => ?_) | exact ih0 _ _ _ _ _ _ | exact ih1 _ _ _ _ _ _ _ | exact ih2 _ _ _ _ _ _ | exact spec_PlanFor.mono _ _ | exact spec_l5Draw.mono _ _ _ _)
  ·
   intro y0 y1 y2 y3 y4 y5
   unfold spec_l8Draw.l1
   repeat' first | (with_reducible first | exact LeO.refl _ | exact LeO.none _ | refine LeO.ite ?_ ?_ | refine LeO.bind ?_ (fun _ => ?_) | exact ih0 _ _ _ _ _ _ | exact ih1 _ _ _ _ _ _ _ | exact ih2 _ _ _ _ _ _ | exact spec_PlanFor.mono _ _ | exact spec_l5Draw.mono _ _ _ _)
theorem spec_l8Draw.mono : ∀ a0 a1 a2 k, LeO (spec_l8Draw.f k a0 a1 a2) (spec_l8Draw.f (k + 1) a0 a1 a2) := by
 intro a0 a1 a2 k
 obtain ⟨ih0, ih1, ih2⟩ := spec_l8Draw.mono_l k
 unfold spec_l8Draw.f
 repeat' first | (with_reducible first | exact LeO.refl _ | exact LeO.none _ | refine LeO.ite ?_ ?_ | refine LeO.bind ?_ (fun _ => ?_) | exact ih0 _ _ _ _ _ _ | exact ih1 _ _ _ _ _ _ _ | exact ih2 _ _ _ _ _ _ | exact spec_PlanFor.mono _ _ | exact spec_l5Draw.mono _ _ _ _)
def spec_l8Draw.T11 : Bool × List (List Nat × List Nat) := (true, [([], []), ([], []), ([], []), ([], []), ([2, 3], [2, 3]), ([4], [4]), ([5], [5]), ([], []), ([7], [7]), ([6, 8], [6, 8]), ([0, 1, 0, 1, 2, 3, 4, 5, 6, 7, 8, 9], [0, 1]), ([10, 0, 1, 2, 3, 4, 5, 6, 7, 8, 9], [10]), ([11, 9, 8, 0, 1, 2, 3, 4, 5, 6, 7, 8, 9], [9, 11])])
def spec_l8Draw.B11 : List Nat := [0, 0, 0, 0, 12, 28, 60, 0, 128, 508, 1023, 2047, 4095]
theorem spec_l8Draw.tab11 : rtab .any (opsOf Try.f124 11) = spec_l8Draw.T11 := by kernel_rfl
theorem spec_l8Draw.bits11 : waitsOk spec_l8Draw.T11.2 spec_l8Draw.B11 = true := by kernel_rfl
set_option maxHeartbeats 8000000 in
set_option maxRecDepth 100000 in
theorem spec_l8Draw.calls (k : Nat) (g : Nat) (s0_0 : List Int) (s0_1 : Int) (s0_2 : Int) (r1 : List (S50)) (r2 : List (S85)) (r3 : Int) (r4 : Int) (w0 w : World) (hI : IsS138 w0 w g s0_0 s0_1 s0_2) (hB : Below w0.heap.size w0 w) (h : spec_l8Draw.f k s0_0 s0_1 s0_2 = some (r1, r2, r3, r4)) :
  Calls Try.prog 124 #[.pointer (some ⟨g, 0, none⟩)] w fun e w' => ∃ v0_ v1_ : Value, e = .returned (.tuple #[v0_, v1_]) ∧ Kd.R k50 50 w' w.heap.size (fun k_ => (w.heap.size ≤ k_)) v0_ r1 ∧ Kd.N k85 85 w' w.heap.size (fun k_ => (w.heap.size ≤ k_) ∧ some k_ ≠ (v0_ : Value).ownBlock) v1_ r2 ∧ IsS138 w0 w' g s0_0 r3 r4 ∧ Below w0.heap.size w0 w' ∧ KeepBut w w' g none := by
 have HI0 := Aside0.mk hI
 have HK := Aside0.mk (KeepBut.refl w g none)
 have HL := Aside0.mk hB.size
 clear hI
 have HW0 := Aside0.mk hB.size
 have HB := Aside0.mk hB
 clear hB
 have H : ((spec_l5Draw.f k s0_0 s0_1 s0_2).bind fun bt495 => ((spec_PlanFor.f k bt495.1).bind fun t500 => (spec_l8Draw.l0 k bt495.1 t500 0 s0_0 bt495.2.1 bt495.2.2))) = some (r1, r2, r3, r4) := h
 clear h
 obtain ⟨⟨t495, t498, t499⟩, A2, H⟩ := bindE H
 try dsimp only at H
 obtain ⟨t500, A3, H⟩ := bindE H
 try dsimp only at H
 have H' := Aside0.mk H
 clear H
 go_enter Try.func124, Try.ntmps124
 go_wp2_with (first | ((with_reducible refine gate_callee (f := 150) rfl ?_); refine gL (some 9) Try.func150 #[.pointer (some ⟨g, 0, none⟩)] ?_; (with_reducible refine (spec_l5Draw.calls k g s0_0 s0_1 s0_2 t495 t498 t499 w0 _ ?side1 ?side2 A2.out).mono ?_); (case side1 => exact sI1380 HI0.out); (case side2 => exact sB1 HB.out (IsS138.ge HI0.out)); rintro e w4 ⟨v496, rfl, ho0, hi, hb, hk⟩; refine ⟨_, rfl, ?_⟩; have n0_ := Aside0.mk (Kd.R_lower (Kd.R_newM (M := fun k_ => (w.heap.size ≤ k_)) ho0 (keep_size (w := w) (g := g) (row := none) (by exact sK0 HK.out)) (fun k_ h_ => h_)) (keep_size (w := w) (g := g) (row := none) (by exact sK0 HK.out))); have n1_ := Aside0.mk (KeepBut.trans (by exact sK0 HK.out) hk (.inl rfl)); have n2_ := Aside0.mk (hb); have n3_ := Aside0.mk (hi); clear HK; clear HB; clear HI0; have HO497 := n0_; have HK := n1_; have HB := n2_; have HI0 := n3_; clear n0_ n1_ n2_ n3_; (try clear hb); (try clear hk); (try clear hi); (try clear ho0); obtain ⟨Ao5, co5, eo5⟩ := Kd.R_slice HO497.out; subst eo5) | ((with_reducible refine gate_callee (f := 151) rfl ?_); refine gL (some 11) Try.func151 #[.slice Ao5 t495.length co5] ?_; (with_reducible refine (spec_PlanFor.calls k _ _ t495 t500 _ ?side1 ?side2 A3.out).mono ?_); (case side1 => exact cO ⟨(Kd.R_reads' HO497.out).2.2⟩); (case side2 => exact (Kd.R_reads' HO497.out).2.1); rintro e w6 ⟨v501, rfl, ho0, hb⟩; refine ⟨_, rfl, ?_⟩; have HO502 := Aside0.mk (Kd.N_lower (Kd.N_mono (ok' := fun k_ => (w.heap.size ≤ k_) ∧ some k_ ≠ (.slice Ao5 t495.length co5 : Value).ownBlock ∧ k_ ≠ g) ho0 (fun k_ hk_ => ⟨(Nat.le_trans (keep_size (w := w) (g := g) (row := none) (by exact sK0 HK.out)) hk_), (Kd.fresh' (Kd.R_lt (rK HO497)) k_ hk_), (IsS138.fresh (by exact sI1380 HI0.out) k_ hk_)⟩)) (keep_size (w := w) (g := g) (row := none) (by exact sK0 HK.out))); replace HO497 := Aside0.mk (Kd.R_below (rK HO497) hb); replace HK := Aside0.mk (KeepBut.trans (by exact sK0 HK.out) (KeepBut.of_below hb g none) (.inl rfl)); replace HB := Aside0.mk (below_step (by exact sB1 HB.out (IsS138.ge HI0.out)) hb); replace HI0 := Aside0.mk (IsS138.below (by exact sI1380 HI0.out) hb); (try clear hb); (try clear ho0)))
 go_loopg [4, 5, 6] k (fun kq v4 v5 v6 w' => ∃ (x4_1 : List (S50)) (x5_1 : List (S85)) (x6_1 : Int) (x1001_1 : Int) (x1002_1 : Int), v6 = .int .i64 x6_1 ∧ Aside0 (spec_l8Draw.l0 kq x4_1 x5_1 x6_1 s0_0 x1001_1 x1002_1 = some (r1, r2, r3, r4)) ∧ Aside0 (kq ≤ k) ∧ Aside0 (Kd.R k50 50 w' w.heap.size (fun k_ => (w.heap.size ≤ k_)) v4 x4_1) ∧ Aside0 (Kd.N k85 85 w' w.heap.size (fun k_ => (w.heap.size ≤ k_) ∧ some k_ ≠ (v4 : Value).ownBlock ∧ k_ ≠ g) v5 x5_1) ∧ Aside0 (IsS138 w0 w' g s0_0 x1001_1 x1002_1) ∧ Aside0 (KeepBut w w' g none) ∧ Aside0 (Below w0.heap.size w0 w'))
 case atStart => exact ⟨(t495), (t500), (0), (t498), (t499), rS, H', ⟨Nat.le_refl _⟩, ⟨by (with_reducible repeat (first | apply Kd.R_alloc | apply Kd.R_drewN | apply Kd.R_drew)); exact Kd.R_mono HO497.out (fun _ hk => hk.1)⟩, ⟨by (with_reducible repeat (first | apply Kd.N_alloc | apply Kd.N_drewN | apply Kd.N_drew)); exact HO502.out⟩, ⟨by exact sI1380 HI0.out⟩, ⟨by exact sK0 HK.out⟩, ⟨by exact sB1 HB.out (IsS138.ge HI0.out)⟩⟩
 case round =>
  clear H'
  try clear c1
  try clear p2
  obtain ⟨x4_1, x5_1, x6_1, x1001_1, x1002_1, rfl, HA, HK1, HO_4, HO_5, HI0, HK, HB⟩ := hrel
  cases gk with
  | zero => exact absurd HA.out (by simp [spec_l8Draw.l0])
  | succ k1 =>
   have H := HA.out
   clear HA
   simp only [spec_l8Draw.l0] at H
   have HC7 := Aside0.mk H
   clear H
   go_upto_region 4 with (fail)
   go_cut [18] (fun v18 wc => ∃ (kq : Nat) (x18_6 : Bool), v18 = .bool x18_6 ∧ Aside0 (spec_l8Draw.j1 kq x4_1 x5_1 x6_1 x18_6 s0_0 x1001_1 x1002_1 = some (r1, r2, r3, r4)) ∧ Aside0 (kq ≤ k1) ∧ Aside0 (Kd.R k50 50 wc w.heap.size (fun k_ => (w.heap.size ≤ k_)) u4 x4_1) ∧ Aside0 (Kd.N k85 85 wc w.heap.size (fun k_ => (w.heap.size ≤ k_) ∧ some k_ ≠ (u4 : Value).ownBlock ∧ k_ ≠ g) u5 x5_1) ∧ Aside0 (IsS138 w0 wc g s0_0 x1001_1 x1002_1) ∧ Aside0 (KeepBut w wc g none) ∧ Aside0 (Below w0.heap.size w0 wc))
   case first =>
    have H := HC7.out
    clear HC7
    by_cases c8 : x6_1 < 4
    ·
     rw [if_pos c8] at H
     have c8b0 := decide_eq_true c8
     clear c8
     (first | rw [c8b0] | (simp only [i64_w, i32_w]; rw [c8b0]) | skip)
     have H' := Aside0.mk H
     clear H
     obtain ⟨Ao9, co9, eo9⟩ := Kd.N_slice HO_5.out
     subst eo9
     go_wp2
     go_meet
     case rel => exact ⟨_, (((x5_1.length : Int) == 0)), rS, H', ⟨by have := HK1.out; first | omega | exact Nat.le_refl _⟩, ⟨rK HO_4⟩, ⟨by (with_reducible repeat (first | apply Kd.N_alloc | apply Kd.N_drewN | apply Kd.N_drew)); exact HO_5.out⟩, ⟨by exact sI1380 HI0.out⟩, ⟨by exact sK0 HK.out⟩, ⟨by exact sB1 HB.out (IsS138.ge HI0.out)⟩⟩
    ·
     rw [if_neg c8] at H
     have c8b0 := decide_eq_false c8
     clear c8
     (first | rw [c8b0] | (simp only [i64_w, i32_w]; rw [c8b0]) | skip)
     have H' := Aside0.mk H
     clear H
     go_wp2
     go_meet
     case rel => exact ⟨_, (false), rS, H', ⟨by have := HK1.out; first | omega | exact Nat.le_refl _⟩, ⟨rK HO_4⟩, ⟨by (with_reducible repeat (first | apply Kd.N_alloc | apply Kd.N_drewN | apply Kd.N_drew)); exact HO_5.out⟩, ⟨by exact sI1380 HI0.out⟩, ⟨by exact sK0 HK.out⟩, ⟨by exact sB1 HB.out (IsS138.ge HI0.out)⟩⟩
   case rest =>
    clear HC7
    try clear c1
    try clear p2
    try clear c8
    try clear c8b0
    try clear p2
    obtain ⟨kq, x18_6, rfl, HA, HJ6, HO_4, HO_5, HI0, HK, HB⟩ := hcut
    cases kq with
    | zero => exact absurd HA.out (by simp [spec_l8Draw.j1])
    | succ kj6 =>
     have H := HA.out
     clear HA
     simp only [spec_l8Draw.j1] at H
     by_cases c10 : x18_6 = true
     ·
      subst c10
      have H1 : ((spec_l5Draw.f kj6 s0_0 x1001_1 x1002_1).bind fun bt503 => ((spec_PlanFor.f kj6 bt503.1).bind fun t508 => (spec_l8Draw.l0 kj6 bt503.1 t508 (wrap64 (x6_1 + 1)) s0_0 bt503.2.1 bt503.2.2))) = some (r1, r2, r3, r4) := by rw [if_pos rfl] at H; exact H
      clear H
      have H := H1
      clear H1
      obtain ⟨⟨t503, t506, t507⟩, A11, H⟩ := bindE H
      try dsimp only at H
      obtain ⟨t508, A12, H⟩ := bindE H
      try dsimp only at H
      have H' := Aside0.mk H
      clear H
      go_wp2_with (first | ((with_reducible refine gate_callee (f := 150) rfl ?_); refine gL (some 22) Try.func150 #[.pointer (some ⟨g, 0, none⟩)] ?_; (with_reducible refine (spec_l5Draw.calls kj6 g s0_0 x1001_1 x1002_1 t503 t506 t507 w0 _ ?side1 ?side2 A11.out).mono ?_); (case side1 => exact sI1380 HI0.out); (case side2 => exact sB1 HB.out (IsS138.ge HI0.out)); rintro e w13 ⟨v504, rfl, ho0, hi, hb, hk⟩; refine ⟨_, rfl, ?_⟩; have n0_ := Aside0.mk (Kd.R_mono (Kd.R_told (Kd.R_oldK (IsS138.apart (show IsS138 w0 _ g s0_0 x1001_1 x1002_1 from by exact sI1380 HI0.out) (rK HO_4) (by decide)) hk) (Kd.R_base ho0)) (fun _ h_ => h_.1)); have n1_ := Aside0.mk (Kd.N_mono (Kd.N_told (Kd.N_oldK (Kd.N_mono (ok := fun k_ => (((w.heap.size ≤ k_)) ∧ (some k_ ≠ (u4 : Value).ownBlock ∧ k_ ≠ g))) (by (with_reducible repeat (first | apply Kd.N_alloc | apply Kd.N_drewN | apply Kd.N_drew)); exact HO_5.out) (fun k_ hk_ => (⟨hk_, hk_.2.2⟩ : _ ∧ k_ ≠ g))) hk) (Kd.R_base ho0)) (fun _ h_ => h_.1)); have n2_ := Aside0.mk (Kd.R_lower (Kd.R_new' (Kd.R_newM (M := fun k_ => (w.heap.size ≤ k_)) ho0 (keep_size (w := w) (g := g) (row := none) (by exact sK0 HK.out)) (fun k_ h_ => h_)) (Kd.R_lt (rK HO_4))) (keep_size (w := w) (g := g) (row := none) (by exact sK0 HK.out))); have n3_ := Aside0.mk (KeepBut.trans (by exact sK0 HK.out) hk (.inl rfl)); have n4_ := Aside0.mk (hb); have n5_ := Aside0.mk (hi); clear HO_4; clear HO_5; clear HK; clear HB; clear HI0; have HO_4 := n0_; have HO_5 := n1_; have HO505 := n2_; have HK := n3_; have HB := n4_; have HI0 := n5_; clear n0_ n1_ n2_ n3_ n4_ n5_; (try clear hb); (try clear hk); (try clear hi); (try clear ho0); obtain ⟨Ao14, co14, eo14⟩ := Kd.R_slice HO505.out; subst eo14) | ((with_reducible refine gate_callee (f := 151) rfl ?_); refine gL (some 24) Try.func151 #[.slice Ao14 t503.length co14] ?_; (with_reducible refine (spec_PlanFor.calls kj6 _ _ t503 t508 _ ?side1 ?side2 A12.out).mono ?_); (case side1 => exact cO ⟨(Kd.R_reads' HO505.out).2.2⟩); (case side2 => exact (Kd.R_reads' HO505.out).2.1); rintro e w15 ⟨v509, rfl, ho0, hb⟩; refine ⟨_, rfl, ?_⟩; have n0_ := Aside0.mk (Kd.R_below (rK HO_4) hb); have n1_ := Aside0.mk (Kd.N_elder' (by (with_reducible repeat (first | apply Kd.N_alloc | apply Kd.N_drewN | apply Kd.N_drew)); exact HO_5.out) (by first | exact Kd.N_base ho0 | exact Kd.N_base (Kd.S_N ho0)) hb); have n2_ := Aside0.mk (Kd.R_below (rK HO505) hb); have n3_ := Aside0.mk (Kd.N_lower (Kd.N_mono (ok' := fun k_ => (w.heap.size ≤ k_) ∧ some k_ ≠ (u4 : Value).ownBlock ∧ some k_ ≠ (u5 : Value).ownBlock ∧ some k_ ≠ (.slice Ao14 t503.length co14 : Value).ownBlock ∧ k_ ≠ g) ho0 (fun k_ hk_ => ⟨(Nat.le_trans (keep_size (w := w) (g := g) (row := none) (by exact sK0 HK.out)) hk_), (Kd.fresh' (Kd.R_lt (rK HO_4)) k_ hk_), (Kd.fresh' (Kd.N_lt (by (with_reducible repeat (first | apply Kd.N_alloc | apply Kd.N_drewN | apply Kd.N_drew)); exact HO_5.out)) k_ hk_), (Kd.fresh' (Kd.R_lt (rK HO505)) k_ hk_), (IsS138.fresh (by exact sI1380 HI0.out) k_ hk_)⟩)) (keep_size (w := w) (g := g) (row := none) (by exact sK0 HK.out))); have n4_ := Aside0.mk (IsS138.below (by exact sI1380 HI0.out) hb); have n5_ := Aside0.mk (KeepBut.trans (by exact sK0 HK.out) (KeepBut.of_below hb g none) (.inl rfl)); have n6_ := Aside0.mk (below_step (by exact sB1 HB.out (IsS138.ge HI0.out)) hb); clear HO_4; clear HO_5; clear HO505; clear HI0; clear HK; clear HB; have HO_4 := n0_; have HO_5 := n1_; have HO505 := n2_; have HO510 := n3_; have HI0 := n4_; have HK := n5_; have HB := n6_; clear n0_ n1_ n2_ n3_ n4_ n5_ n6_; (try clear hb); (try clear ho0)))
      go_roundg kj6
      case measure => have := HK1.out; have := HJ6.out; omega
      case rel => exact ⟨(t503), (t508), (wrap64 (x6_1 + 1)), (t506), (t507), rS, H', ⟨by have := HK1.out; have := HJ6.out; omega⟩, ⟨by (with_reducible repeat (first | apply Kd.R_alloc | apply Kd.R_drewN | apply Kd.R_drew)); exact Kd.R_mono HO505.out (fun _ hk => hk.1.1)⟩, ⟨by (with_reducible repeat (first | apply Kd.N_alloc | apply Kd.N_drewN | apply Kd.N_drew)); exact Kd.N_mono HO510.out (fun _ hk => ⟨hk.1, ⟨hk.2.2.2.1, hk.2.2.2.2⟩⟩)⟩, ⟨by exact sI1380 HI0.out⟩, ⟨by exact sK0 HK.out⟩, ⟨by exact sB1 HB.out (IsS138.ge HI0.out)⟩⟩
     ·
      replace c10 := Bool.eq_false_iff.mpr c10
      subst c10
      have H1 : (spec_l8Draw.l1 kj6 x4_1 x5_1 0 s0_0 x1001_1 x1002_1) = some (r1, r2, r3, r4) := by rw [if_neg (show ¬ (false = true) by decide)] at H; exact H
      clear H
      have H := H1
      clear H1
      have H' := Aside0.mk H
      clear H
      go_wp2
      go_loopg [7] kj6 (fun kq v7 w' => ∃ (x5_3 : List (S85)) (x7_3 : Int) (x1001_3 : Int) (x1002_3 : Int), v7 = .int .i64 x7_3 ∧ Aside0 (spec_l8Draw.l1 kq x4_1 x5_3 x7_3 s0_0 x1001_3 x1002_3 = some (r1, r2, r3, r4)) ∧ Aside0 (kq ≤ kj6) ∧ Aside0 (Kd.R k50 50 w' w.heap.size (fun k_ => (w.heap.size ≤ k_)) u4 x4_1) ∧ Aside0 (Kd.N k85 85 w' w.heap.size (fun k_ => (w.heap.size ≤ k_) ∧ some k_ ≠ (u4 : Value).ownBlock ∧ k_ ≠ g) u5 x5_3) ∧ Aside0 (IsS138 w0 w' g s0_0 x1001_3 x1002_3) ∧ Aside0 (KeepBut w w' g none) ∧ Aside0 (Below w0.heap.size w0 w'))
      case atStart => exact ⟨(x5_1), (0), (x1001_1), (x1002_1), rS, H', ⟨Nat.le_refl _⟩, ⟨rK HO_4⟩, ⟨by (with_reducible repeat (first | apply Kd.N_alloc | apply Kd.N_drewN | apply Kd.N_drew)); exact HO_5.out⟩, ⟨by exact sI1380 HI0.out⟩, ⟨by exact sK0 HK.out⟩, ⟨by exact sB1 HB.out (IsS138.ge HI0.out)⟩⟩
      case round =>
       clear H'
       try clear c1
       try clear p2
       try clear p6
       try clear c8
       try clear c8b0
       try clear c10
       try clear c12
       try clear c15
       try clear p2
       obtain ⟨x5_3, x7_3, x1001_3, x1002_3, rfl, HA, HK3, HO_4, HO_5, HI0, HK, HB⟩ := hrel
       cases gk with
       | zero => exact absurd HA.out (by simp [spec_l8Draw.l1])
       | succ k3 =>
        have H := HA.out
        clear HA
        simp only [spec_l8Draw.l1] at H
        by_cases c16 : x7_3 < (x5_3.length : Int)
        ·
         rw [if_pos c16] at H
         have c16b0 := decide_eq_true c16
         clear c16
         have c17 : 0 ≤ x7_3 := ifN H
         replace H := ifT H
         have c17b0 := decide_eq_true c17
         clear c17
         obtain ⟨⟨t512, t513, t514⟩, A18, H⟩ := bindE H
         try dsimp only at H
         obtain ⟨y515, hy515⟩ : ∃ y_ : List (S85), y_ = (x5_3.set (x7_3 : Int).toNat (⟨(rd_T85 x5_3 x7_3).f0, wrap64 (((rd_T85 x5_3 x7_3).f1) + t512)⟩ : S85)) := ⟨_, rfl⟩
         replace H : (spec_l8Draw.l1 k3 x4_1 y515 (wrap64 (x7_3 + 1)) s0_0 t513 t514) = some (r1, r2, r3, r4) := rH H hy515
         have Ny515 := Aside0.mk hy515
         clear hy515
         have H' := Aside0.mk H
         clear H
         obtain ⟨Ao20, co20, eo20⟩ := Kd.N_slice HO_5.out
         subst eo20
         try go_wp2
         replace HO_4 := Aside0.mk (Kd.R_drew HO_4.out)
         replace HO_5 := Aside0.mk (Kd.N_drew HO_5.out)
         replace HI0 := Aside0.mk (IsS138.drew HI0.out)
         replace HK := Aside0.mk (keep_drew HK.out)
         have HBo := HB
         replace HB := Aside0.mk (below_drew1 HB.out)
         have p511 : 0 ≤ (x7_3 : Int) := dA
         have q511 : x7_3 < (x5_3.length : Int) := dA
         obtain ⟨ad511, A511_0, c511_0, e511, hx511_0, hx511_1, hl511_0, hi511_0⟩ := at_T85 (Kd.N_reads' HO_5.out).2.2 x7_3 p511 q511
         cases e511
         obtain ⟨ce511, hce511, hMe511, hcc511⟩ := Kd.N_get HO_5.out z85 x7_3 p511 (by first | exact q511 | exact dA | (have e_ := (Kd.N_reads' HO_5.out).1; omega))
         obtain ⟨ua511_0, uc511_0, rfl, ul511_0, ge511_0⟩ := k85_openF hMe511
         have hv511_0 := hcc511 0 _ rfl
         rw [Nat.add_zero] at hv511_0
         replace hv511_0 := Option.some.inj (hv511_0.symm.trans hx511_0)
         injection hv511_0 with hva_ hvn_ hvc_
         rw [hva_] at ge511_0
         rw [hvc_] at ul511_0
         have HL511_0 := Aside0.mk (show Kd.V (Kd.int .i64) 3 _ w.heap.size _ _ ((rd_T85 x5_3 x7_3).f0) from Kd.V_mk ul511_0 ge511_0)
         clear hva_ hvn_ hvc_ ge511_0 ul511_0
         clear hcc511 hce511
         have HR511_0 := Aside0.mk hi511_0
         have HC511_0 := Aside0.mk hl511_0
         clear hi511_0 hl511_0
         replace p511 := eq_true p511
         replace q511 := eq_true q511
         refine start_ (n := 13) (S := fun w' => w'.cell? (ad511.add ((x7_3).toNat * 2)) = some (.slice A511_0 ((rd_T85 x5_3 x7_3).f0).length c511_0) ∧ w'.cell? ⟨(ad511.add ((x7_3).toNat * 2)).block, (ad511.add ((x7_3).toNat * 2)).off + 1, none⟩ = some (.int .i64 ((rd_T85 x5_3 x7_3).f1))) (ds := [12]) (mb 13 0) (by kernel_rfl) rfl rfl ⟨hx511_0, hx511_1⟩ (fun hHeld => ?_); refine with_tabW spec_l8Draw.tab11 spec_l8Draw.bits11 (fun HT_ HW_ => ?_)
         generalize wr.drew = w21 at HO_4 HO_5 HI0 HK HB HL511_0 HR511_0 hx511_0 hx511_1 hHeld ⊢
         refine pa 0 31 (mb 13 1) HT_ ?_
         refine pa 1 32 (mb 13 3) HT_ ?_
         refine pa 2 33 (mb 13 7) HT_ ?_
         refine pa 3 34 (mb 13 15) HT_ ?_
         refine pa 4 35 (mb 13 31) HT_ ?_
         refine pa 5 36 (mb 13 63) HT_ ?_
         refine pa 7 38 (mb 13 191) HT_ ?_
         refine ta2 6 37 (mb 13 255) HT_ HW_ hHeld ?_
         refine oa 8 39 (mb 13 511) HT_ (fun K hK => ?_)
         refine gA Try.func84 #[.pointer (some ⟨g, 0, none⟩), .int .i64 12] ?_
         with_reducible refine (spec_l1Below.calls g s0_0 x1001_3 x1002_3 12 t512 t513 t514 w0 _ ?side1 ?side2 A18.out).mono ?_
         (case side1 => exact sI1380 HI0.out)
         (case side2 => exact sB1 HB.out (IsS138.ge HI0.out))
         rintro e w22 ⟨rfl, hi, hb, hk⟩
         have HS0_ := keep_cell hk (hHeld.1) (by first | (rw [add_block]; exact Kd.own_blk (IsS138.own_neN HI0.out HO_5.out (by decide))) | (show (Addr.add _ _).block ≠ _; rw [add_block]; exact Kd.own_blk (IsS138.own_neN HI0.out HO_5.out (by decide))) | exact Kd.own_blk (IsS138.own_neN HI0.out HO_5.out (by decide)))
         have HS1_ := keep_cell hk (hHeld.2) (by first | (rw [add_block]; exact Kd.own_blk (IsS138.own_neN HI0.out HO_5.out (by decide))) | (show (Addr.add _ _).block ≠ _; rw [add_block]; exact Kd.own_blk (IsS138.own_neN HI0.out HO_5.out (by decide))) | exact Kd.own_blk (IsS138.own_neN HI0.out HO_5.out (by decide)))
         refine ⟨_, rfl, ?_⟩
         replace HO_4 := Aside0.mk (Kd.R_mono (Kd.R_keep (IsS138.apart (show IsS138 w0 _ g s0_0 x1001_3 x1002_3 from by exact sI1380 HI0.out) (rK HO_4) (by decide)) hk (fun _ h => h.2)) (fun _ h => h.1))
         replace HO_5 := Aside0.mk (Kd.N_mono (Kd.N_keep (Kd.N_mono (ok := fun k_ => (((w.heap.size ≤ k_)) ∧ (some k_ ≠ (u4 : Value).ownBlock ∧ k_ ≠ g))) (by (with_reducible repeat (first | apply Kd.N_alloc | apply Kd.N_drewN | apply Kd.N_drew)); exact HO_5.out) (fun k_ hk_ => (⟨hk_, hk_.2.2⟩ : _ ∧ k_ ≠ g))) hk (fun _ h => h.2)) (fun _ h => h.1))
         replace HL511_0 := Aside0.mk (Kd.V_mono (Kd.V_keep (Kd.V_mono (ok := fun k_ => ((((w.heap.size ≤ k_)) ∧ (some k_ ≠ (u4 : Value).ownBlock ∧ k_ ≠ g)) ∧ some k_ ≠ (.slice (some ad511) x5_3.length co20 : Value).ownBlock)) (by (with_reducible repeat (first | apply Kd.V_alloc | apply Kd.V_drewN | apply Kd.V_drew)); exact HL511_0.out) (fun k_ hk_ => (⟨hk_, hk_.1.2.2⟩ : _ ∧ k_ ≠ g))) hk (fun _ h => h.2)) (fun _ h => h.1))
         replace HK := Aside0.mk (KeepBut.trans (by exact sK0 HK.out) hk (.inl rfl))
         replace HB := Aside0.mk (hb)
         replace HI0 := Aside0.mk (hi)
         (try clear hb)
         (try clear hb2)
         (try clear hk)
         (try clear hi)
         have p19 : 0 ≤ (x7_3 : Int) := dA
         have q19 : (x7_3 : Int) < ((x5_3.length : Int) : Int) := dA
         obtain ⟨go19, co19, eo19, gb19, gl19, cl19, HG19⟩ := Kd.N_form HO_5.out (by omega)
         (first | cases eo19 | (injection eo19 with ea_ en_ ec_; (first | subst ea_ | (injection ea_ with ea_; subst ea_)); subst ec_; clear en_))
         have GB19 := Aside0.mk gb19
         have GG19 := Aside0.mk HG19
         clear gb19 gl19 HG19
         (first | simp only [add_plain] at hx511_0 | skip)
         (first | simp only [add_plain] at hx511_1 | skip)
         obtain ⟨ce19, hcl19, hM19, hcc19, hfr19⟩ := Kd.N_elem HO_5.out z85 (x7_3 : Int) p19 q19
         obtain ⟨ua19_0, uc19_0, rfl, ul19_0, ge19_0⟩ := k85_openF hM19
         have hx19_0 : World.cell? _ ⟨go19, (x7_3 : Int).toNat * 2, none⟩ = some (.slice ua19_0 ((rd_T85 x5_3 x7_3).f0).length uc19_0) := hcc19 0 _ rfl
         have hx19_1 : World.cell? _ ⟨go19, (x7_3 : Int).toNat * 2 + 1, none⟩ = some (.int .i64 ((rd_T85 x5_3 x7_3).f1)) := hcc19 1 _ rfl
         have hf19_0 : World.frozen? _ ⟨go19, (x7_3 : Int).toNat * 2, none⟩ = false := hfr19 0
         have hf19_1 : World.frozen? _ ⟨go19, (x7_3 : Int).toNat * 2 + 1, none⟩ = false := hfr19 1
         clear hcl19 hcc19 hfr19 hM19
         replace p19 := eq_true p19
         replace q19 := eq_true q19
         have HN0_go19 := Aside0.mk (show g ≠ go19 from by have h_ := IsS138.own_neN HI0.out HO_5.out (by decide); intro e_; exact h_ (by rw [e_]; rfl))
         have HX23 := Aside0.mk (show Kd.N k85 85 _ w.heap.size (fun k_ => (w.heap.size ≤ k_) ∧ some k_ ≠ (u4 : Value).ownBlock ∧ k_ ≠ g) (.slice (some ⟨go19, 0, none⟩) x5_3.length co20) x5_3 from (Kd.N_mono (HO_5.out) (fun k_ hk => ⟨hk.1, ⟨hk.2.1, hk.2.2⟩⟩)))
         obtain ⟨ce23, hcl23, hM23, hcc23, hfr23⟩ := Kd.N_elem HX23.out z85 (x7_3 : Int) (dA) (by have h_ : (x7_3 : Int) < ((x5_3.length : Int) : Int) := dA; first | exact h_ | (have e_ := (Kd.N_reads' HO_5.out).1; omega) | simpa using h_)
         obtain ⟨ua23_0, uc23_0, rfl, ul23_0, ge23_0⟩ := k85_openF hM23
         have HP23 := (Kd.N_seg HX23.out (x7_3 : Int) (dA) (by have h_ : (x7_3 : Int) < ((x5_3.length : Int) : Int) := dA; first | exact h_ | (have e_ := (Kd.N_reads' HO_5.out).1; omega) | simpa using h_) (seg := [.int .i64 (wrap64 (((rd_T85 x5_3 x7_3).f1) + t512))]) (j := 1) hcl23 hcc23 (show 2 ≤ 2 from by decide) (x' := (⟨(rd_T85 x5_3 x7_3).f0, wrap64 (((rd_T85 x5_3 x7_3).f1) + t512)⟩ : S85)) (k85_mkF _ _ (⟨(rd_T85 x5_3 x7_3).f0, wrap64 (((rd_T85 x5_3 x7_3).f1) + t512)⟩ : S85) ul23_0 ge23_0) (fun _ hk => hk)).1
         rw [← Ny515.out] at HP23
         have HQ23 := Aside0.mk HP23
         clear hcl23 hcc23 hfr23 hM23 HP23
         refine hK.out _ _ ⟨HS0_, HS1_⟩ (fun hHeld => ?_)
         clear hK K
         refine nB ?_
         refine pa 9 40 (mb 13 1023) HT_ ?_
         refine pa 10 41 (mb 13 2047) HT_ ?_
         refine pa 11 42 (mb 13 4095) HT_ ?_
         refine last_ (i := 12) (N := none) (mb 13 8191) rfl rfl (one_of HT_.out (by kernel_rfl)) (by decide) (fun K hK => ?_)
         refine skip_ (w1 := ?_) (by rfl) rfl ?_ ?_
         rotate_left
         ·
          go_simp
          rfl
         refine hK.out _ _ ?_
         clear hK K
         refine eA HT_ ?_
         try go_wp2
         go_roundg k3
         case measure => have := HK1.out; have := HJ6.out; have := HK3.out; omega
         case rel => exact ⟨(y515), (wrap64 (x7_3 + 1)), (t513), (t514), rS, H', ⟨by have := HK1.out; have := HJ6.out; have := HK3.out; omega⟩, ⟨by (with_reducible repeat (first | apply Kd.R_alloc | apply Kd.R_drewN | apply Kd.R_drew)); exact Kd.R_mono (Kd.R_far (p := ⟨go19, (x7_3 : Int).toNat * 2 + 1, none⟩) (Kd.R_types HO_4.out GG19.out (by decide)) (fun _ hk => hk.2) (.int .i64 (wrap64 (((rd_T85 x5_3 x7_3).f1) + t512)))) (fun _ hk => hk.1)⟩, ⟨by (with_reducible repeat (first | apply Kd.N_alloc | apply Kd.N_drewN | apply Kd.N_drew)); exact HQ23.out⟩, ⟨by exact sI1381 HI0.out HN0_go19.out⟩, ⟨by exact sK1 HK.out GB19.out⟩, ⟨by repeat (first | (with_reducible first | exact HB.out | apply below_alloc | apply pw_below_drewN | apply below_drew1 | refine below_set ?_ (Nat.le_trans HL.out GB19.out) | refine below_set ?_ (IsS138.ge HI0.out)) | exact HB.out)⟩⟩
        ·
         rw [if_neg c16] at H
         have c16b0 := decide_eq_false c16
         clear c16
         simp only [Option.some.injEq, Prod.mk.injEq] at H
         obtain ⟨rfl, rfl, rfl, rfl⟩ := H
         obtain ⟨Ao24, co24, eo24⟩ := Kd.N_slice HO_5.out
         subst eo24
         go_wp2
         go_ret2
         exact ⟨_, _, by first | rfl | (simp [errW_none, errW_some] <;> rfl) | (simp [*, errW_none, errW_some] <;> rfl), by (with_reducible repeat (first | apply Kd.R_alloc | apply Kd.R_drewN | apply Kd.R_drew)); exact HO_4.out, by (with_reducible repeat (first | apply Kd.N_alloc | apply Kd.N_drewN | apply Kd.N_drew)); exact Kd.N_mono HO_5.out (fun _ hk => ⟨hk.1, hk.2.1⟩), by exact sI1380 HI0.out, by exact sB1 HB.out (IsS138.ge HI0.out), by exact sK0 HK.out⟩

/-! ### spec_l4Raw: function 129 -/
def spec_l4Raw.f (s0_0 : List Int) (s0_1 : Int) (s0_2 : Int) : Option (Int × Int × Int) := (spec_l1Int.f s0_0 s0_1 s0_2 (([(-1), 0, 4, 7, 20, 21, 9223372036854775807, (-9223372036854775808)] : List Int))).bind fun bt519 => (some (bt519.1, bt519.2.1, bt519.2.2))
set_option maxHeartbeats 8000000 in
set_option maxRecDepth 100000 in
theorem spec_l4Raw.calls (g : Nat) (s0_0 : List Int) (s0_1 : Int) (s0_2 : Int) (r1 : Int) (r2 : Int) (r3 : Int) (w0 w : World) (hI : IsS138 w0 w g s0_0 s0_1 s0_2) (hB : Below w0.heap.size w0 w) (h : spec_l4Raw.f s0_0 s0_1 s0_2 = some (r1, r2, r3)) :
  Calls Try.prog 129 #[.pointer (some ⟨g, 0, none⟩)] w fun e w' => e = .returned (.int .i64 r1) ∧ IsS138 w0 w' g s0_0 r2 r3 ∧ Below w0.heap.size w0 w' ∧ KeepBut w w' g none := by
 have HI0 := Aside0.mk hI
 have HK := Aside0.mk (KeepBut.refl w g none)
 have HL := Aside0.mk hB.size
 clear hI
 have HW0 := Aside0.mk hB.size
 have HB := Aside0.mk hB
 clear hB
 have H : ((spec_l1Int.f s0_0 s0_1 s0_2 (([(-1), 0, 4, 7, 20, 21, 9223372036854775807, (-9223372036854775808)] : List Int))).bind fun bt519 => (some (bt519.1, bt519.2.1, bt519.2.2))) = some (r1, r2, r3) := h
 clear h
 obtain ⟨y516, hy516⟩ : ∃ y_ : List Int, y_ = (([(-1), 0, 4, 7, 20, 21, 9223372036854775807, (-9223372036854775808)] : List Int)) := ⟨_, rfl⟩
 replace H : ((spec_l1Int.f s0_0 s0_1 s0_2 y516).bind fun bt519 => (some (bt519.1, bt519.2.1, bt519.2.2))) = some (r1, r2, r3) := rH H hy516
 have Ny516 := Aside0.mk hy516
 clear hy516
 obtain ⟨⟨t519, t520, t521⟩, A2, H⟩ := bindE H
 try dsimp only at H
 simp only [Option.some.injEq, Prod.mk.injEq] at H
 obtain ⟨rfl, rfl, rfl⟩ := H
 go_enter Try.func129, Try.ntmps129
 go_wp2_with (first | ((with_reducible refine gate_dst (N := 4) rfl ?_); refine Kd.R_lit (Kd.int .i64) _ 3 ?hg (N := 4) ?hd (xs := ([(-1), 0, 4, 7, 20, 21, 9223372036854775807, (-9223372036854775808)] : List Int)) (inner := [.int .i64 (-1), .int .i64 0, .int .i64 4, .int .i64 7, .int .i64 20, .int .i64 21, .int .i64 9223372036854775807, .int .i64 (-9223372036854775808)]) (ok := fun _ => True) (okp := fun _ => True) ?hr ?hp (fun _ hk => hk) trivial (Below.refl _ _) (Nat.le_refl _) (by simp) ?_; (case hd => rfl); (case hg => rfl); (case hr => first | (go_simp; done) | (go_simp; rfl)); (case hp => exact (Reps.one (show Kd.M (Kd.int .i64) _ _ _ (-1) [.int .i64 (-1)] from rfl) (Reps.one (show Kd.M (Kd.int .i64) _ _ _ 0 [.int .i64 0] from rfl) (Reps.one (show Kd.M (Kd.int .i64) _ _ _ 4 [.int .i64 4] from rfl) (Reps.one (show Kd.M (Kd.int .i64) _ _ _ 7 [.int .i64 7] from rfl) (Reps.one (show Kd.M (Kd.int .i64) _ _ _ 20 [.int .i64 20] from rfl) (Reps.one (show Kd.M (Kd.int .i64) _ _ _ 21 [.int .i64 21] from rfl) (Reps.one (show Kd.M (Kd.int .i64) _ _ _ 9223372036854775807 [.int .i64 9223372036854775807] from rfl) (Reps.one (show Kd.M (Kd.int .i64) _ _ _ (-9223372036854775808) [.int .i64 (-9223372036854775808)] from rfl) (Reps.none _ _)))))))))); intro v517 w3 ho4 hb hg_ hnew_; clear hg_ hnew_; (first | rw [← Ny516.out] at ho4 | (simp only [Int.reduceToNat] at ho4; rw [← Ny516.out] at ho4)); have n0_ := Aside0.mk (Kd.R_lower ho4 (keep_size (w := w) (g := g) (row := none) (by exact sK0 HK.out))); have n1_ := Aside0.mk (IsS138.below (by exact sI1380 HI0.out) hb); have n2_ := Aside0.mk (KeepBut.trans (by exact sK0 HK.out) (KeepBut.of_below hb g none) (.inl rfl)); have n3_ := Aside0.mk (below_step (by exact sB1 HB.out (IsS138.ge HI0.out)) hb); clear HI0; clear HK; clear HB; have HO518 := n0_; have HI0 := n1_; have HK := n2_; have HB := n3_; clear n0_ n1_ n2_ n3_; clear hb ho4; obtain ⟨Ao5, co5, eo5⟩ := Kd.R_slice HO518.out; subst eo5) | ((with_reducible refine gate_callee (f := 94) rfl ?_); refine gL (some 5) Try.func94 #[.pointer (some ⟨g, 0, none⟩), .slice Ao5 y516.length co5] ?_; (with_reducible refine (spec_l1Int.calls g s0_0 s0_1 s0_2 _ _ y516 t519 t520 t521 w0 _ ?side1 ?side2 ?side3 ?side4 ?side5 A2.out).mono ?_); (case side1 => exact sI1380 HI0.out); (case side2 => exact sB1 HB.out (IsS138.ge HI0.out)); (case side3 => exact cO ⟨(Kd.R_reads' HO518.out).2.2⟩); (case side4 => exact (Kd.R_reads' HO518.out).2.1); (case side5 => exact far_slice (IsS138.own_ne HI0.out HO518.out (by decide))); rintro e w6 ⟨rfl, hi, hb, hk⟩; refine ⟨_, rfl, ?_⟩; replace HO518 := Aside0.mk (Kd.R_mono (Kd.R_keep (IsS138.apart (show IsS138 w0 _ g s0_0 s0_1 s0_2 from by exact sI1380 HI0.out) (rK HO518) (by decide)) hk (fun _ h => h.2)) (fun _ h => h.1)); replace HK := Aside0.mk (KeepBut.trans (by exact sK0 HK.out) hk (.inl rfl)); replace HB := Aside0.mk (hb); replace HI0 := Aside0.mk (hi); (try clear hb); (try clear hk); (try clear hi)))
 go_ret
 exact ⟨rA, by exact sI1380 HI0.out, by exact sB1 HB.out (IsS138.ge HI0.out), by exact sK0 HK.out⟩

/-! ### spec_l4Any: function 152 -/
def spec_l4Any.f (s0_0 : List Int) (s0_1 : Int) (s0_2 : Int) : Option (Int × Int × Int × Int × Int × Int) := (spec_l1Below.f s0_0 s0_1 s0_2 20).bind fun bt523 => ((spec_l4Draw.f s0_0 bt523.2.1 bt523.2.2 (wrap64 (1 + bt523.1))).bind fun bt526 => ((spec_l1Below.f s0_0 bt526.2.2.2.2.1 bt526.2.2.2.2.2 10).bind fun bt533 => (if bt533.1 = 0 then ((spec_l1Int.f s0_0 bt533.2.1 bt533.2.2 (([0, 20, 21] : List Int))).bind fun bt539 => (some (bt539.1, bt526.2.1, bt526.2.2.1, bt526.2.2.2.1, bt539.2.1, bt539.2.2))) else (if bt533.1 = 1 then ((spec_l1Int.f s0_0 bt533.2.1 bt533.2.2 (([0, 2, 4] : List Int))).bind fun bt545 => (some (bt526.1, bt545.1, bt526.2.2.1, bt526.2.2.2.1, bt545.2.1, bt545.2.2))) else (if bt533.1 = 2 then ((spec_l4Raw.f s0_0 bt533.2.1 bt533.2.2).bind fun bt548 => (some (bt526.1, bt526.2.1, bt548.1, bt526.2.2.2.1, bt548.2.1, bt548.2.2))) else (if bt533.1 = 3 then ((spec_l4Raw.f s0_0 bt533.2.1 bt533.2.2).bind fun bt551 => (some (bt526.1, bt526.2.1, bt526.2.2.1, bt551.1, bt551.2.1, bt551.2.2))) else (some (bt526.1, bt526.2.1, bt526.2.2.1, bt526.2.2.2.1, bt533.2.1, bt533.2.2))))))))
set_option maxHeartbeats 8000000 in
set_option maxRecDepth 100000 in
theorem spec_l4Any.calls (g : Nat) (s0_0 : List Int) (s0_1 : Int) (s0_2 : Int) (r1 : Int) (r2 : Int) (r3 : Int) (r4 : Int) (r5 : Int) (r6 : Int) (w0 w : World) (hI : IsS138 w0 w g s0_0 s0_1 s0_2) (hB : Below w0.heap.size w0 w) (h : spec_l4Any.f s0_0 s0_1 s0_2 = some (r1, r2, r3, r4, r5, r6)) :
  Calls Try.prog 152 #[.pointer (some ⟨g, 0, none⟩)] w fun e w' => e = .returned (.agg #[.int .i64 r1, .int .i64 r2, .int .i64 r3, .int .i64 r4]) ∧ IsS138 w0 w' g s0_0 r5 r6 ∧ Below w0.heap.size w0 w' ∧ KeepBut w w' g none := by
 have hu50 := Try.underlying50
 have HI0 := Aside0.mk hI
 have HK := Aside0.mk (KeepBut.refl w g none)
 have HL := Aside0.mk hB.size
 clear hI
 have HW0 := Aside0.mk hB.size
 have HB := Aside0.mk hB
 clear hB
 have H : ((spec_l1Below.f s0_0 s0_1 s0_2 20).bind fun bt523 => ((spec_l4Draw.f s0_0 bt523.2.1 bt523.2.2 (wrap64 (1 + bt523.1))).bind fun bt526 => ((spec_l1Below.f s0_0 bt526.2.2.2.2.1 bt526.2.2.2.2.2 10).bind fun bt533 => (if bt533.1 = 0 then ((spec_l1Int.f s0_0 bt533.2.1 bt533.2.2 (([0, 20, 21] : List Int))).bind fun bt539 => (some (bt539.1, bt526.2.1, bt526.2.2.1, bt526.2.2.2.1, bt539.2.1, bt539.2.2))) else (if bt533.1 = 1 then ((spec_l1Int.f s0_0 bt533.2.1 bt533.2.2 (([0, 2, 4] : List Int))).bind fun bt545 => (some (bt526.1, bt545.1, bt526.2.2.1, bt526.2.2.2.1, bt545.2.1, bt545.2.2))) else (if bt533.1 = 2 then ((spec_l4Raw.f s0_0 bt533.2.1 bt533.2.2).bind fun bt548 => (some (bt526.1, bt526.2.1, bt548.1, bt526.2.2.2.1, bt548.2.1, bt548.2.2))) else (if bt533.1 = 3 then ((spec_l4Raw.f s0_0 bt533.2.1 bt533.2.2).bind fun bt551 => (some (bt526.1, bt526.2.1, bt526.2.2.1, bt551.1, bt551.2.1, bt551.2.2))) else (some (bt526.1, bt526.2.1, bt526.2.2.1, bt526.2.2.2.1, bt533.2.1, bt533.2.2))))))))) = some (r1, r2, r3, r4, r5, r6) := h
 clear h
 obtain ⟨⟨t523, t524, t525⟩, A2, H⟩ := bindE H
 try dsimp only at H
 obtain ⟨⟨t526, t527, t528, t529, t530, t531⟩, A3, H⟩ := bindE H
 try dsimp only at H
 obtain ⟨⟨t533, t534, t535⟩, A4, H⟩ := bindE H
 try dsimp only at H
 go_enter Try.func152, Try.ntmps152
 go_upto_region 3 with (first | ((with_reducible refine gate_dst (N := 2) rfl ?_); refine bE (N := 2) (cs := #[.int .i64 0, .int .i64 0, .int .i64 0, .int .i64 0]) (t := 50) ?_; intro gb522 hg w7 hbox hb; have n0_ := Aside0.mk (IsS138.below (by exact sI1380 HI0.out) hb); have n1_ := Aside0.mk (KeepBut.trans (by exact sK0 HK.out) (KeepBut.of_below hb g none) (.inl rfl)); have n2_ := Aside0.mk (below_step (by exact sB1 HB.out (IsS138.ge HI0.out)) hb); have n3_ := Aside0.mk (hbox); have n4_ := Aside0.mk ((by rw [hg]; exact (keep_size (w := w) (g := g) (row := none) (by exact sK0 HK.out)) : w.heap.size ≤ gb522)); have n5_ := Aside0.mk ((Nat.le_trans HW0.out (by rw [hg]; exact (keep_size (w := w) (g := g) (row := none) (by exact sK0 HK.out)) : w.heap.size ≤ gb522) : w0.heap.size ≤ gb522)); have n6_ := Aside0.mk ((by rw [hg]; exact Nat.ne_of_lt (IsS138.lt (show IsS138 w0 _ g s0_0 s0_1 s0_2 from by exact sI1380 HI0.out)) : g ≠ gb522)); have n7_ := Aside0.mk ((by rw [hg]; exact Nat.ne_of_gt (IsS138.lt (show IsS138 w0 _ g s0_0 s0_1 s0_2 from by exact sI1380 HI0.out)) : gb522 ≠ g)); clear HI0; clear HK; clear HB; have HI0 := n0_; have HK := n1_; have HB := n2_; have BK522 := n3_; have GW522 := n4_; have GE522 := n5_; have NB0_522 := n6_; have NB522_0 := n7_; clear n0_ n1_ n2_ n3_ n4_ n5_ n6_ n7_; clear hb hbox hg) | ((with_reducible refine gate_callee (f := 84) rfl ?_); refine gL (some 6) Try.func84 #[.pointer (some ⟨g, 0, none⟩), .int .i64 20] ?_; (with_reducible refine (spec_l1Below.calls g s0_0 s0_1 s0_2 20 t523 t524 t525 w0 _ ?side1 ?side2 A2.out).mono ?_); (case side1 => exact sI1381 HI0.out NB0_522.out); (case side2 => exact sB2 HB.out (IsS138.ge HI0.out) GE522.out); rintro e w8 ⟨rfl, hi, hb, hk⟩; refine ⟨_, rfl, ?_⟩; replace BK522 := Aside0.mk (KeepBut.blk hk (g' := gb522) (o := .cells #[.int .i64 0, .int .i64 0, .int .i64 0, .int .i64 0] 50 (0, 0)) (bK BK522) NB522_0.out (by simp)); replace HK := Aside0.mk (KeepBut.trans (by exact sK1 HK.out GW522.out) hk (.inl rfl)); replace HB := Aside0.mk (hb); replace HI0 := Aside0.mk (hi); (try clear hb); (try clear hk); (try clear hi)) | ((with_reducible refine gate_callee (f := 174) rfl ?_); refine gL (some 8) Try.func174 #[.pointer (some ⟨g, 0, none⟩), .int .i64 (wrap64 (1 + t523))] ?_; (with_reducible refine (spec_l4Draw.calls g s0_0 t524 t525 (wrap64 (1 + t523)) t526 t527 t528 t529 t530 t531 w0 _ ?side1 ?side2 A3.out).mono ?_); (case side1 => exact sI1381 HI0.out NB0_522.out); (case side2 => exact sB2 HB.out (IsS138.ge HI0.out) GE522.out); rintro e w9 ⟨rfl, hi, hb, hk⟩; refine ⟨_, rfl, ?_⟩; replace BK522 := Aside0.mk (KeepBut.blk hk (g' := gb522) (o := .cells #[.int .i64 0, .int .i64 0, .int .i64 0, .int .i64 0] 50 (0, 0)) (bK BK522) NB522_0.out (by simp)); replace HK := Aside0.mk (KeepBut.trans (by exact sK1 HK.out GW522.out) hk (.inl rfl)); replace HB := Aside0.mk (hb); replace HI0 := Aside0.mk (hi); (try clear hb); (try clear hk); (try clear hi)) | ((with_reducible refine gate_dst (N := 3) rfl ?_); refine bE (N := 3) (cs := #[.int .i64 0, .int .i64 0, .int .i64 0, .int .i64 0]) (t := 50) ?_; intro gb532 hg w10 hbox hb; have n0_ := Aside0.mk (IsS138.below (by exact sI1381 HI0.out NB0_522.out) hb); have n1_ := Aside0.mk (blk_below (g := gb522) (bK BK522) hb); have n2_ := Aside0.mk (KeepBut.trans (by exact sK1 HK.out GW522.out) (KeepBut.of_below hb g none) (.inl rfl)); have n3_ := Aside0.mk (below_step (by exact sB2 HB.out (IsS138.ge HI0.out) GE522.out) hb); have n4_ := Aside0.mk (hbox); have n5_ := Aside0.mk ((by rw [hg]; exact (keep_size (w := w) (g := g) (row := none) (by exact sK1 HK.out GW522.out)) : w.heap.size ≤ gb532)); have n6_ := Aside0.mk ((Nat.le_trans HW0.out (by rw [hg]; exact (keep_size (w := w) (g := g) (row := none) (by exact sK1 HK.out GW522.out)) : w.heap.size ≤ gb532) : w0.heap.size ≤ gb532)); have n7_ := Aside0.mk ((by rw [hg]; exact Nat.ne_of_lt (blk_lt (g := gb522) (o := .cells #[.int .i64 0, .int .i64 0, .int .i64 0, .int .i64 0] 50 (0, 0)) (bK BK522)) : gb522 ≠ gb532)); have n8_ := Aside0.mk ((by rw [hg]; exact Nat.ne_of_gt (blk_lt (g := gb522) (o := .cells #[.int .i64 0, .int .i64 0, .int .i64 0, .int .i64 0] 50 (0, 0)) (bK BK522)) : gb532 ≠ gb522)); have n9_ := Aside0.mk ((by rw [hg]; exact Nat.ne_of_lt (IsS138.lt (show IsS138 w0 _ g s0_0 t530 t531 from by exact sI1381 HI0.out NB0_522.out)) : g ≠ gb532)); have n10_ := Aside0.mk ((by rw [hg]; exact Nat.ne_of_gt (IsS138.lt (show IsS138 w0 _ g s0_0 t530 t531 from by exact sI1381 HI0.out NB0_522.out)) : gb532 ≠ g)); clear HI0; clear BK522; clear HK; clear HB; have HI0 := n0_; have BK522 := n1_; have HK := n2_; have HB := n3_; have BK532 := n4_; have GW532 := n5_; have GE532 := n6_; have NB522_532 := n7_; have NB532_522 := n8_; have NB0_532 := n9_; have NB532_0 := n10_; clear n0_ n1_ n2_ n3_ n4_ n5_ n6_ n7_ n8_ n9_ n10_; clear hb hbox hg; have hnb11 := NB532_522.out; have hnc11 := NB522_532.out; have hnb12 := NB532_0.out; have hnc12 := NB0_532.out; have hcz13_0 : w10.cell? ⟨gb532, 0, none⟩ = some (.int .i64 0) := bC BK532 0; have hcz13_1 : w10.cell? ⟨gb532, 1, none⟩ = some (.int .i64 0) := bC BK532 1; have hcz13_2 : w10.cell? ⟨gb532, 2, none⟩ = some (.int .i64 0) := bC BK532 2; have hcz13_3 : w10.cell? ⟨gb532, 3, none⟩ = some (.int .i64 0) := bC BK532 3; have hfz13_0 := blk_frozen BK532.out 0; have hfz13_1 := blk_frozen BK532.out 1; have hfz13_2 := blk_frozen BK532.out 2; have hfz13_3 := blk_frozen BK532.out 3) | ((with_reducible refine gate_callee (f := 84) rfl ?_); refine gL (some 10) Try.func84 #[.pointer (some ⟨g, 0, none⟩), .int .i64 10] ?_; (with_reducible refine (spec_l1Below.calls g s0_0 t530 t531 10 t533 t534 t535 w0 _ ?side1 ?side2 A4.out).mono ?_); (case side1 => exact sI1382 HI0.out NB0_522.out NB0_532.out); (case side2 => exact sB3 HB.out (IsS138.ge HI0.out) GE522.out GE532.out); rintro e w14 ⟨rfl, hi, hb, hk⟩; refine ⟨_, rfl, ?_⟩; have n0_ := Aside0.mk (KeepBut.blk hk (g' := gb522) (o := .cells #[.int .i64 0, .int .i64 0, .int .i64 0, .int .i64 0] 50 (0, 0)) (by (with_reducible repeat (first | refine blk_drewN ?_ _ | refine blk_drew ?_ | refine blk_alloc ?_ _)); refine blk_far ?_ NB522_532.out _; (with_reducible repeat (first | refine blk_drewN ?_ _ | refine blk_drew ?_ | refine blk_alloc ?_ _)); refine blk_far ?_ NB522_532.out _; (with_reducible repeat (first | refine blk_drewN ?_ _ | refine blk_drew ?_ | refine blk_alloc ?_ _)); refine blk_far ?_ NB522_532.out _; (with_reducible repeat (first | refine blk_drewN ?_ _ | refine blk_drew ?_ | refine blk_alloc ?_ _)); refine blk_far ?_ NB522_532.out _; (with_reducible repeat (first | refine blk_drewN ?_ _ | refine blk_drew ?_ | refine blk_alloc ?_ _)); exact BK522.out) NB522_0.out (by simp)); have n1_ := Aside0.mk (KeepBut.blk hk (g' := gb532) (o := .cells #[.int .i64 t526, .int .i64 t527, .int .i64 t528, .int .i64 t529] 50 (0, 0)) (by (with_reducible repeat (first | refine blk_drewN ?_ _ | refine blk_drew ?_ | refine blk_alloc ?_ _)); refine blk_put (cs := #[.int .i64 t526, .int .i64 t527, .int .i64 t528, .int .i64 0]) ?_ 3 _ rfl; (with_reducible repeat (first | refine blk_drewN ?_ _ | refine blk_drew ?_ | refine blk_alloc ?_ _)); refine blk_put (cs := #[.int .i64 t526, .int .i64 t527, .int .i64 0, .int .i64 0]) ?_ 2 _ rfl; (with_reducible repeat (first | refine blk_drewN ?_ _ | refine blk_drew ?_ | refine blk_alloc ?_ _)); refine blk_put (cs := #[.int .i64 t526, .int .i64 0, .int .i64 0, .int .i64 0]) ?_ 1 _ rfl; (with_reducible repeat (first | refine blk_drewN ?_ _ | refine blk_drew ?_ | refine blk_alloc ?_ _)); refine blk_put (cs := #[.int .i64 0, .int .i64 0, .int .i64 0, .int .i64 0]) ?_ 0 _ rfl; (with_reducible repeat (first | refine blk_drewN ?_ _ | refine blk_drew ?_ | refine blk_alloc ?_ _)); exact BK532.out) NB532_0.out (by simp)); have n2_ := Aside0.mk (KeepBut.trans (by exact sK2 HK.out GW522.out GW532.out) hk (.inl rfl)); have n3_ := Aside0.mk (hb); have n4_ := Aside0.mk (hi); clear BK522; clear BK532; clear HK; clear HB; clear HI0; have BK522 := n0_; have BK532 := n1_; have HK := n2_; have HB := n3_; have HI0 := n4_; clear n0_ n1_ n2_ n3_ n4_; (try clear hb); (try clear hk); (try clear hi)))
 by_cases c5 : t533 = 0
 ·
  rw [if_pos c5] at H
  have c5b0 : (t533 == 0) = true := beq_iff_eq.mpr c5
  have c5b1 : (t533 != 0) = false := bne_eq_false_iff_eq.mpr c5
  clear c5
  obtain ⟨y536, hy536⟩ : ∃ y_ : List Int, y_ = (([0, 20, 21] : List Int)) := ⟨_, rfl⟩
  replace H : ((spec_l1Int.f s0_0 t534 t535 y536).bind fun bt539 => (some (bt539.1, t527, t528, t529, bt539.2.1, bt539.2.2))) = some (r1, r2, r3, r4, r5, r6) := rH H hy536
  have Ny536 := Aside0.mk hy536
  clear hy536
  obtain ⟨⟨t539, t540, t541⟩, A6, H⟩ := bindE H
  try dsimp only at H
  simp only [Option.some.injEq, Prod.mk.injEq] at H
  obtain ⟨rfl, rfl, rfl, rfl, rfl, rfl⟩ := H
  go_wp2_with (first | ((with_reducible refine gate_dst (N := 14) rfl ?_); refine Kd.R_lit (Kd.int .i64) _ 3 ?hg (N := 14) ?hd (xs := ([0, 20, 21] : List Int)) (inner := [.int .i64 0, .int .i64 20, .int .i64 21]) (ok := fun _ => True) (okp := fun _ => True) ?hr ?hp (fun _ hk => hk) trivial (Below.refl _ _) (Nat.le_refl _) (by simp) ?_; (case hd => rfl); (case hg => rfl); (case hr => first | (go_simp; done) | (go_simp; rfl)); (case hp => exact (Reps.one (show Kd.M (Kd.int .i64) _ _ _ 0 [.int .i64 0] from rfl) (Reps.one (show Kd.M (Kd.int .i64) _ _ _ 20 [.int .i64 20] from rfl) (Reps.one (show Kd.M (Kd.int .i64) _ _ _ 21 [.int .i64 21] from rfl) (Reps.none _ _))))); intro v537 w15 ho16 hb hg_ hnew_; clear hg_ hnew_; (first | rw [← Ny536.out] at ho16 | (simp only [Int.reduceToNat] at ho16; rw [← Ny536.out] at ho16)); have n0_ := Aside0.mk (Kd.R_lower ho16 (keep_size (w := w) (g := g) (row := none) (by exact sK2 HK.out GW522.out GW532.out))); have n1_ := Aside0.mk (IsS138.below (by exact sI1382 HI0.out NB0_522.out NB0_532.out) hb); have n2_ := Aside0.mk (blk_below (g := gb522) (bK BK522) hb); have n3_ := Aside0.mk (blk_below (g := gb532) (bK BK532) hb); have n4_ := Aside0.mk (KeepBut.trans (by exact sK2 HK.out GW522.out GW532.out) (KeepBut.of_below hb g none) (.inl rfl)); have n5_ := Aside0.mk (below_step (by exact sB3 HB.out (IsS138.ge HI0.out) GE522.out GE532.out) hb); clear HI0; clear BK522; clear BK532; clear HK; clear HB; have HO538 := n0_; have HI0 := n1_; have BK522 := n2_; have BK532 := n3_; have HK := n4_; have HB := n5_; clear n0_ n1_ n2_ n3_ n4_ n5_; clear hb ho16; obtain ⟨Ao17, co17, eo17⟩ := Kd.R_slice HO538.out; subst eo17) | ((with_reducible refine gate_callee (f := 94) rfl ?_); refine gL (some 15) Try.func94 #[.pointer (some ⟨g, 0, none⟩), .slice Ao17 y536.length co17] ?_; (with_reducible refine (spec_l1Int.calls g s0_0 t534 t535 _ _ y536 t539 t540 t541 w0 _ ?side1 ?side2 ?side3 ?side4 ?side5 A6.out).mono ?_); (case side1 => exact sI1382 HI0.out NB0_522.out NB0_532.out); (case side2 => exact sB3 HB.out (IsS138.ge HI0.out) GE522.out GE532.out); (case side3 => exact cO ⟨(Kd.R_reads' HO538.out).2.2⟩); (case side4 => exact (Kd.R_reads' HO538.out).2.1); (case side5 => exact far_slice (IsS138.own_ne HI0.out HO538.out (by decide))); rintro e w18 ⟨rfl, hi, hb, hk⟩; refine ⟨_, rfl, ?_⟩; replace BK522 := Aside0.mk (KeepBut.blk hk (g' := gb522) (o := .cells #[.int .i64 0, .int .i64 0, .int .i64 0, .int .i64 0] 50 (0, 0)) (bK BK522) NB522_0.out (by simp)); replace BK532 := Aside0.mk (KeepBut.blk hk (g' := gb532) (o := .cells #[.int .i64 t526, .int .i64 t527, .int .i64 t528, .int .i64 t529] 50 (0, 0)) (bK BK532) NB532_0.out (by simp)); replace HO538 := Aside0.mk (Kd.R_mono (Kd.R_keep (IsS138.apart (show IsS138 w0 _ g s0_0 t534 t535 from by exact sI1382 HI0.out NB0_522.out NB0_532.out) (rK HO538) (by decide)) hk (fun _ h => h.2)) (fun _ h => h.1)); replace HK := Aside0.mk (KeepBut.trans (by exact sK2 HK.out GW522.out GW532.out) hk (.inl rfl)); replace HB := Aside0.mk (hb); replace HI0 := Aside0.mk (hi); (try clear hb); (try clear hk); (try clear hi); obtain ⟨hcz19_0, hcz19_1, hcz19_2, hcz19_3, hfz19_0, hfz19_1, hfz19_2, hfz19_3⟩ := blkc4 BK532; have hnb20 := NB522_0.out; have hnc20 := NB0_522.out; obtain ⟨hcz21_0, hcz21_1, hcz21_2, hcz21_3, hfz21_0, hfz21_1, hfz21_2, hfz21_3⟩ := blkc4 BK522))
  refine bodyPost_ret (results_cell_row rfl _ _ gb522 50 #[.int .i64 t539, .int .i64 t527, .int .i64 t528, .int .i64 t529] (0, 0) _ rfl (by (with_reducible repeat (first | refine blk_drewN ?_ _ | refine blk_drew ?_ | refine blk_alloc ?_ _)); refine blk_put (cs := #[.int .i64 t539, .int .i64 t527, .int .i64 t528, .int .i64 0]) ?_ 3 _ rfl; (with_reducible repeat (first | refine blk_drewN ?_ _ | refine blk_drew ?_ | refine blk_alloc ?_ _)); refine blk_put (cs := #[.int .i64 t539, .int .i64 t527, .int .i64 0, .int .i64 0]) ?_ 2 _ rfl; (with_reducible repeat (first | refine blk_drewN ?_ _ | refine blk_drew ?_ | refine blk_alloc ?_ _)); refine blk_put (cs := #[.int .i64 t539, .int .i64 0, .int .i64 0, .int .i64 0]) ?_ 1 _ rfl; (with_reducible repeat (first | refine blk_drewN ?_ _ | refine blk_drew ?_ | refine blk_alloc ?_ _)); refine blk_put (cs := #[.int .i64 0, .int .i64 0, .int .i64 0, .int .i64 0]) ?_ 0 _ rfl; (with_reducible repeat (first | refine blk_drewN ?_ _ | refine blk_drew ?_ | refine blk_alloc ?_ _)); refine blk_far ?_ NB522_532.out _; (with_reducible repeat (first | refine blk_drewN ?_ _ | refine blk_drew ?_ | refine blk_alloc ?_ _)); exact BK522.out) Try.underlying50 rfl (by kernel_rfl)) rfl ?_
  exact ⟨rA, by exact sI1382 HI0.out NB0_522.out NB0_532.out, by exact sB3 HB.out (IsS138.ge HI0.out) GE522.out GE532.out, by exact sK2 HK.out GW522.out GW532.out⟩
 ·
  rw [if_neg c5] at H
  have c5b0 : (t533 == 0) = false := beq_eq_false_iff_ne.mpr c5
  have c5b1 : (t533 != 0) = true := bne_iff_ne.mpr c5
  by_cases c22 : t533 = 1
  ·
   rw [if_pos c22] at H
   have c22b0 : (t533 == 1) = true := beq_iff_eq.mpr c22
   have c22b1 : (t533 != 1) = false := bne_eq_false_iff_eq.mpr c22
   clear c22
   obtain ⟨y542, hy542⟩ : ∃ y_ : List Int, y_ = (([0, 2, 4] : List Int)) := ⟨_, rfl⟩
   replace H : ((spec_l1Int.f s0_0 t534 t535 y542).bind fun bt545 => (some (t526, bt545.1, t528, t529, bt545.2.1, bt545.2.2))) = some (r1, r2, r3, r4, r5, r6) := rH H hy542
   have Ny542 := Aside0.mk hy542
   clear hy542
   obtain ⟨⟨t545, t546, t547⟩, A23, H⟩ := bindE H
   try dsimp only at H
   simp only [Option.some.injEq, Prod.mk.injEq] at H
   obtain ⟨rfl, rfl, rfl, rfl, rfl, rfl⟩ := H
   go_wp2_with (first | ((with_reducible refine gate_dst (N := 20) rfl ?_); refine Kd.R_lit (Kd.int .i64) _ 3 ?hg (N := 20) ?hd (xs := ([0, 2, 4] : List Int)) (inner := [.int .i64 0, .int .i64 2, .int .i64 4]) (ok := fun _ => True) (okp := fun _ => True) ?hr ?hp (fun _ hk => hk) trivial (Below.refl _ _) (Nat.le_refl _) (by simp) ?_; (case hd => rfl); (case hg => rfl); (case hr => first | (go_simp; done) | (go_simp; rfl)); (case hp => exact (Reps.one (show Kd.M (Kd.int .i64) _ _ _ 0 [.int .i64 0] from rfl) (Reps.one (show Kd.M (Kd.int .i64) _ _ _ 2 [.int .i64 2] from rfl) (Reps.one (show Kd.M (Kd.int .i64) _ _ _ 4 [.int .i64 4] from rfl) (Reps.none _ _))))); intro v543 w32 ho33 hb hg_ hnew_; clear hg_ hnew_; (first | rw [← Ny542.out] at ho33 | (simp only [Int.reduceToNat] at ho33; rw [← Ny542.out] at ho33)); have n0_ := Aside0.mk (Kd.R_lower ho33 (keep_size (w := w) (g := g) (row := none) (by exact sK2 HK.out GW522.out GW532.out))); have n1_ := Aside0.mk (IsS138.below (by exact sI1382 HI0.out NB0_522.out NB0_532.out) hb); have n2_ := Aside0.mk (blk_below (g := gb522) (bK BK522) hb); have n3_ := Aside0.mk (blk_below (g := gb532) (bK BK532) hb); have n4_ := Aside0.mk (KeepBut.trans (by exact sK2 HK.out GW522.out GW532.out) (KeepBut.of_below hb g none) (.inl rfl)); have n5_ := Aside0.mk (below_step (by exact sB3 HB.out (IsS138.ge HI0.out) GE522.out GE532.out) hb); clear HI0; clear BK522; clear BK532; clear HK; clear HB; have HO544 := n0_; have HI0 := n1_; have BK522 := n2_; have BK532 := n3_; have HK := n4_; have HB := n5_; clear n0_ n1_ n2_ n3_ n4_ n5_; clear hb ho33; obtain ⟨Ao34, co34, eo34⟩ := Kd.R_slice HO544.out; subst eo34) | ((with_reducible refine gate_callee (f := 94) rfl ?_); refine gL (some 21) Try.func94 #[.pointer (some ⟨g, 0, none⟩), .slice Ao34 y542.length co34] ?_; (with_reducible refine (spec_l1Int.calls g s0_0 t534 t535 _ _ y542 t545 t546 t547 w0 _ ?side1 ?side2 ?side3 ?side4 ?side5 A23.out).mono ?_); (case side1 => exact sI1382 HI0.out NB0_522.out NB0_532.out); (case side2 => exact sB3 HB.out (IsS138.ge HI0.out) GE522.out GE532.out); (case side3 => exact cO ⟨(Kd.R_reads' HO544.out).2.2⟩); (case side4 => exact (Kd.R_reads' HO544.out).2.1); (case side5 => exact far_slice (IsS138.own_ne HI0.out HO544.out (by decide))); rintro e w35 ⟨rfl, hi, hb, hk⟩; refine ⟨_, rfl, ?_⟩; replace BK522 := Aside0.mk (KeepBut.blk hk (g' := gb522) (o := .cells #[.int .i64 0, .int .i64 0, .int .i64 0, .int .i64 0] 50 (0, 0)) (bK BK522) NB522_0.out (by simp)); replace BK532 := Aside0.mk (KeepBut.blk hk (g' := gb532) (o := .cells #[.int .i64 t526, .int .i64 t527, .int .i64 t528, .int .i64 t529] 50 (0, 0)) (bK BK532) NB532_0.out (by simp)); replace HO544 := Aside0.mk (Kd.R_mono (Kd.R_keep (IsS138.apart (show IsS138 w0 _ g s0_0 t534 t535 from by exact sI1382 HI0.out NB0_522.out NB0_532.out) (rK HO544) (by decide)) hk (fun _ h => h.2)) (fun _ h => h.1)); replace HK := Aside0.mk (KeepBut.trans (by exact sK2 HK.out GW522.out GW532.out) hk (.inl rfl)); replace HB := Aside0.mk (hb); replace HI0 := Aside0.mk (hi); (try clear hb); (try clear hk); (try clear hi); obtain ⟨hcz36_0, hcz36_1, hcz36_2, hcz36_3, hfz36_0, hfz36_1, hfz36_2, hfz36_3⟩ := blkc4 BK532; have hnb37 := NB522_0.out; have hnc37 := NB0_522.out; obtain ⟨hcz38_0, hcz38_1, hcz38_2, hcz38_3, hfz38_0, hfz38_1, hfz38_2, hfz38_3⟩ := blkc4 BK522))
   refine bodyPost_ret (results_cell_row rfl _ _ gb522 50 #[.int .i64 t526, .int .i64 t545, .int .i64 t528, .int .i64 t529] (0, 0) _ rfl (by (with_reducible repeat (first | refine blk_drewN ?_ _ | refine blk_drew ?_ | refine blk_alloc ?_ _)); refine blk_put (cs := #[.int .i64 t526, .int .i64 t545, .int .i64 t528, .int .i64 0]) ?_ 3 _ rfl; (with_reducible repeat (first | refine blk_drewN ?_ _ | refine blk_drew ?_ | refine blk_alloc ?_ _)); refine blk_put (cs := #[.int .i64 t526, .int .i64 t545, .int .i64 0, .int .i64 0]) ?_ 2 _ rfl; (with_reducible repeat (first | refine blk_drewN ?_ _ | refine blk_drew ?_ | refine blk_alloc ?_ _)); refine blk_put (cs := #[.int .i64 t526, .int .i64 0, .int .i64 0, .int .i64 0]) ?_ 1 _ rfl; (with_reducible repeat (first | refine blk_drewN ?_ _ | refine blk_drew ?_ | refine blk_alloc ?_ _)); refine blk_put (cs := #[.int .i64 0, .int .i64 0, .int .i64 0, .int .i64 0]) ?_ 0 _ rfl; (with_reducible repeat (first | refine blk_drewN ?_ _ | refine blk_drew ?_ | refine blk_alloc ?_ _)); refine blk_far ?_ NB522_532.out _; (with_reducible repeat (first | refine blk_drewN ?_ _ | refine blk_drew ?_ | refine blk_alloc ?_ _)); exact BK522.out) Try.underlying50 rfl (by kernel_rfl)) rfl ?_
   exact ⟨rA, by exact sI1382 HI0.out NB0_522.out NB0_532.out, by exact sB3 HB.out (IsS138.ge HI0.out) GE522.out GE532.out, by exact sK2 HK.out GW522.out GW532.out⟩
  ·
   rw [if_neg c22] at H
   have c22b0 : (t533 == 1) = false := beq_eq_false_iff_ne.mpr c22
   have c22b1 : (t533 != 1) = true := bne_iff_ne.mpr c22
   by_cases c39 : t533 = 2
   ·
    rw [if_pos c39] at H
    have c39b0 : (t533 == 2) = true := beq_iff_eq.mpr c39
    have c39b1 : (t533 != 2) = false := bne_eq_false_iff_eq.mpr c39
    clear c39
    obtain ⟨⟨t548, t549, t550⟩, A40, H⟩ := bindE H
    try dsimp only at H
    simp only [Option.some.injEq, Prod.mk.injEq] at H
    obtain ⟨rfl, rfl, rfl, rfl, rfl, rfl⟩ := H
    go_wp2_with (first | ((with_reducible refine gate_callee (f := 129) rfl ?_); refine gL (some 26) Try.func129 #[.pointer (some ⟨g, 0, none⟩)] ?_; (with_reducible refine (spec_l4Raw.calls g s0_0 t534 t535 t548 t549 t550 w0 _ ?side1 ?side2 A40.out).mono ?_); (case side1 => exact sI1382 HI0.out NB0_522.out NB0_532.out); (case side2 => exact sB3 HB.out (IsS138.ge HI0.out) GE522.out GE532.out); rintro e w49 ⟨rfl, hi, hb, hk⟩; refine ⟨_, rfl, ?_⟩; replace BK522 := Aside0.mk (KeepBut.blk hk (g' := gb522) (o := .cells #[.int .i64 0, .int .i64 0, .int .i64 0, .int .i64 0] 50 (0, 0)) (bK BK522) NB522_0.out (by simp)); replace BK532 := Aside0.mk (KeepBut.blk hk (g' := gb532) (o := .cells #[.int .i64 t526, .int .i64 t527, .int .i64 t528, .int .i64 t529] 50 (0, 0)) (bK BK532) NB532_0.out (by simp)); replace HK := Aside0.mk (KeepBut.trans (by exact sK2 HK.out GW522.out GW532.out) hk (.inl rfl)); replace HB := Aside0.mk (hb); replace HI0 := Aside0.mk (hi); (try clear hb); (try clear hk); (try clear hi); obtain ⟨hcz50_0, hcz50_1, hcz50_2, hcz50_3, hfz50_0, hfz50_1, hfz50_2, hfz50_3⟩ := blkc4 BK532; have hnb51 := NB522_0.out; have hnc51 := NB0_522.out; obtain ⟨hcz52_0, hcz52_1, hcz52_2, hcz52_3, hfz52_0, hfz52_1, hfz52_2, hfz52_3⟩ := blkc4 BK522))
    refine bodyPost_ret (results_cell_row rfl _ _ gb522 50 #[.int .i64 t526, .int .i64 t527, .int .i64 t548, .int .i64 t529] (0, 0) _ rfl (by (with_reducible repeat (first | refine blk_drewN ?_ _ | refine blk_drew ?_ | refine blk_alloc ?_ _)); refine blk_put (cs := #[.int .i64 t526, .int .i64 t527, .int .i64 t548, .int .i64 0]) ?_ 3 _ rfl; (with_reducible repeat (first | refine blk_drewN ?_ _ | refine blk_drew ?_ | refine blk_alloc ?_ _)); refine blk_put (cs := #[.int .i64 t526, .int .i64 t527, .int .i64 0, .int .i64 0]) ?_ 2 _ rfl; (with_reducible repeat (first | refine blk_drewN ?_ _ | refine blk_drew ?_ | refine blk_alloc ?_ _)); refine blk_put (cs := #[.int .i64 t526, .int .i64 0, .int .i64 0, .int .i64 0]) ?_ 1 _ rfl; (with_reducible repeat (first | refine blk_drewN ?_ _ | refine blk_drew ?_ | refine blk_alloc ?_ _)); refine blk_put (cs := #[.int .i64 0, .int .i64 0, .int .i64 0, .int .i64 0]) ?_ 0 _ rfl; (with_reducible repeat (first | refine blk_drewN ?_ _ | refine blk_drew ?_ | refine blk_alloc ?_ _)); refine blk_far ?_ NB522_532.out _; (with_reducible repeat (first | refine blk_drewN ?_ _ | refine blk_drew ?_ | refine blk_alloc ?_ _)); exact BK522.out) Try.underlying50 rfl (by kernel_rfl)) rfl ?_
    exact ⟨rA, by exact sI1382 HI0.out NB0_522.out NB0_532.out, by exact sB3 HB.out (IsS138.ge HI0.out) GE522.out GE532.out, by exact sK2 HK.out GW522.out GW532.out⟩
   ·
    rw [if_neg c39] at H
    have c39b0 : (t533 == 2) = false := beq_eq_false_iff_ne.mpr c39
    have c39b1 : (t533 != 2) = true := bne_iff_ne.mpr c39
    by_cases c53 : t533 = 3
    ·
     rw [if_pos c53] at H
     have c53b0 : (t533 == 3) = true := beq_iff_eq.mpr c53
     have c53b1 : (t533 != 3) = false := bne_eq_false_iff_eq.mpr c53
     clear c53
     obtain ⟨⟨t551, t552, t553⟩, A54, H⟩ := bindE H
     try dsimp only at H
     simp only [Option.some.injEq, Prod.mk.injEq] at H
     obtain ⟨rfl, rfl, rfl, rfl, rfl, rfl⟩ := H
     go_wp2_with (first | ((with_reducible refine gate_callee (f := 129) rfl ?_); refine gL (some 31) Try.func129 #[.pointer (some ⟨g, 0, none⟩)] ?_; (with_reducible refine (spec_l4Raw.calls g s0_0 t534 t535 t551 t552 t553 w0 _ ?side1 ?side2 A54.out).mono ?_); (case side1 => exact sI1382 HI0.out NB0_522.out NB0_532.out); (case side2 => exact sB3 HB.out (IsS138.ge HI0.out) GE522.out GE532.out); rintro e w63 ⟨rfl, hi, hb, hk⟩; refine ⟨_, rfl, ?_⟩; replace BK522 := Aside0.mk (KeepBut.blk hk (g' := gb522) (o := .cells #[.int .i64 0, .int .i64 0, .int .i64 0, .int .i64 0] 50 (0, 0)) (bK BK522) NB522_0.out (by simp)); replace BK532 := Aside0.mk (KeepBut.blk hk (g' := gb532) (o := .cells #[.int .i64 t526, .int .i64 t527, .int .i64 t528, .int .i64 t529] 50 (0, 0)) (bK BK532) NB532_0.out (by simp)); replace HK := Aside0.mk (KeepBut.trans (by exact sK2 HK.out GW522.out GW532.out) hk (.inl rfl)); replace HB := Aside0.mk (hb); replace HI0 := Aside0.mk (hi); (try clear hb); (try clear hk); (try clear hi); obtain ⟨hcz64_0, hcz64_1, hcz64_2, hcz64_3, hfz64_0, hfz64_1, hfz64_2, hfz64_3⟩ := blkc4 BK532; have hnb65 := NB522_0.out; have hnc65 := NB0_522.out; obtain ⟨hcz66_0, hcz66_1, hcz66_2, hcz66_3, hfz66_0, hfz66_1, hfz66_2, hfz66_3⟩ := blkc4 BK522))
     refine bodyPost_ret (results_cell_row rfl _ _ gb522 50 #[.int .i64 t526, .int .i64 t527, .int .i64 t528, .int .i64 t551] (0, 0) _ rfl (by (with_reducible repeat (first | refine blk_drewN ?_ _ | refine blk_drew ?_ | refine blk_alloc ?_ _)); refine blk_put (cs := #[.int .i64 t526, .int .i64 t527, .int .i64 t528, .int .i64 0]) ?_ 3 _ rfl; (with_reducible repeat (first | refine blk_drewN ?_ _ | refine blk_drew ?_ | refine blk_alloc ?_ _)); refine blk_put (cs := #[.int .i64 t526, .int .i64 t527, .int .i64 0, .int .i64 0]) ?_ 2 _ rfl; (with_reducible repeat (first | refine blk_drewN ?_ _ | refine blk_drew ?_ | refine blk_alloc ?_ _)); refine blk_put (cs := #[.int .i64 t526, .int .i64 0, .int .i64 0, .int .i64 0]) ?_ 1 _ rfl; (with_reducible repeat (first | refine blk_drewN ?_ _ | refine blk_drew ?_ | refine blk_alloc ?_ _)); refine blk_put (cs := #[.int .i64 0, .int .i64 0, .int .i64 0, .int .i64 0]) ?_ 0 _ rfl; (with_reducible repeat (first | refine blk_drewN ?_ _ | refine blk_drew ?_ | refine blk_alloc ?_ _)); refine blk_far ?_ NB522_532.out _; (with_reducible repeat (first | refine blk_drewN ?_ _ | refine blk_drew ?_ | refine blk_alloc ?_ _)); exact BK522.out) Try.underlying50 rfl (by kernel_rfl)) rfl ?_
     exact ⟨rA, by exact sI1382 HI0.out NB0_522.out NB0_532.out, by exact sB3 HB.out (IsS138.ge HI0.out) GE522.out GE532.out, by exact sK2 HK.out GW522.out GW532.out⟩
    ·
     rw [if_neg c53] at H
     have c53b0 : (t533 == 3) = false := beq_eq_false_iff_ne.mpr c53
     have c53b1 : (t533 != 3) = true := bne_iff_ne.mpr c53
     simp only [Option.some.injEq, Prod.mk.injEq] at H
     obtain ⟨rfl, rfl, rfl, rfl, rfl, rfl⟩ := H
     obtain ⟨hcz75_0, hcz75_1, hcz75_2, hcz75_3, hfz75_0, hfz75_1, hfz75_2, hfz75_3⟩ := blkc4 BK532
     have hnb76 := NB522_0.out
     have hnc76 := NB0_522.out
     obtain ⟨hcz77_0, hcz77_1, hcz77_2, hcz77_3, hfz77_0, hfz77_1, hfz77_2, hfz77_3⟩ := blkc4 BK522
     go_wp2
     refine bodyPost_ret (results_cell_row rfl _ _ gb522 50 #[.int .i64 t526, .int .i64 t527, .int .i64 t528, .int .i64 t529] (0, 0) _ rfl (by (with_reducible repeat (first | refine blk_drewN ?_ _ | refine blk_drew ?_ | refine blk_alloc ?_ _)); refine blk_put (cs := #[.int .i64 t526, .int .i64 t527, .int .i64 t528, .int .i64 0]) ?_ 3 _ rfl; (with_reducible repeat (first | refine blk_drewN ?_ _ | refine blk_drew ?_ | refine blk_alloc ?_ _)); refine blk_put (cs := #[.int .i64 t526, .int .i64 t527, .int .i64 0, .int .i64 0]) ?_ 2 _ rfl; (with_reducible repeat (first | refine blk_drewN ?_ _ | refine blk_drew ?_ | refine blk_alloc ?_ _)); refine blk_put (cs := #[.int .i64 t526, .int .i64 0, .int .i64 0, .int .i64 0]) ?_ 1 _ rfl; (with_reducible repeat (first | refine blk_drewN ?_ _ | refine blk_drew ?_ | refine blk_alloc ?_ _)); refine blk_put (cs := #[.int .i64 0, .int .i64 0, .int .i64 0, .int .i64 0]) ?_ 0 _ rfl; (with_reducible repeat (first | refine blk_drewN ?_ _ | refine blk_drew ?_ | refine blk_alloc ?_ _)); exact BK522.out) Try.underlying50 rfl (by kernel_rfl)) rfl ?_
     exact ⟨rA, by exact sI1382 HI0.out NB0_522.out NB0_532.out, by exact sB3 HB.out (IsS138.ge HI0.out) GE522.out GE532.out, by exact sK2 HK.out GW522.out GW532.out⟩

/-! ### spec_l5Any: function 125 -/
def spec_l5Any.f (k : Nat) (s0_0 : List Int) (s0_1 : Int) (s0_2 : Int) : Option ((List (S50)) × Int × Int) := (spec_l5Draw.f k s0_0 s0_1 s0_2).bind fun bt554 => ((spec_l1Once.f s0_0 bt554.2.1 bt554.2.2 6).bind fun bt559 => (if bt559.1 = true then ((spec_l1Below.f s0_0 bt559.2.1 bt559.2.2 (bt554.1.length : Int)).bind fun bt562 => ((spec_l4Any.f s0_0 bt562.2.1 bt562.2.2).bind fun bt565 => (if 0 ≤ bt562.1 then (if bt562.1 < (bt554.1.length : Int) then (some ((bt554.1.set (bt562.1 : Int).toNat (⟨bt565.1, bt565.2.1, bt565.2.2.1, bt565.2.2.2.1⟩ : S50)), bt565.2.2.2.2.1, bt565.2.2.2.2.2)) else (none)) else (none)))) else (some (bt554.1, bt559.2.1, bt559.2.2))))
theorem spec_l5Any.mono : ∀ a0 a1 a2 k, LeO (spec_l5Any.f k a0 a1 a2) (spec_l5Any.f (k + 1) a0 a1 a2) := by
 intro a0 a1 a2 k
 unfold spec_l5Any.f
 repeat' first | (with_reducible first | exact LeO.refl _ | exact LeO.none _ | refine LeO.ite ?_ ?_ | refine LeO.bind ?_ (fun _ => ?_) | exact spec_l5Draw.mono _ _ _ _)
set_option maxHeartbeats 8000000 in
set_option maxRecDepth 100000 in
theorem spec_l5Any.calls (k : Nat) (g : Nat) (s0_0 : List Int) (s0_1 : Int) (s0_2 : Int) (r1 : List (S50)) (r2 : Int) (r3 : Int) (w0 w : World) (hI : IsS138 w0 w g s0_0 s0_1 s0_2) (hB : Below w0.heap.size w0 w) (h : spec_l5Any.f k s0_0 s0_1 s0_2 = some (r1, r2, r3)) :
  Calls Try.prog 125 #[.pointer (some ⟨g, 0, none⟩)] w fun e w' => ∃ v0_ : Value, e = .returned (v0_) ∧ Kd.R k50 50 w' w.heap.size (fun _ => True) v0_ r1 ∧ IsS138 w0 w' g s0_0 r2 r3 ∧ Below w0.heap.size w0 w' ∧ KeepBut w w' g none := by
 have hu50 := Try.underlying50
 have HI0 := Aside0.mk hI
 have HK := Aside0.mk (KeepBut.refl w g none)
 have HL := Aside0.mk hB.size
 clear hI
 have HW0 := Aside0.mk hB.size
 have HB := Aside0.mk hB
 clear hB
 have H : ((spec_l5Draw.f k s0_0 s0_1 s0_2).bind fun bt554 => ((spec_l1Once.f s0_0 bt554.2.1 bt554.2.2 6).bind fun bt559 => (if bt559.1 = true then ((spec_l1Below.f s0_0 bt559.2.1 bt559.2.2 (bt554.1.length : Int)).bind fun bt562 => ((spec_l4Any.f s0_0 bt562.2.1 bt562.2.2).bind fun bt565 => (if 0 ≤ bt562.1 then (if bt562.1 < (bt554.1.length : Int) then (some ((bt554.1.set (bt562.1 : Int).toNat (⟨bt565.1, bt565.2.1, bt565.2.2.1, bt565.2.2.2.1⟩ : S50)), bt565.2.2.2.2.1, bt565.2.2.2.2.2)) else (none)) else (none)))) else (some (bt554.1, bt559.2.1, bt559.2.2))))) = some (r1, r2, r3) := h
 clear h
 obtain ⟨⟨t554, t557, t558⟩, A2, H⟩ := bindE H
 try dsimp only at H
 obtain ⟨⟨t559, t560, t561⟩, A3, H⟩ := bindE H
 try dsimp only at H
 by_cases c4 : t559 = true
 ·
  subst c4
  have H1 : ((spec_l1Below.f s0_0 t560 t561 (t554.length : Int)).bind fun bt562 => ((spec_l4Any.f s0_0 bt562.2.1 bt562.2.2).bind fun bt565 => (if 0 ≤ bt562.1 then (if bt562.1 < (t554.length : Int) then (some ((t554.set (bt562.1 : Int).toNat (⟨bt565.1, bt565.2.1, bt565.2.2.1, bt565.2.2.2.1⟩ : S50)), bt565.2.2.2.2.1, bt565.2.2.2.2.2)) else (none)) else (none)))) = some (r1, r2, r3) := by rw [if_pos rfl] at H; exact H
  clear H
  have H := H1
  clear H1
  obtain ⟨⟨t562, t563, t564⟩, A5, H⟩ := bindE H
  try dsimp only at H
  obtain ⟨⟨t565, t566, t567, t568, t569, t570⟩, A6, H⟩ := bindE H
  try dsimp only at H
  have c7 : 0 ≤ t562 := ifN H
  replace H := ifT H
  have c7b0 := decide_eq_true c7
  clear c7
  have c8 : t562 < (t554.length : Int) := ifN H
  replace H := ifT H
  have c8b0 := decide_eq_true c8
  clear c8
  obtain ⟨y571, hy571⟩ : ∃ y_ : List (S50), y_ = (t554.set (t562 : Int).toNat (⟨t565, t566, t567, t568⟩ : S50)) := ⟨_, rfl⟩
  replace H : (some (y571, t569, t570)) = some (r1, r2, r3) := rH H hy571
  have Ny571 := Aside0.mk hy571
  clear hy571
  simp only [Option.some.injEq, Prod.mk.injEq] at H
  obtain ⟨rfl, rfl, rfl⟩ := H
  go_enter Try.func125, Try.ntmps125
  go_wp2_with (first | ((with_reducible refine gate_callee (f := 150) rfl ?_); refine gL (some 5) Try.func150 #[.pointer (some ⟨g, 0, none⟩)] ?_; (with_reducible refine (spec_l5Draw.calls k g s0_0 s0_1 s0_2 t554 t557 t558 w0 _ ?side1 ?side2 A2.out).mono ?_); (case side1 => exact sI1380 HI0.out); (case side2 => exact sB1 HB.out (IsS138.ge HI0.out)); rintro e w10 ⟨v555, rfl, ho0, hi, hb, hk⟩; refine ⟨_, rfl, ?_⟩; have n0_ := Aside0.mk (Kd.R_lower ho0 (keep_size (w := w) (g := g) (row := none) (by exact sK0 HK.out))); have n1_ := Aside0.mk (KeepBut.trans (by exact sK0 HK.out) hk (.inl rfl)); have n2_ := Aside0.mk (hb); have n3_ := Aside0.mk (hi); clear HK; clear HB; clear HI0; have HO556 := n0_; have HK := n1_; have HB := n2_; have HI0 := n3_; clear n0_ n1_ n2_ n3_; (try clear hb); (try clear hk); (try clear hi); (try clear ho0)) | ((with_reducible refine gate_callee (f := 93) rfl ?_); refine gL (some 7) Try.func93 #[.pointer (some ⟨g, 0, none⟩), .int .i64 6] ?_; (with_reducible refine (spec_l1Once.calls g s0_0 t557 t558 6 true t560 t561 w0 _ ?side1 ?side2 A3.out).mono ?_); (case side1 => exact sI1380 HI0.out); (case side2 => exact sB1 HB.out (IsS138.ge HI0.out)); rintro e w11 ⟨rfl, hi, hb, hk⟩; refine ⟨_, rfl, ?_⟩; replace HO556 := Aside0.mk (Kd.R_mono (Kd.R_keep (IsS138.apart (show IsS138 w0 _ g s0_0 t557 t558 from by exact sI1380 HI0.out) (rK HO556) (by decide)) hk (fun _ h => h.2)) (fun _ h => h.1)); replace HK := Aside0.mk (KeepBut.trans (by exact sK0 HK.out) hk (.inl rfl)); replace HB := Aside0.mk (hb); replace HI0 := Aside0.mk (hi); (try clear hb); (try clear hk); (try clear hi); obtain ⟨Ao12, co12, eo12⟩ := Kd.R_slice HO556.out; subst eo12) | ((with_reducible refine gate_callee (f := 84) rfl ?_); refine gL (some 12) Try.func84 #[.pointer (some ⟨g, 0, none⟩), .int .i64 (t554.length : Int)] ?_; (with_reducible refine (spec_l1Below.calls g s0_0 t560 t561 (t554.length : Int) t562 t563 t564 w0 _ ?side1 ?side2 A5.out).mono ?_); (case side1 => exact sI1380 HI0.out); (case side2 => exact sB1 HB.out (IsS138.ge HI0.out)); rintro e w13 ⟨rfl, hi, hb, hk⟩; refine ⟨_, rfl, ?_⟩; replace HO556 := Aside0.mk (Kd.R_mono (Kd.R_keep (IsS138.apart (show IsS138 w0 _ g s0_0 t560 t561 from by exact sI1380 HI0.out) (rK HO556) (by decide)) hk (fun _ h => h.2)) (fun _ h => h.1)); replace HK := Aside0.mk (KeepBut.trans (by exact sK0 HK.out) hk (.inl rfl)); replace HB := Aside0.mk (hb); replace HI0 := Aside0.mk (hi); (try clear hb); (try clear hk); (try clear hi)) | ((with_reducible refine gate_callee (f := 152) rfl ?_); refine gL (some 14) Try.func152 #[.pointer (some ⟨g, 0, none⟩)] ?_; (with_reducible refine (spec_l4Any.calls g s0_0 t563 t564 t565 t566 t567 t568 t569 t570 w0 _ ?side1 ?side2 A6.out).mono ?_); (case side1 => exact sI1380 HI0.out); (case side2 => exact sB1 HB.out (IsS138.ge HI0.out)); rintro e w14 ⟨rfl, hi, hb, hk⟩; refine ⟨_, rfl, ?_⟩; replace HO556 := Aside0.mk (Kd.R_mono (Kd.R_keep (IsS138.apart (show IsS138 w0 _ g s0_0 t563 t564 from by exact sI1380 HI0.out) (rK HO556) (by decide)) hk (fun _ h => h.2)) (fun _ h => h.1)); replace HK := Aside0.mk (KeepBut.trans (by exact sK0 HK.out) hk (.inl rfl)); replace HB := Aside0.mk (hb); replace HI0 := Aside0.mk (hi); (try clear hb); (try clear hk); (try clear hi); have p9 : 0 ≤ (t562 : Int) := dA; have q9 : (t562 : Int) < ((t554.length : Int) : Int) := dA; obtain ⟨go9, co9, eo9, gb9, gl9, cl9, HG9⟩ := Kd.R_form HO556.out (by omega); (first | cases eo9 | (injection eo9 with ea_ en_ ec_; (first | subst ea_ | (injection ea_ with ea_; subst ea_)); subst ec_; clear en_)); have GB9 := Aside0.mk gb9; have GG9 := Aside0.mk HG9; clear gb9 gl9 HG9; obtain ⟨ce9, hcl9, hM9, hcc9, hfr9⟩ := Kd.R_elem HO556.out z50 (t562 : Int) p9 q9; obtain rfl := k50_openM hM9; have hx9_0 : w14.cell? ⟨go9, (t562 : Int).toNat * 4, none⟩ = some (.int .i64 ((rd_T50 t554 t562).f0)) := hcc9 0 _ rfl; have hx9_1 : w14.cell? ⟨go9, (t562 : Int).toNat * 4 + 1, none⟩ = some (.int .i64 ((rd_T50 t554 t562).f1)) := hcc9 1 _ rfl; have hx9_2 : w14.cell? ⟨go9, (t562 : Int).toNat * 4 + 2, none⟩ = some (.int .i64 ((rd_T50 t554 t562).f2)) := hcc9 2 _ rfl; have hx9_3 : w14.cell? ⟨go9, (t562 : Int).toNat * 4 + 3, none⟩ = some (.int .i64 ((rd_T50 t554 t562).f3)) := hcc9 3 _ rfl; have hf9_0 : w14.frozen? ⟨go9, (t562 : Int).toNat * 4, none⟩ = false := hfr9 0; have hf9_1 : w14.frozen? ⟨go9, (t562 : Int).toNat * 4 + 1, none⟩ = false := hfr9 1; have hf9_2 : w14.frozen? ⟨go9, (t562 : Int).toNat * 4 + 2, none⟩ = false := hfr9 2; have hf9_3 : w14.frozen? ⟨go9, (t562 : Int).toNat * 4 + 3, none⟩ = false := hfr9 3; clear hcl9 hcc9 hfr9 hM9; replace p9 := eq_true p9; replace q9 := eq_true q9; have HX15 := Aside0.mk (show Kd.R k50 50 w14 w.heap.size (fun _ => True) (.slice (some ⟨go9, 0, none⟩) t554.length co12) t554 from (rK HO556)); obtain ⟨ce15, hcl15, hM15, hcc15, hfr15⟩ := Kd.R_elem HX15.out z50 (t562 : Int) (dA) (by have h_ : (t562 : Int) < ((t554.length : Int) : Int) := dA; first | exact h_ | (have e_ := (Kd.R_reads' HO556.out).1; omega) | simpa using h_); obtain rfl := k50_openM hM15; have HP15 := Kd.R_seg HX15.out (t562 : Int) (dA) (by have h_ : (t562 : Int) < ((t554.length : Int) : Int) := dA; first | exact h_ | (have e_ := (Kd.R_reads' HO556.out).1; omega) | simpa using h_) (seg := [.int .i64 t565, .int .i64 t566, .int .i64 t567, .int .i64 t568]) (j := 0) hcl15 hcc15 (show 4 ≤ 4 from by decide) (x' := (⟨t565, t566, t567, t568⟩ : S50)) (k50_mkM _ _ _ (⟨t565, t566, t567, t568⟩ : S50) ) (fun _ hk => hk); have hx15_0 := hcc15 0 _ rfl; (try simp only [show (k50).sz = 4 from rfl, Nat.mul_one, Nat.add_zero] at hx15_0); have hf15_0 := hfr15 0; (try simp only [show (k50).sz = 4 from rfl, Nat.mul_one, Nat.add_zero] at hf15_0); have hx15_1 := hcc15 1 _ rfl; (try simp only [show (k50).sz = 4 from rfl, Nat.mul_one, Nat.add_zero] at hx15_1); have hf15_1 := hfr15 1; (try simp only [show (k50).sz = 4 from rfl, Nat.mul_one, Nat.add_zero] at hf15_1); have hx15_2 := hcc15 2 _ rfl; (try simp only [show (k50).sz = 4 from rfl, Nat.mul_one, Nat.add_zero] at hx15_2); have hf15_2 := hfr15 2; (try simp only [show (k50).sz = 4 from rfl, Nat.mul_one, Nat.add_zero] at hf15_2); have hx15_3 := hcc15 3 _ rfl; (try simp only [show (k50).sz = 4 from rfl, Nat.mul_one, Nat.add_zero] at hx15_3); have hf15_3 := hfr15 3; (try simp only [show (k50).sz = 4 from rfl, Nat.mul_one, Nat.add_zero] at hf15_3); clear hcl15 hcc15 hfr15 hM15) | ((with_reducible refine gate_store (t := 50) (p := 15) rfl ?_); refine store_event (t := 50) (p := 15) (v := ?vo_w16) (w1 := ((((w14.setCell ⟨go9, (t562 : Int).toNat * 4, none⟩ (.int .i64 t565)).setCell ⟨go9, (t562 : Int).toNat * 4 + 1, none⟩ (.int .i64 t566)).setCell ⟨go9, (t562 : Int).toNat * 4 + 2, none⟩ (.int .i64 t567)).setCell ⟨go9, (t562 : Int).toNat * 4 + 3, none⟩ (.int .i64 t568))) ?hg ?ho ?hn ?hr ?_; (case ho => rfl); (case hg => rfl); (case hn => rfl); (case hr => first | (go_simp; done) | (go_simp; rfl)); intro w16 hw; have hg : w14.grownBy w16 (some go9) := (by rw [hw]; exact HP15.2); have hp_ : Kd.R k50 50 w16 w.heap.size (fun _ => True) (.slice (some ⟨go9, 0, none⟩) t554.length co12) y571 := (by rw [hw, Ny571.out]; exact HP15.1); clear HP15; have n0_ := Aside0.mk (IsS138.grown (by exact sI1380 HI0.out) hg (IsS138.own_ne HI0.out HO556.out (by decide))); have n1_ := Aside0.mk (hp_); have n2_ := Aside0.mk ((by rw [hw]; exact below_set (below_set (below_set (below_set (HB.out) (Nat.le_trans HL.out GB9.out)) (Nat.le_trans HL.out GB9.out)) (Nat.le_trans HL.out GB9.out)) (Nat.le_trans HL.out GB9.out) : Below w0.heap.size w0 w16)); have n3_ := Aside0.mk (KeepBut.trans (by exact sK0 HK.out) (KeepBut.of_grown hg g) (Kd.R_base2 HO556.out)); clear HI0; clear HO556; clear HB; clear HK; have HI0 := n0_; have HO556 := n1_; have HB := n2_; have HK := n3_; clear n0_ n1_ n2_ n3_; clear hg hw hp_))
  go_ret
  exact ⟨_, by first | rfl | (simp [errW_none, errW_some] <;> rfl) | (simp [*, errW_none, errW_some] <;> rfl), by (with_reducible repeat (first | apply Kd.R_alloc | apply Kd.R_drewN | apply Kd.R_drew)); exact HO556.out, by exact sI1380 HI0.out, by exact sB1 HB.out (IsS138.ge HI0.out), by exact sK0 HK.out⟩
 ·
  replace c4 := Bool.eq_false_iff.mpr c4
  subst c4
  have H1 : (some (t554, t560, t561)) = some (r1, r2, r3) := by rw [if_neg (show ¬ (false = true) by decide)] at H; exact H
  clear H
  have H := H1
  clear H1
  simp only [Option.some.injEq, Prod.mk.injEq] at H
  obtain ⟨rfl, rfl, rfl⟩ := H
  go_enter Try.func125, Try.ntmps125
  go_wp2_with (first | ((with_reducible refine gate_callee (f := 150) rfl ?_); refine gL (some 5) Try.func150 #[.pointer (some ⟨g, 0, none⟩)] ?_; (with_reducible refine (spec_l5Draw.calls k g s0_0 s0_1 s0_2 t554 t557 t558 w0 _ ?side1 ?side2 A2.out).mono ?_); (case side1 => exact sI1380 HI0.out); (case side2 => exact sB1 HB.out (IsS138.ge HI0.out)); rintro e w17 ⟨v555, rfl, ho0, hi, hb, hk⟩; refine ⟨_, rfl, ?_⟩; have n0_ := Aside0.mk (Kd.R_lower ho0 (keep_size (w := w) (g := g) (row := none) (by exact sK0 HK.out))); have n1_ := Aside0.mk (KeepBut.trans (by exact sK0 HK.out) hk (.inl rfl)); have n2_ := Aside0.mk (hb); have n3_ := Aside0.mk (hi); clear HK; clear HB; clear HI0; have HO556 := n0_; have HK := n1_; have HB := n2_; have HI0 := n3_; clear n0_ n1_ n2_ n3_; (try clear hb); (try clear hk); (try clear hi); (try clear ho0)) | ((with_reducible refine gate_callee (f := 93) rfl ?_); refine gL (some 7) Try.func93 #[.pointer (some ⟨g, 0, none⟩), .int .i64 6] ?_; (with_reducible refine (spec_l1Once.calls g s0_0 t557 t558 6 false t560 t561 w0 _ ?side1 ?side2 A3.out).mono ?_); (case side1 => exact sI1380 HI0.out); (case side2 => exact sB1 HB.out (IsS138.ge HI0.out)); rintro e w18 ⟨rfl, hi, hb, hk⟩; refine ⟨_, rfl, ?_⟩; replace HO556 := Aside0.mk (Kd.R_mono (Kd.R_keep (IsS138.apart (show IsS138 w0 _ g s0_0 t557 t558 from by exact sI1380 HI0.out) (rK HO556) (by decide)) hk (fun _ h => h.2)) (fun _ h => h.1)); replace HK := Aside0.mk (KeepBut.trans (by exact sK0 HK.out) hk (.inl rfl)); replace HB := Aside0.mk (hb); replace HI0 := Aside0.mk (hi); (try clear hb); (try clear hk); (try clear hi)))
  go_ret
  exact ⟨_, by first | rfl | (simp [errW_none, errW_some] <;> rfl) | (simp [*, errW_none, errW_some] <;> rfl), by (with_reducible repeat (first | apply Kd.R_alloc | apply Kd.R_drewN | apply Kd.R_drew)); exact HO556.out, by exact sI1380 HI0.out, by exact sB1 HB.out (IsS138.ge HI0.out), by exact sK0 HK.out⟩

/-! ### spec_l8Any: function 82 -/
def spec_l8Any.f (k : Nat) (s0_0 : List Int) (s0_1 : Int) (s0_2 : Int) : Option ((List (S50)) × (List (S85)) × Int × Int) := (spec_l8Draw.f k s0_0 s0_1 s0_2).bind fun bt572 => (if (bt572.2.1.length : Int) = 0 then (some (bt572.1, bt572.2.1, bt572.2.2.1, bt572.2.2.2)) else ((spec_l1Below.f s0_0 bt572.2.2.1 bt572.2.2.2 (bt572.2.1.length : Int)).bind fun bt580 => ((spec_l1Below.f s0_0 bt580.2.1 bt580.2.2 10).bind fun bt583 => (if bt583.1 = 0 then ((spec_l1Int.f s0_0 bt583.2.1 bt583.2.2 (([4, 60, 61, 9223372036854775807] : List Int))).bind fun bt589 => (if 0 ≤ bt580.1 then (if bt580.1 < (bt572.2.1.length : Int) then (some (bt572.1, (bt572.2.1.set (bt580.1 : Int).toNat (⟨(rd_T85 bt572.2.1 bt580.1).f0, bt589.1⟩ : S85)), bt589.2.1, bt589.2.2)) else (none)) else (none))) else (if bt583.1 = 1 then (if 0 ≤ bt580.1 then (if bt580.1 < (bt572.2.1.length : Int) then (if 1 ≤ (((rd_T85 bt572.2.1 bt580.1).f0).length : Int) then (some (bt572.1, (bt572.2.1.set (bt580.1 : Int).toNat (⟨(((rd_T85 bt572.2.1 bt580.1).f0).drop 1), (rd_T85 bt572.2.1 bt580.1).f1⟩ : S85)), bt583.2.1, bt583.2.2)) else (none)) else (none)) else (none)) else (if bt583.1 = 2 then ((spec_l5Any.f k s0_0 bt583.2.1 bt583.2.2).bind fun bt600 => (some (bt600.1, bt572.2.1, bt600.2.1, bt600.2.2))) else (if bt583.1 = 3 then (if 1 ≤ (bt572.2.1.length : Int) then (some (bt572.1, (bt572.2.1.drop 1), bt583.2.1, bt583.2.2)) else (none)) else (some (bt572.1, bt572.2.1, bt583.2.1, bt583.2.2)))))))))
theorem spec_l8Any.mono : ∀ a0 a1 a2 k, LeO (spec_l8Any.f k a0 a1 a2) (spec_l8Any.f (k + 1) a0 a1 a2) := by
 intro a0 a1 a2 k
 unfold spec_l8Any.f
 repeat' first | (with_reducible first | exact LeO.refl _ | exact LeO.none _ | refine LeO.ite ?_ ?_ | refine LeO.bind ?_ (fun _ => ?_) | exact spec_l5Any.mono _ _ _ _ | exact spec_l8Draw.mono _ _ _ _)
set_option maxHeartbeats 8000000 in
set_option maxRecDepth 100000 in
theorem spec_l8Any.calls (k : Nat) (g : Nat) (s0_0 : List Int) (s0_1 : Int) (s0_2 : Int) (r1 : List (S50)) (r2 : List (S85)) (r3 : Int) (r4 : Int) (w0 w : World) (hI : IsS138 w0 w g s0_0 s0_1 s0_2) (hB : Below w0.heap.size w0 w) (h : spec_l8Any.f k s0_0 s0_1 s0_2 = some (r1, r2, r3, r4)) :
  Calls Try.prog 82 #[.pointer (some ⟨g, 0, none⟩)] w fun e w' => ∃ v0_ v1_ : Value, e = .returned (.tuple #[v0_, v1_]) ∧ Kd.R k50 50 w' w.heap.size (fun k_ => (w.heap.size ≤ k_)) v0_ r1 ∧ Kd.V k85 85 w' w.heap.size (fun k_ => (w.heap.size ≤ k_) ∧ some k_ ≠ (v0_ : Value).ownBlock) v1_ r2 ∧ IsS138 w0 w' g s0_0 r3 r4 ∧ Below w0.heap.size w0 w' ∧ KeepBut w w' g none := by
 have HI0 := Aside0.mk hI
 have HK := Aside0.mk (KeepBut.refl w g none)
 have HL := Aside0.mk hB.size
 clear hI
 have HW0 := Aside0.mk hB.size
 have HB := Aside0.mk hB
 clear hB
 have H : ((spec_l8Draw.f k s0_0 s0_1 s0_2).bind fun bt572 => (if (bt572.2.1.length : Int) = 0 then (some (bt572.1, bt572.2.1, bt572.2.2.1, bt572.2.2.2)) else ((spec_l1Below.f s0_0 bt572.2.2.1 bt572.2.2.2 (bt572.2.1.length : Int)).bind fun bt580 => ((spec_l1Below.f s0_0 bt580.2.1 bt580.2.2 10).bind fun bt583 => (if bt583.1 = 0 then ((spec_l1Int.f s0_0 bt583.2.1 bt583.2.2 (([4, 60, 61, 9223372036854775807] : List Int))).bind fun bt589 => (if 0 ≤ bt580.1 then (if bt580.1 < (bt572.2.1.length : Int) then (some (bt572.1, (bt572.2.1.set (bt580.1 : Int).toNat (⟨(rd_T85 bt572.2.1 bt580.1).f0, bt589.1⟩ : S85)), bt589.2.1, bt589.2.2)) else (none)) else (none))) else (if bt583.1 = 1 then (if 0 ≤ bt580.1 then (if bt580.1 < (bt572.2.1.length : Int) then (if 1 ≤ (((rd_T85 bt572.2.1 bt580.1).f0).length : Int) then (some (bt572.1, (bt572.2.1.set (bt580.1 : Int).toNat (⟨(((rd_T85 bt572.2.1 bt580.1).f0).drop 1), (rd_T85 bt572.2.1 bt580.1).f1⟩ : S85)), bt583.2.1, bt583.2.2)) else (none)) else (none)) else (none)) else (if bt583.1 = 2 then ((spec_l5Any.f k s0_0 bt583.2.1 bt583.2.2).bind fun bt600 => (some (bt600.1, bt572.2.1, bt600.2.1, bt600.2.2))) else (if bt583.1 = 3 then (if 1 ≤ (bt572.2.1.length : Int) then (some (bt572.1, (bt572.2.1.drop 1), bt583.2.1, bt583.2.2)) else (none)) else (some (bt572.1, bt572.2.1, bt583.2.1, bt583.2.2)))))))))) = some (r1, r2, r3, r4) := h
 clear h
 obtain ⟨⟨t572, t575, t578, t579⟩, A2, H⟩ := bindE H
 try dsimp only at H
 by_cases c3 : (t575.length : Int) = 0
 ·
  rw [if_pos c3] at H
  have c3b0 : ((t575.length : Int) == 0) = true := beq_iff_eq.mpr c3
  have c3b1 : ((t575.length : Int) != 0) = false := bne_eq_false_iff_eq.mpr c3
  clear c3
  simp only [Option.some.injEq, Prod.mk.injEq] at H
  obtain ⟨rfl, rfl, rfl, rfl⟩ := H
  go_enter Try.func82, Try.ntmps82
  go_wp2_with (first | ((with_reducible refine gate_callee (f := 124) rfl ?_); refine gL (some 9) Try.func124 #[.pointer (some ⟨g, 0, none⟩)] ?_; (with_reducible refine (spec_l8Draw.calls k g s0_0 s0_1 s0_2 t572 t575 t578 t579 w0 _ ?side1 ?side2 A2.out).mono ?_); (case side1 => exact sI1380 HI0.out); (case side2 => exact sB1 HB.out (IsS138.ge HI0.out)); rintro e w4 ⟨v573, v576, rfl, ho0, ho1, hi, hb, hk⟩; refine ⟨_, rfl, ?_⟩; have n0_ := Aside0.mk (Kd.R_lower (Kd.R_newM (M := fun k_ => (w.heap.size ≤ k_)) (Kd.R_mono (ok' := fun k_ => True) ho0 (fun _ hk_ => trivial)) (keep_size (w := w) (g := g) (row := none) (by exact sK0 HK.out)) (fun k_ h_ => h_)) (keep_size (w := w) (g := g) (row := none) (by exact sK0 HK.out))); have n1_ := Aside0.mk (Kd.N_lower (Kd.N_mono (ok' := fun k_ => (w.heap.size ≤ k_) ∧ some k_ ≠ (v573 : Value).ownBlock ∧ k_ ≠ g) ho1 (fun k_ hk_ => ⟨(Nat.le_trans (keep_size (w := w) (g := g) (row := none) (by exact sK0 HK.out)) hk_.1), hk_.2, (IsS138.fresh (by exact sI1380 HI0.out) k_ hk_.1)⟩)) (keep_size (w := w) (g := g) (row := none) (by exact sK0 HK.out))); have n2_ := Aside0.mk (KeepBut.trans (by exact sK0 HK.out) hk (.inl rfl)); have n3_ := Aside0.mk (hb); have n4_ := Aside0.mk (hi); clear HK; clear HB; clear HI0; have HO574 := n0_; have HO577 := n1_; have HK := n2_; have HB := n3_; have HI0 := n4_; clear n0_ n1_ n2_ n3_ n4_; (try clear hb); (try clear hk); (try clear hi); (try clear ho0); (try clear ho1); obtain ⟨Ao5, co5, eo5⟩ := Kd.N_slice HO577.out; subst eo5))
  go_ret2
  exact ⟨_, _, by first | rfl | (simp [errW_none, errW_some] <;> rfl) | (simp [*, errW_none, errW_some] <;> rfl), by (with_reducible repeat (first | apply Kd.R_alloc | apply Kd.R_drewN | apply Kd.R_drew)); exact Kd.R_mono HO574.out (fun _ hk => hk.1), Kd.N_V (by (with_reducible repeat (first | apply Kd.N_alloc | apply Kd.N_drewN | apply Kd.N_drew)); exact Kd.N_mono HO577.out (fun _ hk => ⟨hk.1, hk.2.1⟩)), by exact sI1380 HI0.out, by exact sB1 HB.out (IsS138.ge HI0.out), by exact sK0 HK.out⟩
 ·
  rw [if_neg c3] at H
  have c3b0 : ((t575.length : Int) == 0) = false := beq_eq_false_iff_ne.mpr c3
  have c3b1 : ((t575.length : Int) != 0) = true := bne_iff_ne.mpr c3
  have c3b2 : ¬ (t575 = []) := fun h_ => c3 (by rw [h_]; rfl)
  obtain ⟨⟨t580, t581, t582⟩, A6, H⟩ := bindE H
  try dsimp only at H
  obtain ⟨⟨t583, t584, t585⟩, A7, H⟩ := bindE H
  try dsimp only at H
  by_cases c8 : t583 = 0
  ·
   rw [if_pos c8] at H
   have c8b0 : (t583 == 0) = true := beq_iff_eq.mpr c8
   have c8b1 : (t583 != 0) = false := bne_eq_false_iff_eq.mpr c8
   clear c8
   obtain ⟨y586, hy586⟩ : ∃ y_ : List Int, y_ = (([4, 60, 61, 9223372036854775807] : List Int)) := ⟨_, rfl⟩
   replace H : ((spec_l1Int.f s0_0 t584 t585 y586).bind fun bt589 => (if 0 ≤ t580 then (if t580 < (t575.length : Int) then (some (t572, (t575.set (t580 : Int).toNat (⟨(rd_T85 t575 t580).f0, bt589.1⟩ : S85)), bt589.2.1, bt589.2.2)) else (none)) else (none))) = some (r1, r2, r3, r4) := rH H hy586
   have Ny586 := Aside0.mk hy586
   clear hy586
   obtain ⟨⟨t589, t590, t591⟩, A9, H⟩ := bindE H
   try dsimp only at H
   have c10 : 0 ≤ t580 := ifN H
   replace H := ifT H
   have c10b0 := decide_eq_true c10
   clear c10
   have c11 : t580 < (t575.length : Int) := ifN H
   replace H := ifT H
   have c11b0 := decide_eq_true c11
   clear c11
   obtain ⟨y592, hy592⟩ : ∃ y_ : List (S85), y_ = (t575.set (t580 : Int).toNat (⟨(rd_T85 t575 t580).f0, t589⟩ : S85)) := ⟨_, rfl⟩
   replace H : (some (t572, y592, t590, t591)) = some (r1, r2, r3, r4) := rH H hy592
   have Ny592 := Aside0.mk hy592
   clear hy592
   simp only [Option.some.injEq, Prod.mk.injEq] at H
   obtain ⟨rfl, rfl, rfl, rfl⟩ := H
   go_enter Try.func82, Try.ntmps82
   go_wp2_with (first | ((with_reducible refine gate_callee (f := 124) rfl ?_); refine gL (some 9) Try.func124 #[.pointer (some ⟨g, 0, none⟩)] ?_; (with_reducible refine (spec_l8Draw.calls k g s0_0 s0_1 s0_2 t572 t575 t578 t579 w0 _ ?side1 ?side2 A2.out).mono ?_); (case side1 => exact sI1380 HI0.out); (case side2 => exact sB1 HB.out (IsS138.ge HI0.out)); rintro e w13 ⟨v573, v576, rfl, ho0, ho1, hi, hb, hk⟩; refine ⟨_, rfl, ?_⟩; have n0_ := Aside0.mk (Kd.R_lower (Kd.R_newM (M := fun k_ => (w.heap.size ≤ k_)) (Kd.R_mono (ok' := fun k_ => True) ho0 (fun _ hk_ => trivial)) (keep_size (w := w) (g := g) (row := none) (by exact sK0 HK.out)) (fun k_ h_ => h_)) (keep_size (w := w) (g := g) (row := none) (by exact sK0 HK.out))); have n1_ := Aside0.mk (Kd.N_lower (Kd.N_mono (ok' := fun k_ => (w.heap.size ≤ k_) ∧ some k_ ≠ (v573 : Value).ownBlock ∧ k_ ≠ g) ho1 (fun k_ hk_ => ⟨(Nat.le_trans (keep_size (w := w) (g := g) (row := none) (by exact sK0 HK.out)) hk_.1), hk_.2, (IsS138.fresh (by exact sI1380 HI0.out) k_ hk_.1)⟩)) (keep_size (w := w) (g := g) (row := none) (by exact sK0 HK.out))); have n2_ := Aside0.mk (KeepBut.trans (by exact sK0 HK.out) hk (.inl rfl)); have n3_ := Aside0.mk (hb); have n4_ := Aside0.mk (hi); clear HK; clear HB; clear HI0; have HO574 := n0_; have HO577 := n1_; have HK := n2_; have HB := n3_; have HI0 := n4_; clear n0_ n1_ n2_ n3_ n4_; (try clear hb); (try clear hk); (try clear hi); (try clear ho0); (try clear ho1); obtain ⟨Ao14, co14, eo14⟩ := Kd.N_slice HO577.out; subst eo14) | ((with_reducible refine gate_callee (f := 84) rfl ?_); refine gL (some 20) Try.func84 #[.pointer (some ⟨g, 0, none⟩), .int .i64 (t575.length : Int)] ?_; (with_reducible refine (spec_l1Below.calls g s0_0 t578 t579 (t575.length : Int) t580 t581 t582 w0 _ ?side1 ?side2 A6.out).mono ?_); (case side1 => exact sI1380 HI0.out); (case side2 => exact sB1 HB.out (IsS138.ge HI0.out)); rintro e w15 ⟨rfl, hi, hb, hk⟩; refine ⟨_, rfl, ?_⟩; have n0_ := Aside0.mk (Kd.R_mono (Kd.R_keep (IsS138.apart (show IsS138 w0 _ g s0_0 t578 t579 from by exact sI1380 HI0.out) (rK HO574) (by decide)) hk (fun _ h => h.2)) (fun _ h => h.1)); have n1_ := Aside0.mk (Kd.N_mono (Kd.N_keep (Kd.N_mono (ok := fun k_ => (((w.heap.size ≤ k_)) ∧ (some k_ ≠ (v573 : Value).ownBlock ∧ k_ ≠ g))) (by (with_reducible repeat (first | apply Kd.N_alloc | apply Kd.N_drewN | apply Kd.N_drew)); exact HO577.out) (fun k_ hk_ => (⟨hk_, hk_.2.2⟩ : _ ∧ k_ ≠ g))) hk (fun _ h => h.2)) (fun _ h => h.1)); have n2_ := Aside0.mk (KeepBut.trans (by exact sK0 HK.out) hk (.inl rfl)); have n3_ := Aside0.mk (hb); have n4_ := Aside0.mk (hi); clear HO574; clear HO577; clear HK; clear HB; clear HI0; have HO574 := n0_; have HO577 := n1_; have HK := n2_; have HB := n3_; have HI0 := n4_; clear n0_ n1_ n2_ n3_ n4_; (try clear hb); (try clear hk); (try clear hi)) | ((with_reducible refine gate_callee (f := 84) rfl ?_); refine gL (some 22) Try.func84 #[.pointer (some ⟨g, 0, none⟩), .int .i64 10] ?_; (with_reducible refine (spec_l1Below.calls g s0_0 t581 t582 10 t583 t584 t585 w0 _ ?side1 ?side2 A7.out).mono ?_); (case side1 => exact sI1380 HI0.out); (case side2 => exact sB1 HB.out (IsS138.ge HI0.out)); rintro e w16 ⟨rfl, hi, hb, hk⟩; refine ⟨_, rfl, ?_⟩; have n0_ := Aside0.mk (Kd.R_mono (Kd.R_keep (IsS138.apart (show IsS138 w0 _ g s0_0 t581 t582 from by exact sI1380 HI0.out) (rK HO574) (by decide)) hk (fun _ h => h.2)) (fun _ h => h.1)); have n1_ := Aside0.mk (Kd.N_mono (Kd.N_keep (Kd.N_mono (ok := fun k_ => (((w.heap.size ≤ k_)) ∧ (some k_ ≠ (v573 : Value).ownBlock ∧ k_ ≠ g))) (by (with_reducible repeat (first | apply Kd.N_alloc | apply Kd.N_drewN | apply Kd.N_drew)); exact HO577.out) (fun k_ hk_ => (⟨hk_, hk_.2.2⟩ : _ ∧ k_ ≠ g))) hk (fun _ h => h.2)) (fun _ h => h.1)); have n2_ := Aside0.mk (KeepBut.trans (by exact sK0 HK.out) hk (.inl rfl)); have n3_ := Aside0.mk (hb); have n4_ := Aside0.mk (hi); clear HO574; clear HO577; clear HK; clear HB; clear HI0; have HO574 := n0_; have HO577 := n1_; have HK := n2_; have HB := n3_; have HI0 := n4_; clear n0_ n1_ n2_ n3_ n4_; (try clear hb); (try clear hk); (try clear hi)) | ((with_reducible refine gate_dst (N := 28) rfl ?_); refine Kd.R_lit (Kd.int .i64) _ 3 ?hg (N := 28) ?hd (xs := ([4, 60, 61, 9223372036854775807] : List Int)) (inner := [.int .i64 4, .int .i64 60, .int .i64 61, .int .i64 9223372036854775807]) (ok := fun _ => True) (okp := fun _ => True) ?hr ?hp (fun _ hk => hk) trivial (Below.refl _ _) (Nat.le_refl _) (by simp) ?_; (case hd => rfl); (case hg => rfl); (case hr => first | (go_simp; done) | (go_simp; rfl)); (case hp => exact (Reps.one (show Kd.M (Kd.int .i64) _ _ _ 4 [.int .i64 4] from rfl) (Reps.one (show Kd.M (Kd.int .i64) _ _ _ 60 [.int .i64 60] from rfl) (Reps.one (show Kd.M (Kd.int .i64) _ _ _ 61 [.int .i64 61] from rfl) (Reps.one (show Kd.M (Kd.int .i64) _ _ _ 9223372036854775807 [.int .i64 9223372036854775807] from rfl) (Reps.none _ _)))))); intro v587 w17 ho18 hb hg_ hnew_; clear hg_ hnew_; (first | rw [← Ny586.out] at ho18 | (simp only [Int.reduceToNat] at ho18; rw [← Ny586.out] at ho18)); have n0_ := Aside0.mk (Kd.R_below (rK HO574) hb); have n1_ := Aside0.mk (Kd.N_elder' (by (with_reducible repeat (first | apply Kd.N_alloc | apply Kd.N_drewN | apply Kd.N_drew)); exact HO577.out) (Kd.R_base ho18) hb); have n2_ := Aside0.mk (Kd.R_lower (Kd.R_newM (M := fun k_ => (w.heap.size ≤ k_)) ho18 (keep_size (w := w) (g := g) (row := none) (by exact sK0 HK.out)) (fun k_ h_ => h_)) (keep_size (w := w) (g := g) (row := none) (by exact sK0 HK.out))); have n3_ := Aside0.mk (IsS138.below (by exact sI1380 HI0.out) hb); have n4_ := Aside0.mk (KeepBut.trans (by exact sK0 HK.out) (KeepBut.of_below hb g none) (.inl rfl)); have n5_ := Aside0.mk (below_step (by exact sB1 HB.out (IsS138.ge HI0.out)) hb); clear HO574; clear HO577; clear HI0; clear HK; clear HB; have HO574 := n0_; have HO577 := n1_; have HO588 := n2_; have HI0 := n3_; have HK := n4_; have HB := n5_; clear n0_ n1_ n2_ n3_ n4_ n5_; clear hb ho18; obtain ⟨Ao19, co19, eo19⟩ := Kd.R_slice HO588.out; subst eo19) | ((with_reducible refine gate_callee (f := 94) rfl ?_); refine gL (some 29) Try.func94 #[.pointer (some ⟨g, 0, none⟩), .slice Ao19 y586.length co19] ?_; (with_reducible refine (spec_l1Int.calls g s0_0 t584 t585 _ _ y586 t589 t590 t591 w0 _ ?side1 ?side2 ?side3 ?side4 ?side5 A9.out).mono ?_); (case side1 => exact sI1380 HI0.out); (case side2 => exact sB1 HB.out (IsS138.ge HI0.out)); (case side3 => exact cO ⟨(Kd.R_reads' HO588.out).2.2⟩); (case side4 => exact (Kd.R_reads' HO588.out).2.1); (case side5 => exact far_slice (IsS138.own_ne HI0.out HO588.out (by decide))); rintro e w20 ⟨rfl, hi, hb, hk⟩; refine ⟨_, rfl, ?_⟩; have n0_ := Aside0.mk (Kd.R_mono (Kd.R_keep (IsS138.apart (show IsS138 w0 _ g s0_0 t584 t585 from by exact sI1380 HI0.out) (rK HO574) (by decide)) hk (fun _ h => h.2)) (fun _ h => h.1)); have n1_ := Aside0.mk (Kd.N_mono (Kd.N_keep (Kd.N_mono (ok := fun k_ => ((((w.heap.size ≤ k_)) ∧ (some k_ ≠ (v573 : Value).ownBlock ∧ k_ ≠ g)) ∧ some k_ ≠ (.slice Ao19 y586.length co19 : Value).ownBlock)) (by (with_reducible repeat (first | apply Kd.N_alloc | apply Kd.N_drewN | apply Kd.N_drew)); exact HO577.out) (fun k_ hk_ => (⟨hk_, hk_.1.2.2⟩ : _ ∧ k_ ≠ g))) hk (fun _ h => h.2)) (fun _ h => h.1)); have n2_ := Aside0.mk (Kd.R_mono (Kd.R_keep (IsS138.apart (show IsS138 w0 _ g s0_0 t584 t585 from by exact sI1380 HI0.out) (rK HO588) (by decide)) hk (fun _ h => h.2)) (fun _ h => h.1)); have n3_ := Aside0.mk (KeepBut.trans (by exact sK0 HK.out) hk (.inl rfl)); have n4_ := Aside0.mk (hb); have n5_ := Aside0.mk (hi); clear HO574; clear HO577; clear HO588; clear HK; clear HB; clear HI0; have HO574 := n0_; have HO577 := n1_; have HO588 := n2_; have HK := n3_; have HB := n4_; have HI0 := n5_; clear n0_ n1_ n2_ n3_ n4_ n5_; (try clear hb); (try clear hk); (try clear hi); have p12 : 0 ≤ (t580 : Int) := dA; have q12 : (t580 : Int) < ((t575.length : Int) : Int) := dA; obtain ⟨go12, co12, eo12, gb12, gl12, cl12, HG12⟩ := Kd.N_form HO577.out (by omega); (first | cases eo12 | (injection eo12 with ea_ en_ ec_; (first | subst ea_ | (injection ea_ with ea_; subst ea_)); subst ec_; clear en_)); have GB12 := Aside0.mk gb12; have GG12 := Aside0.mk HG12; clear gb12 gl12 HG12; obtain ⟨ce12, hcl12, hM12, hcc12, hfr12⟩ := Kd.N_elem HO577.out z85 (t580 : Int) p12 q12; obtain ⟨ua12_0, uc12_0, rfl, ul12_0, ge12_0⟩ := k85_openF hM12; have hx12_0 : w20.cell? ⟨go12, (t580 : Int).toNat * 2, none⟩ = some (.slice ua12_0 ((rd_T85 t575 t580).f0).length uc12_0) := hcc12 0 _ rfl; have hx12_1 : w20.cell? ⟨go12, (t580 : Int).toNat * 2 + 1, none⟩ = some (.int .i64 ((rd_T85 t575 t580).f1)) := hcc12 1 _ rfl; have hf12_0 : w20.frozen? ⟨go12, (t580 : Int).toNat * 2, none⟩ = false := hfr12 0; have hf12_1 : w20.frozen? ⟨go12, (t580 : Int).toNat * 2 + 1, none⟩ = false := hfr12 1; clear hcl12 hcc12 hfr12 hM12; replace p12 := eq_true p12; replace q12 := eq_true q12; have n_ := Aside0.mk (Kd.N_mono (ok' := (fun k_ => (w.heap.size ≤ k_) ∧ some k_ ≠ (v573 : Value).ownBlock ∧ some k_ ≠ (.slice Ao19 y586.length co19 : Value).ownBlock)) HO577.out (fun k_ hk => ⟨hk.1.1, ⟨hk.1.2.1, hk.2⟩⟩)); clear HO577; have HO577 := n_; clear n_; have HX21 := Aside0.mk (show Kd.N k85 85 w20 w.heap.size (fun k_ => (w.heap.size ≤ k_) ∧ some k_ ≠ (v573 : Value).ownBlock ∧ some k_ ≠ (.slice Ao19 y586.length co19 : Value).ownBlock) (.slice (some ⟨go12, 0, none⟩) t575.length co14) t575 from (by (with_reducible repeat (first | apply Kd.N_alloc | apply Kd.N_drewN | apply Kd.N_drew)); exact HO577.out)); obtain ⟨ce21, hcl21, hM21, hcc21, hfr21⟩ := Kd.N_elem HX21.out z85 (t580 : Int) (dA) (by have h_ : (t580 : Int) < ((t575.length : Int) : Int) := dA; first | exact h_ | (have e_ := (Kd.N_reads' HO577.out).1; omega) | simpa using h_); obtain ⟨ua21_0, uc21_0, rfl, ul21_0, ge21_0⟩ := k85_openF hM21; have HP21 := Kd.N_seg HX21.out (t580 : Int) (dA) (by have h_ : (t580 : Int) < ((t575.length : Int) : Int) := dA; first | exact h_ | (have e_ := (Kd.N_reads' HO577.out).1; omega) | simpa using h_) (seg := [.int .i64 t589]) (j := 1) hcl21 hcc21 (show 2 ≤ 2 from by decide) (x' := (⟨(rd_T85 t575 t580).f0, t589⟩ : S85)) (k85_mkF _ _ (⟨(rd_T85 t575 t580).f0, t589⟩ : S85) ul21_0 ge21_0) (fun _ hk => hk); have hx21_1 := hcc21 1 _ rfl; (try simp only [show (k85).sz = 2 from rfl, Nat.mul_one, Nat.add_zero] at hx21_1); have hf21_1 := hfr21 1; (try simp only [show (k85).sz = 2 from rfl, Nat.mul_one, Nat.add_zero] at hf21_1); clear hcl21 hcc21 hfr21 hM21) | ((with_reducible refine gate_store (t := 3) (p := 31) rfl ?_); refine store_event (t := 3) (p := 31) (v := ?vo_w22) (w1 := (w20.setCell ⟨go12, (t580 : Int).toNat * 2 + 1, none⟩ (.int .i64 t589))) ?hg ?ho ?hn ?hr ?_; (case ho => rfl); (case hg => rfl); (case hn => rfl); (case hr => first | (go_simp; done) | (go_simp; rfl)); intro w22 hw; have hg : w20.grownBy w22 (some go12) := (by rw [hw]; exact HP21.2); have hp_ : Kd.N k85 85 w22 w.heap.size (fun k_ => (w.heap.size ≤ k_) ∧ some k_ ≠ (v573 : Value).ownBlock ∧ some k_ ≠ (.slice Ao19 y586.length co19 : Value).ownBlock) (.slice (some ⟨go12, 0, none⟩) t575.length co14) y592 := (by rw [hw, Ny592.out]; exact HP21.1); clear HP21; have n0_ := Aside0.mk (IsS138.grown (by exact sI1380 HI0.out) hg (IsS138.own_neN HI0.out HO577.out (by decide))); have n1_ := Aside0.mk (Kd.R_over' (v := (.slice (some ⟨go12, 0, none⟩) t575.length co14)) (rK HO574) (Kd.N_typed HO577.out) (by decide) hg); have n2_ := Aside0.mk (hp_); have n3_ := Aside0.mk (Kd.R_over' (v := (.slice (some ⟨go12, 0, none⟩) t575.length co14)) (rK HO588) (Kd.N_typed HO577.out) (by decide) hg); have n4_ := Aside0.mk ((by rw [hw]; exact below_set (HB.out) (Nat.le_trans HL.out GB12.out) : Below w0.heap.size w0 w22)); have n5_ := Aside0.mk (KeepBut.trans (by exact sK0 HK.out) (KeepBut.of_grown hg g) (Kd.N_base2 HO577.out)); clear HI0; clear HO574; clear HO577; clear HO588; clear HB; clear HK; have HI0 := n0_; have HO574 := n1_; have HO577 := n2_; have HO588 := n3_; have HB := n4_; have HK := n5_; clear n0_ n1_ n2_ n3_ n4_ n5_; clear hg hw hp_))
   go_ret2
   exact ⟨_, _, by first | rfl | (simp [errW_none, errW_some] <;> rfl) | (simp [*, errW_none, errW_some] <;> rfl), by (with_reducible repeat (first | apply Kd.R_alloc | apply Kd.R_drewN | apply Kd.R_drew)); exact Kd.R_mono HO574.out (fun _ hk => hk.1), Kd.N_V (by (with_reducible repeat (first | apply Kd.N_alloc | apply Kd.N_drewN | apply Kd.N_drew)); exact Kd.N_mono HO577.out (fun _ hk => ⟨hk.1, hk.2.1⟩)), by exact sI1380 HI0.out, by exact sB1 HB.out (IsS138.ge HI0.out), by exact sK0 HK.out⟩
  ·
   rw [if_neg c8] at H
   have c8b0 : (t583 == 0) = false := beq_eq_false_iff_ne.mpr c8
   have c8b1 : (t583 != 0) = true := bne_iff_ne.mpr c8
   by_cases c23 : t583 = 1
   ·
    rw [if_pos c23] at H
    have c23b0 : (t583 == 1) = true := beq_iff_eq.mpr c23
    have c23b1 : (t583 != 1) = false := bne_eq_false_iff_eq.mpr c23
    clear c23
    have c24 : 0 ≤ t580 := ifN H
    replace H := ifT H
    have c24b0 := decide_eq_true c24
    clear c24
    have c25 : t580 < (t575.length : Int) := ifN H
    replace H := ifT H
    have c25b0 := decide_eq_true c25
    clear c25
    have c26 : 1 ≤ (((rd_T85 t575 t580).f0).length : Int) := ifN H
    replace H := ifT H
    have c26b0 := eq_true c26
    have c26b1 := decide_eq_true c26
    clear c26
    obtain ⟨y594, hy594⟩ : ∃ y_ : List Int, y_ = (((rd_T85 t575 t580).f0).drop 1) := ⟨_, rfl⟩
    replace H : (some (t572, (t575.set (t580 : Int).toNat (⟨y594, (rd_T85 t575 t580).f1⟩ : S85)), t584, t585)) = some (r1, r2, r3, r4) := rH H hy594
    have Ny594 := Aside0.mk hy594
    clear hy594
    obtain ⟨y599, hy599⟩ : ∃ y_ : List (S85), y_ = (t575.set (t580 : Int).toNat (⟨y594, (rd_T85 t575 t580).f1⟩ : S85)) := ⟨_, rfl⟩
    replace H : (some (t572, y599, t584, t585)) = some (r1, r2, r3, r4) := rH H hy599
    have Ny599 := Aside0.mk hy599
    clear hy599
    simp only [Option.some.injEq, Prod.mk.injEq] at H
    obtain ⟨rfl, rfl, rfl, rfl⟩ := H
    go_enter Try.func82, Try.ntmps82
    go_wp2_with (first | ((with_reducible refine gate_callee (f := 124) rfl ?_); refine gL (some 9) Try.func124 #[.pointer (some ⟨g, 0, none⟩)] ?_; (with_reducible refine (spec_l8Draw.calls k g s0_0 s0_1 s0_2 t572 t575 t578 t579 w0 _ ?side1 ?side2 A2.out).mono ?_); (case side1 => exact sI1380 HI0.out); (case side2 => exact sB1 HB.out (IsS138.ge HI0.out)); rintro e w28 ⟨v573, v576, rfl, ho0, ho1, hi, hb, hk⟩; refine ⟨_, rfl, ?_⟩; have n0_ := Aside0.mk (Kd.R_lower (Kd.R_newM (M := fun k_ => (w.heap.size ≤ k_)) (Kd.R_mono (ok' := fun k_ => True) ho0 (fun _ hk_ => trivial)) (keep_size (w := w) (g := g) (row := none) (by exact sK0 HK.out)) (fun k_ h_ => h_)) (keep_size (w := w) (g := g) (row := none) (by exact sK0 HK.out))); have n1_ := Aside0.mk (Kd.N_lower (Kd.N_mono (ok' := fun k_ => (w.heap.size ≤ k_) ∧ some k_ ≠ (v573 : Value).ownBlock ∧ k_ ≠ g) ho1 (fun k_ hk_ => ⟨(Nat.le_trans (keep_size (w := w) (g := g) (row := none) (by exact sK0 HK.out)) hk_.1), hk_.2, (IsS138.fresh (by exact sI1380 HI0.out) k_ hk_.1)⟩)) (keep_size (w := w) (g := g) (row := none) (by exact sK0 HK.out))); have n2_ := Aside0.mk (KeepBut.trans (by exact sK0 HK.out) hk (.inl rfl)); have n3_ := Aside0.mk (hb); have n4_ := Aside0.mk (hi); clear HK; clear HB; clear HI0; have HO574 := n0_; have HO577 := n1_; have HK := n2_; have HB := n3_; have HI0 := n4_; clear n0_ n1_ n2_ n3_ n4_; (try clear hb); (try clear hk); (try clear hi); (try clear ho0); (try clear ho1); obtain ⟨Ao29, co29, eo29⟩ := Kd.N_slice HO577.out; subst eo29) | ((with_reducible refine gate_callee (f := 84) rfl ?_); refine gL (some 20) Try.func84 #[.pointer (some ⟨g, 0, none⟩), .int .i64 (t575.length : Int)] ?_; (with_reducible refine (spec_l1Below.calls g s0_0 t578 t579 (t575.length : Int) t580 t581 t582 w0 _ ?side1 ?side2 A6.out).mono ?_); (case side1 => exact sI1380 HI0.out); (case side2 => exact sB1 HB.out (IsS138.ge HI0.out)); rintro e w30 ⟨rfl, hi, hb, hk⟩; refine ⟨_, rfl, ?_⟩; have n0_ := Aside0.mk (Kd.R_mono (Kd.R_keep (IsS138.apart (show IsS138 w0 _ g s0_0 t578 t579 from by exact sI1380 HI0.out) (rK HO574) (by decide)) hk (fun _ h => h.2)) (fun _ h => h.1)); have n1_ := Aside0.mk (Kd.N_mono (Kd.N_keep (Kd.N_mono (ok := fun k_ => (((w.heap.size ≤ k_)) ∧ (some k_ ≠ (v573 : Value).ownBlock ∧ k_ ≠ g))) (by (with_reducible repeat (first | apply Kd.N_alloc | apply Kd.N_drewN | apply Kd.N_drew)); exact HO577.out) (fun k_ hk_ => (⟨hk_, hk_.2.2⟩ : _ ∧ k_ ≠ g))) hk (fun _ h => h.2)) (fun _ h => h.1)); have n2_ := Aside0.mk (KeepBut.trans (by exact sK0 HK.out) hk (.inl rfl)); have n3_ := Aside0.mk (hb); have n4_ := Aside0.mk (hi); clear HO574; clear HO577; clear HK; clear HB; clear HI0; have HO574 := n0_; have HO577 := n1_; have HK := n2_; have HB := n3_; have HI0 := n4_; clear n0_ n1_ n2_ n3_ n4_; (try clear hb); (try clear hk); (try clear hi)) | ((with_reducible refine gate_callee (f := 84) rfl ?_); refine gL (some 22) Try.func84 #[.pointer (some ⟨g, 0, none⟩), .int .i64 10] ?_; (with_reducible refine (spec_l1Below.calls g s0_0 t581 t582 10 t583 t584 t585 w0 _ ?side1 ?side2 A7.out).mono ?_); (case side1 => exact sI1380 HI0.out); (case side2 => exact sB1 HB.out (IsS138.ge HI0.out)); rintro e w31 ⟨rfl, hi, hb, hk⟩; refine ⟨_, rfl, ?_⟩; have n0_ := Aside0.mk (Kd.R_mono (Kd.R_keep (IsS138.apart (show IsS138 w0 _ g s0_0 t581 t582 from by exact sI1380 HI0.out) (rK HO574) (by decide)) hk (fun _ h => h.2)) (fun _ h => h.1)); have n1_ := Aside0.mk (Kd.N_mono (Kd.N_keep (Kd.N_mono (ok := fun k_ => (((w.heap.size ≤ k_)) ∧ (some k_ ≠ (v573 : Value).ownBlock ∧ k_ ≠ g))) (by (with_reducible repeat (first | apply Kd.N_alloc | apply Kd.N_drewN | apply Kd.N_drew)); exact HO577.out) (fun k_ hk_ => (⟨hk_, hk_.2.2⟩ : _ ∧ k_ ≠ g))) hk (fun _ h => h.2)) (fun _ h => h.1)); have n2_ := Aside0.mk (KeepBut.trans (by exact sK0 HK.out) hk (.inl rfl)); have n3_ := Aside0.mk (hb); have n4_ := Aside0.mk (hi); clear HO574; clear HO577; clear HK; clear HB; clear HI0; have HO574 := n0_; have HO577 := n1_; have HK := n2_; have HB := n3_; have HI0 := n4_; clear n0_ n1_ n2_ n3_ n4_; (try clear hb); (try clear hk); (try clear hi); have p593 : 0 ≤ (t580 : Int) := dA; have q593 : t580 < (t575.length : Int) := dA; obtain ⟨ad593, A593_0, c593_0, e593, hx593_0, hx593_1, hl593_0, hi593_0⟩ := at_T85 (Kd.N_reads' HO577.out).2.2 t580 p593 q593; cases e593; obtain ⟨ce593, hce593, hMe593, hcc593⟩ := Kd.N_get HO577.out z85 t580 p593 (by first | exact q593 | exact dA | (have e_ := (Kd.N_reads' HO577.out).1; omega)); obtain ⟨ua593_0, uc593_0, rfl, ul593_0, ge593_0⟩ := k85_openF hMe593; have hv593_0 := hcc593 0 _ rfl; rw [Nat.add_zero] at hv593_0; replace hv593_0 := Option.some.inj (hv593_0.symm.trans hx593_0); injection hv593_0 with hva_ hvn_ hvc_; rw [hva_] at ge593_0; rw [hvc_] at ul593_0; have HL593_0 := Aside0.mk (show Kd.V (Kd.int .i64) 3 _ w.heap.size _ _ ((rd_T85 t575 t580).f0) from Kd.V_mk ul593_0 ge593_0); clear hva_ hvn_ hvc_ ge593_0 ul593_0; clear hcc593 hce593; have HR593_0 := Aside0.mk hi593_0; have HC593_0 := Aside0.mk hl593_0; clear hi593_0 hl593_0; replace p593 := eq_true p593; replace q593 := eq_true q593; have q32 : (1 : Int) ≤ ((((rd_T85 t575 t580).f0).length : Int) : Int) := dA; obtain ⟨i032, hi032, _, hsz32, _⟩ := info_parts info3; have hroom32 : ((rd_T85 t575 t580).f0).length ≤ c593_0 := HC593_0.out; have hC32 : Kd.F (Kd.int .i64) _ _ A593_0 ((rd_T85 t575 t580).f0).length ((rd_T85 t575 t580).f0) := (Kd.V_at (base := w.heap.size) HL593_0.out).2.2; have hcut32 := cut_from (P := Try.prog) 35 3 .i64 Try.underlying35 hi032 1 hsz32 A593_0 ((rd_T85 t575 t580).f0).length c593_0 1 (by omega) q32; have hr32 := Kd.F_cut (m := (1 : Int).toNat) (c := c593_0) hC32 (by omega) hroom32; obtain ⟨A32, hA32⟩ : ∃ z_, z_ = (if c593_0 = (1 : Int).toNat then A593_0 else (A593_0 : Option Addr).map (·.add ((1 : Int).toNat * 1))) := ⟨_, rfl⟩; obtain ⟨c32, hc32⟩ : ∃ z_, z_ = c593_0 - (1 : Int).toNat := ⟨_, rfl⟩; have hy32 : y594.length = ((rd_T85 t575 t580).f0).length - (1 : Int).toNat := (by rw [Ny594.out, List.length_drop] <;> omega); rw [show ((rd_T85 t575 t580).f0).drop (1 : Int).toNat = y594 from Ny594.out.symm] at hr32; replace hr32 : Kd.F (Kd.int .i64) _ _ A32 y594.length y594 := (by rw [hA32]; exact hr32); rw [← hy32, ← hA32, ← hc32] at hcut32; have HO598 := Aside0.mk (show Kd.V (Kd.int .i64) 3 _ w.heap.size _ (.slice A32 y594.length c32) y594 from Kd.V_mk (by rw [hy32, hc32]; exact Nat.sub_le_sub_right hroom32 _) hr32); have HC598 := Aside0.mk (show y594.length ≤ c32 from by rw [hy32, hc32]; exact Nat.sub_le_sub_right hroom32 _); clear hr32 hC32 hroom32 hi032 hsz32 hc32; have KY32 := Aside0.mk hy32; have KA32 := Aside0.mk hA32; clear hy32 hA32; replace q32 := eq_true q32; have p27 : 0 ≤ (t580 : Int) := dA; have q27 : (t580 : Int) < ((t575.length : Int) : Int) := dA; obtain ⟨go27, co27, eo27, gb27, gl27, cl27, HG27⟩ := Kd.N_form HO577.out (by omega); (first | cases eo27 | (injection eo27 with ea_ en_ ec_; (first | subst ea_ | (injection ea_ with ea_; subst ea_)); subst ec_; clear en_)); have GB27 := Aside0.mk gb27; have GG27 := Aside0.mk HG27; clear gb27 gl27 HG27; (first | simp only [add_plain] at hx593_0 | skip); (first | simp only [add_plain] at hx593_1 | skip); obtain ⟨ce27, hcl27, hM27, hcc27, hfr27⟩ := Kd.N_elem HO577.out z85 (t580 : Int) p27 q27; obtain ⟨ua27_0, uc27_0, rfl, ul27_0, ge27_0⟩ := k85_openF hM27; have hx27_0 : w31.cell? ⟨go27, (t580 : Int).toNat * 2, none⟩ = some (.slice ua27_0 ((rd_T85 t575 t580).f0).length uc27_0) := hcc27 0 _ rfl; have hx27_1 : w31.cell? ⟨go27, (t580 : Int).toNat * 2 + 1, none⟩ = some (.int .i64 ((rd_T85 t575 t580).f1)) := hcc27 1 _ rfl; have hf27_0 : w31.frozen? ⟨go27, (t580 : Int).toNat * 2, none⟩ = false := hfr27 0; have hf27_1 : w31.frozen? ⟨go27, (t580 : Int).toNat * 2 + 1, none⟩ = false := hfr27 1; clear hcl27 hcc27 hfr27 hM27; replace p27 := eq_true p27; replace q27 := eq_true q27; have HX33 := Aside0.mk (show Kd.N k85 85 w31 w.heap.size (fun k_ => (w.heap.size ≤ k_) ∧ some k_ ≠ (v573 : Value).ownBlock ∧ k_ ≠ g) (.slice (some ⟨go27, 0, none⟩) t575.length co29) t575 from (by (with_reducible repeat (first | apply Kd.N_alloc | apply Kd.N_drewN | apply Kd.N_drew)); exact HO577.out)); obtain ⟨ce33, hcl33, hM33, hcc33, hfr33⟩ := Kd.N_elem HX33.out z85 (t580 : Int) (dA) (by have h_ : (t580 : Int) < ((t575.length : Int) : Int) := dA; first | exact h_ | (have e_ := (Kd.N_reads' HO577.out).1; omega) | simpa using h_); obtain ⟨ua33_0, uc33_0, rfl, ul33_0, ge33_0⟩ := k85_openF hM33; have HP33 := Kd.N_seg HX33.out (t580 : Int) (dA) (by have h_ : (t580 : Int) < ((t575.length : Int) : Int) := dA; first | exact h_ | (have e_ := (Kd.N_reads' HO577.out).1; omega) | simpa using h_) (seg := [.slice A32 y594.length c32]) (j := 0) hcl33 hcc33 (show 1 ≤ 2 from by decide) (x' := (⟨y594, (rd_T85 t575 t580).f1⟩ : S85)) (k85_mkF _ _ (⟨y594, (rd_T85 t575 t580).f1⟩ : S85) (Kd.V_reads' (Kd.V_mono (ok' := (fun k_ => ((fun k_ => (w.heap.size ≤ k_) ∧ some k_ ≠ (v573 : Value).ownBlock ∧ k_ ≠ g)) k_ ∧ k_ ≠ go27)) (HO598.out) (fun k_ hk => ⟨⟨hk.1.1, ⟨hk.1.2.1, hk.1.2.2⟩⟩, fun e_ => (hk.2) (by rw [e_]; rfl)⟩))).2.1 (Kd.V_F (Kd.V_mono (ok' := (fun k_ => ((fun k_ => (w.heap.size ≤ k_) ∧ some k_ ≠ (v573 : Value).ownBlock ∧ k_ ≠ g)) k_ ∧ k_ ≠ go27)) (HO598.out) (fun k_ hk => ⟨⟨hk.1.1, ⟨hk.1.2.1, hk.1.2.2⟩⟩, fun e_ => (hk.2) (by rw [e_]; rfl)⟩)))) (fun _ hk => hk); have hx33_0 := hcc33 0 _ rfl; (try simp only [show (k85).sz = 2 from rfl, Nat.mul_one, Nat.add_zero] at hx33_0); have hf33_0 := hfr33 0; (try simp only [show (k85).sz = 2 from rfl, Nat.mul_one, Nat.add_zero] at hf33_0); clear hcl33 hcc33 hfr33 hM33) | ((with_reducible refine gate_store (t := 35) (p := 43) rfl ?_); refine store_event (t := 35) (p := 43) (v := ?vo_w34) (w1 := (w31.setCell ⟨go27, (t580 : Int).toNat * 2, none⟩ (.slice A32 y594.length c32))) ?hg ?ho ?hn ?hr ?_; (case ho => rfl); (case hg => rfl); (case hn => rfl); (case hr => first | (go_simp; done) | (go_simp; rfl)); intro w34 hw; have hg : w31.grownBy w34 (some go27) := (by rw [hw]; exact HP33.2); have hp_ : Kd.N k85 85 w34 w.heap.size (fun k_ => (w.heap.size ≤ k_) ∧ some k_ ≠ (v573 : Value).ownBlock ∧ k_ ≠ g) (.slice (some ⟨go27, 0, none⟩) t575.length co29) y599 := (by rw [hw, Ny599.out]; exact HP33.1); clear HP33; have n0_ := Aside0.mk (IsS138.grown (by exact sI1380 HI0.out) hg (IsS138.own_neN HI0.out HO577.out (by decide))); have n1_ := Aside0.mk (Kd.R_over' (v := (.slice (some ⟨go27, 0, none⟩) t575.length co29)) (rK HO574) (Kd.N_typed HO577.out) (by decide) hg); have n2_ := Aside0.mk (hp_); have n3_ := Aside0.mk (Kd.V_afterv (v := (.slice (some ⟨go27, 0, none⟩) t575.length co29)) (v1 := (.slice (some ⟨go27, 0, none⟩) t575.length co29)) (ok := (fun k_ => (w.heap.size ≤ k_) ∧ some k_ ≠ (v573 : Value).ownBlock ∧ k_ ≠ g)) (by (with_reducible repeat (first | apply Kd.V_alloc | apply Kd.V_drewN | apply Kd.V_drew)); exact HL593_0.out) hg (.inl rfl)); have n4_ := Aside0.mk (Kd.V_afterv (v := (.slice (some ⟨go27, 0, none⟩) t575.length co29)) (v1 := (.slice (some ⟨go27, 0, none⟩) t575.length co29)) (ok := (fun k_ => (w.heap.size ≤ k_) ∧ some k_ ≠ (v573 : Value).ownBlock ∧ k_ ≠ g)) (by (with_reducible repeat (first | apply Kd.V_alloc | apply Kd.V_drewN | apply Kd.V_drew)); exact HO598.out) hg (.inl rfl)); have n5_ := Aside0.mk ((by rw [hw]; exact below_set (HB.out) (Nat.le_trans HL.out GB27.out) : Below w0.heap.size w0 w34)); have n6_ := Aside0.mk (KeepBut.trans (by exact sK0 HK.out) (KeepBut.of_grown hg g) (Kd.N_base2 HO577.out)); clear HI0; clear HO574; clear HO577; clear HL593_0; clear HO598; clear HB; clear HK; have HI0 := n0_; have HO574 := n1_; have HO577 := n2_; have HL593_0 := n3_; have HO598 := n4_; have HB := n5_; have HK := n6_; clear n0_ n1_ n2_ n3_ n4_ n5_ n6_; clear hg hw hp_))
    go_ret2
    exact ⟨_, _, by first | rfl | (simp [errW_none, errW_some] <;> rfl) | (simp [*, errW_none, errW_some] <;> rfl), by (with_reducible repeat (first | apply Kd.R_alloc | apply Kd.R_drewN | apply Kd.R_drew)); exact Kd.R_mono HO574.out (fun _ hk => hk.1), Kd.N_V (by (with_reducible repeat (first | apply Kd.N_alloc | apply Kd.N_drewN | apply Kd.N_drew)); exact Kd.N_mono HO577.out (fun _ hk => ⟨hk.1, hk.2.1⟩)), by exact sI1380 HI0.out, by exact sB1 HB.out (IsS138.ge HI0.out), by exact sK0 HK.out⟩
   ·
    rw [if_neg c23] at H
    have c23b0 : (t583 == 1) = false := beq_eq_false_iff_ne.mpr c23
    have c23b1 : (t583 != 1) = true := bne_iff_ne.mpr c23
    by_cases c35 : t583 = 2
    ·
     rw [if_pos c35] at H
     have c35b0 : (t583 == 2) = true := beq_iff_eq.mpr c35
     have c35b1 : (t583 != 2) = false := bne_eq_false_iff_eq.mpr c35
     clear c35
     obtain ⟨⟨t600, t603, t604⟩, A36, H⟩ := bindE H
     try dsimp only at H
     simp only [Option.some.injEq, Prod.mk.injEq] at H
     obtain ⟨rfl, rfl, rfl, rfl⟩ := H
     go_enter Try.func82, Try.ntmps82
     go_wp2_with (first | ((with_reducible refine gate_callee (f := 124) rfl ?_); refine gL (some 9) Try.func124 #[.pointer (some ⟨g, 0, none⟩)] ?_; (with_reducible refine (spec_l8Draw.calls k g s0_0 s0_1 s0_2 t572 t575 t578 t579 w0 _ ?side1 ?side2 A2.out).mono ?_); (case side1 => exact sI1380 HI0.out); (case side2 => exact sB1 HB.out (IsS138.ge HI0.out)); rintro e w37 ⟨v573, v576, rfl, ho0, ho1, hi, hb, hk⟩; refine ⟨_, rfl, ?_⟩; have n0_ := Aside0.mk (Kd.R_lower (Kd.R_newM (M := fun k_ => (w.heap.size ≤ k_)) (Kd.R_mono (ok' := fun k_ => True) ho0 (fun _ hk_ => trivial)) (keep_size (w := w) (g := g) (row := none) (by exact sK0 HK.out)) (fun k_ h_ => h_)) (keep_size (w := w) (g := g) (row := none) (by exact sK0 HK.out))); have n1_ := Aside0.mk (Kd.N_lower (Kd.N_mono (ok' := fun k_ => (w.heap.size ≤ k_) ∧ some k_ ≠ (v573 : Value).ownBlock ∧ k_ ≠ g) ho1 (fun k_ hk_ => ⟨(Nat.le_trans (keep_size (w := w) (g := g) (row := none) (by exact sK0 HK.out)) hk_.1), hk_.2, (IsS138.fresh (by exact sI1380 HI0.out) k_ hk_.1)⟩)) (keep_size (w := w) (g := g) (row := none) (by exact sK0 HK.out))); have n2_ := Aside0.mk (KeepBut.trans (by exact sK0 HK.out) hk (.inl rfl)); have n3_ := Aside0.mk (hb); have n4_ := Aside0.mk (hi); clear HK; clear HB; clear HI0; have HO574 := n0_; have HO577 := n1_; have HK := n2_; have HB := n3_; have HI0 := n4_; clear n0_ n1_ n2_ n3_ n4_; (try clear hb); (try clear hk); (try clear hi); (try clear ho0); (try clear ho1); obtain ⟨Ao38, co38, eo38⟩ := Kd.N_slice HO577.out; subst eo38) | ((with_reducible refine gate_callee (f := 84) rfl ?_); refine gL (some 20) Try.func84 #[.pointer (some ⟨g, 0, none⟩), .int .i64 (t575.length : Int)] ?_; (with_reducible refine (spec_l1Below.calls g s0_0 t578 t579 (t575.length : Int) t580 t581 t582 w0 _ ?side1 ?side2 A6.out).mono ?_); (case side1 => exact sI1380 HI0.out); (case side2 => exact sB1 HB.out (IsS138.ge HI0.out)); rintro e w39 ⟨rfl, hi, hb, hk⟩; refine ⟨_, rfl, ?_⟩; have n0_ := Aside0.mk (Kd.R_mono (Kd.R_keep (IsS138.apart (show IsS138 w0 _ g s0_0 t578 t579 from by exact sI1380 HI0.out) (rK HO574) (by decide)) hk (fun _ h => h.2)) (fun _ h => h.1)); have n1_ := Aside0.mk (Kd.N_mono (Kd.N_keep (Kd.N_mono (ok := fun k_ => (((w.heap.size ≤ k_)) ∧ (some k_ ≠ (v573 : Value).ownBlock ∧ k_ ≠ g))) (by (with_reducible repeat (first | apply Kd.N_alloc | apply Kd.N_drewN | apply Kd.N_drew)); exact HO577.out) (fun k_ hk_ => (⟨hk_, hk_.2.2⟩ : _ ∧ k_ ≠ g))) hk (fun _ h => h.2)) (fun _ h => h.1)); have n2_ := Aside0.mk (KeepBut.trans (by exact sK0 HK.out) hk (.inl rfl)); have n3_ := Aside0.mk (hb); have n4_ := Aside0.mk (hi); clear HO574; clear HO577; clear HK; clear HB; clear HI0; have HO574 := n0_; have HO577 := n1_; have HK := n2_; have HB := n3_; have HI0 := n4_; clear n0_ n1_ n2_ n3_ n4_; (try clear hb); (try clear hk); (try clear hi)) | ((with_reducible refine gate_callee (f := 84) rfl ?_); refine gL (some 22) Try.func84 #[.pointer (some ⟨g, 0, none⟩), .int .i64 10] ?_; (with_reducible refine (spec_l1Below.calls g s0_0 t581 t582 10 t583 t584 t585 w0 _ ?side1 ?side2 A7.out).mono ?_); (case side1 => exact sI1380 HI0.out); (case side2 => exact sB1 HB.out (IsS138.ge HI0.out)); rintro e w40 ⟨rfl, hi, hb, hk⟩; refine ⟨_, rfl, ?_⟩; have n0_ := Aside0.mk (Kd.R_mono (Kd.R_keep (IsS138.apart (show IsS138 w0 _ g s0_0 t581 t582 from by exact sI1380 HI0.out) (rK HO574) (by decide)) hk (fun _ h => h.2)) (fun _ h => h.1)); have n1_ := Aside0.mk (Kd.N_mono (Kd.N_keep (Kd.N_mono (ok := fun k_ => (((w.heap.size ≤ k_)) ∧ (some k_ ≠ (v573 : Value).ownBlock ∧ k_ ≠ g))) (by (with_reducible repeat (first | apply Kd.N_alloc | apply Kd.N_drewN | apply Kd.N_drew)); exact HO577.out) (fun k_ hk_ => (⟨hk_, hk_.2.2⟩ : _ ∧ k_ ≠ g))) hk (fun _ h => h.2)) (fun _ h => h.1)); have n2_ := Aside0.mk (KeepBut.trans (by exact sK0 HK.out) hk (.inl rfl)); have n3_ := Aside0.mk (hb); have n4_ := Aside0.mk (hi); clear HO574; clear HO577; clear HK; clear HB; clear HI0; have HO574 := n0_; have HO577 := n1_; have HK := n2_; have HB := n3_; have HI0 := n4_; clear n0_ n1_ n2_ n3_ n4_; (try clear hb); (try clear hk); (try clear hi)) | ((with_reducible refine gate_callee (f := 125) rfl ?_); refine gL (some 47) Try.func125 #[.pointer (some ⟨g, 0, none⟩)] ?_; (with_reducible refine (spec_l5Any.calls k g s0_0 t584 t585 t600 t603 t604 w0 _ ?side1 ?side2 A36.out).mono ?_); (case side1 => exact sI1380 HI0.out); (case side2 => exact sB1 HB.out (IsS138.ge HI0.out)); rintro e w41 ⟨v601, rfl, ho0, hi, hb, hk⟩; refine ⟨_, rfl, ?_⟩; have n0_ := Aside0.mk (Kd.R_mono (Kd.R_told (Kd.R_oldK (IsS138.apart (show IsS138 w0 _ g s0_0 t584 t585 from by exact sI1380 HI0.out) (rK HO574) (by decide)) hk) (Kd.R_base ho0)) (fun _ h_ => h_.1)); have n1_ := Aside0.mk (Kd.N_mono (Kd.N_told (Kd.N_oldK (Kd.N_mono (ok := fun k_ => (((w.heap.size ≤ k_)) ∧ (some k_ ≠ (v573 : Value).ownBlock ∧ k_ ≠ g))) (by (with_reducible repeat (first | apply Kd.N_alloc | apply Kd.N_drewN | apply Kd.N_drew)); exact HO577.out) (fun k_ hk_ => (⟨hk_, hk_.2.2⟩ : _ ∧ k_ ≠ g))) hk) (Kd.R_base ho0)) (fun _ h_ => h_.1)); have n2_ := Aside0.mk (Kd.R_lower (Kd.R_new' (Kd.R_newM (M := fun k_ => (w.heap.size ≤ k_)) ho0 (keep_size (w := w) (g := g) (row := none) (by exact sK0 HK.out)) (fun k_ h_ => h_)) (Kd.R_lt (rK HO574))) (keep_size (w := w) (g := g) (row := none) (by exact sK0 HK.out))); have n3_ := Aside0.mk (KeepBut.trans (by exact sK0 HK.out) hk (.inl rfl)); have n4_ := Aside0.mk (hb); have n5_ := Aside0.mk (hi); clear HO574; clear HO577; clear HK; clear HB; clear HI0; have HO574 := n0_; have HO577 := n1_; have HO602 := n2_; have HK := n3_; have HB := n4_; have HI0 := n5_; clear n0_ n1_ n2_ n3_ n4_ n5_; (try clear hb); (try clear hk); (try clear hi); (try clear ho0)))
     go_ret2
     exact ⟨_, _, by first | rfl | (simp [errW_none, errW_some] <;> rfl) | (simp [*, errW_none, errW_some] <;> rfl), by (with_reducible repeat (first | apply Kd.R_alloc | apply Kd.R_drewN | apply Kd.R_drew)); exact Kd.R_mono HO602.out (fun _ hk => hk.1.1), Kd.N_V (by (with_reducible repeat (first | apply Kd.N_alloc | apply Kd.N_drewN | apply Kd.N_drew)); exact Kd.N_mono HO577.out (fun _ hk => ⟨hk.1.1, hk.2⟩)), by exact sI1380 HI0.out, by exact sB1 HB.out (IsS138.ge HI0.out), by exact sK0 HK.out⟩
    ·
     rw [if_neg c35] at H
     have c35b0 : (t583 == 2) = false := beq_eq_false_iff_ne.mpr c35
     have c35b1 : (t583 != 2) = true := bne_iff_ne.mpr c35
     by_cases c42 : t583 = 3
     ·
      rw [if_pos c42] at H
      have c42b0 : (t583 == 3) = true := beq_iff_eq.mpr c42
      have c42b1 : (t583 != 3) = false := bne_eq_false_iff_eq.mpr c42
      clear c42
      have c43 : 1 ≤ (t575.length : Int) := ifN H
      replace H := ifT H
      have c43b0 := eq_true c43
      have c43b1 := decide_eq_true c43
      clear c43
      obtain ⟨y605, hy605⟩ : ∃ y_ : List (S85), y_ = (t575.drop 1) := ⟨_, rfl⟩
      replace H : (some (t572, y605, t584, t585)) = some (r1, r2, r3, r4) := rH H hy605
      have Ny605 := Aside0.mk hy605
      clear hy605
      simp only [Option.some.injEq, Prod.mk.injEq] at H
      obtain ⟨rfl, rfl, rfl, rfl⟩ := H
      go_enter Try.func82, Try.ntmps82
      go_wp2_with (first | ((with_reducible refine gate_callee (f := 124) rfl ?_); refine gL (some 9) Try.func124 #[.pointer (some ⟨g, 0, none⟩)] ?_; (with_reducible refine (spec_l8Draw.calls k g s0_0 s0_1 s0_2 t572 t575 t578 t579 w0 _ ?side1 ?side2 A2.out).mono ?_); (case side1 => exact sI1380 HI0.out); (case side2 => exact sB1 HB.out (IsS138.ge HI0.out)); rintro e w44 ⟨v573, v576, rfl, ho0, ho1, hi, hb, hk⟩; refine ⟨_, rfl, ?_⟩; have n0_ := Aside0.mk (Kd.R_lower (Kd.R_newM (M := fun k_ => (w.heap.size ≤ k_)) (Kd.R_mono (ok' := fun k_ => True) ho0 (fun _ hk_ => trivial)) (keep_size (w := w) (g := g) (row := none) (by exact sK0 HK.out)) (fun k_ h_ => h_)) (keep_size (w := w) (g := g) (row := none) (by exact sK0 HK.out))); have n1_ := Aside0.mk (Kd.N_lower (Kd.N_mono (ok' := fun k_ => (w.heap.size ≤ k_) ∧ some k_ ≠ (v573 : Value).ownBlock ∧ k_ ≠ g) ho1 (fun k_ hk_ => ⟨(Nat.le_trans (keep_size (w := w) (g := g) (row := none) (by exact sK0 HK.out)) hk_.1), hk_.2, (IsS138.fresh (by exact sI1380 HI0.out) k_ hk_.1)⟩)) (keep_size (w := w) (g := g) (row := none) (by exact sK0 HK.out))); have n2_ := Aside0.mk (KeepBut.trans (by exact sK0 HK.out) hk (.inl rfl)); have n3_ := Aside0.mk (hb); have n4_ := Aside0.mk (hi); clear HK; clear HB; clear HI0; have HO574 := n0_; have HO577 := n1_; have HK := n2_; have HB := n3_; have HI0 := n4_; clear n0_ n1_ n2_ n3_ n4_; (try clear hb); (try clear hk); (try clear hi); (try clear ho0); (try clear ho1); obtain ⟨Ao45, co45, eo45⟩ := Kd.N_slice HO577.out; subst eo45) | ((with_reducible refine gate_callee (f := 84) rfl ?_); refine gL (some 20) Try.func84 #[.pointer (some ⟨g, 0, none⟩), .int .i64 (t575.length : Int)] ?_; (with_reducible refine (spec_l1Below.calls g s0_0 t578 t579 (t575.length : Int) t580 t581 t582 w0 _ ?side1 ?side2 A6.out).mono ?_); (case side1 => exact sI1380 HI0.out); (case side2 => exact sB1 HB.out (IsS138.ge HI0.out)); rintro e w46 ⟨rfl, hi, hb, hk⟩; refine ⟨_, rfl, ?_⟩; have n0_ := Aside0.mk (Kd.R_mono (Kd.R_keep (IsS138.apart (show IsS138 w0 _ g s0_0 t578 t579 from by exact sI1380 HI0.out) (rK HO574) (by decide)) hk (fun _ h => h.2)) (fun _ h => h.1)); have n1_ := Aside0.mk (Kd.N_mono (Kd.N_keep (Kd.N_mono (ok := fun k_ => (((w.heap.size ≤ k_)) ∧ (some k_ ≠ (v573 : Value).ownBlock ∧ k_ ≠ g))) (by (with_reducible repeat (first | apply Kd.N_alloc | apply Kd.N_drewN | apply Kd.N_drew)); exact HO577.out) (fun k_ hk_ => (⟨hk_, hk_.2.2⟩ : _ ∧ k_ ≠ g))) hk (fun _ h => h.2)) (fun _ h => h.1)); have n2_ := Aside0.mk (KeepBut.trans (by exact sK0 HK.out) hk (.inl rfl)); have n3_ := Aside0.mk (hb); have n4_ := Aside0.mk (hi); clear HO574; clear HO577; clear HK; clear HB; clear HI0; have HO574 := n0_; have HO577 := n1_; have HK := n2_; have HB := n3_; have HI0 := n4_; clear n0_ n1_ n2_ n3_ n4_; (try clear hb); (try clear hk); (try clear hi)) | ((with_reducible refine gate_callee (f := 84) rfl ?_); refine gL (some 22) Try.func84 #[.pointer (some ⟨g, 0, none⟩), .int .i64 10] ?_; (with_reducible refine (spec_l1Below.calls g s0_0 t581 t582 10 t583 t584 t585 w0 _ ?side1 ?side2 A7.out).mono ?_); (case side1 => exact sI1380 HI0.out); (case side2 => exact sB1 HB.out (IsS138.ge HI0.out)); rintro e w47 ⟨rfl, hi, hb, hk⟩; refine ⟨_, rfl, ?_⟩; have n0_ := Aside0.mk (Kd.R_mono (Kd.R_keep (IsS138.apart (show IsS138 w0 _ g s0_0 t581 t582 from by exact sI1380 HI0.out) (rK HO574) (by decide)) hk (fun _ h => h.2)) (fun _ h => h.1)); have n1_ := Aside0.mk (Kd.N_mono (Kd.N_keep (Kd.N_mono (ok := fun k_ => (((w.heap.size ≤ k_)) ∧ (some k_ ≠ (v573 : Value).ownBlock ∧ k_ ≠ g))) (by (with_reducible repeat (first | apply Kd.N_alloc | apply Kd.N_drewN | apply Kd.N_drew)); exact HO577.out) (fun k_ hk_ => (⟨hk_, hk_.2.2⟩ : _ ∧ k_ ≠ g))) hk (fun _ h => h.2)) (fun _ h => h.1)); have n2_ := Aside0.mk (KeepBut.trans (by exact sK0 HK.out) hk (.inl rfl)); have n3_ := Aside0.mk (hb); have n4_ := Aside0.mk (hi); clear HO574; clear HO577; clear HK; clear HB; clear HI0; have HO574 := n0_; have HO577 := n1_; have HK := n2_; have HB := n3_; have HI0 := n4_; clear n0_ n1_ n2_ n3_ n4_; (try clear hb); (try clear hk); (try clear hi); have q48 : (1 : Int) ≤ ((t575.length : Int) : Int) := dA; obtain ⟨i048, hi048, _, hsz48, _⟩ := info_parts info85; have hroom48 : t575.length ≤ co45 := (Kd.N_reads' HO577.out).2.1; have hC48 : Kd.F k85 _ _ Ao45 t575.length t575 := (Kd.V_at (base := w.heap.size) (Kd.N_V HO577.out)).2.2; have hcut48 := cut_from (P := Try.prog) 25 85 .i64 Try.underlying25 hi048 2 hsz48 Ao45 t575.length co45 1 (by omega) q48; have hr48 := Kd.F_cut (m := (1 : Int).toNat) (c := co45) hC48 (by omega) hroom48; obtain ⟨A48, hA48⟩ : ∃ z_, z_ = (if co45 = (1 : Int).toNat then Ao45 else (Ao45 : Option Addr).map (·.add ((1 : Int).toNat * 2))) := ⟨_, rfl⟩; obtain ⟨c48, hc48⟩ : ∃ z_, z_ = co45 - (1 : Int).toNat := ⟨_, rfl⟩; have hy48 : y605.length = t575.length - (1 : Int).toNat := (by rw [Ny605.out, List.length_drop] <;> omega); rw [show (t575).drop (1 : Int).toNat = y605 from Ny605.out.symm] at hr48; replace hr48 : Kd.F k85 _ _ A48 y605.length y605 := (by rw [hA48]; exact hr48); rw [← hy48, ← hA48, ← hc48] at hcut48; have HO609 := Aside0.mk (show Kd.V k85 85 _ w.heap.size _ (.slice A48 y605.length c48) y605 from Kd.V_mk (by rw [hy48, hc48]; exact Nat.sub_le_sub_right hroom48 _) hr48); have HC609 := Aside0.mk (show y605.length ≤ c48 from by rw [hy48, hc48]; exact Nat.sub_le_sub_right hroom48 _); clear hr48 hC48 hroom48 hi048 hsz48 hc48; have KY48 := Aside0.mk hy48; have KA48 := Aside0.mk hA48; clear hy48 hA48; replace q48 := eq_true q48))
      go_ret2
      exact ⟨_, _, by first | rfl | (simp [errW_none, errW_some] <;> rfl) | (simp [*, errW_none, errW_some] <;> rfl), by (with_reducible repeat (first | apply Kd.R_alloc | apply Kd.R_drewN | apply Kd.R_drew)); exact Kd.R_mono HO574.out (fun _ hk => hk.1), by (with_reducible repeat (first | apply Kd.V_alloc | apply Kd.V_drewN | apply Kd.V_drew)); exact Kd.V_mono HO609.out (fun _ hk => ⟨hk.1, hk.2.1⟩), by exact sI1380 HI0.out, by exact sB1 HB.out (IsS138.ge HI0.out), by exact sK0 HK.out⟩
     ·
      rw [if_neg c42] at H
      have c42b0 : (t583 == 3) = false := beq_eq_false_iff_ne.mpr c42
      have c42b1 : (t583 != 3) = true := bne_iff_ne.mpr c42
      simp only [Option.some.injEq, Prod.mk.injEq] at H
      obtain ⟨rfl, rfl, rfl, rfl⟩ := H
      go_enter Try.func82, Try.ntmps82
      go_wp2_with (first | ((with_reducible refine gate_callee (f := 124) rfl ?_); refine gL (some 9) Try.func124 #[.pointer (some ⟨g, 0, none⟩)] ?_; (with_reducible refine (spec_l8Draw.calls k g s0_0 s0_1 s0_2 t572 t575 t578 t579 w0 _ ?side1 ?side2 A2.out).mono ?_); (case side1 => exact sI1380 HI0.out); (case side2 => exact sB1 HB.out (IsS138.ge HI0.out)); rintro e w49 ⟨v573, v576, rfl, ho0, ho1, hi, hb, hk⟩; refine ⟨_, rfl, ?_⟩; have n0_ := Aside0.mk (Kd.R_lower (Kd.R_newM (M := fun k_ => (w.heap.size ≤ k_)) (Kd.R_mono (ok' := fun k_ => True) ho0 (fun _ hk_ => trivial)) (keep_size (w := w) (g := g) (row := none) (by exact sK0 HK.out)) (fun k_ h_ => h_)) (keep_size (w := w) (g := g) (row := none) (by exact sK0 HK.out))); have n1_ := Aside0.mk (Kd.N_lower (Kd.N_mono (ok' := fun k_ => (w.heap.size ≤ k_) ∧ some k_ ≠ (v573 : Value).ownBlock ∧ k_ ≠ g) ho1 (fun k_ hk_ => ⟨(Nat.le_trans (keep_size (w := w) (g := g) (row := none) (by exact sK0 HK.out)) hk_.1), hk_.2, (IsS138.fresh (by exact sI1380 HI0.out) k_ hk_.1)⟩)) (keep_size (w := w) (g := g) (row := none) (by exact sK0 HK.out))); have n2_ := Aside0.mk (KeepBut.trans (by exact sK0 HK.out) hk (.inl rfl)); have n3_ := Aside0.mk (hb); have n4_ := Aside0.mk (hi); clear HK; clear HB; clear HI0; have HO574 := n0_; have HO577 := n1_; have HK := n2_; have HB := n3_; have HI0 := n4_; clear n0_ n1_ n2_ n3_ n4_; (try clear hb); (try clear hk); (try clear hi); (try clear ho0); (try clear ho1); obtain ⟨Ao50, co50, eo50⟩ := Kd.N_slice HO577.out; subst eo50) | ((with_reducible refine gate_callee (f := 84) rfl ?_); refine gL (some 20) Try.func84 #[.pointer (some ⟨g, 0, none⟩), .int .i64 (t575.length : Int)] ?_; (with_reducible refine (spec_l1Below.calls g s0_0 t578 t579 (t575.length : Int) t580 t581 t582 w0 _ ?side1 ?side2 A6.out).mono ?_); (case side1 => exact sI1380 HI0.out); (case side2 => exact sB1 HB.out (IsS138.ge HI0.out)); rintro e w51 ⟨rfl, hi, hb, hk⟩; refine ⟨_, rfl, ?_⟩; have n0_ := Aside0.mk (Kd.R_mono (Kd.R_keep (IsS138.apart (show IsS138 w0 _ g s0_0 t578 t579 from by exact sI1380 HI0.out) (rK HO574) (by decide)) hk (fun _ h => h.2)) (fun _ h => h.1)); have n1_ := Aside0.mk (Kd.N_mono (Kd.N_keep (Kd.N_mono (ok := fun k_ => (((w.heap.size ≤ k_)) ∧ (some k_ ≠ (v573 : Value).ownBlock ∧ k_ ≠ g))) (by (with_reducible repeat (first | apply Kd.N_alloc | apply Kd.N_drewN | apply Kd.N_drew)); exact HO577.out) (fun k_ hk_ => (⟨hk_, hk_.2.2⟩ : _ ∧ k_ ≠ g))) hk (fun _ h => h.2)) (fun _ h => h.1)); have n2_ := Aside0.mk (KeepBut.trans (by exact sK0 HK.out) hk (.inl rfl)); have n3_ := Aside0.mk (hb); have n4_ := Aside0.mk (hi); clear HO574; clear HO577; clear HK; clear HB; clear HI0; have HO574 := n0_; have HO577 := n1_; have HK := n2_; have HB := n3_; have HI0 := n4_; clear n0_ n1_ n2_ n3_ n4_; (try clear hb); (try clear hk); (try clear hi)) | ((with_reducible refine gate_callee (f := 84) rfl ?_); refine gL (some 22) Try.func84 #[.pointer (some ⟨g, 0, none⟩), .int .i64 10] ?_; (with_reducible refine (spec_l1Below.calls g s0_0 t581 t582 10 t583 t584 t585 w0 _ ?side1 ?side2 A7.out).mono ?_); (case side1 => exact sI1380 HI0.out); (case side2 => exact sB1 HB.out (IsS138.ge HI0.out)); rintro e w52 ⟨rfl, hi, hb, hk⟩; refine ⟨_, rfl, ?_⟩; have n0_ := Aside0.mk (Kd.R_mono (Kd.R_keep (IsS138.apart (show IsS138 w0 _ g s0_0 t581 t582 from by exact sI1380 HI0.out) (rK HO574) (by decide)) hk (fun _ h => h.2)) (fun _ h => h.1)); have n1_ := Aside0.mk (Kd.N_mono (Kd.N_keep (Kd.N_mono (ok := fun k_ => (((w.heap.size ≤ k_)) ∧ (some k_ ≠ (v573 : Value).ownBlock ∧ k_ ≠ g))) (by (with_reducible repeat (first | apply Kd.N_alloc | apply Kd.N_drewN | apply Kd.N_drew)); exact HO577.out) (fun k_ hk_ => (⟨hk_, hk_.2.2⟩ : _ ∧ k_ ≠ g))) hk (fun _ h => h.2)) (fun _ h => h.1)); have n2_ := Aside0.mk (KeepBut.trans (by exact sK0 HK.out) hk (.inl rfl)); have n3_ := Aside0.mk (hb); have n4_ := Aside0.mk (hi); clear HO574; clear HO577; clear HK; clear HB; clear HI0; have HO574 := n0_; have HO577 := n1_; have HK := n2_; have HB := n3_; have HI0 := n4_; clear n0_ n1_ n2_ n3_ n4_; (try clear hb); (try clear hk); (try clear hi)))
      go_ret2
      exact ⟨_, _, by first | rfl | (simp [errW_none, errW_some] <;> rfl) | (simp [*, errW_none, errW_some] <;> rfl), by (with_reducible repeat (first | apply Kd.R_alloc | apply Kd.R_drewN | apply Kd.R_drew)); exact Kd.R_mono HO574.out (fun _ hk => hk.1), Kd.N_V (by (with_reducible repeat (first | apply Kd.N_alloc | apply Kd.N_drewN | apply Kd.N_drew)); exact Kd.N_mono HO577.out (fun _ hk => ⟨hk.1, hk.2.1⟩)), by exact sI1380 HI0.out, by exact sB1 HB.out (IsS138.ge HI0.out), by exact sK0 HK.out⟩

/-! ### spec_DrawOpenIn: function 39 -/
def spec_DrawOpenIn.f (k : Nat) (l0 : List Int) : Option ((List (S50)) × (List (S85)) × Int × Int × Int) := (spec_l1New.f k l0).bind fun bt610 => ((spec_l8Any.f k bt610.1 bt610.2.1 bt610.2.2).bind fun bt614 => ((spec_l1Below.f bt610.1 bt614.2.2.1 bt614.2.2.2 9).bind fun bt622 => ((spec_l1Int.f bt610.1 bt622.2.1 bt622.2.2 (([0, 7, 50, 100000, 100001, (-1)] : List Int))).bind fun bt628 => ((spec_l1Int.f bt610.1 bt628.2.1 bt628.2.2 (([0, 10, 60, 1000, 1001, (-1)] : List Int))).bind fun bt634 => (some (bt614.1, bt614.2.1, bt622.1, bt628.1, bt634.1))))))
theorem spec_DrawOpenIn.mono : ∀ a0 k, LeO (spec_DrawOpenIn.f k a0) (spec_DrawOpenIn.f (k + 1) a0) := by
 intro a0 k
 unfold spec_DrawOpenIn.f
 repeat' first | (with_reducible first | exact LeO.refl _ | exact LeO.none _ | refine LeO.ite ?_ ?_ | refine LeO.bind ?_ (fun _ => ?_) | exact spec_l1New.mono _ _ | exact spec_l8Any.mono _ _ _ _)
set_option maxHeartbeats 8000000 in
set_option maxRecDepth 100000 in
theorem spec_DrawOpenIn.calls (k : Nat) (A0 : Option Addr) (c0 : Nat) (l0 : List Int) (r1 : List (S50)) (r2 : List (S85)) (r3 : Int) (r4 : Int) (r5 : Int) (w : World) (hr0 : Kd.C (Kd.int .u8) w A0 l0.length l0) (hc0 : l0.length ≤ c0) (h : spec_DrawOpenIn.f k l0 = some (r1, r2, r3, r4, r5)) :
  Calls Try.prog 39 #[.slice A0 l0.length c0] w fun e w' => ∃ v0_ v1_ : Value, e = .returned (.tuple #[v0_, v1_, .int .i64 r3, .int .i64 r4, .int .i64 r5]) ∧ Kd.R k50 50 w' w.heap.size (fun k_ => (w.heap.size ≤ k_)) v0_ r1 ∧ Kd.V k85 85 w' w.heap.size (fun k_ => (w.heap.size ≤ k_) ∧ some k_ ≠ (v0_ : Value).ownBlock) v1_ r2 ∧ Below w.heap.size w w' := by
 have HR0 := Aside0.mk hr0
 have HC0 := Aside0.mk hc0
 clear hr0 hc0
 have HB := Aside0.mk (Below.refl w.heap.size w)
 have H : ((spec_l1New.f k l0).bind fun bt610 => ((spec_l8Any.f k bt610.1 bt610.2.1 bt610.2.2).bind fun bt614 => ((spec_l1Below.f bt610.1 bt614.2.2.1 bt614.2.2.2 9).bind fun bt622 => ((spec_l1Int.f bt610.1 bt622.2.1 bt622.2.2 (([0, 7, 50, 100000, 100001, (-1)] : List Int))).bind fun bt628 => ((spec_l1Int.f bt610.1 bt628.2.1 bt628.2.2 (([0, 10, 60, 1000, 1001, (-1)] : List Int))).bind fun bt634 => (some (bt614.1, bt614.2.1, bt622.1, bt628.1, bt634.1))))))) = some (r1, r2, r3, r4, r5) := h
 clear h
 obtain ⟨⟨t610, t611, t612⟩, A2, H⟩ := bindE H
 try dsimp only at H
 obtain ⟨⟨t614, t617, t620, t621⟩, A3, H⟩ := bindE H
 try dsimp only at H
 obtain ⟨⟨t622, t623, t624⟩, A4, H⟩ := bindE H
 try dsimp only at H
 obtain ⟨y625, hy625⟩ : ∃ y_ : List Int, y_ = (([0, 7, 50, 100000, 100001, (-1)] : List Int)) := ⟨_, rfl⟩
 replace H : ((spec_l1Int.f t610 t623 t624 y625).bind fun bt628 => ((spec_l1Int.f t610 bt628.2.1 bt628.2.2 (([0, 10, 60, 1000, 1001, (-1)] : List Int))).bind fun bt634 => (some (t614, t617, t622, bt628.1, bt634.1)))) = some (r1, r2, r3, r4, r5) := rH H hy625
 have Ny625 := Aside0.mk hy625
 clear hy625
 obtain ⟨⟨t628, t629, t630⟩, A5, H⟩ := bindE H
 try dsimp only at H
 obtain ⟨y631, hy631⟩ : ∃ y_ : List Int, y_ = (([0, 10, 60, 1000, 1001, (-1)] : List Int)) := ⟨_, rfl⟩
 replace H : ((spec_l1Int.f t610 t629 t630 y631).bind fun bt634 => (some (t614, t617, t622, t628, bt634.1))) = some (r1, r2, r3, r4, r5) := rH H hy631
 have Ny631 := Aside0.mk hy631
 clear hy631
 obtain ⟨⟨t634, t635, t636⟩, A6, H⟩ := bindE H
 try dsimp only at H
 simp only [Option.some.injEq, Prod.mk.injEq] at H
 obtain ⟨rfl, rfl, rfl, rfl, rfl⟩ := H
 go_enter Try.func39, Try.ntmps39
 go_wp2_with (first | ((with_reducible refine gate_callee (f := 81) rfl ?_); refine gL (some 13) Try.func81 #[.slice A0 l0.length c0] ?_; (with_reducible refine (spec_l1New.calls k _ _ l0 t610 t611 t612 w _ ?side1 ?side2 ?side3 A2.out).mono ?_); (case side1 => exact sB0 HB.out); (case side2 => exact HR0.out); (case side3 => exact HC0.out); rintro e w7 ⟨g613, rfl, hi, hb, hb2⟩; refine ⟨_, rfl, ?_⟩; replace HB := Aside0.mk (hb); have HI613 := Aside0.mk (hi); (try clear hb); (try clear hb2); (try clear hi)) | ((with_reducible refine gate_callee (f := 82) rfl ?_); refine gL (some 16) Try.func82 #[.pointer (some ⟨g613, 0, none⟩)] ?_; (with_reducible refine (spec_l8Any.calls k g613 t610 t611 t612 t614 t617 t620 t621 w _ ?side1 ?side2 A3.out).mono ?_); (case side1 => exact sI1380 HI613.out); (case side2 => exact sB1 HB.out (IsS138.ge HI613.out)); rintro e w8 ⟨v615, v618, rfl, ho0, ho1, hi, hb, hk⟩; refine ⟨_, rfl, ?_⟩; have n0_ := Aside0.mk (Kd.R_lower (Kd.R_newM (M := fun k_ => (w.heap.size ≤ k_)) (Kd.R_mono (ok' := fun k_ => True) ho0 (fun _ hk_ => trivial)) (below_size (by exact sB1 HB.out (IsS138.ge HI613.out))) (fun k_ h_ => h_)) (below_size (by exact sB1 HB.out (IsS138.ge HI613.out)))); have n1_ := Aside0.mk (Kd.V_lower (Kd.V_mono (ok' := fun k_ => (w.heap.size ≤ k_) ∧ some k_ ≠ (v615 : Value).ownBlock ∧ k_ ≠ g613) ho1 (fun k_ hk_ => ⟨(Nat.le_trans (below_size (by exact sB1 HB.out (IsS138.ge HI613.out))) hk_.1), hk_.2, (IsS138.fresh (by exact sI1380 HI613.out) k_ hk_.1)⟩)) (below_size (by exact sB1 HB.out (IsS138.ge HI613.out)))); have n2_ := Aside0.mk (hb); have n3_ := Aside0.mk (hi); clear HB; clear HI613; have HO616 := n0_; have HO619 := n1_; have HB := n2_; have HI613 := n3_; clear n0_ n1_ n2_ n3_; (try clear hb); (try clear hk); (try clear hi); (try clear ho0); (try clear ho1)) | ((with_reducible refine gate_callee (f := 84) rfl ?_); refine gL (some 20) Try.func84 #[.pointer (some ⟨g613, 0, none⟩), .int .i64 9] ?_; (with_reducible refine (spec_l1Below.calls g613 t610 t620 t621 9 t622 t623 t624 w _ ?side1 ?side2 A4.out).mono ?_); (case side1 => exact sI1380 HI613.out); (case side2 => exact sB1 HB.out (IsS138.ge HI613.out)); rintro e w9 ⟨rfl, hi, hb, hk⟩; refine ⟨_, rfl, ?_⟩; have n0_ := Aside0.mk (Kd.R_mono (Kd.R_keep (IsS138.apart (show IsS138 w _ g613 t610 t620 t621 from by exact sI1380 HI613.out) (rK HO616) (by decide)) hk (fun _ h => h.2)) (fun _ h => h.1)); have n1_ := Aside0.mk (Kd.V_mono (Kd.V_keep (Kd.V_mono (ok := fun k_ => (((w.heap.size ≤ k_)) ∧ (some k_ ≠ (v615 : Value).ownBlock ∧ k_ ≠ g613))) (by (with_reducible repeat (first | apply Kd.V_alloc | apply Kd.V_drewN | apply Kd.V_drew)); exact HO619.out) (fun k_ hk_ => (⟨hk_, hk_.2.2⟩ : _ ∧ k_ ≠ g613))) hk (fun _ h => h.2)) (fun _ h => h.1)); have n2_ := Aside0.mk (hb); have n3_ := Aside0.mk (hi); clear HO616; clear HO619; clear HB; clear HI613; have HO616 := n0_; have HO619 := n1_; have HB := n2_; have HI613 := n3_; clear n0_ n1_ n2_ n3_; (try clear hb); (try clear hk); (try clear hi)) | ((with_reducible refine gate_dst (N := 22) rfl ?_); refine Kd.R_lit (Kd.int .i64) _ 3 ?hg (N := 22) ?hd (xs := ([0, 7, 50, 100000, 100001, (-1)] : List Int)) (inner := [.int .i64 0, .int .i64 7, .int .i64 50, .int .i64 100000, .int .i64 100001, .int .i64 (-1)]) (ok := fun _ => True) (okp := fun _ => True) ?hr ?hp (fun _ hk => hk) trivial (Below.refl _ _) (Nat.le_refl _) (by simp) ?_; (case hd => rfl); (case hg => rfl); (case hr => first | (go_simp; done) | (go_simp; rfl)); (case hp => exact (Reps.one (show Kd.M (Kd.int .i64) _ _ _ 0 [.int .i64 0] from rfl) (Reps.one (show Kd.M (Kd.int .i64) _ _ _ 7 [.int .i64 7] from rfl) (Reps.one (show Kd.M (Kd.int .i64) _ _ _ 50 [.int .i64 50] from rfl) (Reps.one (show Kd.M (Kd.int .i64) _ _ _ 100000 [.int .i64 100000] from rfl) (Reps.one (show Kd.M (Kd.int .i64) _ _ _ 100001 [.int .i64 100001] from rfl) (Reps.one (show Kd.M (Kd.int .i64) _ _ _ (-1) [.int .i64 (-1)] from rfl) (Reps.none _ _)))))))); intro v626 w10 ho11 hb hg_ hnew_; clear hg_ hnew_; (first | rw [← Ny625.out] at ho11 | (simp only [Int.reduceToNat] at ho11; rw [← Ny625.out] at ho11)); have n0_ := Aside0.mk (Kd.R_below (rK HO616) hb); have n1_ := Aside0.mk (Kd.V_elder' (by (with_reducible repeat (first | apply Kd.V_alloc | apply Kd.V_drewN | apply Kd.V_drew)); exact HO619.out) (Kd.R_base ho11) hb); have n2_ := Aside0.mk (Kd.R_lower (Kd.R_newM (M := fun k_ => (w.heap.size ≤ k_)) ho11 (below_size (by exact sB1 HB.out (IsS138.ge HI613.out))) (fun k_ h_ => h_)) (below_size (by exact sB1 HB.out (IsS138.ge HI613.out)))); have n3_ := Aside0.mk (IsS138.below (by exact sI1380 HI613.out) hb); have n4_ := Aside0.mk (below_step (by exact sB1 HB.out (IsS138.ge HI613.out)) hb); clear HO616; clear HO619; clear HI613; clear HB; have HO616 := n0_; have HO619 := n1_; have HO627 := n2_; have HI613 := n3_; have HB := n4_; clear n0_ n1_ n2_ n3_ n4_; clear hb ho11; obtain ⟨Ao12, co12, eo12⟩ := Kd.R_slice HO627.out; subst eo12) | ((with_reducible refine gate_callee (f := 94) rfl ?_); refine gL (some 23) Try.func94 #[.pointer (some ⟨g613, 0, none⟩), .slice Ao12 y625.length co12] ?_; (with_reducible refine (spec_l1Int.calls g613 t610 t623 t624 _ _ y625 t628 t629 t630 w _ ?side1 ?side2 ?side3 ?side4 ?side5 A5.out).mono ?_); (case side1 => exact sI1380 HI613.out); (case side2 => exact sB1 HB.out (IsS138.ge HI613.out)); (case side3 => exact cO ⟨(Kd.R_reads' HO627.out).2.2⟩); (case side4 => exact (Kd.R_reads' HO627.out).2.1); (case side5 => exact far_slice (IsS138.own_ne HI613.out HO627.out (by decide))); rintro e w13 ⟨rfl, hi, hb, hk⟩; refine ⟨_, rfl, ?_⟩; have n0_ := Aside0.mk (Kd.R_mono (Kd.R_keep (IsS138.apart (show IsS138 w _ g613 t610 t623 t624 from by exact sI1380 HI613.out) (rK HO616) (by decide)) hk (fun _ h => h.2)) (fun _ h => h.1)); have n1_ := Aside0.mk (Kd.V_mono (Kd.V_keep (Kd.V_mono (ok := fun k_ => ((((w.heap.size ≤ k_)) ∧ (some k_ ≠ (v615 : Value).ownBlock ∧ k_ ≠ g613)) ∧ some k_ ≠ (.slice Ao12 y625.length co12 : Value).ownBlock)) (by (with_reducible repeat (first | apply Kd.V_alloc | apply Kd.V_drewN | apply Kd.V_drew)); exact HO619.out) (fun k_ hk_ => (⟨hk_, hk_.1.2.2⟩ : _ ∧ k_ ≠ g613))) hk (fun _ h => h.2)) (fun _ h => h.1)); have n2_ := Aside0.mk (Kd.R_mono (Kd.R_keep (IsS138.apart (show IsS138 w _ g613 t610 t623 t624 from by exact sI1380 HI613.out) (rK HO627) (by decide)) hk (fun _ h => h.2)) (fun _ h => h.1)); have n3_ := Aside0.mk (hb); have n4_ := Aside0.mk (hi); clear HO616; clear HO619; clear HO627; clear HB; clear HI613; have HO616 := n0_; have HO619 := n1_; have HO627 := n2_; have HB := n3_; have HI613 := n4_; clear n0_ n1_ n2_ n3_ n4_; (try clear hb); (try clear hk); (try clear hi)) | ((with_reducible refine gate_dst (N := 29) rfl ?_); refine Kd.R_lit (Kd.int .i64) _ 3 ?hg (N := 29) ?hd (xs := ([0, 10, 60, 1000, 1001, (-1)] : List Int)) (inner := [.int .i64 0, .int .i64 10, .int .i64 60, .int .i64 1000, .int .i64 1001, .int .i64 (-1)]) (ok := fun _ => True) (okp := fun _ => True) ?hr ?hp (fun _ hk => hk) trivial (Below.refl _ _) (Nat.le_refl _) (by simp) ?_; (case hd => rfl); (case hg => rfl); (case hr => first | (go_simp; done) | (go_simp; rfl)); (case hp => exact (Reps.one (show Kd.M (Kd.int .i64) _ _ _ 0 [.int .i64 0] from rfl) (Reps.one (show Kd.M (Kd.int .i64) _ _ _ 10 [.int .i64 10] from rfl) (Reps.one (show Kd.M (Kd.int .i64) _ _ _ 60 [.int .i64 60] from rfl) (Reps.one (show Kd.M (Kd.int .i64) _ _ _ 1000 [.int .i64 1000] from rfl) (Reps.one (show Kd.M (Kd.int .i64) _ _ _ 1001 [.int .i64 1001] from rfl) (Reps.one (show Kd.M (Kd.int .i64) _ _ _ (-1) [.int .i64 (-1)] from rfl) (Reps.none _ _)))))))); intro v632 w14 ho15 hb hg_ hnew_; clear hg_ hnew_; (first | rw [← Ny631.out] at ho15 | (simp only [Int.reduceToNat] at ho15; rw [← Ny631.out] at ho15)); have n0_ := Aside0.mk (Kd.R_below (rK HO616) hb); have n1_ := Aside0.mk (Kd.V_elder' (by (with_reducible repeat (first | apply Kd.V_alloc | apply Kd.V_drewN | apply Kd.V_drew)); exact HO619.out) (Kd.R_base ho15) hb); have n2_ := Aside0.mk (Kd.R_elder' (rK HO627) (Kd.R_base ho15) hb); have n3_ := Aside0.mk (Kd.R_lower (Kd.R_new' (Kd.R_newM (M := fun k_ => (w.heap.size ≤ k_)) ho15 (below_size (by exact sB1 HB.out (IsS138.ge HI613.out))) (fun k_ h_ => h_)) (Kd.R_lt (rK HO627))) (below_size (by exact sB1 HB.out (IsS138.ge HI613.out)))); have n4_ := Aside0.mk (IsS138.below (by exact sI1380 HI613.out) hb); have n5_ := Aside0.mk (below_step (by exact sB1 HB.out (IsS138.ge HI613.out)) hb); clear HO616; clear HO619; clear HO627; clear HI613; clear HB; have HO616 := n0_; have HO619 := n1_; have HO627 := n2_; have HO633 := n3_; have HI613 := n4_; have HB := n5_; clear n0_ n1_ n2_ n3_ n4_ n5_; clear hb ho15; obtain ⟨Ao16, co16, eo16⟩ := Kd.R_slice HO633.out; subst eo16) | ((with_reducible refine gate_callee (f := 94) rfl ?_); refine gL (some 30) Try.func94 #[.pointer (some ⟨g613, 0, none⟩), .slice Ao16 y631.length co16] ?_; (with_reducible refine (spec_l1Int.calls g613 t610 t629 t630 _ _ y631 t634 t635 t636 w _ ?side1 ?side2 ?side3 ?side4 ?side5 A6.out).mono ?_); (case side1 => exact sI1380 HI613.out); (case side2 => exact sB1 HB.out (IsS138.ge HI613.out)); (case side3 => exact cO ⟨(Kd.R_reads' HO633.out).2.2⟩); (case side4 => exact (Kd.R_reads' HO633.out).2.1); (case side5 => exact far_slice (IsS138.own_ne HI613.out HO633.out (by decide))); rintro e w17 ⟨rfl, hi, hb, hk⟩; refine ⟨_, rfl, ?_⟩; have n0_ := Aside0.mk (Kd.R_mono (Kd.R_keep (IsS138.apart (show IsS138 w _ g613 t610 t629 t630 from by exact sI1380 HI613.out) (rK HO616) (by decide)) hk (fun _ h => h.2)) (fun _ h => h.1)); have n1_ := Aside0.mk (Kd.V_mono (Kd.V_keep (Kd.V_mono (ok := fun k_ => (((((w.heap.size ≤ k_)) ∧ (some k_ ≠ (v615 : Value).ownBlock ∧ k_ ≠ g613)) ∧ some k_ ≠ (.slice Ao12 y625.length co12 : Value).ownBlock) ∧ some k_ ≠ (.slice Ao16 y631.length co16 : Value).ownBlock)) (by (with_reducible repeat (first | apply Kd.V_alloc | apply Kd.V_drewN | apply Kd.V_drew)); exact HO619.out) (fun k_ hk_ => (⟨hk_, hk_.1.1.2.2⟩ : _ ∧ k_ ≠ g613))) hk (fun _ h => h.2)) (fun _ h => h.1)); have n2_ := Aside0.mk (Kd.R_mono (Kd.R_keep (IsS138.apart (show IsS138 w _ g613 t610 t629 t630 from by exact sI1380 HI613.out) (rK HO627) (by decide)) hk (fun _ h => h.2)) (fun _ h => h.1)); have n3_ := Aside0.mk (Kd.R_mono (Kd.R_keep (IsS138.apart (show IsS138 w _ g613 t610 t629 t630 from by exact sI1380 HI613.out) (rK HO633) (by decide)) hk (fun _ h => h.2)) (fun _ h => h.1)); have n4_ := Aside0.mk (hb); have n5_ := Aside0.mk (hi); clear HO616; clear HO619; clear HO627; clear HO633; clear HB; clear HI613; have HO616 := n0_; have HO619 := n1_; have HO627 := n2_; have HO633 := n3_; have HB := n4_; have HI613 := n5_; clear n0_ n1_ n2_ n3_ n4_ n5_; (try clear hb); (try clear hk); (try clear hi)))
 refine bodyPost_ret (results_list (rs := [.tmp 2, .tmp 3, .tmp 4, .tmp 5, .tmp 6]) rfl (by simp) (.tmp (.tmp (.tmp (.tmp (.tmp .nil)))))) rfl ?_
 exact ⟨_, _, by first | rfl | (simp [errW_none, errW_some] <;> rfl) | (simp [*, errW_none, errW_some] <;> rfl), by (with_reducible repeat (first | apply Kd.R_alloc | apply Kd.R_drewN | apply Kd.R_drew)); exact Kd.R_mono HO616.out (fun _ hk => hk.1), by (with_reducible repeat (first | apply Kd.V_alloc | apply Kd.V_drewN | apply Kd.V_drew)); exact Kd.V_mono HO619.out (fun _ hk => ⟨hk.1.1.1, hk.1.1.2.1⟩), by exact sB1 HB.out (IsS138.ge HI613.out)⟩

/-! ### impl_greens: function 74 -/
def impl_greens.l0 : Nat → List (S50) → List (S85) → Int → List Bool → Int → Int → Option (List Bool)
 | 0, _, _, _, _, _, _ => none
 | k + 1, x0, x1, x2, x7, x18, x19 => if x19 < x18 then ((impl_LightAt.f k x0 x1 x19 x2).bind fun t642 => (if 0 ≤ x19 then (if x19 < (x7.length : Int) then (impl_greens.l0 k x0 x1 x2 (x7.set (x19 : Int).toNat (t642 == 1)) x18 (wrap64 (x19 + 1))) else (none)) else (none))) else (some x7)
def impl_greens.f (k : Nat) (l0 : List (S50)) (l1 : List (S85)) (a2 : Int) : Option (List Bool) := (impl_FindPath.f l0 a2).bind fun t637 => (if t637 < 0 then (some ([] : List Bool)) else ((impl_Cycle.f k l0 l1).bind fun t638 => (if 0 ≤ t638 then (if (t638 : Int).toNat ≤ 281474976710656 then ((some (List.replicate (t638 : Int).toNat false : List Bool)).bind fun y639 => (impl_greens.l0 k l0 l1 a2 y639 (y639.length : Int) 0)) else (none)) else (none))))
theorem impl_greens.mono_l : ∀ k, (∀ y0 y1 y2 y3 y4 y5, LeO (impl_greens.l0 k y0 y1 y2 y3 y4 y5) (impl_greens.l0 (k + 1) y0 y1 y2 y3 y4 y5))
 | 0 => fun _ _ _ _ _ _ r h => by simp [impl_greens.l0] at h
 | k + 1 => by
  have ih0 := impl_greens.mono_l k
  ·
   intro y0 y1 y2 y3 y4 y5
   unfold impl_greens.l0
   repeat' first | (with_reducible first | exact LeO.refl _ | exact LeO.none _ | refine LeO.ite ?_ ?_ | refine LeO.bind ?_ (fun _ => ?_) | exact ih0 _ _ _ _ _ _ | exact impl_Cycle.mono _ _ _ | exact impl_LightAt.mono _ _ _ _ _)
theorem impl_greens.mono : ∀ a0 a1 a2 k, LeO (impl_greens.f k a0 a1 a2) (impl_greens.f (k + 1) a0 a1 a2) := by
 intro a0 a1 a2 k
 have ih0 := impl_greens.mono_l k
 unfold impl_greens.f
 repeat' first | (with_reducible first | exact LeO.refl _ | exact LeO.none _ | refine LeO.ite ?_ ?_ | refine LeO.bind ?_ (fun _ => ?_) | exact ih0 _ _ _ _ _ _ | exact impl_Cycle.mono _ _ _ | exact impl_LightAt.mono _ _ _ _ _)
set_option maxHeartbeats 8000000 in
set_option maxRecDepth 100000 in
theorem impl_greens.calls (k : Nat) (A0 : Option Addr) (c0 : Nat) (l0 : List (S50)) (A1 : Option Addr) (c1 : Nat) (l1 : List (S85)) (a2 : Int) (r : List Bool) (w : World) (hr0 : Kd.C k50 w A0 l0.length l0) (hc0 : l0.length ≤ c0) (hr1 : Kd.C k85 w A1 l1.length l1) (hc1 : l1.length ≤ c1) (h : impl_greens.f k l0 l1 a2 = some r) :
  Calls Try.prog 74 #[.slice A0 l0.length c0, .slice A1 l1.length c1, .int .i64 a2] w fun e w' => ∃ v0_ : Value, e = .returned (v0_) ∧ Kd.R Kd.bool 4 w' w.heap.size (fun _ => True) v0_ r ∧ Below w.heap.size w w' := by
 have HR0 := Aside0.mk hr0
 have HC0 := Aside0.mk hc0
 clear hr0 hc0
 have HR1 := Aside0.mk hr1
 have HC1 := Aside0.mk hc1
 clear hr1 hc1
 have HB := Aside0.mk (Below.refl w.heap.size w)
 have H : ((impl_FindPath.f l0 a2).bind fun t637 => (if t637 < 0 then (some ([] : List Bool)) else ((impl_Cycle.f k l0 l1).bind fun t638 => (if 0 ≤ t638 then (if (t638 : Int).toNat ≤ 281474976710656 then ((some (List.replicate (t638 : Int).toNat false : List Bool)).bind fun y639 => (impl_greens.l0 k l0 l1 a2 y639 (y639.length : Int) 0)) else (none)) else (none))))) = some r := h
 clear h
 obtain ⟨t637, A4, H⟩ := bindE H
 try dsimp only at H
 by_cases c5 : t637 < 0
 ·
  rw [if_pos c5] at H
  have c5b0 := decide_eq_true c5
  clear c5
  obtain rfl := Option.some.inj H
  go_enter Try.func74, Try.ntmps74
  go_wp2_with (first | ((with_reducible refine gate_callee (f := 16) rfl ?_); refine gL (some 11) Try.func16 #[.slice A0 l0.length c0, .int .i64 a2] ?_; (with_reducible refine (impl_FindPath.calls _ _ l0 a2 t637 _ ?side1 ?side2 A4.out).mono ?_); (case side1 => exact cO HR0); (case side2 => exact HC0.out); rintro e w6 ⟨rfl, hb⟩; refine ⟨_, rfl, ?_⟩; replace HB := Aside0.mk (below_step bA hb); (try clear hb)))
  go_ret
  exact ⟨_, by first | rfl | (simp [errW_none, errW_some] <;> rfl) | (simp [*, errW_none, errW_some] <;> rfl), by first | exact Kd.R_nil _ _ _ _ _ | exact Kd.N_nil _ _ _ _ _ | exact Kd.V_nil _ _ _ _ _ | exact Kd.Q_nil _ _ _ _ _ | exact Kd.S_nil _ _ _ _ _, bA⟩
 ·
  rw [if_neg c5] at H
  have c5b0 := decide_eq_false c5
  clear c5
  obtain ⟨t638, A7, H⟩ := bindE H
  try dsimp only at H
  have c8 : 0 ≤ t638 := ifN H
  replace H := ifT H
  have c8b0 := eq_true c8
  have c8b1 := decide_eq_true c8
  clear c8
  have c9 : (t638 : Int).toNat ≤ 281474976710656 := ifN H
  replace H := ifT H
  have c9b0 := eq_true c9
  have c9b1 := decide_eq_true c9
  clear c9
  obtain ⟨y639, hy639⟩ : ∃ y_ : List Bool, y_ = (List.replicate (t638 : Int).toNat false) := ⟨_, rfl⟩
  replace H : (impl_greens.l0 k l0 l1 a2 y639 (y639.length : Int) 0) = some r := rH H hy639
  have Ny639 := Aside0.mk hy639
  clear hy639
  have H' := Aside0.mk H
  clear H
  go_enter Try.func74, Try.ntmps74
  go_wp2_with (first | ((with_reducible refine gate_callee (f := 16) rfl ?_); refine gL (some 11) Try.func16 #[.slice A0 l0.length c0, .int .i64 a2] ?_; (with_reducible refine (impl_FindPath.calls _ _ l0 a2 t637 _ ?side1 ?side2 A4.out).mono ?_); (case side1 => exact cO HR0); (case side2 => exact HC0.out); rintro e w10 ⟨rfl, hb⟩; refine ⟨_, rfl, ?_⟩; replace HB := Aside0.mk (below_step bA hb); (try clear hb)) | ((with_reducible refine gate_callee (f := 56) rfl ?_); refine gL (some 15) Try.func56 #[.slice A0 l0.length c0, .slice A1 l1.length c1] ?_; (with_reducible refine (impl_Cycle.calls k _ _ l0 _ _ l1 t638 _ ?side1 ?side2 ?side3 ?side4 A7.out).mono ?_); (case side1 => exact cB HR0); (case side2 => exact HC0.out); (case side3 => exact cB HR1); (case side4 => exact HC1.out); rintro e w11 ⟨rfl, hb⟩; refine ⟨_, rfl, ?_⟩; replace HB := Aside0.mk (below_step bA hb); (try clear hb)) | ((with_reducible refine gate_dst (N := 16) rfl ?_); refine Kd.R_make Kd.bool _ 4 rfl (N := 16) rfl 56 _ _ rfl t638 rfl rfl Try.underlying56 (.bool false) 1 info4 rfl (by decide) (by omega) false (ok := fun _ => True) (okp := fun _ => True) rfl (fun _ hk => hk) trivial (dA) (Nat.le_trans (Nat.mul_le_mul_right _ (dA : t638.toNat ≤ 281474976710656)) (by omega)) (Below.refl _ _) (Nat.le_refl _) ?_; intro v640 w12 ho13 hb hg_ hnew_; clear hg_ hnew_; (first | rw [← Ny639.out] at ho13 | (simp only [Int.reduceToNat] at ho13; rw [← Ny639.out] at ho13)); have HO641 := Aside0.mk (Kd.R_lower ho13 (below_size bA)); replace HB := Aside0.mk (below_step bA hb); clear hb ho13; obtain ⟨Ao14, co14, eo14⟩ := Kd.R_slice HO641.out; subst eo14))
  go_loopg [19] k (fun kq v19 w' => ∃ (x7_1 : List Bool) (x19_1 : Int), v19 = .int .i64 x19_1 ∧ Aside0 (impl_greens.l0 kq l0 l1 a2 x7_1 (y639.length : Int) x19_1 = some r) ∧ Aside0 (kq ≤ k) ∧ Aside0 (Kd.R Kd.bool 4 w' w.heap.size (fun _ => True) (.slice Ao14 y639.length co14) x7_1) ∧ Aside0 (Below w.heap.size w w'))
  case atStart => exact ⟨(y639), (0), rS, H', ⟨Nat.le_refl _⟩, ⟨rK HO641⟩, ⟨bA⟩⟩
  case round =>
   clear H'
   try clear c1
   try clear p2
   try clear c5
   try clear c5b0
   try clear c7
   try clear c8
   try clear c8b0
   try clear c8b1
   try clear c9
   try clear c9b0
   try clear c9b1
   obtain ⟨x7_1, x19_1, rfl, HA, HK1, HO_7, HB⟩ := hrel
   have hl7_1 := (Kd.R_reads' HO_7.out).1
   rw [hl7_1] at HO_7
   (try simp only [hl7_1])
   cases gk with
   | zero => exact absurd HA.out (by simp [impl_greens.l0])
   | succ k1 =>
    have H := HA.out
    clear HA
    simp only [impl_greens.l0] at H
    by_cases c15 : x19_1 < (y639.length : Int)
    ·
     rw [if_pos c15] at H
     have c15b0 := decide_eq_true c15
     (try have c15b0x : decide (x19_1 < (x7_1.length : Int)) = true := (by rw [← hl7_1]; exact c15b0))
     clear c15
     obtain ⟨t642, A16, H⟩ := bindE H
     try dsimp only at H
     have c17 : 0 ≤ x19_1 := ifN H
     replace H := ifT H
     have c17b0 := decide_eq_true c17
     clear c17
     have c18 : x19_1 < (x7_1.length : Int) := ifN H
     replace H := ifT H
     have c18b0 := decide_eq_true c18
     clear c18
     obtain ⟨y643, hy643⟩ : ∃ y_ : List Bool, y_ = (x7_1.set (x19_1 : Int).toNat (t642 == 1)) := ⟨_, rfl⟩
     replace H : (impl_greens.l0 k1 l0 l1 a2 y643 (y639.length : Int) (wrap64 (x19_1 + 1))) = some r := rH H hy643
     have Ny643 := Aside0.mk hy643
     clear hy643
     have H' := Aside0.mk H
     clear H
     go_wp2_with (first | ((with_reducible refine gate_callee (f := 14) rfl ?_); refine gL (some 28) Try.func14 #[.slice A0 l0.length c0, .slice A1 l1.length c1, .int .i64 x19_1, .int .i64 a2] ?_; (with_reducible refine (impl_LightAt.calls k1 _ _ l0 _ _ l1 x19_1 a2 t642 _ ?side1 ?side2 ?side3 ?side4 A16.out).mono ?_); (case side1 => exact cB HR0); (case side2 => exact HC0.out); (case side3 => exact cB HR1); (case side4 => exact HC1.out); rintro e w20 ⟨rfl, hb⟩; refine ⟨_, rfl, ?_⟩; replace HO_7 := Aside0.mk (Kd.R_below (rK HO_7) hb); replace HB := Aside0.mk (below_step bA hb); (try clear hb); have p19 : 0 ≤ (x19_1 : Int) := dA; have q19 : (x19_1 : Int) < ((x7_1.length : Int) : Int) := dA; obtain ⟨go19, co19, eo19, gb19, gl19, cl19, HG19⟩ := Kd.R_form HO_7.out (by omega); (first | cases eo19 | (injection eo19 with ea_ en_ ec_; (first | subst ea_ | (injection ea_ with ea_; subst ea_)); subst ec_; clear en_)); have GB19 := Aside0.mk gb19; have GG19 := Aside0.mk HG19; clear gb19 gl19 HG19; obtain ⟨hx19_0, hf19_0⟩ := Kd.R_celln false HO_7.out (x19_1 : Int) p19 q19; replace p19 := eq_true p19; replace q19 := eq_true q19; obtain ⟨hy21_, hz21_⟩ := Kd.R_celln false HO_7.out (x19_1 : Int) (dA) (dA); have HP21 := Kd.R_putg HO_7.out (x19_1 : Int) (t642 == 1)) | ((with_reducible refine gate_store (t := 4) (p := 30) rfl ?_); refine store_event (t := 4) (p := 30) (v := ?vo_w22) (w1 := (w20.setCell ⟨go19, (x19_1 : Int).toNat, none⟩ (.bool (t642 == 1)))) ?hg ?ho ?hn ?hr ?_; (case ho => rfl); (case hg => rfl); (case hn => rfl); (case hr => first | (go_simp; done) | (go_simp; rfl)); intro w22 hw; have hg : w20.grownBy w22 (some go19) := (by rw [hw]; exact HP21.2); have hp_ : Kd.R Kd.bool 4 w22 w.heap.size (fun _ => True) (.slice (some ⟨go19, 0, none⟩) x7_1.length co14) y643 := (by rw [hw, Ny643.out]; exact HP21.1); clear HP21; have n0_ := Aside0.mk (hp_); have n1_ := Aside0.mk ((by rw [hw]; exact below_set (HB.out) GB19.out : Below w.heap.size w w22)); clear HO_7; clear HB; have HO_7 := n0_; have HB := n1_; clear n0_ n1_; clear hg hw hp_))
     (try simp only [← hl7_1])
     go_roundg k1
     case measure => have := HK1.out; omega
     case rel => exact ⟨(y643), (wrap64 (x19_1 + 1)), rS, H', ⟨by have := HK1.out; omega⟩, ⟨by (try simp only [hl7_1]); (with_reducible repeat (first | apply Kd.R_alloc | apply Kd.R_drewN | apply Kd.R_drew)); exact HO_7.out⟩, ⟨bA⟩⟩
    ·
     rw [if_neg c15] at H
     have c15b0 := decide_eq_false c15
     (try have c15b0x : decide (x19_1 < (x7_1.length : Int)) = false := (by rw [← hl7_1]; exact c15b0))
     clear c15
     obtain rfl := Option.some.inj H
     go_wp2
     go_ret
     exact ⟨_, by first | rfl | (simp [errW_none, errW_some] <;> rfl) | (simp [*, errW_none, errW_some] <;> rfl), by (with_reducible repeat (first | apply Kd.R_alloc | apply Kd.R_drewN | apply Kd.R_drew)); exact HO_7.out, bA⟩

/-! ### impl_OpenIn: function 40 -/
mutual
def impl_OpenIn.j0 : Nat → Int → Int → List Bool → List Bool → Bool → Option (List Bool)
 | 0, _, _, _, _, _ => none
 | k + 1, x3, x4, x11, x12, x31 => if x31 = true then (some x11) else (impl_OpenIn.l0 k x3 x11 x12 x4 0)
def impl_OpenIn.l0 : Nat → Int → List Bool → List Bool → Int → Int → Option (List Bool)
 | 0, _, _, _, _, _ => none
 | k + 1, x3, x11, x12, x33, x34 => if x34 < x33 then (if (x12.length : Int) = 0 then (none) else (if 0 ≤ (Int.tmod (wrap64 (x3 + x34)) (x12.length : Int)) then (if (Int.tmod (wrap64 (x3 + x34)) (x12.length : Int)) < (x12.length : Int) then (if x11.length < 140737488355328 then (impl_OpenIn.l0 k x3 (x11 ++ [rdOf false x12 (Int.tmod (wrap64 (x3 + x34)) (x12.length : Int))]) x12 x33 (wrap64 (x34 + 1))) else (none)) else (none)) else (none))) else (some x11)
end
def impl_OpenIn.f (k : Nat) (l0 : List (S50)) (l1 : List (S85)) (a2 : Int) (a3 : Int) (a4 : Int) : Option (List Bool) := (some (([] : List Bool) : List Bool)).bind fun y644 => ((impl_greens.f k l0 l1 a2).bind fun t647 => (if (t647.length : Int) = 0 then (impl_OpenIn.j0 k a3 a4 y644 t647 true) else ((impl_InRange.f a3 0 100000).bind fun t650 => (if t650 = true then ((impl_InRange.f a4 0 1000).bind fun t651 => (impl_OpenIn.j0 k a3 a4 y644 t647 (!t651))) else (impl_OpenIn.j0 k a3 a4 y644 t647 true)))))
theorem impl_OpenIn.mono_l : ∀ k, (∀ y0 y1 y2 y3 y4, LeO (impl_OpenIn.j0 k y0 y1 y2 y3 y4) (impl_OpenIn.j0 (k + 1) y0 y1 y2 y3 y4)) ∧ (∀ y0 y1 y2 y3 y4, LeO (impl_OpenIn.l0 k y0 y1 y2 y3 y4) (impl_OpenIn.l0 (k + 1) y0 y1 y2 y3 y4))
 | 0 => ⟨fun _ _ _ _ _ r h => by simp [impl_OpenIn.j0] at h, fun _ _ _ _ _ r h => by simp [impl_OpenIn.l0] at h⟩
 | k + 1 => by
  obtain ⟨ih0, ih1⟩ := impl_OpenIn.mono_l k
  refine ⟨?_, ?_⟩
  ·
   intro y0 y1 y2 y3 y4
   unfold impl_OpenIn.j0
   repeat' first | (with_reducible first | exact LeO.refl _ | exact LeO.none _ | refine LeO.ite ?_ ?_ | refine LeO.bind ?_ (fun _ => ?_) | exact ih0 _ _ _ _ _ | exact ih1 _ _ _ _ _ | exact impl_greens.mono _ _ _ _)
  ·
   intro y0 y1 y2 y3 y4
   unfold impl_OpenIn.l0
   repeat' first | (with_reducible first | exact LeO.refl _ | exact LeO.none _ | refine LeO.ite ?_ ?_ | refine LeO.bind ?_ (fun _ => ?_) | exact ih0 _ _ _ _ _ | exact ih1 _ _ _ _ _ | exact impl_greens.mono _ _ _ _)
theorem impl_OpenIn.mono : ∀ a0 a1 a2 a3 a4 k, LeO (impl_OpenIn.f k a0 a1 a2 a3 a4) (impl_OpenIn.f (k + 1) a0 a1 a2 a3 a4) := by
 intro a0 a1 a2 a3 a4 k
 obtain ⟨ih0, ih1⟩ := impl_OpenIn.mono_l k
 unfold impl_OpenIn.f
 repeat' first | (with_reducible first | exact LeO.refl _ | exact LeO.none _ | refine LeO.ite ?_ ?_ | refine LeO.bind ?_ (fun _ => ?_) | exact ih0 _ _ _ _ _ | exact ih1 _ _ _ _ _ | exact impl_greens.mono _ _ _ _)
set_option maxHeartbeats 8000000 in
set_option maxRecDepth 100000 in
theorem impl_OpenIn.calls (k : Nat) (A0 : Option Addr) (c0 : Nat) (l0 : List (S50)) (A1 : Option Addr) (c1 : Nat) (l1 : List (S85)) (a2 : Int) (a3 : Int) (a4 : Int) (r : List Bool) (w : World) (hr0 : Kd.C k50 w A0 l0.length l0) (hc0 : l0.length ≤ c0) (hr1 : Kd.C k85 w A1 l1.length l1) (hc1 : l1.length ≤ c1) (h : impl_OpenIn.f k l0 l1 a2 a3 a4 = some r) :
  Calls Try.prog 40 #[.slice A0 l0.length c0, .slice A1 l1.length c1, .int .i64 a2, .int .i64 a3, .int .i64 a4] w fun e w' => ∃ v0_ : Value, e = .returned (v0_) ∧ Kd.R Kd.bool 4 w' w.heap.size (fun _ => True) v0_ r ∧ Below w.heap.size w w' := by
 have HR0 := Aside0.mk hr0
 have HC0 := Aside0.mk hc0
 clear hr0 hc0
 have HR1 := Aside0.mk hr1
 have HC1 := Aside0.mk hc1
 clear hr1 hc1
 have HB := Aside0.mk (Below.refl w.heap.size w)
 have H : ((some (([] : List Bool) : List Bool)).bind fun y644 => ((impl_greens.f k l0 l1 a2).bind fun t647 => (if (t647.length : Int) = 0 then (impl_OpenIn.j0 k a3 a4 y644 t647 true) else ((impl_InRange.f a3 0 100000).bind fun t650 => (if t650 = true then ((impl_InRange.f a4 0 1000).bind fun t651 => (impl_OpenIn.j0 k a3 a4 y644 t647 (!t651))) else (impl_OpenIn.j0 k a3 a4 y644 t647 true)))))) = some r := h
 clear h
 obtain ⟨y644, hy644⟩ : ∃ y_ : List Bool, y_ = (([] : List Bool)) := ⟨_, rfl⟩
 replace H : ((impl_greens.f k l0 l1 a2).bind fun t647 => (if (t647.length : Int) = 0 then (impl_OpenIn.j0 k a3 a4 y644 t647 true) else ((impl_InRange.f a3 0 100000).bind fun t650 => (if t650 = true then ((impl_InRange.f a4 0 1000).bind fun t651 => (impl_OpenIn.j0 k a3 a4 y644 t647 (!t651))) else (impl_OpenIn.j0 k a3 a4 y644 t647 true))))) = some r := rH H hy644
 have Ny644 := Aside0.mk hy644
 clear hy644
 obtain ⟨t647, A6, H⟩ := bindE H
 try dsimp only at H
 have HC7 := Aside0.mk H
 clear H
 go_enter Try.func40, Try.ntmps40
 go_upto_region 3 with (first | ((with_reducible refine gate_dst (N := 14) rfl ?_); refine Kd.R_lit Kd.bool _ 4 ?hg (N := 14) ?hd (xs := ([] : List Bool)) (inner := []) (ok := fun _ => True) (okp := fun _ => True) ?hr ?hp (fun _ hk => hk) trivial (Below.refl _ _) (Nat.le_refl _) (by simp) ?_; (case hd => rfl); (case hg => rfl); (case hr => first | (go_simp; done) | (go_simp; rfl)); (case hp => exact (Reps.none _ _)); intro v645 w8 ho9 hb hg_ hnew_; clear hg_ hnew_; (first | rw [← Ny644.out] at ho9 | (simp only [Int.reduceToNat] at ho9; rw [← Ny644.out] at ho9)); have HO646 := Aside0.mk (Kd.R_lower ho9 (below_size bA)); replace HB := Aside0.mk (below_step bA hb); clear hb ho9) | ((with_reducible refine gate_callee (f := 74) rfl ?_); refine gL (some 18) Try.func74 #[.slice A0 l0.length c0, .slice A1 l1.length c1, .int .i64 a2] ?_; (with_reducible refine (impl_greens.calls k _ _ l0 _ _ l1 a2 t647 _ ?side1 ?side2 ?side3 ?side4 A6.out).mono ?_); (case side1 => exact cB HR0); (case side2 => exact HC0.out); (case side3 => exact cB HR1); (case side4 => exact HC1.out); rintro e w10 ⟨v648, rfl, ho0, hb⟩; refine ⟨_, rfl, ?_⟩; have HO649 := Aside0.mk (Kd.R_lower (Kd.R_new' ho0 (Kd.R_lt (rK HO646))) (below_size bA)); replace HO646 := Aside0.mk (Kd.R_elder' (rK HO646) (Kd.R_base ho0) hb); replace HB := Aside0.mk (below_step bA hb); (try clear hb); (try clear ho0)))
 (try simp only [Act.put, List.setIfInBounds_toArray, List.set_cons_zero, List.set_cons_succ])
 go_cut [31] (fun v31 wc => ∃ (kq : Nat) (x31_6 : Bool), v31 = .bool x31_6 ∧ Aside0 (impl_OpenIn.j0 kq a3 a4 y644 t647 x31_6 = some r) ∧ Aside0 (kq ≤ k) ∧ Aside0 (Kd.R Kd.bool 4 wc w.heap.size (fun k_ => some k_ ≠ (v648 : Value).ownBlock) v645 y644) ∧ Aside0 (Kd.R Kd.bool 4 wc w.heap.size (fun k_ => some k_ ≠ (v645 : Value).ownBlock) v648 t647) ∧ Aside0 (Below w.heap.size w wc))
 case first =>
  have H := HC7.out
  clear HC7
  by_cases c11 : (t647.length : Int) = 0
  ·
   rw [if_pos c11] at H
   have c11b0 : ((t647.length : Int) == 0) = true := beq_iff_eq.mpr c11
   have c11b1 : ((t647.length : Int) != 0) = false := bne_eq_false_iff_eq.mpr c11
   clear c11
   (first | rw [c11b0] | (simp only [i64_w, i32_w]; rw [c11b0]) | skip)
   have H' := Aside0.mk H
   clear H
   obtain ⟨Ao12, co12, eo12⟩ := Kd.R_slice HO649.out
   subst eo12
   go_wp2
   go_meet
   case rel => exact ⟨_, (true), rS, H', ⟨by first | omega | exact Nat.le_refl _⟩, ⟨by (with_reducible repeat (first | apply Kd.R_alloc | apply Kd.R_drewN | apply Kd.R_drew)); exact Kd.R_mono HO646.out (fun _ hk => hk.2)⟩, ⟨by (with_reducible repeat (first | apply Kd.R_alloc | apply Kd.R_drewN | apply Kd.R_drew)); exact Kd.R_mono HO649.out (fun _ hk => hk.2)⟩, ⟨bA⟩⟩
  ·
   rw [if_neg c11] at H
   have c11b0 : ((t647.length : Int) == 0) = false := beq_eq_false_iff_ne.mpr c11
   have c11b1 : ((t647.length : Int) != 0) = true := bne_iff_ne.mpr c11
   have c11b2 : ¬ (t647 = []) := fun h_ => c11 (by rw [h_]; rfl)
   (first | rw [c11b0] | (simp only [i64_w, i32_w]; rw [c11b0]) | skip)
   obtain ⟨t650, A13, H⟩ := bindE H
   try dsimp only at H
   by_cases c14 : t650 = true
   ·
    subst c14
    have H1 : ((impl_InRange.f a4 0 1000).bind fun t651 => (impl_OpenIn.j0 k a3 a4 y644 t647 (!t651))) = some r := by rw [if_pos rfl] at H; exact H
    clear H
    have H := H1
    clear H1
    obtain ⟨t651, A15, H⟩ := bindE H
    try dsimp only at H
    have H' := Aside0.mk H
    clear H
    obtain ⟨Ao16, co16, eo16⟩ := Kd.R_slice HO649.out
    subst eo16
    go_wp2_with (first | (go_at_call 75; (with_reducible refine (impl_InRange.calls a3 0 100000 true _ A13.out).mono ?_); rintro e w' ⟨rfl, ⟨nd, rfl⟩⟩) | (go_at_call 75; (with_reducible refine (impl_InRange.calls a4 0 1000 t651 _ A15.out).mono ?_); rintro e w' ⟨rfl, ⟨nd, rfl⟩⟩))
    go_meet
    case rel => exact ⟨_, (!t651), rS, H', ⟨by first | omega | exact Nat.le_refl _⟩, ⟨by (with_reducible repeat (first | apply Kd.R_alloc | apply Kd.R_drewN | apply Kd.R_drew)); exact Kd.R_mono HO646.out (fun _ hk => hk.2)⟩, ⟨by (with_reducible repeat (first | apply Kd.R_alloc | apply Kd.R_drewN | apply Kd.R_drew)); exact Kd.R_mono HO649.out (fun _ hk => hk.2)⟩, ⟨bA⟩⟩
   ·
    replace c14 := Bool.eq_false_iff.mpr c14
    subst c14
    have H1 : (impl_OpenIn.j0 k a3 a4 y644 t647 true) = some r := by rw [if_neg (show ¬ (false = true) by decide)] at H; exact H
    clear H
    have H := H1
    clear H1
    have H' := Aside0.mk H
    clear H
    obtain ⟨Ao17, co17, eo17⟩ := Kd.R_slice HO649.out
    subst eo17
    go_wp2_with (first | (go_at_call 75; (with_reducible refine (impl_InRange.calls a3 0 100000 false _ A13.out).mono ?_); rintro e w' ⟨rfl, ⟨nd, rfl⟩⟩))
    go_meet
    case rel => exact ⟨_, (true), rS, H', ⟨by first | omega | exact Nat.le_refl _⟩, ⟨by (with_reducible repeat (first | apply Kd.R_alloc | apply Kd.R_drewN | apply Kd.R_drew)); exact Kd.R_mono HO646.out (fun _ hk => hk.2)⟩, ⟨by (with_reducible repeat (first | apply Kd.R_alloc | apply Kd.R_drewN | apply Kd.R_drew)); exact Kd.R_mono HO649.out (fun _ hk => hk.2)⟩, ⟨bA⟩⟩
 case rest =>
  clear HC7
  try clear c1
  try clear p2
  try clear c4
  try clear c7
  try clear c11
  try clear c11b0
  try clear c11b1
  try clear c11b2
  try clear c14
  obtain ⟨kq, x31_6, rfl, HA, HJ6, HO_11, HO_12, HB⟩ := hcut
  cases kq with
  | zero => exact absurd HA.out (by simp [impl_OpenIn.j0])
  | succ kj6 =>
   have H := HA.out
   clear HA
   simp only [impl_OpenIn.j0] at H
   by_cases c18 : x31_6 = true
   ·
    subst c18
    have H1 : (some y644) = some r := by rw [if_pos rfl] at H; exact H
    clear H
    have H := H1
    clear H1
    obtain rfl := Option.some.inj H
    go_wp2
    go_ret
    exact ⟨_, by first | rfl | (simp [errW_none, errW_some] <;> rfl) | (simp [*, errW_none, errW_some] <;> rfl), by (with_reducible repeat (first | apply Kd.R_alloc | apply Kd.R_drewN | apply Kd.R_drew)); exact Kd.R_mono HO_11.out (fun _ hk => trivial), bA⟩
   ·
    replace c18 := Bool.eq_false_iff.mpr c18
    subst c18
    have H1 : (impl_OpenIn.l0 kj6 a3 y644 t647 a4 0) = some r := by rw [if_neg (show ¬ (false = true) by decide)] at H; exact H
    clear H
    have H := H1
    clear H1
    have H' := Aside0.mk H
    clear H
    go_wp2
    go_loopg [11, 34] kj6 (fun kq v11 v34 w' => ∃ (x11_2 : List Bool) (x34_2 : Int), v34 = .int .i64 x34_2 ∧ Aside0 (impl_OpenIn.l0 kq a3 x11_2 t647 a4 x34_2 = some r) ∧ Aside0 (kq ≤ kj6) ∧ Aside0 (Kd.R Kd.bool 4 w' w.heap.size (fun k_ => some k_ ≠ (v648 : Value).ownBlock) v11 x11_2) ∧ Aside0 (Kd.R Kd.bool 4 w' w.heap.size (fun k_ => some k_ ≠ (v11 : Value).ownBlock) v648 t647) ∧ Aside0 (Below w.heap.size w w'))
    case atStart => exact ⟨(y644), (0), rS, H', ⟨Nat.le_refl _⟩, ⟨rK HO_11⟩, ⟨rK HO_12⟩, ⟨bA⟩⟩
    case round =>
     clear H'
     try clear c1
     try clear p2
     try clear c4
     try clear c7
     try clear c11
     try clear c11b0
     try clear c11b1
     try clear c11b2
     try clear c14
     try clear c18
     try clear p2
     obtain ⟨x11_2, x34_2, rfl, HA, HK2, HO_11, HO_12, HB⟩ := hrel
     cases gk with
     | zero => exact absurd HA.out (by simp [impl_OpenIn.l0])
     | succ k2 =>
      have H := HA.out
      clear HA
      simp only [impl_OpenIn.l0] at H
      by_cases c19 : x34_2 < a4
      ·
       rw [if_pos c19] at H
       have c19b0 := decide_eq_true c19
       clear c19
       have c20 : ¬ ((t647.length : Int) = 0) := ifN' H
       replace H := ifT' H
       have c20b0 : ((t647.length : Int) == 0) = false := beq_eq_false_iff_ne.mpr c20
       have c20b1 : ((t647.length : Int) != 0) = true := bne_iff_ne.mpr c20
       have c20b2 : ¬ (t647 = []) := fun h_ => c20 (by rw [h_]; rfl)
       obtain ⟨ji21, hji21⟩ : ∃ j_ : Int, (Int.tmod (wrap64 (a3 + x34_2)) (t647.length : Int)) = j_ := ⟨_, rfl⟩
       replace H : (if 0 ≤ (ji21) then (if (ji21) < (t647.length : Int) then (if x11_2.length < 140737488355328 then (impl_OpenIn.l0 k2 a3 (x11_2 ++ [rdOf false t647 (ji21)]) t647 a4 (wrap64 (x34_2 + 1))) else (none)) else (none)) else (none)) = some r := by first | (rw [hji21] at H; exact H) | (simp only [hji21] at H ⊢; exact H)
       have c22 : 0 ≤ (ji21) := ifN H
       replace H := ifT H
       have c22b0 := decide_eq_true c22
       clear c22
       have c23 : (ji21) < (t647.length : Int) := ifN H
       replace H := ifT H
       have c23b0 := decide_eq_true c23
       clear c23
       have c24 : x11_2.length < 140737488355328 := ifN H
       replace H := ifT H
       have LMc24 := Aside0.mk c24
       clear c24
       obtain ⟨y653, hy653⟩ : ∃ y_ : List Bool, y_ = (x11_2 ++ [rdOf false t647 (ji21)]) := ⟨_, rfl⟩
       replace H : (impl_OpenIn.l0 k2 a3 y653 t647 a4 (wrap64 (x34_2 + 1))) = some r := rH H hy653
       have Ny653 := Aside0.mk hy653
       clear hy653
       have H' := Aside0.mk H
       clear H
       obtain ⟨Ao25, co25, eo25⟩ := Kd.R_slice HO_12.out
       subst eo25
       have p652 : 0 ≤ ((ji21) : Int) := dA
       have q652 : (ji21) < (t647.length : Int) := dA
       obtain ⟨ad652, e652, hx652_0⟩ := Kd.at_bool (Kd.R_reads' HO_12.out).2.2 (ji21) p652 q652
       cases e652
       replace p652 := eq_true p652
       replace q652 := eq_true q652
       go_wp2_with (first | ((with_reducible refine gate_builtin (b := .append) (xs := #[.tmp 37, .tmp 47]) rfl ?_); at_builtin; refine Kd.R_append Kd.bool (w0 := w) w.heap.size rfl (.tmp 37) (.tmp 47) 56 4 (.bool false) 1 rfl Try.underlying56 info4 rfl (by decide) (by omega) u11 x11_2 (rdOf false t647 (ji21)) [.bool (rdOf false t647 (ji21))] (fun k_ => some k_ ≠ (.slice (some ad652) t647.length co25 : Value).ownBlock) (fun _ => False) rfl rfl ?aP (fun _ hk => hk.elim) ?aF ?aO ?aB ?aS ?aL ?_; (case aP => exact rfl); (case aB => exact bA); (case aF => exact (fun k_ hk => Kd.fresh' (Kd.R_lt (rK HO_12)) k_ hk)); (case aO => exact (rK HO_11)); (case aS => exact (below_size bA)); (case aL => have := LMc24.out; omega); intro v654 w26 ho hb hg hat; rw [← Ny653.out] at ho; have n0_ := Aside0.mk (Kd.R_after (ok := (fun _ => True)) (by (with_reducible repeat (first | apply Kd.R_alloc | apply Kd.R_drewN | apply Kd.R_drew)); exact Kd.R_mono HO_12.out (fun _ hk => ⟨trivial, hk⟩)) hg hat); have n1_ := Aside0.mk (hb); have n2_ := Aside0.mk (ho); clear HO_12; clear HB; clear HO_11; have HO_12 := n0_; have HB := n1_; have HO655 := n2_; clear n0_ n1_ n2_; clear ho hb hg hat))
       go_roundg k2
       case measure => have := HJ6.out; have := HK2.out; omega
       case rel => exact ⟨(y653), (wrap64 (x34_2 + 1)), rS, H', ⟨by have := HJ6.out; have := HK2.out; omega⟩, ⟨rK HO655⟩, ⟨by (with_reducible repeat (first | apply Kd.R_alloc | apply Kd.R_drewN | apply Kd.R_drew)); exact Kd.R_mono HO_12.out (fun _ hk => hk.2)⟩, ⟨bA⟩⟩
      ·
       rw [if_neg c19] at H
       have c19b0 := decide_eq_false c19
       clear c19
       obtain rfl := Option.some.inj H
       go_wp2
       go_ret
       exact ⟨_, by first | rfl | (simp [errW_none, errW_some] <;> rfl) | (simp [*, errW_none, errW_some] <;> rfl), by (with_reducible repeat (first | apply Kd.R_alloc | apply Kd.R_drewN | apply Kd.R_drew)); exact Kd.R_mono HO_11.out (fun _ hk => trivial), bA⟩

end Go.Proofs.Ytjgonpcajedkjaa.P
