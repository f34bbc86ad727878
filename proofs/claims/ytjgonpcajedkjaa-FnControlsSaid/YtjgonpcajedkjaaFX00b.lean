/- Printed by myprint.py (wip/tools) over the kit's print: what Go's functions compute, and that they do. Lean checks it. -/
import Derived.Test.YtjgonpcajedkjaaF0
import Derived.Test.YtjgonpcajedkjaaFX00
namespace Go.Proofs.Ytjgonpcajedkjaa.P
open Go.RowKit Go.Proofs.YtjgonpcajedkjaaW.PrintWords Go.Proofs.YtjgonpcajedkjaaW.PrintLast Go.Proofs.YtjgonpcajedkjaaW.PrintMore Go.Proofs.Ytjgonpcajedkjaa.Sq
attribute [local go_sem] max2_int min2_int max_two min_two max_three min_three max_four min_four
set_option linter.unusedVariables false
set_option linter.unusedSimpArgs false

/-! ### spec_IsFullStage: function 165 -/
def spec_IsFullStage.l0 : Nat → List (S50) → List Int → Int → Option (Bool)
 | 0, _, _, _ => none
 | k + 1, x0, x1, x5 => if x5 < (x0.length : Int) then (if 0 ≤ x5 then ((spec_l6Has.f k x1 ((rd_T50 x0 x5).f0)).bind fun t289 => (if t289 = true then (spec_IsFullStage.l0 k x0 x1 (wrap64 (x5 + 1))) else ((spec_l6Put.f k x1 ((rd_T50 x0 x5).f0)).bind fun t291 => ((spec_IsTogether.f k x0 t291).bind fun t294 => (if t294 = true then (some false) else (spec_IsFullStage.l0 k x0 x1 (wrap64 (x5 + 1)))))))) else (none)) else ((spec_IsTogether.f k x0 x1).bind fun t287 => (some t287))
def spec_IsFullStage.f (k : Nat) (l0 : List (S50)) (l1 : List Int) : Option (Bool) := spec_IsFullStage.l0 k l0 l1 0
theorem spec_IsFullStage.mono_l : ∀ k, (∀ y0 y1 y2, LeO (spec_IsFullStage.l0 k y0 y1 y2) (spec_IsFullStage.l0 (k + 1) y0 y1 y2))
 | 0 => fun _ _ _ r h => by simp [spec_IsFullStage.l0] at h
 | k + 1 => by
  have ih0 := spec_IsFullStage.mono_l k
  ·
   intro y0 y1 y2
   unfold spec_IsFullStage.l0
   exact mz4 ih0 spec_IsTogether.mono spec_l6Has.mono spec_l6Put.mono
theorem spec_IsFullStage.mono : ∀ a0 a1 k, LeO (spec_IsFullStage.f k a0 a1) (spec_IsFullStage.f (k + 1) a0 a1) := by
 intro a0 a1 k
 have ih0 := spec_IsFullStage.mono_l k
 unfold spec_IsFullStage.f
 exact mz4 ih0 spec_IsTogether.mono spec_l6Has.mono spec_l6Put.mono
set_option maxHeartbeats 8000000 in
set_option maxRecDepth 100000 in
theorem spec_IsFullStage.calls (k : Nat) (A0 : Option Addr) (c0 : Nat) (l0 : List (S50)) (A1 : Option Addr) (c1 : Nat) (l1 : List Int) (r : Bool) (w : World) (hr0 : Kd.C k50 w A0 l0.length l0) (hc0 : l0.length ≤ c0) (hr1 : Kd.C (Kd.int .i64) w A1 l1.length l1) (hc1 : l1.length ≤ c1) (h : spec_IsFullStage.f k l0 l1 = some r) :
  Calls Try.prog 165 #[.slice A0 l0.length c0, .slice A1 l1.length c1] w fun e w' => e = .returned (.bool r) ∧ Below w.heap.size w w' := by
 have HR0 := Aside0.mk hr0
 have HC0 := Aside0.mk hc0
 clear hr0 hc0
 have HR1 := Aside0.mk hr1
 have HC1 := Aside0.mk hc1
 clear hr1 hc1
 have HB := Aside0.mk (Below.refl w.heap.size w)
 have H : (spec_IsFullStage.l0 k l0 l1 0) = some r := h
 clear h
 have H' := Aside0.mk H
 clear H
 go_enter Try.func165, Try.ntmps165
 go_wp2
 go_loopg [5] k (fun kq v5 w' => ∃ (x5_1 : Int), v5 = .int .i64 x5_1 ∧ Aside0 (spec_IsFullStage.l0 kq l0 l1 x5_1 = some r) ∧ Aside0 (kq ≤ k) ∧ Aside0 (Below w.heap.size w w'))
 case atStart => exact ⟨(0), rS, H', ⟨Nat.le_refl _⟩, ⟨bA⟩⟩
 case round =>
  clear H'
  obtain ⟨x5_1, rfl, HA, HK1, HB⟩ := hrel
  cases gk with
  | zero => exact absurd HA.out (by simp [spec_IsFullStage.l0])
  | succ k1 =>
   have H := HA.out
   clear HA
   simp only [spec_IsFullStage.l0] at H
   by_cases c3 : x5_1 < (l0.length : Int)
   ·
    rw [if_pos c3] at H
    have c3b0 := decide_eq_true c3
    clear c3
    have c4 : 0 ≤ x5_1 := ifN H
    replace H := ifT H
    have c4b0 := decide_eq_true c4
    clear c4
    obtain ⟨t289, A5, H⟩ := bindE H
    try dsimp only at H
    by_cases c6 : t289 = true
    ·
     subst c6
     have H1 : (spec_IsFullStage.l0 k1 l0 l1 (wrap64 (x5_1 + 1))) = some r := by rw [if_pos rfl] at H; exact H
     clear H
     have H := H1
     clear H1
     have H' := Aside0.mk H
     clear H
     obtain ⟨p288, q288⟩ : 0 ≤ (x5_1 : Int) ∧ x5_1 < (l0.length : Int) := ⟨dA, dA⟩
     obtain ⟨ad288, e288, hx288_0, hx288_1, hx288_2, hx288_3⟩ := at_T50 (Kd.C_below HR0.out HB.out) x5_1 p288 q288
     cases e288
     obtain ⟨p288, q288⟩ := eT p288 q288
     go_wp2_with (first | ((with_reducible refine gate_callee (f := 133) rfl ?_); refine gL (some 18) Try.func133 #[.slice A1 l1.length c1, .int .i64 ((rd_T50 l0 x5_1).f0)] ?_; (with_reducible refine (spec_l6Has.calls k1 _ _ l1 ((rd_T50 l0 x5_1).f0) true _ ?_ ?_ A5.out).mono ?_); exact cB HR1; exact HC1.out; rintro e w' ⟨rfl, ⟨nd, rfl⟩⟩; refine ⟨_, rfl, ?_⟩))
     go_roundg k1
     case measure => have := HK1.out; omega
     case rel => exact ⟨(wrap64 (x5_1 + 1)), rS, H', ⟨by have := HK1.out; omega⟩, ⟨bA⟩⟩
    replace c6 := Bool.eq_false_iff.mpr c6
    subst c6
    have H1 : ((spec_l6Put.f k1 l1 ((rd_T50 l0 x5_1).f0)).bind fun t291 => ((spec_IsTogether.f k1 l0 t291).bind fun t294 => (if t294 = true then (some false) else (spec_IsFullStage.l0 k1 l0 l1 (wrap64 (x5_1 + 1)))))) = some r := by rw [if_neg (show ¬ (false = true) by decide)] at H; exact H
    clear H
    have H := H1
    clear H1
    obtain ⟨t291, A7, H⟩ := bindE H
    try dsimp only at H
    obtain ⟨t294, A8, H⟩ := bindE H
    try dsimp only at H
    by_cases c9 : t294 = true
    ·
     subst c9
     have H1 : (some false) = some r := by rw [if_pos rfl] at H; exact H
     clear H
     have H := H1
     clear H1
     obtain rfl := Option.some.inj H
     obtain ⟨p288, q288⟩ : 0 ≤ (x5_1 : Int) ∧ x5_1 < (l0.length : Int) := ⟨dA, dA⟩
     obtain ⟨ad288, e288, hx288_0, hx288_1, hx288_2, hx288_3⟩ := at_T50 (Kd.C_below HR0.out HB.out) x5_1 p288 q288
     cases e288
     obtain ⟨p288, q288⟩ := eT p288 q288
     go_wp2_with (first | ((with_reducible refine gate_callee (f := 133) rfl ?_); refine gL (some 18) Try.func133 #[.slice A1 l1.length c1, .int .i64 ((rd_T50 l0 x5_1).f0)] ?_; (with_reducible refine (spec_l6Has.calls k1 _ _ l1 ((rd_T50 l0 x5_1).f0) false _ ?_ ?_ A5.out).mono ?_); exact cB HR1; exact HC1.out; rintro e w' ⟨rfl, ⟨nd, rfl⟩⟩; refine ⟨_, rfl, ?_⟩; have p290 : 0 ≤ (x5_1 : Int) := dA; have q290 : x5_1 < (l0.length : Int) := dA; obtain ⟨ad290, e290, hx290_0, hx290_1, hx290_2, hx290_3⟩ := at_T50 HR0.out x5_1 p290 q290; obtain rfl : ad288 = ad290 := (by injection e290); replace hx290_0 := hC HB hx290_0; replace hx290_1 := hC HB hx290_1; replace hx290_2 := hC HB hx290_2; replace hx290_3 := hC HB hx290_3; replace p290 := eq_true p290; replace q290 := eq_true q290) | (go_at_call 135; (with_reducible refine (spec_l6Put.calls k1 _ _ l1 ((rd_T50 l0 x5_1).f0) t291 _ ?_ ?_ A7.out).mono ?_); exact cG HR1; exact HC1.out; rintro e w10 ⟨v292, rfl, ho0, hb⟩; have HO293 := rl w ho0; replace HB := bs HB hb; (try clear hb); (try clear ho0); obtain ⟨Ao11, co11, eo11⟩ := Kd.R_slice HO293.out; subst eo11) | (go_at_call 112; (with_reducible refine (spec_IsTogether.calls k1 _ _ l0 _ _ t291 true _ ?_ ?_ ?_ ?_ A8.out).mono ?_); exact cB HR0; exact HC0.out; exact cO ⟨(Kd.R_reads' HO293.out).2.2⟩; exact (Kd.R_reads' HO293.out).2.1; rintro e w12 ⟨rfl, hb⟩; replace HO293 := rb HO293 hb; replace HB := bs HB hb; (try clear hb)))
     go_ret
     exact ⟨rA, bA⟩
    replace c9 := Bool.eq_false_iff.mpr c9
    subst c9
    have H1 : (spec_IsFullStage.l0 k1 l0 l1 (wrap64 (x5_1 + 1))) = some r := by rw [if_neg (show ¬ (false = true) by decide)] at H; exact H
    clear H
    have H := H1
    clear H1
    have H' := Aside0.mk H
    clear H
    obtain ⟨p288, q288⟩ : 0 ≤ (x5_1 : Int) ∧ x5_1 < (l0.length : Int) := ⟨dA, dA⟩
    obtain ⟨ad288, e288, hx288_0, hx288_1, hx288_2, hx288_3⟩ := at_T50 (Kd.C_below HR0.out HB.out) x5_1 p288 q288
    cases e288
    obtain ⟨p288, q288⟩ := eT p288 q288
    go_wp2_with (first | ((with_reducible refine gate_callee (f := 133) rfl ?_); refine gL (some 18) Try.func133 #[.slice A1 l1.length c1, .int .i64 ((rd_T50 l0 x5_1).f0)] ?_; (with_reducible refine (spec_l6Has.calls k1 _ _ l1 ((rd_T50 l0 x5_1).f0) false _ ?_ ?_ A5.out).mono ?_); exact cB HR1; exact HC1.out; rintro e w' ⟨rfl, ⟨nd, rfl⟩⟩; refine ⟨_, rfl, ?_⟩; have p290 : 0 ≤ (x5_1 : Int) := dA; have q290 : x5_1 < (l0.length : Int) := dA; obtain ⟨ad290, e290, hx290_0, hx290_1, hx290_2, hx290_3⟩ := at_T50 HR0.out x5_1 p290 q290; obtain rfl : ad288 = ad290 := (by injection e290); replace hx290_0 := hC HB hx290_0; replace hx290_1 := hC HB hx290_1; replace hx290_2 := hC HB hx290_2; replace hx290_3 := hC HB hx290_3; replace p290 := eq_true p290; replace q290 := eq_true q290) | (go_at_call 135; (with_reducible refine (spec_l6Put.calls k1 _ _ l1 ((rd_T50 l0 x5_1).f0) t291 _ ?_ ?_ A7.out).mono ?_); exact cG HR1; exact HC1.out; rintro e w13 ⟨v292, rfl, ho0, hb⟩; have HO293 := rl w ho0; replace HB := bs HB hb; (try clear hb); (try clear ho0); obtain ⟨Ao14, co14, eo14⟩ := Kd.R_slice HO293.out; subst eo14) | (go_at_call 112; (with_reducible refine (spec_IsTogether.calls k1 _ _ l0 _ _ t291 false _ ?_ ?_ ?_ ?_ A8.out).mono ?_); exact cB HR0; exact HC0.out; exact cO ⟨(Kd.R_reads' HO293.out).2.2⟩; exact (Kd.R_reads' HO293.out).2.1; rintro e w15 ⟨rfl, hb⟩; replace HO293 := rb HO293 hb; replace HB := bs HB hb; (try clear hb)))
    go_roundg k1
    case measure => have := HK1.out; omega
    case rel => exact ⟨(wrap64 (x5_1 + 1)), rS, H', ⟨by have := HK1.out; omega⟩, ⟨bA⟩⟩
   rw [if_neg c3] at H
   have c3b0 := decide_eq_false c3
   clear c3
   obtain ⟨t287, A16, H⟩ := bindE H
   try dsimp only at H
   obtain rfl := Option.some.inj H
   go_wp2_with (first | ((with_reducible refine gate_callee (f := 112) rfl ?_); refine gL (some 33) Try.func112 #[.slice A0 l0.length c0, .slice A1 l1.length c1] ?_; (with_reducible refine (spec_IsTogether.calls k1 _ _ l0 _ _ l1 t287 _ ?_ ?_ ?_ ?_ A16.out).mono ?_); exact cB HR0; exact HC0.out; exact cB HR1; exact HC1.out; rintro e w17 ⟨rfl, hb⟩; refine ⟨_, rfl, ?_⟩; replace HB := bs HB hb; (try clear hb)))
   go_ret
   exact ⟨rA, bA⟩

/-! ### spec_StagesOf: function 96 -/
def spec_l6Search.j0 (l2 : List Int) (l3 : List (List Int)) (x26 : Bool) : Option (List (List Int)) := if x26 = true then (if 0 + l2.length < 17592186044416 then (if l3.length < 5864062014805 then some (l3 ++ [l2]) else none) else none) else some l3
def spec_l6Search.f : Nat → List (S50) → Int → List Int → List (List Int) → Option ((List (List Int)))
 | 0, _, _, _, _ => none
 | k + 1, l0, a1, l2, l3 => (if a1 = (l0.length : Int) then (if (l2.length : Int) > 0 then (if (l3.length : Int) < 40 then ((spec_IsFullStage.f k l0 l2).bind fun t295 => (spec_l6Search.j0 l2 l3 t295)) else (spec_l6Search.j0 l2 l3 false)) else (spec_l6Search.j0 l2 l3 false)) else ((some (([] : List Int) : List Int)).bind fun y296 => (if y296.length + l2.length < 17592186044416 then ((some (y296 ++ l2 : List Int)).bind fun y299 => (if 0 ≤ a1 then (if a1 < (l0.length : Int) then ((some (([(rd_T50 l0 a1).f0] : List Int) : List Int)).bind fun y303 => (if y299.length + y303.length < 17592186044416 then ((spec_IsTogether.f k l0 (y299 ++ y303)).bind fun t309 => (if t309 = true then ((spec_l6Search.f k l0 (wrap64 (a1 + 1)) (y299 ++ y303) l3).bind fun t310 => (spec_l6Search.f k l0 (wrap64 (a1 + 1)) l2 t310)) else (spec_l6Search.f k l0 (wrap64 (a1 + 1)) l2 l3))) else (none))) else (none)) else (none))) else (none))))
theorem spec_l6Search.mono_l : ∀ k y0 y1 y2 y3, LeO (spec_l6Search.f k y0 y1 y2 y3) (spec_l6Search.f (k + 1) y0 y1 y2 y3)
 | 0 => fun _ _ _ _ r h => by simp [spec_l6Search.f] at h
 | k + 1 => by
  have ih0 := spec_l6Search.mono_l k
  intro y0 y1 y2 y3
  unfold spec_l6Search.f
  exact mz3 ih0 spec_IsFullStage.mono spec_IsTogether.mono
theorem spec_l6Search.mono : ∀ a0 a1 a2 a3 k, LeO (spec_l6Search.f k a0 a1 a2 a3) (spec_l6Search.f (k + 1) a0 a1 a2 a3) := fun a0 a1 a2 a3 k => spec_l6Search.mono_l k a0 a1 a2 a3
def spec_l6Search.T5 : Bool × List (List Nat × List Nat) := (true, [([], []), ([], []), ([0, 1], [0, 1]), ([], []), ([], []), ([3, 4], [3, 4]), ([5], [5]), ([6], [6]), ([7], [7]), ([2, 8, 2], [2, 8]), ([9, 9, 0, 1, 2, 3, 4, 5, 6, 7, 8, 9], [9])])
def spec_l6Search.B5 : List Nat := [0, 0, 3, 0, 0, 24, 56, 120, 248, 511, 1023]
theorem spec_l6Search.tab5 : rtab .any (opsOf Try.f137 5) = spec_l6Search.T5 := by kernel_rfl
theorem spec_l6Search.bits5 : waitsOk spec_l6Search.T5.2 spec_l6Search.B5 = true := by kernel_rfl
set_option maxHeartbeats 8000000 in
set_option maxRecDepth 100000 in
theorem spec_l6Search.calls (k : Nat) : ∀ (P3_ Q2_ : Nat → Prop) (A0 : Option Addr) (c0 : Nat) (l0 : List (S50)) (a1 : Int) (v2 : Value) (l2 : List Int) (v3 : Value) (l3 : List (List Int)) (r : List (List Int)) (w0 w : World) (hB : Below w0.heap.size w0 w) (hr0 : Kd.C k50 w0 A0 l0.length l0) (hc0 : l0.length ≤ c0) (hs2 : Kd.R (Kd.int .i64) 3 w w0.heap.size Q2_ v2 l2) (hs3 : Kd.S (Kd.slice 3 (Kd.int .i64)) 35 w w0.heap.size P3_ v3 l3) (hPQ : ∀ i, Q2_ i → ¬ P3_ i) (h : spec_l6Search.f k l0 a1 l2 l3 = some r),
  Calls Try.prog 137 #[.slice A0 l0.length c0, .int .i64 a1, v2, v3] w fun e w' => ∃ v0_ : Value, e = .returned (v0_) ∧ Kd.S (Kd.slice 3 (Kd.int .i64)) 35 w' w0.heap.size (fun i => P3_ i ∨ w.heap.size ≤ i) v0_ r ∧ Below w0.heap.size w0 w' ∧ Kept w w' P3_ := by
 induction k using Nat.strongRecOn with
 | _ k ih =>
 intro P3_ Q2_ A0 c0 l0 a1 v2 l2 v3 l3 r w0 w hB hr0 hc0 hs2 hs3 hPQ h
 cases k with
 | zero => exact absurd h (by simp [spec_l6Search.f])
 | succ k =>
 have IH := Aside0.mk (ih k (Nat.lt_succ_self k))
 clear ih
 obtain ⟨A2, c2, e2⟩ := Kd.R_slice hs2
 subst e2
 obtain ⟨A3, c3, e3⟩ := Kd.S_slice hs3
 subst e3
 have HR00 := Aside0.mk hr0
 have HR0 := Aside0.mk (Kd.C_below hr0 hB)
 have HC0 := Aside0.mk hc0
 have HR2 := Aside0.mk (Kd.R_reads' hs2).2.2
 have HC2 := Aside0.mk (Kd.R_reads' hs2).2.1
 have HZ2 := Aside0.mk (Kd.R_mono (ok' := fun i => Q2_ i ∧ i < w.heap.size) (Kd.R_bound hs2) (fun _ hi => ⟨hi.1, hi.2.2.1⟩))
 have HZ3 := Aside0.mk (Kd.S_mono (ok' := fun i => P3_ i ∧ i < w.heap.size) (Kd.S_bound hs3) (fun _ hi => ⟨hi.1, hi.2.2.1⟩))
 have HPQ := Aside0.mk hPQ
 have HB0 := Aside0.mk hB
 clear hB hr0 hc0 hs2 hs3 hPQ
 have HB := Aside0.mk (Below.refl w.heap.size w)
 have H : (if a1 = (l0.length : Int) then (if (l2.length : Int) > 0 then (if (l3.length : Int) < 40 then ((spec_IsFullStage.f k l0 l2).bind fun t295 => (spec_l6Search.j0 l2 l3 t295)) else (spec_l6Search.j0 l2 l3 false)) else (spec_l6Search.j0 l2 l3 false)) else ((some (([] : List Int) : List Int)).bind fun y296 => (if y296.length + l2.length < 17592186044416 then ((some (y296 ++ l2 : List Int)).bind fun y299 => (if 0 ≤ a1 then (if a1 < (l0.length : Int) then ((some (([(rd_T50 l0 a1).f0] : List Int) : List Int)).bind fun y303 => (if y299.length + y303.length < 17592186044416 then ((spec_IsTogether.f k l0 (y299 ++ y303)).bind fun t309 => (if t309 = true then ((spec_l6Search.f k l0 (wrap64 (a1 + 1)) (y299 ++ y303) l3).bind fun t310 => (spec_l6Search.f k l0 (wrap64 (a1 + 1)) l2 t310)) else (spec_l6Search.f k l0 (wrap64 (a1 + 1)) l2 l3))) else (none))) else (none)) else (none))) else (none)))) = some r := h
 clear h
 by_cases c5 : a1 = (l0.length : Int)
 ·
  rw [if_pos c5] at H
  have c5b0 : (a1 == (l0.length : Int)) = true := beq_iff_eq.mpr c5
  have c5b1 : (a1 != (l0.length : Int)) = false := bne_eq_false_iff_eq.mpr c5
  clear c5
  have HC6 := Aside0.mk H
  clear H
  go_enter Try.func137, Try.ntmps137
  go_upto_region 2 with (fail)
  go_cut [26] (fun v26 wc => ∃ (x26_5 : Bool), v26 = .bool x26_5 ∧ Aside0 (spec_l6Search.j0 l2 l3 x26_5 = some r) ∧ Aside0 (Below w.heap.size w wc))
  case first =>
   have H := HC6.out
   clear HC6
   by_cases c7 : (l2.length : Int) > 0
   ·
    rw [if_pos c7] at H
    have c7b0 := decide_eq_true c7
    have c7b1 : decide (0 < l2.length) = true := decide_eq_true (by omega)
    clear c7
    (first | rw [c7b0] | (simp only [i64_w, i32_w]; rw [c7b0]) | skip)
    by_cases c8 : (l3.length : Int) < 40
    ·
     rw [if_pos c8] at H
     have c8b0 := decide_eq_true c8
     have c8b1 : decide (l3.length < 40) = true := decide_eq_true (by omega)
     clear c8
     obtain ⟨t295, A9, H⟩ := bindE H
     try dsimp only at H
     have H' := Aside0.mk H
     clear H
     go_wp2_with (first | (go_at_call 165; (with_reducible refine (spec_IsFullStage.calls k _ _ l0 _ _ l2 t295 _ ?_ ?_ ?_ ?_ A9.out).mono ?_); exact cB HR0; exact HC0.out; exact cB HR2; exact HC2.out; rintro e w10 ⟨rfl, hb⟩; replace HB := bs HB hb; (try clear hb)))
     go_meet
     case rel => exact ⟨t295, rS, H', ⟨bA⟩⟩
    rw [if_neg c8] at H
    have c8b0 := decide_eq_false c8
    have c8b1 : decide (l3.length < 40) = false := decide_eq_false (by omega)
    clear c8
    have H' := Aside0.mk H
    clear H
    go_wp2
    go_meet
    case rel => exact ⟨false, rS, H', ⟨bA⟩⟩
   rw [if_neg c7] at H
   have c7b0 := decide_eq_false c7
   have c7b1 : decide (0 < l2.length) = false := decide_eq_false (by omega)
   clear c7
   (first | rw [c7b0] | (simp only [i64_w, i32_w]; rw [c7b0]) | skip)
   have H' := Aside0.mk H
   clear H
   go_wp2
   go_meet
   case rel => exact ⟨false, rS, H', ⟨bA⟩⟩
  case rest =>
   clear HC6
   obtain ⟨x26_5, rfl, HA, HB⟩ := hcut
   have H := HA.out
   clear HA
   have HBB := Aside0.mk (HB0.out.trans (HB.out.mono HB0.out.size))
   have HZ3c := Aside0.mk (Kd.S_below HZ3.out HB.out)
   simp only [spec_l6Search.j0] at H
   by_cases c11 : x26_5 = true
   ·
    subst c11
    replace H : (if 0 + l2.length < 17592186044416 then (if l3.length < 5864062014805 then some (l3 ++ [l2]) else none) else none) = some r := by rw [if_pos rfl] at H; exact H
    have c12 : 0 + l2.length < 17592186044416 := ifN H
    replace H := ifT H
    have LMc12 := Aside0.mk c12
    clear c12
    have c13 : l3.length < 5864062014805 := ifN H
    replace H := ifT H
    have LMc13 := Aside0.mk c13
    clear c13
    obtain rfl := Option.some.inj H
    go_wp2_with (first | ((with_reducible refine gate_dst (N := 28) rfl ?_); refine Kd.R_lit (Kd.int .i64) _ 3 ?hg (N := 28) ?hd (xs := ([] : List Int)) (inner := []) (ok := fun _ => True) (okp := fun _ => True) ?hr ?hp (fun _ hk => hk) trivial (Below.refl _ _) (Nat.le_refl _) (by simp) ?_; (case hd => rfl); (case hg => rfl); (case hr => first | (go_simp; done) | (go_simp; rfl)); (case hp => exact (Reps.none _ _)); intro v217 w8 ho9 hb hg_ hnew_; clear hg_ hnew_; have HO218 := rl w ho9; replace HB := bs HB hb; clear hb ho9) | ((with_reducible refine gate_builtin (b := .append) (xs := #[.tmp 28, .tmp 29]) rfl ?_); at_builtin; refine Kd.R_append_rows (Kd.int .i64) (w0 := w) w.heap.size rfl (.tmp 28) (.tmp 29) 35 3 (.int .i64 0) 8 rfl Try.underlying35 info3 rfl (by decide) (by omega) v217 [] l2 _ _ _ (fun _ => True) (fun _ => False) rfl rfl ?aO ?aR (fun _ _ h => h) (fun _ h => h.elim) ?aF ?aB ?aS ?aL ?_; (case aR => repeat (first | exact (Kd.C_below HR2.out HB.out) | (with_reducible refine Kd.C_alloc ?_ _) | (with_reducible refine Kd.C_drewN ?_ _) | (with_reducible refine Kd.C_drew ?_))); (case aB => exact bA); (case aF => exact (fun _ _ => trivial)); (case aO => exact (rK HO218)); (case aS => exact (below_size bA)); (case aL => have := LMc12.out; simp only [List.length_nil]; omega); intro v220 w10 ho hb hg hat; rw [List.nil_append] at ho; have n0_ := Aside0.mk (hb); have n1_ := Aside0.mk (ho); clear HB; clear HO218; have HB := n0_; have HO221 := n1_; clear n0_ n1_; clear ho hb hg hat; obtain ⟨Ao24, co24, eo24⟩ := Kd.R_slice HO221.out; subst eo24) | ((with_reducible refine gate_builtin (b := .append) (xs := #[.tmp 27, .tmp 31]) rfl ?_); at_builtin; refine Kd.S_append (Kd.slice 3 (Kd.int .i64)) (w0 := w0) w0.heap.size rfl (.tmp 27) (.tmp 31) 103 35 (.slice none 0 0) 24 rfl Try.underlying103 info35 rfl (by decide) (by omega) (.slice A3 l3.length c3) l3 l2 [.slice Ao24 l2.length co24] (fun i => P3_ i ∨ w.heap.size ≤ i) (fun i => some i = (.slice Ao24 l2.length co24 : Value).ownBlock) rfl rfl ?aP ?aK ?aF ?aO ?aB ?aS ?aL ?_; (case aP => exact Kd.M_row (Kd.R_tight rfl (Kd.R_lower (rK HO221) HB0.out.size))); (case aK => exact (fun i hi => ⟨.inr (Kd.R_base HO221.out i hi.symm), fun he => by have := Kd.R_base HO221.out i hi.symm; have := Kd.S_lt HZ3.out i he.symm; omega⟩)); (case aF => exact (fun i hi => .inr (Nat.le_trans (below_size HB.out) hi))); (case aO => exact (Kd.S_mono (Kd.S_below HZ3.out HB.out) (fun i hi => ⟨.inl hi.1, fun he => by have := Kd.R_base HO221.out i he.symm; have := hi.2; omega⟩))); (case aB => exact (HB0.out.trans (HB.out.mono HB0.out.size))); (case aS => exact (Nat.le_trans HB0.out.size (below_size HB.out))); (case aL => have := LMc13.out; omega); intro v285 w23 ho hb hg hat; have n0_ := Aside0.mk ho; have n1_ := Aside0.mk hb; have n2_ := Aside0.mk (Kept.of_grown hg (Kept.of_below HB.out P3_) (fun i hi => .inl ((Kd.S_R HZ3.out).1 i hi).1)); clear HB HBB HZ3c ho hb hg hat))
    go_ret
    exact ⟨_, rA, n0_.out, n1_.out, n2_.out⟩
   replace c11 := Bool.eq_false_iff.mpr c11
   subst c11
   replace H : some l3 = some r := by rw [if_neg (show ¬ (false = true) by decide)] at H; exact H
   obtain rfl := Option.some.inj H
   have HK := Aside0.mk (Kept.of_below HB.out P3_)
   clear HB
   go_wp2
   go_ret
   exact ⟨_, rA, sm HZ3c (fun _ hi => .inl hi.1), bA, HK.out⟩
 rw [if_neg c5] at H
 have c5b0 : (a1 == (l0.length : Int)) = false := beq_eq_false_iff_ne.mpr c5
 have c5b1 : (a1 != (l0.length : Int)) = true := bne_iff_ne.mpr c5
 obtain ⟨y296, hy296⟩ : ∃ y_ : List Int, y_ = (([] : List Int)) := ⟨_, rfl⟩
 replace H : (if y296.length + l2.length < 17592186044416 then ((some (y296 ++ l2 : List Int)).bind fun y299 => (if 0 ≤ a1 then (if a1 < (l0.length : Int) then ((some (([(rd_T50 l0 a1).f0] : List Int) : List Int)).bind fun y303 => (if y299.length + y303.length < 17592186044416 then ((spec_IsTogether.f k l0 (y299 ++ y303)).bind fun t309 => (if t309 = true then ((spec_l6Search.f k l0 (wrap64 (a1 + 1)) (y299 ++ y303) l3).bind fun t310 => (spec_l6Search.f k l0 (wrap64 (a1 + 1)) l2 t310)) else (spec_l6Search.f k l0 (wrap64 (a1 + 1)) l2 l3))) else (none))) else (none)) else (none))) else (none)) = some r := rH H hy296
 have Ny296 := Aside0.mk hy296
 clear hy296
 have c12 : y296.length + l2.length < 17592186044416 := ifN H
 replace H := ifT H
 have LMc12 := Aside0.mk c12
 clear c12
 obtain ⟨y299, hy299⟩ : ∃ y_ : List Int, y_ = (y296 ++ l2) := ⟨_, rfl⟩
 replace H : (if 0 ≤ a1 then (if a1 < (l0.length : Int) then ((some (([(rd_T50 l0 a1).f0] : List Int) : List Int)).bind fun y303 => (if y299.length + y303.length < 17592186044416 then ((spec_IsTogether.f k l0 (y299 ++ y303)).bind fun t309 => (if t309 = true then ((spec_l6Search.f k l0 (wrap64 (a1 + 1)) (y299 ++ y303) l3).bind fun t310 => (spec_l6Search.f k l0 (wrap64 (a1 + 1)) l2 t310)) else (spec_l6Search.f k l0 (wrap64 (a1 + 1)) l2 l3))) else (none))) else (none)) else (none)) = some r := rH H hy299
 have Ny299 := Aside0.mk hy299
 clear hy299
 have c13 : 0 ≤ a1 := ifN H
 replace H := ifT H
 have c13b0 := decide_eq_true c13
 clear c13
 have c14 : a1 < (l0.length : Int) := ifN H
 replace H := ifT H
 have c14b0 := decide_eq_true c14
 clear c14
 obtain ⟨y303, hy303⟩ : ∃ y_ : List Int, y_ = (([(rd_T50 l0 a1).f0] : List Int)) := ⟨_, rfl⟩
 replace H : (if y299.length + y303.length < 17592186044416 then ((spec_IsTogether.f k l0 (y299 ++ y303)).bind fun t309 => (if t309 = true then ((spec_l6Search.f k l0 (wrap64 (a1 + 1)) (y299 ++ y303) l3).bind fun t310 => (spec_l6Search.f k l0 (wrap64 (a1 + 1)) l2 t310)) else (spec_l6Search.f k l0 (wrap64 (a1 + 1)) l2 l3))) else (none)) = some r := rH H hy303
 have Ny303 := Aside0.mk hy303
 clear hy303
 have c15 : y299.length + y303.length < 17592186044416 := ifN H
 replace H := ifT H
 have LMc15 := Aside0.mk c15
 clear c15
 obtain ⟨y306, hy306⟩ : ∃ y_ : List Int, y_ = (y299 ++ y303) := ⟨_, rfl⟩
 replace H : ((spec_IsTogether.f k l0 y306).bind fun t309 => (if t309 = true then ((spec_l6Search.f k l0 (wrap64 (a1 + 1)) y306 l3).bind fun t310 => (spec_l6Search.f k l0 (wrap64 (a1 + 1)) l2 t310)) else (spec_l6Search.f k l0 (wrap64 (a1 + 1)) l2 l3))) = some r := rH H hy306
 have Ny306 := Aside0.mk hy306
 clear hy306
 obtain ⟨t309, A16, H⟩ := bindE H
 try dsimp only at H
 go_enter Try.func137, Try.ntmps137
 try go_wp2
 have HBo := HB
 replace HB := db HB
 obtain ⟨p302, q302⟩ : 0 ≤ (a1 : Int) ∧ a1 < (l0.length : Int) := ⟨dA, dA⟩
 obtain ⟨ad302, e302, hx302_0, hx302_1, hx302_2, hx302_3⟩ := at_T50 HR0.out a1 p302 q302
 have hw302_3 := hx302_3
 have hw302_2 := hx302_2
 have hw302_1 := hx302_1
 have hw302_0 := hx302_0
 cases e302
 replace hx302_0 := hC HB hx302_0
 replace hx302_1 := hC HB hx302_1
 replace hx302_2 := hC HB hx302_2
 replace hx302_3 := hC HB hx302_3
 obtain ⟨p302, q302⟩ := eT p302 q302
 refine sw (ds := []) 11 (mb 11 0) spec_l6Search.tab5 spec_l6Search.bits5 (h1c (hC HB hw302_0) (h1c (hC HB hw302_1) (h1c (hC HB hw302_2) (h1 (hC HB hw302_3))))) (fun hHeld HT_ HW_ => ?_)
 generalize w.drew = w18 at HB hx302_0 hx302_1 hx302_2 hx302_3 hHeld ⊢
 refine pa 1 35 (mb 11 2) HT_ ?_
 refine pa 3 37 (mb 11 10) HT_ ?_
 refine pa 4 38 (mb 11 26) HT_ ?_
 refine pa 5 39 (mb 11 58) HT_ ?_
 refine pa 6 40 (mb 11 122) HT_ ?_
 refine ta4 7 41 (mb 11 250) HT_ HW_ hHeld ?_
 refine join_ (σ := Value × Value × Value) 2 (mb 11 511) (fun s_ => [(34, s_.1), (36, s_.2.1), (42, s_.2.2)]) (fun s_ w' => (w'.cell? (ad302.add ((a1).toNat * 4)) = some (.int .i64 ((rd_T50 l0 a1).f0)) ∧ w'.cell? ⟨(ad302.add ((a1).toNat * 4)).block, (ad302.add ((a1).toNat * 4)).off + 1, none⟩ = some (.int .i64 ((rd_T50 l0 a1).f1)) ∧ w'.cell? ⟨(ad302.add ((a1).toNat * 4)).block, (ad302.add ((a1).toNat * 4)).off + 2, none⟩ = some (.int .i64 ((rd_T50 l0 a1).f2)) ∧ w'.cell? ⟨(ad302.add ((a1).toNat * 4)).block, (ad302.add ((a1).toNat * 4)).off + 3, none⟩ = some (.int .i64 ((rd_T50 l0 a1).f3))) ∧ (Kd.R (Kd.int .i64) 3 w' w.heap.size (n1 s_.2.2) s_.2.1 y299) ∧ (Kd.R (Kd.int .i64) 3 w' w.heap.size (n1 s_.2.1) s_.2.2 y303) ∧ (Below w.heap.size w w')) ?_ ?_
 rotate_left
 ·
  intro hCont
  refine two_ (i := 0) (j := 8) (Ni := some 34) (Nj := some 42) (mb 11 251) (mb 11 506) rfl rfl rfl rfl (two_of HT_.out (by kernel_rfl)) (by decide) (by decide) (fun K hK => ?_) (fun K hK => ?_)
  ·
   skip
   refine Kd.R_lit_step (Kd.int .i64) _ 3 ?hg (N := 34) ?hd (xs := ([] : List Int)) (inner := []) (ok := fun _ => True) (okp := fun _ => True) ?hr ?hp (fun _ hk => hk) trivial (Below.refl _ _) (Nat.le_refl _) (by simp) ?_; (case hd => rfl); (case hg => rfl); (case hr => first | (go_simp; done) | (go_simp; rfl)); (case hp => exact (Reps.none _ _))
   intro v297 w19 ho20 hb hg_ hnew_
   clear hg_ hnew_
   (first | rw [← Ny296.out] at ho20 | (simp only [Int.reduceToNat] at ho20; rw [← Ny296.out] at ho20))
   have HO298 := rl w ho20
   replace HB := bs HB hb
   clear hb ho20
   refine hK.out _ _ ⟨(hC HB hw302_0), (hC HB hw302_1), (hC HB hw302_2), (hC HB hw302_3)⟩ (fun hHeld => ?_)
   clear hK K
   refine nB ?_
   refine two_ (i := 2) (j := 8) (Ni := some 36) (Nj := some 42) (mb 11 255) (mb 11 507) rfl rfl rfl rfl (two_of HT_.out (by kernel_rfl)) (by decide) (by decide) (fun K hK => ?_) (fun K hK => ?_)
   ·
    skip
    refine Kd.R_append_rows_step (Kd.int .i64) (w0 := w) w.heap.size (by rfl) (.tmp 34) (.tmp 35) 35 3 (.int .i64 0) 8 rfl Try.underlying35 info3 rfl (by decide) (by omega) v297 y296 l2 _ _ _ (fun _ => True) (fun _ => False) rfl rfl ?aO ?aR (fun _ _ h => h) (fun _ h => h.elim) ?aF ?aB ?aS ?aL ?_
    (case aR => repeat (first | exact (Kd.C_below HR2.out HB.out) | (with_reducible refine Kd.C_alloc ?_ _) | (with_reducible refine Kd.C_drewN ?_ _) | (with_reducible refine Kd.C_drew ?_)))
    (case aB => exact bA)
    (case aF => exact (fun _ _ => trivial))
    (case aO => exact (rK HO298))
    (case aS => exact (below_size bA))
    (case aL => have := LMc12.out; omega)
    intro v300 w21 ho hb hg hat
    rw [← Ny299.out] at ho
    have n0_ := Aside0.mk (hb)
    have n1_ := Aside0.mk (ho)
    clear HB
    clear HO298
    have HB := n0_
    have HO301 := n1_
    clear n0_ n1_
    clear ho hb hg hat
    refine hK.out _ _ ⟨(hC HB hw302_0), (hC HB hw302_1), (hC HB hw302_2), (hC HB hw302_3)⟩ (fun hHeld => ?_)
    clear hK K
    refine nB ?_
    refine oa 8 42 (mb 11 511) HT_ (fun K hK => ?_)
    refine Kd.R_lit_step (Kd.int .i64) _ 3 ?hg (N := 42) ?hd (xs := ([(rd_T50 l0 a1).f0] : List Int)) (inner := [.int .i64 ((rd_T50 l0 a1).f0)]) (ok := fun _ => True) (okp := fun _ => True) ?hr ?hp (fun _ hk => hk) trivial (Below.refl _ _) (Nat.le_refl _) (by simp) ?_; (case hd => rfl); (case hg => rfl); (case hr => first | (go_simp; done) | (go_simp; rfl)); (case hp => exact (Reps.one (show Kd.M (Kd.int .i64) _ _ _ ((rd_T50 l0 a1).f0) [.int .i64 ((rd_T50 l0 a1).f0)] from rfl) (Reps.none _ _)))
    intro v304 w22 ho23 hb hg_ hnew_
    clear hg_ hnew_
    (first | rw [← Ny303.out] at ho23 | (simp only [Int.reduceToNat] at ho23; rw [← Ny303.out] at ho23))
    have HO305 := rl w (rn ho23 HO301)
    replace HO301 := re HO301 ho23 hb
    replace HB := bs HB hb
    clear hb ho23
    refine hK.out _ _ ⟨(hC HB hw302_0), (hC HB hw302_1), (hC HB hw302_2), (hC HB hw302_3)⟩ (fun hHeld => ?_)
    clear hK K
    refine nB ?_
    exact mB (hCont (v297, v300, v304) _ ⟨hHeld, (rm HO301 (fun _ hk => hk.2)), (rm HO305 (fun _ hk => hk.2)), bA⟩)
   ·
    skip
    refine Kd.R_lit_step (Kd.int .i64) _ 3 ?hg (N := 42) ?hd (xs := ([(rd_T50 l0 a1).f0] : List Int)) (inner := [.int .i64 ((rd_T50 l0 a1).f0)]) (ok := fun _ => True) (okp := fun _ => True) ?hr ?hp (fun _ hk => hk) trivial (Below.refl _ _) (Nat.le_refl _) (by simp) ?_; (case hd => rfl); (case hg => rfl); (case hr => first | (go_simp; done) | (go_simp; rfl)); (case hp => exact (Reps.one (show Kd.M (Kd.int .i64) _ _ _ ((rd_T50 l0 a1).f0) [.int .i64 ((rd_T50 l0 a1).f0)] from rfl) (Reps.none _ _)))
    intro v304 w21 ho22 hb hg_ hnew_
    clear hg_ hnew_
    (first | rw [← Ny303.out] at ho22 | (simp only [Int.reduceToNat] at ho22; rw [← Ny303.out] at ho22))
    have HO305 := rl w (rn ho22 HO298)
    replace HO298 := re HO298 ho22 hb
    replace HB := bs HB hb
    clear hb ho22
    refine hK.out _ _ ⟨(hC HB hw302_0), (hC HB hw302_1), (hC HB hw302_2), (hC HB hw302_3)⟩ (fun hHeld => ?_)
    clear hK K
    refine nB ?_
    refine oa 2 36 (mb 11 511) HT_ (fun K hK => ?_)
    refine Kd.R_append_rows_step (Kd.int .i64) (w0 := w) w.heap.size (by rfl) (.tmp 34) (.tmp 35) 35 3 (.int .i64 0) 8 rfl Try.underlying35 info3 rfl (by decide) (by omega) v297 y296 l2 _ _ _ (n1 v304) (fun _ => False) rfl rfl ?aO ?aR (fun _ _ h => h) (fun _ h => h.elim) ?aF ?aB ?aS ?aL ?_
    (case aR => repeat (first | exact (Kd.C_below HR2.out HB.out) | (with_reducible refine Kd.C_alloc ?_ _) | (with_reducible refine Kd.C_drewN ?_ _) | (with_reducible refine Kd.C_drew ?_)))
    (case aB => exact bA)
    (case aF => exact (fun k_ hk => Kd.fresh' (Kd.R_lt (rK HO305)) k_ hk))
    (case aO => exact (rm HO298 (fun _ hk => hk.2)))
    (case aS => exact (below_size bA))
    (case aL => have := LMc12.out; omega)
    intro v300 w23 ho hb hg hat
    rw [← Ny299.out] at ho
    have n0_ := Aside0.mk (Kd.R_after (ok := (fun _ => True)) (rK HO305) hg hat)
    have n1_ := Aside0.mk (hb)
    have n2_ := Aside0.mk (ho)
    clear HO305
    clear HB
    clear HO298
    have HO305 := n0_
    have HB := n1_
    have HO301 := n2_
    clear n0_ n1_ n2_
    clear ho hb hg hat
    refine hK.out _ _ ⟨(hC HB hw302_0), (hC HB hw302_1), (hC HB hw302_2), (hC HB hw302_3)⟩ (fun hHeld => ?_)
    clear hK K
    refine nB ?_
    exact mB (hCont (v297, v300, v304) _ ⟨hHeld, (rK HO301), (rm HO305 (fun _ hk => hk.2)), bA⟩)
  ·
   skip
   refine Kd.R_lit_step (Kd.int .i64) _ 3 ?hg (N := 42) ?hd (xs := ([(rd_T50 l0 a1).f0] : List Int)) (inner := [.int .i64 ((rd_T50 l0 a1).f0)]) (ok := fun _ => True) (okp := fun _ => True) ?hr ?hp (fun _ hk => hk) trivial (Below.refl _ _) (Nat.le_refl _) (by simp) ?_; (case hd => rfl); (case hg => rfl); (case hr => first | (go_simp; done) | (go_simp; rfl)); (case hp => exact (Reps.one (show Kd.M (Kd.int .i64) _ _ _ ((rd_T50 l0 a1).f0) [.int .i64 ((rd_T50 l0 a1).f0)] from rfl) (Reps.none _ _)))
   intro v304 w19 ho20 hb hg_ hnew_
   clear hg_ hnew_
   (first | rw [← Ny303.out] at ho20 | (simp only [Int.reduceToNat] at ho20; rw [← Ny303.out] at ho20))
   have HO305 := rl w ho20
   replace HB := bs HB hb
   clear hb ho20
   refine hK.out _ _ ⟨(hC HB hw302_0), (hC HB hw302_1), (hC HB hw302_2), (hC HB hw302_3)⟩ (fun hHeld => ?_)
   clear hK K
   refine nB ?_
   refine oa 0 34 (mb 11 507) HT_ (fun K hK => ?_)
   refine Kd.R_lit_step (Kd.int .i64) _ 3 ?hg (N := 34) ?hd (xs := ([] : List Int)) (inner := []) (ok := fun _ => True) (okp := fun _ => True) ?hr ?hp (fun _ hk => hk) trivial (Below.refl _ _) (Nat.le_refl _) (by simp) ?_; (case hd => rfl); (case hg => rfl); (case hr => first | (go_simp; done) | (go_simp; rfl)); (case hp => exact (Reps.none _ _))
   intro v297 w21 ho22 hb hg_ hnew_
   clear hg_ hnew_
   (first | rw [← Ny296.out] at ho22 | (simp only [Int.reduceToNat] at ho22; rw [← Ny296.out] at ho22))
   have HO298 := rl w (rn ho22 HO305)
   replace HO305 := re HO305 ho22 hb
   replace HB := bs HB hb
   clear hb ho22
   refine hK.out _ _ ⟨(hC HB hw302_0), (hC HB hw302_1), (hC HB hw302_2), (hC HB hw302_3)⟩ (fun hHeld => ?_)
   clear hK K
   refine nB ?_
   refine oa 2 36 (mb 11 511) HT_ (fun K hK => ?_)
   refine Kd.R_append_rows_step (Kd.int .i64) (w0 := w) w.heap.size (by rfl) (.tmp 34) (.tmp 35) 35 3 (.int .i64 0) 8 rfl Try.underlying35 info3 rfl (by decide) (by omega) v297 y296 l2 _ _ _ (n1 v304) (fun _ => False) rfl rfl ?aO ?aR (fun _ _ h => h) (fun _ h => h.elim) ?aF ?aB ?aS ?aL ?_
   (case aR => repeat (first | exact (Kd.C_below HR2.out HB.out) | (with_reducible refine Kd.C_alloc ?_ _) | (with_reducible refine Kd.C_drewN ?_ _) | (with_reducible refine Kd.C_drew ?_)))
   (case aB => exact bA)
   (case aF => exact (fun k_ hk => Kd.fresh' (Kd.R_lt (rK HO305)) k_ hk))
   (case aO => exact (rm HO298 (fun _ hk => hk.2)))
   (case aS => exact (below_size bA))
   (case aL => have := LMc12.out; omega)
   intro v300 w23 ho hb hg hat
   rw [← Ny299.out] at ho
   have n0_ := Aside0.mk (Kd.R_after (ok := (fun _ => True)) (rK HO305) hg hat)
   have n1_ := Aside0.mk (hb)
   have n2_ := Aside0.mk (ho)
   clear HO305
   clear HB
   clear HO298
   have HO305 := n0_
   have HB := n1_
   have HO301 := n2_
   clear n0_ n1_ n2_
   clear ho hb hg hat
   refine hK.out _ _ ⟨(hC HB hw302_0), (hC HB hw302_1), (hC HB hw302_2), (hC HB hw302_3)⟩ (fun hHeld => ?_)
   clear hK K
   refine nB ?_
   exact mB (hCont (v297, v300, v304) _ ⟨hHeld, (rK HO301), (rm HO305 (fun _ hk => hk.2)), bA⟩)
 clear HB
 rintro ⟨v297, v300, v304⟩ w24 ⟨hHeld, h0_, h1_, h2_⟩
 try dsimp only at hHeld h0_ h1_ h2_
 have HO301 := Aside0.mk h0_
 have HO305 := Aside0.mk h1_
 have HB := Aside0.mk h2_
 clear h0_ h1_ h2_
 obtain ⟨Ao26, co26, eo26⟩ := Kd.R_slice HO305.out
 (first | subst eo26 | (injection eo26 with f1_ f2_ f3_; have f4_ := f1_.symm; have f5_ := f3_.symm; clear f1_ f2_ f3_; subst f4_; subst f5_))
 refine norm_ (a' := ?_) ?_ ?_
 rotate_left
 ·
  simp only [putAll, Act.put, List.setIfInBounds_toArray, List.set_cons_zero, List.set_cons_succ]
  rfl
 refine oa 9 43 (mb 11 1023) HT_ (fun K hK => ?_)
 refine Kd.R_append_rows_step (Kd.int .i64) (w0 := w) w.heap.size (by rfl) (.tmp 36) (.tmp 42) 35 3 (.int .i64 0) 8 rfl Try.underlying35 info3 rfl (by decide) (by omega) v300 y299 y303 _ _ _ (n1 (.slice Ao26 y303.length co26)) (fun _ => False) rfl rfl ?aO ?aR (fun _ _ h => h) (fun _ h => h.elim) ?aF ?aB ?aS ?aL ?_
 (case aR => repeat (first | exact (Kd.R_reads' HO305.out).2.2 | (with_reducible refine Kd.C_alloc ?_ _) | (with_reducible refine Kd.C_drewN ?_ _) | (with_reducible refine Kd.C_drew ?_)))
 (case aB => exact bA)
 (case aF => exact (fun k_ hk => Kd.fresh' (Kd.R_lt (rK HO305)) k_ hk))
 (case aO => exact (rK HO301))
 (case aS => exact (below_size bA))
 (case aL => have := LMc15.out; omega)
 intro v307 w25 ho hb hg hat
 rw [← Ny306.out] at ho
 have n0_ := Aside0.mk (Kd.R_after (ok := (fun _ => True)) (rm HO305 (fun _ hk => ⟨trivial, hk⟩)) hg hat)
 have n1_ := Aside0.mk (hb)
 have n2_ := Aside0.mk (ho)
 clear HO305
 clear HB
 clear HO301
 have HO305 := n0_
 have HB := n1_
 have HO308 := n2_
 clear n0_ n1_ n2_
 clear ho hb hg hat
 refine hK.out _ _ ⟨(hC HB hw302_0), (hC HB hw302_1), (hC HB hw302_2), (hC HB hw302_3)⟩ (fun hHeld => ?_)
 clear hK K
 refine nB ?_
 refine pa 10 9 (mb 11 2047) HT_ ?_
 refine eA HT_ ?_
 obtain ⟨Ao27, co27, eo27⟩ := Kd.R_slice HO308.out
 subst eo27
 have HZW := Aside0.mk (Kd.R_lower (Kd.R_mono (ok' := fun i => w.heap.size ≤ i) (Kd.R_bound HO308.out) (fun _ hi => hi.2.1)) HB0.out.size)
 clear HO308 HO305
 cases t309 with
 | true =>
  replace H : ((spec_l6Search.f k l0 (wrap64 (a1 + 1)) y306 l3).bind fun t310 => (spec_l6Search.f k l0 (wrap64 (a1 + 1)) l2 t310)) = some r := by rw [if_pos rfl] at H; exact H
  obtain ⟨t310, A18, H⟩ := bindE H
  try dsimp only at H
  have A19 := Aside0.mk H
  clear H
  go_wp2_with (first | ((with_reducible refine gate_callee (f := 112) rfl ?_); refine gL (some 46) Try.func112 #[.slice (some ad302) l0.length c0, .slice Ao27 y306.length co27] ?_; (with_reducible refine (spec_IsTogether.calls k _ _ l0 _ _ y306 true _ ?_ ?_ ?_ ?_ A16.out).mono ?_); exact cB HR0; exact HC0.out; exact cO ⟨(Kd.R_reads' HZW.out).2.2⟩; exact (Kd.R_reads' HZW.out).2.1; rintro e w28 ⟨rfl, hb⟩; refine ⟨_, rfl, ?_⟩; replace HZW := rb HZW hb; replace HB := bs HB hb; clear hb; have HBB := Aside0.mk (HB0.out.trans (HB.out.mono HB0.out.size)); have HZ3c := Aside0.mk (Kd.S_below HZ3.out HB.out); have HZ2c := Aside0.mk (Kd.R_below HZ2.out HB.out)) | ((with_reducible refine gate_dst (N := 52) rfl ?_); refine gL (some 52) Try.func137 #[.slice (some ad302) l0.length c0, .int .i64 (wrap64 (a1 + 1)), .slice Ao27 y306.length co27, .slice A3 l3.length c3] ?_; (with_reducible refine (IH.out (fun i => P3_ i ∧ i < w.heap.size) (fun i => w.heap.size ≤ i) _ _ l0 _ _ y306 _ l3 t310 w0 _ ?_ ?_ ?_ ?_ ?_ ?_ A18.out).mono ?_); exact HBB.out; exact HR00.out; exact HC0.out; exact rK HZW; exact sK HZ3c; exact (fun i hi hp => Nat.not_lt_of_le hi hp.2); rintro e w29 ⟨v311, rfl, hs, hb, hk⟩; refine ⟨_, rfl, ?_⟩; have HS := Aside0.mk hs; have HKK := Aside0.mk (Kept.then_ (Kept.of_below HB.out P3_) hk (fun i hi => .inl hi.1)); have HZ2d := Aside0.mk (Kd.R_kept HZ2c.out hk (fun i hi hp => HPQ.out i hi.1 hp.1)); have HSZ := Aside0.mk (below_size HB.out); clear HBB HB; have HBB := Aside0.mk hb; clear hs hb hk; obtain ⟨A4, c4, e4⟩ := Kd.S_slice HS.out; subst e4) | ((with_reducible refine gate_dst (N := 58) rfl ?_); refine gL (some 58) Try.func137 #[.slice (some ad302) l0.length c0, .int .i64 (wrap64 (a1 + 1)), .slice A2 l2.length c2, .slice A4 t310.length c4] ?_; (with_reducible refine (IH.out (fun i => (P3_ i ∧ i < w.heap.size) ∨ w28.heap.size ≤ i) (fun i => Q2_ i ∧ i < w.heap.size) _ _ l0 _ _ l2 _ t310 r w0 _ ?_ ?_ ?_ ?_ ?_ ?_ A19.out).mono ?_); exact HBB.out; exact HR00.out; exact HC0.out; exact HZ2d.out; exact HS.out; exact (fun i hi hp => hp.elim (fun hp => HPQ.out i hi.1 hp.1) (fun hp => by have := HSZ.out; have := hi.2; omega)); rintro e w30 ⟨v312, rfl, hs, hb, hk⟩; refine ⟨_, rfl, ?_⟩; have n0_ := Aside0.mk (Kd.S_mono (ok' := fun i => P3_ i ∨ w.heap.size ≤ i) hs (fun i hi => hi.elim (fun hi => hi.elim (fun hi => .inl hi.1) (fun hi => .inr (Nat.le_trans HSZ.out hi))) (fun hi => .inr (Nat.le_trans HKK.out.1 hi)))); have n1_ := Aside0.mk hb; have n2_ := Aside0.mk (Kept.then_ HKK.out hk (fun i hi => hi.elim (fun hi => .inl hi.1) (fun hi => .inr (Nat.le_trans HSZ.out hi)))); clear HBB HS HZ2d HZ2c HZ3c HKK hs hb hk))
  go_ret
  exact ⟨_, rA, n0_.out, n1_.out, n2_.out⟩
 | false =>
  replace H : (spec_l6Search.f k l0 (wrap64 (a1 + 1)) l2 l3) = some r := by rw [if_neg (show ¬ (false = true) by decide)] at H; exact H
  have A19 := Aside0.mk H
  clear H
  go_wp2_with (first | ((with_reducible refine gate_callee (f := 112) rfl ?_); refine gL (some 46) Try.func112 #[.slice (some ad302) l0.length c0, .slice Ao27 y306.length co27] ?_; (with_reducible refine (spec_IsTogether.calls k _ _ l0 _ _ y306 false _ ?_ ?_ ?_ ?_ A16.out).mono ?_); exact cB HR0; exact HC0.out; exact cO ⟨(Kd.R_reads' HZW.out).2.2⟩; exact (Kd.R_reads' HZW.out).2.1; rintro e w28 ⟨rfl, hb⟩; refine ⟨_, rfl, ?_⟩; replace HZW := rb HZW hb; replace HB := bs HB hb; clear hb; have HBB := Aside0.mk (HB0.out.trans (HB.out.mono HB0.out.size)); have HZ3c := Aside0.mk (Kd.S_below HZ3.out HB.out); have HZ2c := Aside0.mk (Kd.R_below HZ2.out HB.out)) | ((with_reducible refine gate_dst (N := 58) rfl ?_); refine gL (some 58) Try.func137 #[.slice (some ad302) l0.length c0, .int .i64 (wrap64 (a1 + 1)), .slice A2 l2.length c2, .slice A3 l3.length c3] ?_; (with_reducible refine (IH.out (fun i => P3_ i ∧ i < w.heap.size) (fun i => Q2_ i ∧ i < w.heap.size) _ _ l0 _ _ l2 _ l3 r w0 _ ?_ ?_ ?_ ?_ ?_ ?_ A19.out).mono ?_); exact HBB.out; exact HR00.out; exact HC0.out; exact rK HZ2c; exact sK HZ3c; exact (fun i hi hp => HPQ.out i hi.1 hp.1); rintro e w30 ⟨v312, rfl, hs, hb, hk⟩; refine ⟨_, rfl, ?_⟩; have n0_ := Aside0.mk (Kd.S_mono (ok' := fun i => P3_ i ∨ w.heap.size ≤ i) hs (fun i hi => hi.elim (fun hi => .inl hi.1) (fun hi => .inr (Nat.le_trans (below_size HB.out) hi)))); have n1_ := Aside0.mk hb; have n2_ := Aside0.mk (Kept.then_ (Kept.of_below HB.out P3_) hk (fun i hi => .inl hi.1)); clear HB HBB HZ2c HZ3c hs hb hk))
  go_ret
  exact ⟨_, rA, n0_.out, n1_.out, n2_.out⟩
def spec_StagesOf.f (k : Nat) (l0 : List (S50)) : Option ((List (List Int))) := (spec_ArePaths.f k l0).bind fun t310 => (if t310 = true then ((spec_l6Search.f k l0 0 (([] : List Int)) (([] : List (List Int)))).bind fun t317 => (some t317)) else (some (([] : List (List Int)))))
theorem spec_StagesOf.mono : ∀ a0 k, LeO (spec_StagesOf.f k a0) (spec_StagesOf.f (k + 1) a0) := by
 intro a0 k
 unfold spec_StagesOf.f
 exact mz2 spec_ArePaths.mono spec_l6Search.mono
set_option maxHeartbeats 8000000 in
set_option maxRecDepth 100000 in
theorem spec_StagesOf.calls (k : Nat) (A0 : Option Addr) (c0 : Nat) (l0 : List (S50)) (r : List (List Int)) (w : World) (hr0 : Kd.C k50 w A0 l0.length l0) (hc0 : l0.length ≤ c0) (h : spec_StagesOf.f k l0 = some r) :
  Calls Try.prog 96 #[.slice A0 l0.length c0] w fun e w' => ∃ v0_ : Value, e = .returned (v0_) ∧ Kd.S (Kd.slice 3 (Kd.int .i64)) 35 w' w.heap.size (fun _ => True) v0_ r ∧ Below w.heap.size w w' := by
 have HR0 := Aside0.mk hr0
 have HC0 := Aside0.mk hc0
 clear hr0 hc0
 have HB := Aside0.mk (Below.refl w.heap.size w)
 have H : ((spec_ArePaths.f k l0).bind fun t310 => (if t310 = true then ((spec_l6Search.f k l0 0 (([] : List Int)) (([] : List (List Int)))).bind fun t317 => (some t317)) else (some (([] : List (List Int)))))) = some r := h
 clear h
 obtain ⟨t310, A2, H⟩ := bindE H
 try dsimp only at H
 by_cases c3 : t310 = true
 ·
  subst c3
  have H1 : ((spec_l6Search.f k l0 0 (([] : List Int)) (([] : List (List Int)))).bind fun t317 => (some t317)) = some r := by rw [if_pos rfl] at H; exact H
  clear H
  have H := H1
  clear H1
  obtain ⟨y311, hy311⟩ : ∃ y_ : List Int, y_ = (([] : List Int)) := ⟨_, rfl⟩
  replace H : ((spec_l6Search.f k l0 0 y311 (([] : List (List Int)))).bind fun t317 => (some t317)) = some r := rH H hy311
  have Ny311 := Aside0.mk hy311
  clear hy311
  obtain ⟨y314, hy314⟩ : ∃ y_ : List (List Int), y_ = (([] : List (List Int))) := ⟨_, rfl⟩
  replace H : ((spec_l6Search.f k l0 0 y311 y314).bind fun t317 => (some t317)) = some r := rH H hy314
  have Ny314 := Aside0.mk hy314
  clear hy314
  obtain ⟨t317, A4, H⟩ := bindE H
  try dsimp only at H
  obtain rfl := Option.some.inj H
  go_enter Try.func96, Try.ntmps96
  go_wp2_with (first | ((with_reducible refine gate_callee (f := 33) rfl ?_); refine gL (some 4) Try.func33 #[.slice A0 l0.length c0] ?_; (with_reducible refine (spec_ArePaths.calls k _ _ l0 true _ ?_ ?_ A2.out).mono ?_); exact cO HR0; exact HC0.out; rintro e w5 ⟨rfl, hb⟩; refine ⟨_, rfl, ?_⟩; replace HB := bs HB hb; (try clear hb)) | ((with_reducible refine gate_dst (N := 8) rfl ?_); refine Kd.R_lit (Kd.int .i64) _ 3 ?hg (N := 8) ?hd (xs := ([] : List Int)) (inner := []) (ok := fun _ => True) (okp := fun _ => True) ?hr ?hp (fun _ hk => hk) trivial (Below.refl _ _) (Nat.le_refl _) (by simp) ?_; (case hd => rfl); (case hg => rfl); (case hr => first | (go_simp; done) | (go_simp; rfl)); (case hp => exact (Reps.none _ _)); intro v312 w6 ho7 hb hg_ hnew_; clear hg_ hnew_; (first | rw [← Ny311.out] at ho7 | (simp only [Int.reduceToNat] at ho7; rw [← Ny311.out] at ho7)); have HO313 := rl w ho7; replace HB := bs HB hb; clear hb ho7) | ((with_reducible refine gate_dst (N := 9) rfl ?_); refine Kd.S_lit (Kd.slice 3 (Kd.int .i64)) _ 35 ?hg (N := 9) ?hd (xs := ([] : List (List Int))) (inner := []) (ok := fun _ => True) (okp := fun _ => True) ?hr ?hp (fun _ hk => hk) trivial (Below.refl _ _) (Nat.le_refl _) (by simp) ?_; (case hd => rfl); (case hg => rfl); (case hr => first | (go_simp; done) | (go_simp; rfl)); (case hp => exact (Reps.none _ _)); intro v315 w8 ho9 hb hg_ hnew_; clear hg_ hnew_; (first | rw [← Ny314.out] at ho9 | (simp only [Int.reduceToNat] at ho9; rw [← Ny314.out] at ho9)); have HO316 := Aside0.mk (Kd.S_lower (Kd.S_new' ho9 (Kd.R_lt (rK HO313))) (below_size bA)); replace HO313 := rb HO313 hb; replace HB := bs HB hb; clear hb ho9; obtain ⟨Ao10, co10, eo10⟩ := Kd.R_slice HO313.out; subst eo10; obtain ⟨Ao11, co11, eo11⟩ := Kd.S_slice HO316.out; subst eo11) | ((with_reducible refine gate_callee (f := 137) rfl ?_); refine gL (some 10) Try.func137 #[.slice A0 l0.length c0, .int .i64 0, .slice Ao10 y311.length co10, .slice Ao11 y314.length co11] ?_; (with_reducible refine (spec_l6Search.calls k (fun i => True ∧ some i ≠ (.slice Ao10 y311.length co10 : Value).ownBlock) (fun i => some i = (.slice Ao10 y311.length co10 : Value).ownBlock) _ _ l0 0 _ y311 _ y314 t317 w _ ?_ ?_ ?_ ?_ ?_ ?_ A4.out).mono ?_); exact bA; exact HR0.out; exact HC0.out; exact Kd.R_tight rfl (rK HO313); exact sK HO316; exact (fun i hi hp => hp.2 hi); rintro e w12 ⟨v318, rfl, ho0, hb, hk⟩; refine ⟨_, rfl, ?_⟩; have HO319 := Aside0.mk ho0; clear HB hk; have HB := Aside0.mk hb; clear hb ho0))
  go_ret
  exact ⟨_, rA, sm HO319 (fun _ hk => trivial), bA⟩
 replace c3 := Bool.eq_false_iff.mpr c3
 subst c3
 have H1 : (some (([] : List (List Int)))) = some r := by rw [if_neg (show ¬ (false = true) by decide)] at H; exact H
 clear H
 have H := H1
 clear H1
 obtain ⟨y320, hy320⟩ : ∃ y_ : List (List Int), y_ = (([] : List (List Int))) := ⟨_, rfl⟩
 replace H : (some y320) = some r := rH H hy320
 have Ny320 := Aside0.mk hy320
 clear hy320
 obtain rfl := Option.some.inj H
 go_enter Try.func96, Try.ntmps96
 go_wp2_with (first | ((with_reducible refine gate_callee (f := 33) rfl ?_); refine gL (some 4) Try.func33 #[.slice A0 l0.length c0] ?_; (with_reducible refine (spec_ArePaths.calls k _ _ l0 false _ ?_ ?_ A2.out).mono ?_); exact cO HR0; exact HC0.out; rintro e w13 ⟨rfl, hb⟩; refine ⟨_, rfl, ?_⟩; replace HB := bs HB hb; (try clear hb)) | ((with_reducible refine gate_dst (N := 6) rfl ?_); refine Kd.S_lit (Kd.slice 3 (Kd.int .i64)) _ 35 ?hg (N := 6) ?hd (xs := ([] : List (List Int))) (inner := []) (ok := fun _ => True) (okp := fun _ => True) ?hr ?hp (fun _ hk => hk) trivial (Below.refl _ _) (Nat.le_refl _) (by simp) ?_; (case hd => rfl); (case hg => rfl); (case hr => first | (go_simp; done) | (go_simp; rfl)); (case hp => exact (Reps.none _ _)); intro v321 w14 ho15 hb hg_ hnew_; clear hg_ hnew_; (first | rw [← Ny320.out] at ho15 | (simp only [Int.reduceToNat] at ho15; rw [← Ny320.out] at ho15)); have HO322 := sl w ho15; replace HB := bs HB hb; clear hb ho15))
 go_ret
 exact ⟨_, rA, sK HO322, bA⟩

/-! ### spec_l14Copy: function 189 -/
def spec_l14Copy.f (l0_0 : List Int) (a0_1 : Int) (l0_2 : List Int) (a0_3 : Int) : Option (List Int × Int × List Int × Int) := (some (([] : List Int) : List Int)).bind fun y304 => (if y304.length + l0_0.length < 17592186044416 then ((some (([] : List Int) : List Int)).bind fun y310 => (if y310.length + l0_2.length < 17592186044416 then (some ((y304 ++ l0_0), a0_1, (y310 ++ l0_2), a0_3)) else (none))) else (none))
def spec_l14Copy.T1 : Bool × List (List Nat × List Nat) := (true, [([], []), ([], []), ([1], [1]), ([0, 2], [0, 2]), ([], []), ([4], [4]), ([], []), ([], []), ([7], [7]), ([6, 8, 3], [6, 8]), ([], []), ([10], [10]), ([3, 5, 9, 11], [3, 5, 9, 11]), ([12, 9, 0, 1, 2, 3, 4, 5, 6, 7, 8, 9, 10, 11, 12], [12])])
def spec_l14Copy.B1 : List Nat := [0, 0, 2, 7, 0, 16, 0, 0, 128, 463, 0, 1024, 4095, 8191]
theorem spec_l14Copy.tab1 : rtab .any (opsOf Try.f189 1) = spec_l14Copy.T1 := by kernel_rfl
theorem spec_l14Copy.bits1 : waitsOk spec_l14Copy.T1.2 spec_l14Copy.B1 = true := by kernel_rfl
set_option maxHeartbeats 8000000 in
set_option maxRecDepth 100000 in
theorem spec_l14Copy.calls (A0_0 : Option Addr) (c0_0 : Nat) (l0_0 : List Int) (a0_1 : Int) (A0_2 : Option Addr) (c0_2 : Nat) (l0_2 : List Int) (a0_3 : Int) (r1 : List Int) (r2 : Int) (r3 : List Int) (r4 : Int) (w : World) (hr0_0 : Kd.C (Kd.int .i64) w A0_0 l0_0.length l0_0) (hc0_0 : l0_0.length ≤ c0_0) (hr0_2 : Kd.C (Kd.int .i64) w A0_2 l0_2.length l0_2) (hc0_2 : l0_2.length ≤ c0_2) (h : spec_l14Copy.f l0_0 a0_1 l0_2 a0_3 = some (r1, r2, r3, r4)) :
  Calls Try.prog 189 #[.agg #[.slice A0_0 l0_0.length c0_0, .int .i64 a0_1, .slice A0_2 l0_2.length c0_2, .int .i64 a0_3]] w fun e w' => ∃ v0_ v2_ : Value, e = .returned (.agg #[v0_, .int .i64 r2, v2_, .int .i64 r4]) ∧ Kd.R (Kd.int .i64) 3 w' w.heap.size (n1 v2_) v0_ r1 ∧ Kd.R (Kd.int .i64) 3 w' w.heap.size (n1 v0_) v2_ r3 ∧ Below w.heap.size w w' := by
 have hu66 := Try.underlying66
 have HR0_0 := Aside0.mk hr0_0
 have HC0_0 := Aside0.mk hc0_0
 clear hr0_0 hc0_0
 have HR0_2 := Aside0.mk hr0_2
 have HC0_2 := Aside0.mk hc0_2
 clear hr0_2 hc0_2
 have HB := Aside0.mk (Below.refl w.heap.size w)
 have H : ((some (([] : List Int) : List Int)).bind fun y304 => (if y304.length + l0_0.length < 17592186044416 then ((some (([] : List Int) : List Int)).bind fun y310 => (if y310.length + l0_2.length < 17592186044416 then (some ((y304 ++ l0_0), a0_1, (y310 ++ l0_2), a0_3)) else (none))) else (none))) = some (r1, r2, r3, r4) := h
 clear h
 obtain ⟨y304, hy304⟩ : ∃ y_ : List Int, y_ = (([] : List Int)) := ⟨_, rfl⟩
 replace H : (if y304.length + l0_0.length < 17592186044416 then ((some (([] : List Int) : List Int)).bind fun y310 => (if y310.length + l0_2.length < 17592186044416 then (some ((y304 ++ l0_0), a0_1, (y310 ++ l0_2), a0_3)) else (none))) else (none)) = some (r1, r2, r3, r4) := rH H hy304
 have Ny304 := Aside0.mk hy304
 clear hy304
 have c2 : y304.length + l0_0.length < 17592186044416 := ifN H
 replace H := ifT H
 have LMc2 := Aside0.mk c2
 clear c2
 obtain ⟨y307, hy307⟩ : ∃ y_ : List Int, y_ = (y304 ++ l0_0) := ⟨_, rfl⟩
 replace H : ((some (([] : List Int) : List Int)).bind fun y310 => (if y310.length + l0_2.length < 17592186044416 then (some (y307, a0_1, (y310 ++ l0_2), a0_3)) else (none))) = some (r1, r2, r3, r4) := rH H hy307
 have Ny307 := Aside0.mk hy307
 clear hy307
 obtain ⟨y310, hy310⟩ : ∃ y_ : List Int, y_ = (([] : List Int)) := ⟨_, rfl⟩
 replace H : (if y310.length + l0_2.length < 17592186044416 then (some (y307, a0_1, (y310 ++ l0_2), a0_3)) else (none)) = some (r1, r2, r3, r4) := rH H hy310
 have Ny310 := Aside0.mk hy310
 clear hy310
 have c3 : y310.length + l0_2.length < 17592186044416 := ifN H
 replace H := ifT H
 have LMc3 := Aside0.mk c3
 clear c3
 obtain ⟨y313, hy313⟩ : ∃ y_ : List Int, y_ = (y310 ++ l0_2) := ⟨_, rfl⟩
 replace H : (some (y307, a0_1, y313, a0_3)) = some (r1, r2, r3, r4) := rH H hy313
 have Ny313 := Aside0.mk hy313
 clear hy313
 simp only [Option.some.injEq, Prod.mk.injEq] at H
 obtain ⟨rfl, rfl, rfl, rfl⟩ := H
 go_enter Try.func189, Try.ntmps189
 try go_wp2_with (first | ((with_reducible refine gate_dst (N := 1) rfl ?_); refine bE (N := 1) (cs := #[.slice A0_0 l0_0.length c0_0, .int .i64 a0_1, .slice A0_2 l0_2.length c0_2, .int .i64 a0_3]) (t := 66) ?_; intro gb302 hg w4 hbox hb; have BK302 := Aside0.mk (hbox); have GW302 := gw w hg; have GE302 := gw w hg; replace HB := bs HB hb; clear hb hbox hg) | ((with_reducible refine gate_dst (N := 2) rfl ?_); refine bE (N := 2) (cs := #[.slice none 0 0, .int .i64 0, .slice none 0 0, .int .i64 0]) (t := 66) ?_; intro gb303 hg w5 hbox hb; have BK303 := Aside0.mk (hbox); have GW303 := gw w hg; have GE303 := gw w hg; replace HB := bs HB hb; have NB302_303 := nl BK302 hg; have NB303_302 := nr BK302 hg; replace BK302 := kb BK302 hb; clear hb hbox hg))
 replace BK302 := dk BK302
 replace BK303 := dk BK303
 have HBo := HB
 replace HB := db HB
 refine sw (ds := []) 14 (mb 14 0) spec_l14Copy.tab1 spec_l14Copy.bits1 (h4 BK302) (fun hHeld HT_ HW_ => ?_)
 generalize w5.drew = w6 at BK302 BK303 HB hHeld ⊢
 refine pa 1 4 (mb 14 2) HT_ ?_
 refine pa 4 7 (mb 14 18) HT_ ?_
 refine pa 7 10 (mb 14 146) HT_ ?_
 refine pa 10 13 (mb 14 1170) HT_ ?_
 refine ta4 2 5 (mb 14 1174) HT_ HW_ hHeld ?_
 refine ta4 5 8 (mb 14 1206) HT_ HW_ hHeld ?_
 refine ta4 8 11 (mb 14 1462) HT_ HW_ hHeld ?_
 refine ta4 11 14 (mb 14 3510) HT_ HW_ hHeld ?_
 refine join_ (σ := Value × Value × Value) 3 (mb 14 3583) (fun s_ => [(3, s_.1), (6, s_.2.1), (9, s_.2.2)]) (fun s_ w' => (w'.cell? ⟨gb302, 0, none⟩ = some (.slice A0_0 l0_0.length c0_0) ∧ w'.cell? ⟨gb302, 1, none⟩ = some (.int .i64 a0_1) ∧ w'.cell? ⟨gb302, 2, none⟩ = some (.slice A0_2 l0_2.length c0_2) ∧ w'.cell? ⟨gb302, 3, none⟩ = some (.int .i64 a0_3)) ∧ (Kd.R (Kd.int .i64) 3 w' w.heap.size (n1 s_.2.2) s_.2.1 y307) ∧ (Kd.R (Kd.int .i64) 3 w' w.heap.size (n1 s_.2.1) s_.2.2 y310) ∧ (w'.heap[gb302]? = some (.cells #[.slice A0_0 l0_0.length c0_0, .int .i64 a0_1, .slice A0_2 l0_2.length c0_2, .int .i64 a0_3] 66 (0, 0))) ∧ (w'.heap[gb303]? = some (.cells #[.slice none 0 0, .int .i64 0, .slice none 0 0, .int .i64 0] 66 (0, 0))) ∧ (Below w.heap.size w w')) ?_ ?_
 rotate_left
 ·
  intro hCont
  refine two_ (i := 0) (j := 6) (Ni := some 3) (Nj := some 9) (mb 14 3511) (mb 14 3574) rfl rfl rfl rfl (two_of HT_.out (by kernel_rfl)) (by decide) (by decide) (fun K hK => ?_) (fun K hK => ?_)
  ·
   skip
   refine Kd.R_lit_step (Kd.int .i64) _ 3 ?hg (N := 3) ?hd (xs := ([] : List Int)) (inner := []) (ok := fun _ => True) (okp := fun _ => True) ?hr ?hp (fun _ hk => hk) trivial (Below.refl _ _) (Nat.le_refl _) (by simp) ?_; (case hd => rfl); (case hg => rfl); (case hr => first | (go_simp; done) | (go_simp; rfl)); (case hp => exact (Reps.none _ _))
   intro v305 w7 ho8 hb hg_ hnew_
   clear hg_ hnew_
   (first | rw [← Ny304.out] at ho8 | (simp only [Int.reduceToNat] at ho8; rw [← Ny304.out] at ho8))
   have HO306 := rl w ho8
   replace BK302 := kb BK302 hb
   replace BK303 := kb BK303 hb
   replace HB := bs HB hb
   clear hb ho8
   refine hK.out _ _ (cn4 BK302) (fun hHeld => ?_)
   clear hK K
   refine nB ?_
   refine two_ (i := 3) (j := 6) (Ni := some 6) (Nj := some 9) (mb 14 3519) (mb 14 3575) rfl rfl rfl rfl (two_of HT_.out (by kernel_rfl)) (by decide) (by decide) (fun K hK => ?_) (fun K hK => ?_)
   ·
    skip
    refine Kd.R_append_rows_step (Kd.int .i64) (w0 := w) w.heap.size (by rfl) (.tmp 3) (.tmp 5) 35 3 (.int .i64 0) 8 rfl Try.underlying35 info3 rfl (by decide) (by omega) v305 y304 l0_0 _ _ _ (fun _ => True) (fun _ => False) rfl rfl ?aO ?aR (fun _ _ h => h) (fun _ h => h.elim) ?aF ?aB ?aS ?aL ?_
    (case aR => repeat (first | exact (Kd.C_below HR0_0.out HB.out) | (with_reducible refine Kd.C_alloc ?_ _) | (with_reducible refine Kd.C_drewN ?_ _) | (with_reducible refine Kd.C_drew ?_)))
    (case aB => exact bG)
    (case aF => exact (fun _ _ => trivial))
    (case aO => exact (rK HO306))
    (case aS => exact (below_size bG))
    (case aL => have := LMc2.out; omega)
    intro v308 w9 ho hb hg hat
    rw [← Ny307.out] at ho
    have n0_ := Aside0.mk (blk_grown (g := gb302) (o := .cells #[.slice A0_0 l0_0.length c0_0, .int .i64 a0_1, .slice A0_2 l0_2.length c0_2, .int .i64 a0_3] 66 (0, 0)) (bK BK302) hg (Kd.R_ne HO306.out BK302.out (by decide)))
    have n1_ := Aside0.mk (blk_grown (g := gb303) (o := .cells #[.slice none 0 0, .int .i64 0, .slice none 0 0, .int .i64 0] 66 (0, 0)) (bK BK303) hg (Kd.R_ne HO306.out BK303.out (by decide)))
    have n2_ := Aside0.mk (hb)
    have n3_ := Aside0.mk (ho)
    clear BK302
    clear BK303
    clear HB
    clear HO306
    have BK302 := n0_
    have BK303 := n1_
    have HB := n2_
    have HO309 := n3_
    clear n0_ n1_ n2_ n3_
    clear ho hb hg hat
    refine hK.out _ _ (cn4 BK302) (fun hHeld => ?_)
    clear hK K
    refine nB ?_
    refine oa 6 9 (mb 14 3583) HT_ (fun K hK => ?_)
    refine Kd.R_lit_step (Kd.int .i64) _ 3 ?hg (N := 9) ?hd (xs := ([] : List Int)) (inner := []) (ok := fun _ => True) (okp := fun _ => True) ?hr ?hp (fun _ hk => hk) trivial (Below.refl _ _) (Nat.le_refl _) (by simp) ?_; (case hd => rfl); (case hg => rfl); (case hr => first | (go_simp; done) | (go_simp; rfl)); (case hp => exact (Reps.none _ _))
    intro v311 w10 ho11 hb hg_ hnew_
    clear hg_ hnew_
    (first | rw [← Ny310.out] at ho11 | (simp only [Int.reduceToNat] at ho11; rw [← Ny310.out] at ho11))
    have HO312 := rl w (rn ho11 HO309)
    replace HO309 := re HO309 ho11 hb
    replace BK302 := kb BK302 hb
    replace BK303 := kb BK303 hb
    replace HB := bs HB hb
    clear hb ho11
    refine hK.out _ _ (cn4 BK302) (fun hHeld => ?_)
    clear hK K
    refine nB ?_
    exact mB (hCont (v305, v308, v311) _ ⟨hHeld, (rm HO309 (fun _ hk => hk.2)), (rm HO312 (fun _ hk => hk.2)), (bK BK302), (bK BK303), bG⟩)
   ·
    skip
    refine Kd.R_lit_step (Kd.int .i64) _ 3 ?hg (N := 9) ?hd (xs := ([] : List Int)) (inner := []) (ok := fun _ => True) (okp := fun _ => True) ?hr ?hp (fun _ hk => hk) trivial (Below.refl _ _) (Nat.le_refl _) (by simp) ?_; (case hd => rfl); (case hg => rfl); (case hr => first | (go_simp; done) | (go_simp; rfl)); (case hp => exact (Reps.none _ _))
    intro v311 w9 ho10 hb hg_ hnew_
    clear hg_ hnew_
    (first | rw [← Ny310.out] at ho10 | (simp only [Int.reduceToNat] at ho10; rw [← Ny310.out] at ho10))
    have HO312 := rl w (rn ho10 HO306)
    replace HO306 := re HO306 ho10 hb
    replace BK302 := kb BK302 hb
    replace BK303 := kb BK303 hb
    replace HB := bs HB hb
    clear hb ho10
    refine hK.out _ _ (cn4 BK302) (fun hHeld => ?_)
    clear hK K
    refine nB ?_
    refine oa 3 6 (mb 14 3583) HT_ (fun K hK => ?_)
    refine Kd.R_append_rows_step (Kd.int .i64) (w0 := w) w.heap.size (by rfl) (.tmp 3) (.tmp 5) 35 3 (.int .i64 0) 8 rfl Try.underlying35 info3 rfl (by decide) (by omega) v305 y304 l0_0 _ _ _ (n1 v311) (fun _ => False) rfl rfl ?aO ?aR (fun _ _ h => h) (fun _ h => h.elim) ?aF ?aB ?aS ?aL ?_
    (case aR => repeat (first | exact (Kd.C_below HR0_0.out HB.out) | (with_reducible refine Kd.C_alloc ?_ _) | (with_reducible refine Kd.C_drewN ?_ _) | (with_reducible refine Kd.C_drew ?_)))
    (case aB => exact bG)
    (case aF => exact (fun k_ hk => Kd.fresh' (Kd.R_lt (rK HO312)) k_ hk))
    (case aO => exact (rm HO306 (fun _ hk => hk.2)))
    (case aS => exact (below_size bG))
    (case aL => have := LMc2.out; omega)
    intro v308 w11 ho hb hg hat
    rw [← Ny307.out] at ho
    have n0_ := Aside0.mk (blk_grown (g := gb302) (o := .cells #[.slice A0_0 l0_0.length c0_0, .int .i64 a0_1, .slice A0_2 l0_2.length c0_2, .int .i64 a0_3] 66 (0, 0)) (bK BK302) hg (Kd.R_ne HO306.out BK302.out (by decide)))
    have n1_ := Aside0.mk (blk_grown (g := gb303) (o := .cells #[.slice none 0 0, .int .i64 0, .slice none 0 0, .int .i64 0] 66 (0, 0)) (bK BK303) hg (Kd.R_ne HO306.out BK303.out (by decide)))
    have n2_ := Aside0.mk (Kd.R_after (ok := (fun _ => True)) (rK HO312) hg hat)
    have n3_ := Aside0.mk (hb)
    have n4_ := Aside0.mk (ho)
    clear BK302
    clear BK303
    clear HO312
    clear HB
    clear HO306
    have BK302 := n0_
    have BK303 := n1_
    have HO312 := n2_
    have HB := n3_
    have HO309 := n4_
    clear n0_ n1_ n2_ n3_ n4_
    clear ho hb hg hat
    refine hK.out _ _ (cn4 BK302) (fun hHeld => ?_)
    clear hK K
    refine nB ?_
    exact mB (hCont (v305, v308, v311) _ ⟨hHeld, (rK HO309), (rm HO312 (fun _ hk => hk.2)), (bK BK302), (bK BK303), bG⟩)
  ·
   skip
   refine Kd.R_lit_step (Kd.int .i64) _ 3 ?hg (N := 9) ?hd (xs := ([] : List Int)) (inner := []) (ok := fun _ => True) (okp := fun _ => True) ?hr ?hp (fun _ hk => hk) trivial (Below.refl _ _) (Nat.le_refl _) (by simp) ?_; (case hd => rfl); (case hg => rfl); (case hr => first | (go_simp; done) | (go_simp; rfl)); (case hp => exact (Reps.none _ _))
   intro v311 w7 ho8 hb hg_ hnew_
   clear hg_ hnew_
   (first | rw [← Ny310.out] at ho8 | (simp only [Int.reduceToNat] at ho8; rw [← Ny310.out] at ho8))
   have HO312 := rl w ho8
   replace BK302 := kb BK302 hb
   replace BK303 := kb BK303 hb
   replace HB := bs HB hb
   clear hb ho8
   refine hK.out _ _ (cn4 BK302) (fun hHeld => ?_)
   clear hK K
   refine nB ?_
   refine oa 0 3 (mb 14 3575) HT_ (fun K hK => ?_)
   refine Kd.R_lit_step (Kd.int .i64) _ 3 ?hg (N := 3) ?hd (xs := ([] : List Int)) (inner := []) (ok := fun _ => True) (okp := fun _ => True) ?hr ?hp (fun _ hk => hk) trivial (Below.refl _ _) (Nat.le_refl _) (by simp) ?_; (case hd => rfl); (case hg => rfl); (case hr => first | (go_simp; done) | (go_simp; rfl)); (case hp => exact (Reps.none _ _))
   intro v305 w9 ho10 hb hg_ hnew_
   clear hg_ hnew_
   (first | rw [← Ny304.out] at ho10 | (simp only [Int.reduceToNat] at ho10; rw [← Ny304.out] at ho10))
   have HO306 := rl w (rn ho10 HO312)
   replace HO312 := re HO312 ho10 hb
   replace BK302 := kb BK302 hb
   replace BK303 := kb BK303 hb
   replace HB := bs HB hb
   clear hb ho10
   refine hK.out _ _ (cn4 BK302) (fun hHeld => ?_)
   clear hK K
   refine nB ?_
   refine oa 3 6 (mb 14 3583) HT_ (fun K hK => ?_)
   refine Kd.R_append_rows_step (Kd.int .i64) (w0 := w) w.heap.size (by rfl) (.tmp 3) (.tmp 5) 35 3 (.int .i64 0) 8 rfl Try.underlying35 info3 rfl (by decide) (by omega) v305 y304 l0_0 _ _ _ (n1 v311) (fun _ => False) rfl rfl ?aO ?aR (fun _ _ h => h) (fun _ h => h.elim) ?aF ?aB ?aS ?aL ?_
   (case aR => repeat (first | exact (Kd.C_below HR0_0.out HB.out) | (with_reducible refine Kd.C_alloc ?_ _) | (with_reducible refine Kd.C_drewN ?_ _) | (with_reducible refine Kd.C_drew ?_)))
   (case aB => exact bG)
   (case aF => exact (fun k_ hk => Kd.fresh' (Kd.R_lt (rK HO312)) k_ hk))
   (case aO => exact (rm HO306 (fun _ hk => hk.2)))
   (case aS => exact (below_size bG))
   (case aL => have := LMc2.out; omega)
   intro v308 w11 ho hb hg hat
   rw [← Ny307.out] at ho
   have n0_ := Aside0.mk (blk_grown (g := gb302) (o := .cells #[.slice A0_0 l0_0.length c0_0, .int .i64 a0_1, .slice A0_2 l0_2.length c0_2, .int .i64 a0_3] 66 (0, 0)) (bK BK302) hg (Kd.R_ne HO306.out BK302.out (by decide)))
   have n1_ := Aside0.mk (blk_grown (g := gb303) (o := .cells #[.slice none 0 0, .int .i64 0, .slice none 0 0, .int .i64 0] 66 (0, 0)) (bK BK303) hg (Kd.R_ne HO306.out BK303.out (by decide)))
   have n2_ := Aside0.mk (Kd.R_after (ok := (fun _ => True)) (rK HO312) hg hat)
   have n3_ := Aside0.mk (hb)
   have n4_ := Aside0.mk (ho)
   clear BK302
   clear BK303
   clear HO312
   clear HB
   clear HO306
   have BK302 := n0_
   have BK303 := n1_
   have HO312 := n2_
   have HB := n3_
   have HO309 := n4_
   clear n0_ n1_ n2_ n3_ n4_
   clear ho hb hg hat
   refine hK.out _ _ (cn4 BK302) (fun hHeld => ?_)
   clear hK K
   refine nB ?_
   exact mB (hCont (v305, v308, v311) _ ⟨hHeld, (rK HO309), (rm HO312 (fun _ hk => hk.2)), (bK BK302), (bK BK303), bG⟩)
 clear BK302 BK303 HB
 rintro ⟨v305, v308, v311⟩ w12 ⟨hHeld, h0_, h1_, h2_, h3_, h4_⟩
 try dsimp only at hHeld h0_ h1_ h2_ h3_ h4_
 obtain ⟨HO309, HO312, BK302, BK303, HB⟩ := as5 h0_ h1_ h2_ h3_ h4_
 clear h0_ h1_ h2_ h3_ h4_
 refine norm_ (a' := ?_) ?_ ?_
 rotate_left
 ·
  simp only [putAll, Act.put, List.setIfInBounds_toArray, List.set_cons_zero, List.set_cons_succ]
  rfl
 refine oa 9 12 (mb 14 4095) HT_ (fun K hK => ?_)
 refine Kd.R_append_rows_step (Kd.int .i64) (w0 := w) w.heap.size (by rfl) (.tmp 9) (.tmp 11) 35 3 (.int .i64 0) 8 rfl Try.underlying35 info3 rfl (by decide) (by omega) v311 y310 l0_2 _ _ _ (n1 v308) (fun _ => False) rfl rfl ?aO ?aR (fun _ _ h => h) (fun _ h => h.elim) ?aF ?aB ?aS ?aL ?_
 (case aR => repeat (first | exact (Kd.C_below HR0_2.out HB.out) | (with_reducible refine Kd.C_alloc ?_ _) | (with_reducible refine Kd.C_drewN ?_ _) | (with_reducible refine Kd.C_drew ?_)))
 (case aB => exact bG)
 (case aF => exact (fun k_ hk => Kd.fresh' (Kd.R_lt (rK HO309)) k_ hk))
 (case aO => exact (rK HO312))
 (case aS => exact (below_size bG))
 (case aL => have := LMc3.out; omega)
 intro v314 w13 ho hb hg hat
 rw [← Ny313.out] at ho
 have n0_ := Aside0.mk (blk_grown (g := gb302) (o := .cells #[.slice A0_0 l0_0.length c0_0, .int .i64 a0_1, .slice A0_2 l0_2.length c0_2, .int .i64 a0_3] 66 (0, 0)) (bK BK302) hg (Kd.R_ne HO312.out BK302.out (by decide)))
 have n1_ := Aside0.mk (blk_grown (g := gb303) (o := .cells #[.slice none 0 0, .int .i64 0, .slice none 0 0, .int .i64 0] 66 (0, 0)) (bK BK303) hg (Kd.R_ne HO312.out BK303.out (by decide)))
 have n2_ := Aside0.mk (Kd.R_after (ok := (fun _ => True)) (rm HO309 (fun _ hk => ⟨trivial, hk⟩)) hg hat)
 have n3_ := Aside0.mk (hb)
 have n4_ := Aside0.mk (ho)
 clear BK302
 clear BK303
 clear HO309
 clear HB
 clear HO312
 have BK302 := n0_
 have BK303 := n1_
 have HO309 := n2_
 have HB := n3_
 have HO315 := n4_
 clear n0_ n1_ n2_ n3_ n4_
 clear ho hb hg hat
 obtain ⟨Ao14, co14, eo14⟩ := Kd.R_slice HO315.out
 (first | subst eo14 | (injection eo14 with f1_ f2_ f3_; have f4_ := f1_.symm; have f5_ := f3_.symm; clear f1_ f2_ f3_; subst f4_; subst f5_))
 obtain ⟨Ao15, co15, eo15⟩ := Kd.R_slice HO309.out
 (first | subst eo15 | (injection eo15 with f1_ f2_ f3_; have f4_ := f1_.symm; have f5_ := f3_.symm; clear f1_ f2_ f3_; subst f4_; subst f5_))
 refine hK.out _ _ (cn4 BK302) (fun hHeld => ?_)
 clear hK K
 refine nB ?_
 refine pa 12 15 (mb 14 8191) HT_ ?_
 refine oA (i := 13) (N := none) (mb 14 16383) HT_ (fun K hK => ?_)
 have hs16 : w13.cell? ⟨gb303, 0, none⟩ = some (.slice none 0 0) := bC BK303 0
 have hfs16 := blk_frozen BK303.out 0
 have hns16_0 := NB302_303.out
 have hms16_0 := NB303_302.out
 have hs17 : w13.cell? ⟨gb303, 1, none⟩ = some (.int .i64 0) := bC BK303 1
 have hfs17 := blk_frozen BK303.out 1
 have hns17_0 := NB302_303.out
 have hms17_0 := NB303_302.out
 have hs18 : w13.cell? ⟨gb303, 2, none⟩ = some (.slice none 0 0) := bC BK303 2
 have hfs18 := blk_frozen BK303.out 2
 have hns18_0 := NB302_303.out
 have hms18_0 := NB303_302.out
 have hs19 : w13.cell? ⟨gb303, 3, none⟩ = some (.int .i64 0) := bC BK303 3
 have hfs19 := blk_frozen BK303.out 3
 have hns19_0 := NB302_303.out
 have hms19_0 := NB303_302.out
 refine skip_ (w1 := ?_) (by rfl) rfl ?_ ?_
 rotate_left
 ·
  go_simp
  rfl
 refine hK.out _ _ ⟨((cell_far (p := ⟨gb303, _, none⟩) NB302_303.out _).trans (((cell_far (p := ⟨gb303, _, none⟩) NB302_303.out _).trans (((cell_far (p := ⟨gb303, _, none⟩) NB302_303.out _).trans (((cell_far (p := ⟨gb303, _, none⟩) NB302_303.out _).trans (hHeld.1)))))))), ((cell_far (p := ⟨gb303, _, none⟩) NB302_303.out _).trans (((cell_far (p := ⟨gb303, _, none⟩) NB302_303.out _).trans (((cell_far (p := ⟨gb303, _, none⟩) NB302_303.out _).trans (((cell_far (p := ⟨gb303, _, none⟩) NB302_303.out _).trans (hHeld.2.1)))))))), ((cell_far (p := ⟨gb303, _, none⟩) NB302_303.out _).trans (((cell_far (p := ⟨gb303, _, none⟩) NB302_303.out _).trans (((cell_far (p := ⟨gb303, _, none⟩) NB302_303.out _).trans (((cell_far (p := ⟨gb303, _, none⟩) NB302_303.out _).trans (hHeld.2.2.1)))))))), ((cell_far (p := ⟨gb303, _, none⟩) NB302_303.out _).trans (((cell_far (p := ⟨gb303, _, none⟩) NB302_303.out _).trans (((cell_far (p := ⟨gb303, _, none⟩) NB302_303.out _).trans (((cell_far (p := ⟨gb303, _, none⟩) NB302_303.out _).trans (hHeld.2.2.2))))))))⟩ (fun hHeld => ?_)
 clear hK K
 refine eA HT_ ?_
 try go_wp2
 refine bodyPost_ret (results_cell_row rfl _ _ gb303 66 #[.slice Ao15 y307.length co15, .int .i64 a0_1, .slice Ao14 y313.length co14, .int .i64 a0_3] (0, 0) _ rfl (kp BK303) Try.underlying66 rfl (by kernel_rfl)) rfl ?_
 exact ⟨_, _, rA, Kd.R_mono (rf HO309 BK303) (fun _ hk => hk.2), rf HO315 BK303, bG⟩

/-! ### spec_LeastGreen: function 113 -/
def spec_LeastGreen.l0 : Nat → List (S50) → List Int → Int → Option (Int)
 | 0, _, _, _ => none
 | k + 1, x0, x1, x5 => if x5 < (x1.length : Int) then (if 0 ≤ x5 then ((spec_FindPath.f k x0 (rd x1 x5)).bind fun t317 => (if t317 ≥ 0 then (if 0 ≤ t317 then (if t317 < (x0.length : Int) then (if ((rd_T50 x0 t317).f1) = 2 then (some 7) else (spec_LeastGreen.l0 k x0 x1 (wrap64 (x5 + 1)))) else (none)) else (none)) else (spec_LeastGreen.l0 k x0 x1 (wrap64 (x5 + 1))))) else (none)) else (some 5)
def spec_LeastGreen.f (k : Nat) (l0 : List (S50)) (l1 : List Int) : Option (Int) := spec_LeastGreen.l0 k l0 l1 0
theorem spec_LeastGreen.mono_l : ∀ k, (∀ y0 y1 y2, LeO (spec_LeastGreen.l0 k y0 y1 y2) (spec_LeastGreen.l0 (k + 1) y0 y1 y2))
 | 0 => fun _ _ _ r h => by simp [spec_LeastGreen.l0] at h
 | k + 1 => by
  have ih0 := spec_LeastGreen.mono_l k
  ·
   intro y0 y1 y2
   unfold spec_LeastGreen.l0
   exact mz2 ih0 spec_FindPath.mono
theorem spec_LeastGreen.mono : ∀ a0 a1 k, LeO (spec_LeastGreen.f k a0 a1) (spec_LeastGreen.f (k + 1) a0 a1) := by
 intro a0 a1 k
 have ih0 := spec_LeastGreen.mono_l k
 unfold spec_LeastGreen.f
 exact mz2 ih0 spec_FindPath.mono
set_option maxHeartbeats 8000000 in
set_option maxRecDepth 100000 in
theorem spec_LeastGreen.calls (k : Nat) (A0 : Option Addr) (c0 : Nat) (l0 : List (S50)) (A1 : Option Addr) (c1 : Nat) (l1 : List Int) (r : Int) (w : World) (hr0 : Kd.C k50 w A0 l0.length l0) (hc0 : l0.length ≤ c0) (hr1 : Kd.C (Kd.int .i64) w A1 l1.length l1) (hc1 : l1.length ≤ c1) (h : spec_LeastGreen.f k l0 l1 = some r) :
  Calls Try.prog 113 #[.slice A0 l0.length c0, .slice A1 l1.length c1] w fun e w' => e = .returned (.int .i64 r) ∧ Drawn0 w w' := by
 have HR0 := Aside0.mk hr0
 have HC0 := Aside0.mk hc0
 clear hr0 hc0
 have HR1 := Aside0.mk hr1
 have HC1 := Aside0.mk hc1
 clear hr1 hc1
 have H : (spec_LeastGreen.l0 k l0 l1 0) = some r := h
 clear h
 have H' := Aside0.mk H
 clear H
 go_enter Try.func113, Try.ntmps113
 go_wp2
 go_loopg [5] k (fun kq v5 w' => ∃ (x5_1 : Int), v5 = .int .i64 x5_1 ∧ Aside0 (spec_LeastGreen.l0 kq l0 l1 x5_1 = some r) ∧ Aside0 (kq ≤ k) ∧ Drawn0 w w')
 case atStart => exact ⟨(0), rS, H', ⟨Nat.le_refl _⟩, by repeat (first | exact Drawn0.refl _ | apply Drawn0.step)⟩
 case round =>
  clear H'
  obtain ⟨x5_1, rfl, HA, HK1, ⟨m1, rfl⟩⟩ := hrel
  cases gk with
  | zero => exact absurd HA.out (by simp [spec_LeastGreen.l0])
  | succ k1 =>
   have H := HA.out
   clear HA
   simp only [spec_LeastGreen.l0] at H
   by_cases c3 : x5_1 < (l1.length : Int)
   ·
    rw [if_pos c3] at H
    have c3b0 := decide_eq_true c3
    clear c3
    have c4 : 0 ≤ x5_1 := ifN H
    replace H := ifT H
    have c4b0 := decide_eq_true c4
    clear c4
    obtain ⟨t317, A5, H⟩ := bindE H
    try dsimp only at H
    by_cases c6 : t317 ≥ 0
    ·
     rw [if_pos c6] at H
     have c6b0 := decide_eq_true c6
     clear c6
     have c7 : 0 ≤ t317 := ifN H
     replace H := ifT H
     have c7b0 := decide_eq_true c7
     clear c7
     have c8 : t317 < (l0.length : Int) := ifN H
     replace H := ifT H
     have c8b0 := decide_eq_true c8
     clear c8
     by_cases c9 : ((rd_T50 l0 t317).f1) = 2
     ·
      rw [if_pos c9] at H
      have c9b0 : (((rd_T50 l0 t317).f1) == 2) = true := beq_iff_eq.mpr c9
      have c9b1 : (((rd_T50 l0 t317).f1) != 2) = false := bne_eq_false_iff_eq.mpr c9
      clear c9
      obtain rfl := Option.some.inj H
      obtain ⟨p316, q316⟩ : 0 ≤ (x5_1 : Int) ∧ x5_1 < (l1.length : Int) := ⟨dA, dA⟩
      obtain ⟨ad316, e316, hx316_0⟩ := Kd.at_int HR1.out x5_1 p316 q316
      cases e316
      obtain ⟨p316, q316⟩ := eT p316 q316
      go_wp2_with (first | ((with_reducible refine gate_callee (f := 144) rfl ?_); refine gL (some 18) Try.func144 #[.slice A0 l0.length c0, .int .i64 (rd l1 x5_1)] ?_; (with_reducible refine (spec_FindPath.calls k1 _ _ l0 (rd l1 x5_1) t317 _ ?_ ?_ A5.out).mono ?_); exact cO HR0; exact HC0.out; rintro e w' ⟨rfl, ⟨nd, rfl⟩⟩; refine ⟨_, rfl, ?_⟩; have p318 : 0 ≤ (t317 : Int) := dA; have q318 : t317 < (l0.length : Int) := dA; obtain ⟨ad318, e318, hx318_0, hx318_1, hx318_2, hx318_3⟩ := at_T50 HR0.out t317 p318 q318; cases e318; replace p318 := eq_true p318; replace q318 := eq_true q318))
      go_ret
      exact ⟨rS, dD⟩
     rw [if_neg c9] at H
     have c9b0 : (((rd_T50 l0 t317).f1) == 2) = false := beq_eq_false_iff_ne.mpr c9
     have c9b1 : (((rd_T50 l0 t317).f1) != 2) = true := bne_iff_ne.mpr c9
     have H' := Aside0.mk H
     clear H
     obtain ⟨p316, q316⟩ : 0 ≤ (x5_1 : Int) ∧ x5_1 < (l1.length : Int) := ⟨dA, dA⟩
     obtain ⟨ad316, e316, hx316_0⟩ := Kd.at_int HR1.out x5_1 p316 q316
     cases e316
     obtain ⟨p316, q316⟩ := eT p316 q316
     go_wp2_with (first | ((with_reducible refine gate_callee (f := 144) rfl ?_); refine gL (some 18) Try.func144 #[.slice A0 l0.length c0, .int .i64 (rd l1 x5_1)] ?_; (with_reducible refine (spec_FindPath.calls k1 _ _ l0 (rd l1 x5_1) t317 _ ?_ ?_ A5.out).mono ?_); exact cO HR0; exact HC0.out; rintro e w' ⟨rfl, ⟨nd, rfl⟩⟩; refine ⟨_, rfl, ?_⟩; have p318 : 0 ≤ (t317 : Int) := dA; have q318 : t317 < (l0.length : Int) := dA; obtain ⟨ad318, e318, hx318_0, hx318_1, hx318_2, hx318_3⟩ := at_T50 HR0.out t317 p318 q318; cases e318; replace p318 := eq_true p318; replace q318 := eq_true q318))
     go_roundg k1
     case measure => have := HK1.out; omega
     case rel => exact ⟨(wrap64 (x5_1 + 1)), rS, H', ⟨by have := HK1.out; omega⟩, by repeat (first | exact Drawn0.refl _ | apply Drawn0.step)⟩
    rw [if_neg c6] at H
    have c6b0 := decide_eq_false c6
    clear c6
    have H' := Aside0.mk H
    clear H
    obtain ⟨p316, q316⟩ : 0 ≤ (x5_1 : Int) ∧ x5_1 < (l1.length : Int) := ⟨dA, dA⟩
    obtain ⟨ad316, e316, hx316_0⟩ := Kd.at_int HR1.out x5_1 p316 q316
    cases e316
    obtain ⟨p316, q316⟩ := eT p316 q316
    go_wp2_with (first | ((with_reducible refine gate_callee (f := 144) rfl ?_); refine gL (some 18) Try.func144 #[.slice A0 l0.length c0, .int .i64 (rd l1 x5_1)] ?_; (with_reducible refine (spec_FindPath.calls k1 _ _ l0 (rd l1 x5_1) t317 _ ?_ ?_ A5.out).mono ?_); exact cO HR0; exact HC0.out; rintro e w' ⟨rfl, ⟨nd, rfl⟩⟩; refine ⟨_, rfl, ?_⟩))
    go_roundg k1
    case measure => have := HK1.out; omega
    case rel => exact ⟨(wrap64 (x5_1 + 1)), rS, H', ⟨by have := HK1.out; omega⟩, by repeat (first | exact Drawn0.refl _ | apply Drawn0.step)⟩
   rw [if_neg c3] at H
   have c3b0 := decide_eq_false c3
   clear c3
   obtain rfl := Option.some.inj H
   go_wp2
   go_ret
   exact ⟨rS, dD⟩

/-! ### spec_ClearOf: function 185 -/
def spec_ClearOf.f (a0_0 : Int) (a0_1 : Int) (a0_2 : Int) (a0_3 : Int) : Option (Int) := (spec_IsPath.f a0_0 a0_1 a0_2 a0_3).bind fun t320 => (if t320 = true then ((some (([0, 2, 5, 3] : List Int) : List Int)).bind fun y321 => (if 0 ≤ a0_1 then (if a0_1 < (y321.length : Int) then (some (rd y321 a0_1)) else (none)) else (none))) else (some 0))
set_option maxHeartbeats 8000000 in
set_option maxRecDepth 100000 in
theorem spec_ClearOf.calls (a0_0 : Int) (a0_1 : Int) (a0_2 : Int) (a0_3 : Int) (r : Int) (w : World) (h : spec_ClearOf.f a0_0 a0_1 a0_2 a0_3 = some r) :
  Calls Try.prog 185 #[.agg #[.int .i64 a0_0, .int .i64 a0_1, .int .i64 a0_2, .int .i64 a0_3]] w fun e w' => e = .returned (.int .i64 r) ∧ Below w.heap.size w w' := by
 have hu50 := Try.underlying50
 have HB := Aside0.mk (Below.refl w.heap.size w)
 have H : ((spec_IsPath.f a0_0 a0_1 a0_2 a0_3).bind fun t320 => (if t320 = true then ((some (([0, 2, 5, 3] : List Int) : List Int)).bind fun y321 => (if 0 ≤ a0_1 then (if a0_1 < (y321.length : Int) then (some (rd y321 a0_1)) else (none)) else (none))) else (some 0))) = some r := h
 clear h
 obtain ⟨t320, A2, H⟩ := bindE H
 try dsimp only at H
 by_cases c3 : t320 = true
 ·
  subst c3
  have H1 : ((some (([0, 2, 5, 3] : List Int) : List Int)).bind fun y321 => (if 0 ≤ a0_1 then (if a0_1 < (y321.length : Int) then (some (rd y321 a0_1)) else (none)) else (none))) = some r := by rw [if_pos rfl] at H; exact H
  clear H
  have H := H1
  clear H1
  obtain ⟨y321, hy321⟩ : ∃ y_ : List Int, y_ = (([0, 2, 5, 3] : List Int)) := ⟨_, rfl⟩
  replace H : (if 0 ≤ a0_1 then (if a0_1 < (y321.length : Int) then (some (rd y321 a0_1)) else (none)) else (none)) = some r := rH H hy321
  have Ny321 := Aside0.mk hy321
  clear hy321
  have c4 : 0 ≤ a0_1 := ifN H
  replace H := ifT H
  have c4b0 := decide_eq_true c4
  clear c4
  have c5 : a0_1 < (y321.length : Int) := ifN H
  replace H := ifT H
  have c5b0 := decide_eq_true c5
  clear c5
  obtain rfl := Option.some.inj H
  go_enter Try.func185, Try.ntmps185
  go_wp2_with (first | ((with_reducible refine gate_dst (N := 1) rfl ?_); refine bE (N := 1) (cs := #[.int .i64 a0_0, .int .i64 a0_1, .int .i64 a0_2, .int .i64 a0_3]) (t := 50) ?_; intro gb319 hg w6 hbox hb; have BK319 := Aside0.mk (hbox); have GW319 := gw w hg; have GE319 := gw w hg; replace HB := bs HB hb; clear hb hbox hg; obtain ⟨_, _, _, _, _, _, _, _⟩ := blkc4 BK319) | ((with_reducible refine gate_callee (f := 91) rfl ?_); refine gL (some 4) Try.func91 #[.agg #[.int .i64 a0_0, .int .i64 a0_1, .int .i64 a0_2, .int .i64 a0_3]] ?_; (with_reducible refine (spec_IsPath.calls a0_0 a0_1 a0_2 a0_3 true _ A2.out).mono ?_); rintro e w8 ⟨rfl, hb⟩; refine ⟨_, rfl, ?_⟩; replace BK319 := kb BK319 hb; replace HB := bs HB hb; (try clear hb)) | ((with_reducible refine gate_dst (N := 6) rfl ?_); refine Kd.R_lit (Kd.int .i64) _ 3 ?hg (N := 6) ?hd (xs := ([0, 2, 5, 3] : List Int)) (inner := [.int .i64 0, .int .i64 2, .int .i64 5, .int .i64 3]) (ok := fun _ => True) (okp := fun _ => True) ?hr ?hp (fun _ hk => hk) trivial (Below.refl _ _) (Nat.le_refl _) (by simp) ?_; (case hd => rfl); (case hg => rfl); (case hr => first | (go_simp; done) | (go_simp; rfl)); (case hp => exact (Reps.one (show Kd.M (Kd.int .i64) _ _ _ 0 [.int .i64 0] from rfl) (Reps.one (show Kd.M (Kd.int .i64) _ _ _ 2 [.int .i64 2] from rfl) (Reps.one (show Kd.M (Kd.int .i64) _ _ _ 5 [.int .i64 5] from rfl) (Reps.one (show Kd.M (Kd.int .i64) _ _ _ 3 [.int .i64 3] from rfl) (Reps.none _ _)))))); intro v322 w9 ho10 hb hg_ hnew_; clear hg_ hnew_; (first | rw [← Ny321.out] at ho10 | (simp only [Int.reduceToNat] at ho10; rw [← Ny321.out] at ho10)); have HO323 := rl w ho10; replace BK319 := kb BK319 hb; replace HB := bs HB hb; clear hb ho10; obtain ⟨_, _, _, _, _, _, _, _⟩ := blkc4 BK319; obtain ⟨Ao12, co12, eo12⟩ := Kd.R_slice HO323.out; subst eo12; have p324 : 0 ≤ (a0_1 : Int) := dA; have q324 : a0_1 < (y321.length : Int) := dA; obtain ⟨ad324, e324, hx324_0⟩ := Kd.at_int (Kd.R_reads' HO323.out).2.2 a0_1 p324 q324; cases e324; replace p324 := eq_true p324; replace q324 := eq_true q324))
  go_ret
  exact ⟨rA, bG⟩
 replace c3 := Bool.eq_false_iff.mpr c3
 subst c3
 have H1 : (some 0) = some r := by rw [if_neg (show ¬ (false = true) by decide)] at H; exact H
 clear H
 have H := H1
 clear H1
 obtain rfl := Option.some.inj H
 go_enter Try.func185, Try.ntmps185
 go_wp2_with (first | ((with_reducible refine gate_dst (N := 1) rfl ?_); refine bE (N := 1) (cs := #[.int .i64 a0_0, .int .i64 a0_1, .int .i64 a0_2, .int .i64 a0_3]) (t := 50) ?_; intro gb319 hg w13 hbox hb; have BK319 := Aside0.mk (hbox); have GW319 := gw w hg; have GE319 := gw w hg; replace HB := bs HB hb; clear hb hbox hg; obtain ⟨_, _, _, _, _, _, _, _⟩ := blkc4 BK319) | ((with_reducible refine gate_callee (f := 91) rfl ?_); refine gL (some 4) Try.func91 #[.agg #[.int .i64 a0_0, .int .i64 a0_1, .int .i64 a0_2, .int .i64 a0_3]] ?_; (with_reducible refine (spec_IsPath.calls a0_0 a0_1 a0_2 a0_3 false _ A2.out).mono ?_); rintro e w15 ⟨rfl, hb⟩; refine ⟨_, rfl, ?_⟩; replace BK319 := kb BK319 hb; replace HB := bs HB hb; (try clear hb)))
 go_ret
 exact ⟨rA, bG⟩

/-! ### spec_Closes: function 198 -/
def spec_Closes.l0 : Nat → List Int → List Int → List Int → Int → Option (List Int)
 | 0, _, _, _, _ => none
 | k + 1, x0, x1, x5, x6 => if x6 < (x0.length : Int) then (if 0 ≤ x6 then ((spec_l6Has.f k x1 (rd x0 x6)).bind fun t329 => (if t329 = true then (spec_Closes.l0 k x0 x1 x5 (wrap64 (x6 + 1))) else (if x5.length < 17592186044416 then (spec_Closes.l0 k x0 x1 (x5 ++ [rd x0 x6]) (wrap64 (x6 + 1))) else (none)))) else (none)) else (some x5)
def spec_Closes.f (k : Nat) (l0 : List Int) (l1 : List Int) : Option (List Int) := spec_Closes.l0 k l0 l1 (([] : List Int)) 0
theorem spec_Closes.mono_l : ∀ k, (∀ y0 y1 y2 y3, LeO (spec_Closes.l0 k y0 y1 y2 y3) (spec_Closes.l0 (k + 1) y0 y1 y2 y3))
 | 0 => fun _ _ _ _ r h => by simp [spec_Closes.l0] at h
 | k + 1 => by
  have ih0 := spec_Closes.mono_l k
  ·
   intro y0 y1 y2 y3
   unfold spec_Closes.l0
   exact mz2 ih0 spec_l6Has.mono
theorem spec_Closes.mono : ∀ a0 a1 k, LeO (spec_Closes.f k a0 a1) (spec_Closes.f (k + 1) a0 a1) := by
 intro a0 a1 k
 have ih0 := spec_Closes.mono_l k
 unfold spec_Closes.f
 exact mz2 ih0 spec_l6Has.mono
set_option maxHeartbeats 8000000 in
set_option maxRecDepth 100000 in
theorem spec_Closes.calls (k : Nat) (A0 : Option Addr) (c0 : Nat) (l0 : List Int) (A1 : Option Addr) (c1 : Nat) (l1 : List Int) (r : List Int) (w : World) (hr0 : Kd.C (Kd.int .i64) w A0 l0.length l0) (hc0 : l0.length ≤ c0) (hr1 : Kd.C (Kd.int .i64) w A1 l1.length l1) (hc1 : l1.length ≤ c1) (h : spec_Closes.f k l0 l1 = some r) :
  Calls Try.prog 198 #[.slice A0 l0.length c0, .slice A1 l1.length c1] w fun e w' => ∃ v0_ : Value, e = .returned (v0_) ∧ Kd.R (Kd.int .i64) 3 w' w.heap.size (fun _ => True) v0_ r ∧ Below w.heap.size w w' := by
 have HR0 := Aside0.mk hr0
 have HC0 := Aside0.mk hc0
 clear hr0 hc0
 have HR1 := Aside0.mk hr1
 have HC1 := Aside0.mk hc1
 clear hr1 hc1
 have HB := Aside0.mk (Below.refl w.heap.size w)
 have H : (spec_Closes.l0 k l0 l1 (([] : List Int)) 0) = some r := h
 clear h
 obtain ⟨y325, hy325⟩ : ∃ y_ : List Int, y_ = (([] : List Int)) := ⟨_, rfl⟩
 replace H : (spec_Closes.l0 k l0 l1 y325 0) = some r := rH H hy325
 have Ny325 := Aside0.mk hy325
 clear hy325
 have H' := Aside0.mk H
 clear H
 go_enter Try.func198, Try.ntmps198
 go_wp2_with (first | ((with_reducible refine gate_dst (N := 7) rfl ?_); refine Kd.R_lit (Kd.int .i64) _ 3 ?hg (N := 7) ?hd (xs := ([] : List Int)) (inner := []) (ok := fun _ => True) (okp := fun _ => True) ?hr ?hp (fun _ hk => hk) trivial (Below.refl _ _) (Nat.le_refl _) (by simp) ?_; (case hd => rfl); (case hg => rfl); (case hr => first | (go_simp; done) | (go_simp; rfl)); (case hp => exact (Reps.none _ _)); intro v326 w3 ho4 hb hg_ hnew_; clear hg_ hnew_; (first | rw [← Ny325.out] at ho4 | (simp only [Int.reduceToNat] at ho4; rw [← Ny325.out] at ho4)); have HO327 := rl w ho4; replace HB := bs HB hb; clear hb ho4))
 go_loopg [5, 6] k (fun kq v5 v6 w' => ∃ (x5_1 : List Int) (x6_1 : Int), v6 = .int .i64 x6_1 ∧ Aside0 (spec_Closes.l0 kq l0 l1 x5_1 x6_1 = some r) ∧ Aside0 (kq ≤ k) ∧ Aside0 (Kd.R (Kd.int .i64) 3 w' w.heap.size (fun _ => True) v5 x5_1) ∧ Aside0 (Below w.heap.size w w'))
 case atStart => exact ⟨(y325), (0), rS, H', ⟨Nat.le_refl _⟩, ⟨rK HO327⟩, ⟨bA⟩⟩
 case round =>
  clear H'
  obtain ⟨x5_1, x6_1, rfl, HA, HK1, HO_5, HB⟩ := hrel
  cases gk with
  | zero => exact absurd HA.out (by simp [spec_Closes.l0])
  | succ k1 =>
   have H := HA.out
   clear HA
   simp only [spec_Closes.l0] at H
   by_cases c5 : x6_1 < (l0.length : Int)
   ·
    rw [if_pos c5] at H
    have c5b0 := decide_eq_true c5
    clear c5
    have c6 : 0 ≤ x6_1 := ifN H
    replace H := ifT H
    have c6b0 := decide_eq_true c6
    clear c6
    obtain ⟨t329, A7, H⟩ := bindE H
    try dsimp only at H
    by_cases c8 : t329 = true
    ·
     subst c8
     have H1 : (spec_Closes.l0 k1 l0 l1 x5_1 (wrap64 (x6_1 + 1))) = some r := by rw [if_pos rfl] at H; exact H
     clear H
     have H := H1
     clear H1
     have H' := Aside0.mk H
     clear H
     obtain ⟨p328, q328⟩ : 0 ≤ (x6_1 : Int) ∧ x6_1 < (l0.length : Int) := ⟨dA, dA⟩
     obtain ⟨ad328, e328, hx328_0⟩ := Kd.at_int (Kd.C_below HR0.out HB.out) x6_1 p328 q328
     cases e328
     obtain ⟨p328, q328⟩ := eT p328 q328
     go_wp2_with (first | ((with_reducible refine gate_callee (f := 133) rfl ?_); refine gL (some 19) Try.func133 #[.slice A1 l1.length c1, .int .i64 (rd l0 x6_1)] ?_; (with_reducible refine (spec_l6Has.calls k1 _ _ l1 (rd l0 x6_1) true _ ?_ ?_ A7.out).mono ?_); exact cB HR1; exact HC1.out; rintro e w' ⟨rfl, ⟨nd, rfl⟩⟩; refine ⟨_, rfl, ?_⟩))
     go_roundg k1
     case measure => have := HK1.out; omega
     case rel => exact ⟨(x5_1), (wrap64 (x6_1 + 1)), rS, H', ⟨by have := HK1.out; omega⟩, ⟨rK HO_5⟩, ⟨bA⟩⟩
    replace c8 := Bool.eq_false_iff.mpr c8
    subst c8
    have H1 : (if x5_1.length < 17592186044416 then (spec_Closes.l0 k1 l0 l1 (x5_1 ++ [rd l0 x6_1]) (wrap64 (x6_1 + 1))) else (none)) = some r := by rw [if_neg (show ¬ (false = true) by decide)] at H; exact H
    clear H
    have H := H1
    clear H1
    have c9 : x5_1.length < 17592186044416 := ifN H
    replace H := ifT H
    have LMc9 := Aside0.mk c9
    clear c9
    obtain ⟨y331, hy331⟩ : ∃ y_ : List Int, y_ = (x5_1 ++ [rd l0 x6_1]) := ⟨_, rfl⟩
    replace H : (spec_Closes.l0 k1 l0 l1 y331 (wrap64 (x6_1 + 1))) = some r := rH H hy331
    have Ny331 := Aside0.mk hy331
    clear hy331
    have H' := Aside0.mk H
    clear H
    obtain ⟨p328, q328⟩ : 0 ≤ (x6_1 : Int) ∧ x6_1 < (l0.length : Int) := ⟨dA, dA⟩
    obtain ⟨ad328, e328, hx328_0⟩ := Kd.at_int (Kd.C_below HR0.out HB.out) x6_1 p328 q328
    cases e328
    obtain ⟨p328, q328⟩ := eT p328 q328
    go_wp2_with (first | ((with_reducible refine gate_callee (f := 133) rfl ?_); refine gL (some 19) Try.func133 #[.slice A1 l1.length c1, .int .i64 (rd l0 x6_1)] ?_; (with_reducible refine (spec_l6Has.calls k1 _ _ l1 (rd l0 x6_1) false _ ?_ ?_ A7.out).mono ?_); exact cB HR1; exact HC1.out; rintro e w' ⟨rfl, ⟨nd, rfl⟩⟩; refine ⟨_, rfl, ?_⟩; have p330 : 0 ≤ (x6_1 : Int) := dA; have q330 : x6_1 < (l0.length : Int) := dA; obtain ⟨ad330, e330, hx330_0⟩ := Kd.at_int HR0.out x6_1 p330 q330; obtain rfl : ad328 = ad330 := (by injection e330); replace hx330_0 := hC HB hx330_0; replace p330 := eq_true p330; replace q330 := eq_true q330) | ((with_reducible refine gate_builtin (b := .append) (xs := #[.tmp 21, .tmp 26]) rfl ?_); at_builtin; refine Kd.R_append (Kd.int .i64) (w0 := w) w.heap.size rfl (.tmp 21) (.tmp 26) 35 3 (.int .i64 0) 8 rfl Try.underlying35 info3 rfl (by decide) (by omega) u5 x5_1 (rd l0 x6_1) [.int .i64 (rd l0 x6_1)] (fun _ => True) (fun _ => False) rfl rfl ?aP (fun _ hk => hk.elim) ?aF ?aO ?aB ?aS ?aL ?_; (case aP => exact rfl); (case aB => exact bA); (case aF => exact (fun _ _ => trivial)); (case aO => exact (rK HO_5)); (case aS => exact (below_size bA)); (case aL => have := LMc9.out; omega); intro v332 w10 ho hb hg hat; rw [← Ny331.out] at ho; have n0_ := Aside0.mk (hb); have n1_ := Aside0.mk (ho); clear HB; clear HO_5; have HB := n0_; have HO333 := n1_; clear n0_ n1_; clear ho hb hg hat))
    go_roundg k1
    case measure => have := HK1.out; omega
    case rel => exact ⟨(y331), (wrap64 (x6_1 + 1)), rS, H', ⟨by have := HK1.out; omega⟩, ⟨rK HO333⟩, ⟨bA⟩⟩
   rw [if_neg c5] at H
   have c5b0 := decide_eq_false c5
   clear c5
   obtain rfl := Option.some.inj H
   go_wp2
   go_ret
   exact ⟨_, rA, rK HO_5, bA⟩

/-! ### spec_Max: function 199 -/
def spec_Max.f (a0 : Int) (a1 : Int) : Option (Int) := if a1 > a0 then (some a1) else (some a0)
set_option maxHeartbeats 8000000 in
set_option maxRecDepth 100000 in
theorem spec_Max.calls (a0 : Int) (a1 : Int) (r : Int) (w : World) (h : spec_Max.f a0 a1 = some r) :
  Calls Try.prog 199 #[.int .i64 a0, .int .i64 a1] w fun e w' => e = .returned (.int .i64 r) ∧ Drawn0 w w' := by
 have H : (if a1 > a0 then (some a1) else (some a0)) = some r := h
 clear h
 by_cases c3 : a1 > a0
 ·
  rw [if_pos c3] at H
  have c3b0 := decide_eq_true c3
  clear c3
  obtain rfl := Option.some.inj H
  go_enter Try.func199, Try.ntmps199
  go_wp2
  go_ret
  exact ⟨rS, dD⟩
 rw [if_neg c3] at H
 have c3b0 := decide_eq_false c3
 clear c3
 obtain rfl := Option.some.inj H
 go_enter Try.func199, Try.ntmps199
 go_wp2
 go_ret
 exact ⟨rS, dD⟩

/-! ### spec_ClearBetween: function 192 -/
mutual
def spec_ClearBetween.l0 : Nat → List (S50) → List Int → List Int → Int → List Int → List Int → Int → Option (Int)
 | 0, _, _, _, _, _, _, _ => none
 | k + 1, x0, x1, x2, x7, x8, x9, x10 => if x10 < (x8.length : Int) then ((spec_IsTogether.f k x0 x1).bind fun t340 => (if t340 = true then ((spec_IsTogether.f k x0 x2).bind fun t341 => (spec_ClearBetween.j1 k x0 x1 x2 x7 x8 x9 x10 t341)) else (spec_ClearBetween.j1 k x0 x1 x2 x7 x8 x9 x10 false))) else (spec_ClearBetween.j1 k x0 x1 x2 x7 x8 x9 x10 false)
def spec_ClearBetween.j1 : Nat → List (S50) → List Int → List Int → Int → List Int → List Int → Int → Bool → Option (Int)
 | 0, _, _, _, _, _, _, _, _ => none
 | k + 1, x0, x1, x2, x7, x8, x9, x10, x32 => if x32 = true then (spec_ClearBetween.l1 k x0 x1 x2 x7 x8 x9 x10 0) else (some x7)
def spec_ClearBetween.l1 : Nat → List (S50) → List Int → List Int → Int → List Int → List Int → Int → Int → Option (Int)
 | 0, _, _, _, _, _, _, _, _ => none
 | k + 1, x0, x1, x2, x7, x8, x9, x10, x11 => if x11 < (x9.length : Int) then (if 0 ≤ x10 then (if x10 < (x8.length : Int) then ((spec_FindPath.f k x0 (rd x8 x10)).bind fun t343 => (if 0 ≤ t343 then (if t343 < (x0.length : Int) then (if 0 ≤ x11 then ((spec_FindPath.f k x0 (rd x9 x11)).bind fun t347 => (if 0 ≤ t347 then (if t347 < (x0.length : Int) then ((spec_Conflict.f k ((rd_T50 x0 t343).f0) ((rd_T50 x0 t343).f1) ((rd_T50 x0 t343).f2) ((rd_T50 x0 t343).f3) ((rd_T50 x0 t347).f0) ((rd_T50 x0 t347).f1) ((rd_T50 x0 t347).f2) ((rd_T50 x0 t347).f3)).bind fun t349 => (if t349 = true then ((spec_ClearOf.f ((rd_T50 x0 t343).f0) ((rd_T50 x0 t343).f1) ((rd_T50 x0 t343).f2) ((rd_T50 x0 t343).f3)).bind fun t350 => ((spec_Max.f x7 t350).bind fun t351 => (spec_ClearBetween.l1 k x0 x1 x2 t351 x8 x9 x10 (wrap64 (x11 + 1))))) else (spec_ClearBetween.l1 k x0 x1 x2 x7 x8 x9 x10 (wrap64 (x11 + 1))))) else (none)) else (none))) else (none)) else (none)) else (none))) else (none)) else (none)) else (spec_ClearBetween.l0 k x0 x1 x2 x7 x8 x9 (wrap64 (x10 + 1)))
end
def spec_ClearBetween.f (k : Nat) (l0 : List (S50)) (l1 : List Int) (l2 : List Int) : Option (Int) := (spec_Closes.f k l1 l2).bind fun t334 => ((spec_Closes.f k l2 l1).bind fun t337 => (spec_ClearBetween.l0 k l0 l1 l2 0 t334 t337 0))
theorem spec_ClearBetween.mono_l : ∀ k, (∀ y0 y1 y2 y3 y4 y5 y6, LeO (spec_ClearBetween.l0 k y0 y1 y2 y3 y4 y5 y6) (spec_ClearBetween.l0 (k + 1) y0 y1 y2 y3 y4 y5 y6)) ∧ (∀ y0 y1 y2 y3 y4 y5 y6 y7, LeO (spec_ClearBetween.j1 k y0 y1 y2 y3 y4 y5 y6 y7) (spec_ClearBetween.j1 (k + 1) y0 y1 y2 y3 y4 y5 y6 y7)) ∧ (∀ y0 y1 y2 y3 y4 y5 y6 y7, LeO (spec_ClearBetween.l1 k y0 y1 y2 y3 y4 y5 y6 y7) (spec_ClearBetween.l1 (k + 1) y0 y1 y2 y3 y4 y5 y6 y7))
 | 0 => ⟨fun _ _ _ _ _ _ _ r h => by simp [spec_ClearBetween.l0] at h, fun _ _ _ _ _ _ _ _ r h => by simp [spec_ClearBetween.j1] at h, fun _ _ _ _ _ _ _ _ r h => by simp [spec_ClearBetween.l1] at h⟩
 | k + 1 => by
  obtain ⟨ih0, ih1, ih2⟩ := spec_ClearBetween.mono_l k
  refine ⟨?_, ?_, ?_⟩
  ·
   intro y0 y1 y2 y3 y4 y5 y6
   unfold spec_ClearBetween.l0
   exact mz7 ih0 ih1 ih2 spec_Closes.mono spec_Conflict.mono spec_FindPath.mono spec_IsTogether.mono
  ·
   intro y0 y1 y2 y3 y4 y5 y6 y7
   unfold spec_ClearBetween.j1
   exact mz7 ih0 ih1 ih2 spec_Closes.mono spec_Conflict.mono spec_FindPath.mono spec_IsTogether.mono
  ·
   intro y0 y1 y2 y3 y4 y5 y6 y7
   unfold spec_ClearBetween.l1
   exact mz7 ih0 ih1 ih2 spec_Closes.mono spec_Conflict.mono spec_FindPath.mono spec_IsTogether.mono
theorem spec_ClearBetween.mono : ∀ a0 a1 a2 k, LeO (spec_ClearBetween.f k a0 a1 a2) (spec_ClearBetween.f (k + 1) a0 a1 a2) := by
 intro a0 a1 a2 k
 obtain ⟨ih0, ih1, ih2⟩ := spec_ClearBetween.mono_l k
 unfold spec_ClearBetween.f
 exact mz7 ih0 ih1 ih2 spec_Closes.mono spec_Conflict.mono spec_FindPath.mono spec_IsTogether.mono
def spec_ClearBetween.T11 : Bool × List (List Nat × List Nat) := (true, [([], []), ([], []), ([], []), ([], []), ([], []), ([3, 4], [3, 4]), ([5], [5]), ([2, 6], [2, 6]), ([1, 7], [1, 7]), ([8], [8]), ([0, 9, 7], [0, 9])])
def spec_ClearBetween.B11 : List Nat := [0, 0, 0, 0, 0, 24, 56, 124, 254, 510, 1023]
theorem spec_ClearBetween.tab11 : rtab .any (opsOf Try.f192 11) = spec_ClearBetween.T11 := by kernel_rfl
theorem spec_ClearBetween.bits11 : waitsOk spec_ClearBetween.T11.2 spec_ClearBetween.B11 = true := by kernel_rfl
set_option maxHeartbeats 8000000 in
set_option maxRecDepth 100000 in
theorem spec_ClearBetween.calls (k : Nat) (A0 : Option Addr) (c0 : Nat) (l0 : List (S50)) (A1 : Option Addr) (c1 : Nat) (l1 : List Int) (A2 : Option Addr) (c2 : Nat) (l2 : List Int) (r : Int) (w : World) (hr0 : Kd.C k50 w A0 l0.length l0) (hc0 : l0.length ≤ c0) (hr1 : Kd.C (Kd.int .i64) w A1 l1.length l1) (hc1 : l1.length ≤ c1) (hr2 : Kd.C (Kd.int .i64) w A2 l2.length l2) (hc2 : l2.length ≤ c2) (h : spec_ClearBetween.f k l0 l1 l2 = some r) :
  Calls Try.prog 192 #[.slice A0 l0.length c0, .slice A1 l1.length c1, .slice A2 l2.length c2] w fun e w' => e = .returned (.int .i64 r) ∧ Below w.heap.size w w' := by
 have hu50 := Try.underlying50
 have HR0 := Aside0.mk hr0
 have HC0 := Aside0.mk hc0
 clear hr0 hc0
 have HR1 := Aside0.mk hr1
 have HC1 := Aside0.mk hc1
 clear hr1 hc1
 have HR2 := Aside0.mk hr2
 have HC2 := Aside0.mk hc2
 clear hr2 hc2
 have HB := Aside0.mk (Below.refl w.heap.size w)
 have H : ((spec_Closes.f k l1 l2).bind fun t334 => ((spec_Closes.f k l2 l1).bind fun t337 => (spec_ClearBetween.l0 k l0 l1 l2 0 t334 t337 0))) = some r := h
 clear h
 obtain ⟨t334, A4, H⟩ := bindE H
 try dsimp only at H
 obtain ⟨t337, A5, H⟩ := bindE H
 try dsimp only at H
 have H' := Aside0.mk H
 clear H
 go_enter Try.func192, Try.ntmps192
 go_wp2_with (first | ((with_reducible refine gate_callee (f := 198) rfl ?_); refine gL (some 15) Try.func198 #[.slice A1 l1.length c1, .slice A2 l2.length c2] ?_; (with_reducible refine (spec_Closes.calls k _ _ l1 _ _ l2 t334 _ ?_ ?_ ?_ ?_ A4.out).mono ?_); exact cO HR1; exact HC1.out; exact cO HR2; exact HC2.out; rintro e w6 ⟨v335, rfl, ho0, hb⟩; refine ⟨_, rfl, ?_⟩; have HO336 := rl w ho0; replace HB := bs HB hb; (try clear hb); (try clear ho0)) | ((with_reducible refine gate_callee (f := 198) rfl ?_); refine gL (some 18) Try.func198 #[.slice A2 l2.length c2, .slice A1 l1.length c1] ?_; (with_reducible refine (spec_Closes.calls k _ _ l2 _ _ l1 t337 _ ?_ ?_ ?_ ?_ A5.out).mono ?_); exact cB HR2; exact HC2.out; exact cB HR1; exact HC1.out; rintro e w7 ⟨v338, rfl, ho0, hb⟩; refine ⟨_, rfl, ?_⟩; have HO339 := rl w (rn ho0 HO336); replace HO336 := re HO336 ho0 hb; replace HB := bs HB hb; (try clear hb); (try clear ho0)))
 go_loopg [7, 10] k (fun kq v7 v10 w' => ∃ (x7_1 : Int) (x10_1 : Int), v7 = .int .i64 x7_1 ∧ v10 = .int .i64 x10_1 ∧ Aside0 (spec_ClearBetween.l0 kq l0 l1 l2 x7_1 t334 t337 x10_1 = some r) ∧ Aside0 (kq ≤ k) ∧ Aside0 (Kd.R (Kd.int .i64) 3 w' w.heap.size (n1 v338) v335 t334) ∧ Aside0 (Kd.R (Kd.int .i64) 3 w' w.heap.size (n1 v335) v338 t337) ∧ Aside0 (Below w.heap.size w w'))
 case atStart => exact ⟨(0), (0), rS, rS, H', ⟨Nat.le_refl _⟩, ⟨rm HO336 (fun _ hk => hk.2)⟩, ⟨rm HO339 (fun _ hk => hk.2)⟩, ⟨bA⟩⟩
 case round =>
  clear H'
  obtain ⟨x7_1, x10_1, rfl, rfl, HA, HK1, HO_8, HO_9, HB⟩ := hrel
  cases gk with
  | zero => exact absurd HA.out (by simp [spec_ClearBetween.l0])
  | succ k1 =>
   have H := HA.out
   clear HA
   simp only [spec_ClearBetween.l0] at H
   have HC8 := Aside0.mk H
   clear H
   go_upto_region 5 with (fail)
   go_cut [32] (fun v32 wc => ∃ (kq : Nat) (x32_7 : Bool), v32 = .bool x32_7 ∧ Aside0 (spec_ClearBetween.j1 kq l0 l1 l2 x7_1 t334 t337 x10_1 x32_7 = some r) ∧ Aside0 (kq ≤ k1) ∧ Aside0 (Kd.R (Kd.int .i64) 3 wc w.heap.size (n1 v338) v335 t334) ∧ Aside0 (Kd.R (Kd.int .i64) 3 wc w.heap.size (n1 v335) v338 t337) ∧ Aside0 (Below w.heap.size w wc))
   case first =>
    have H := HC8.out
    clear HC8
    by_cases c9 : x10_1 < (t334.length : Int)
    ·
     rw [if_pos c9] at H
     have c9b0 := decide_eq_true c9
     clear c9
     (first | rw [c9b0] | (simp only [i64_w, i32_w]; rw [c9b0]) | skip)
     obtain ⟨t340, A10, H⟩ := bindE H
     try dsimp only at H
     by_cases c11 : t340 = true
     ·
      subst c11
      have H1 : ((spec_IsTogether.f k1 l0 l2).bind fun t341 => (spec_ClearBetween.j1 k1 l0 l1 l2 x7_1 t334 t337 x10_1 t341)) = some r := by rw [if_pos rfl] at H; exact H
      clear H
      have H := H1
      clear H1
      obtain ⟨t341, A12, H⟩ := bindE H
      try dsimp only at H
      have H' := Aside0.mk H
      clear H
      obtain ⟨Ao13, co13, eo13⟩ := Kd.R_slice HO_8.out
      subst eo13
      go_wp2_with (first | (go_at_call 112; (with_reducible refine (spec_IsTogether.calls k1 _ _ l0 _ _ l1 true _ ?_ ?_ ?_ ?_ A10.out).mono ?_); exact cB HR0; exact HC0.out; exact cB HR1; exact HC1.out; rintro e w14 ⟨rfl, hb⟩; replace HO_8 := rb HO_8 hb; replace HO_9 := rb HO_9 hb; replace HB := bs HB hb; (try clear hb)) | (go_at_call 112; (with_reducible refine (spec_IsTogether.calls k1 _ _ l0 _ _ l2 t341 _ ?_ ?_ ?_ ?_ A12.out).mono ?_); exact cB HR0; exact HC0.out; exact cB HR2; exact HC2.out; rintro e w15 ⟨rfl, hb⟩; replace HO_8 := rb HO_8 hb; replace HO_9 := rb HO_9 hb; replace HB := bs HB hb; (try clear hb)))
      go_meet
      case rel => exact ⟨_, (t341), rS, H', ⟨by have := HK1.out; first | omega | exact Nat.le_refl _⟩, ⟨rK HO_8⟩, ⟨rK HO_9⟩, ⟨bA⟩⟩
     replace c11 := Bool.eq_false_iff.mpr c11
     subst c11
     have H1 : (spec_ClearBetween.j1 k1 l0 l1 l2 x7_1 t334 t337 x10_1 false) = some r := by rw [if_neg (show ¬ (false = true) by decide)] at H; exact H
     clear H
     have H := H1
     clear H1
     have H' := Aside0.mk H
     clear H
     obtain ⟨Ao16, co16, eo16⟩ := Kd.R_slice HO_8.out
     subst eo16
     go_wp2_with (first | (go_at_call 112; (with_reducible refine (spec_IsTogether.calls k1 _ _ l0 _ _ l1 false _ ?_ ?_ ?_ ?_ A10.out).mono ?_); exact cB HR0; exact HC0.out; exact cB HR1; exact HC1.out; rintro e w17 ⟨rfl, hb⟩; replace HO_8 := rb HO_8 hb; replace HO_9 := rb HO_9 hb; replace HB := bs HB hb; (try clear hb)))
     go_meet
     case rel => exact ⟨_, (false), rS, H', ⟨by have := HK1.out; first | omega | exact Nat.le_refl _⟩, ⟨rK HO_8⟩, ⟨rK HO_9⟩, ⟨bA⟩⟩
    rw [if_neg c9] at H
    have c9b0 := decide_eq_false c9
    clear c9
    (first | rw [c9b0] | (simp only [i64_w, i32_w]; rw [c9b0]) | skip)
    have H' := Aside0.mk H
    clear H
    obtain ⟨Ao18, co18, eo18⟩ := Kd.R_slice HO_8.out
    subst eo18
    go_wp2
    go_meet
    case rel => exact ⟨_, (false), rS, H', ⟨by have := HK1.out; first | omega | exact Nat.le_refl _⟩, ⟨rK HO_8⟩, ⟨rK HO_9⟩, ⟨bA⟩⟩
   case rest =>
    clear HC8
    obtain ⟨kq, x32_7, rfl, HA, HJ7, HO_8, HO_9, HB⟩ := hcut
    cases kq with
    | zero => exact absurd HA.out (by simp [spec_ClearBetween.j1])
    | succ kj7 =>
     have H := HA.out
     clear HA
     simp only [spec_ClearBetween.j1] at H
     by_cases c19 : x32_7 = true
     ·
      subst c19
      have H1 : (spec_ClearBetween.l1 kj7 l0 l1 l2 x7_1 t334 t337 x10_1 0) = some r := by rw [if_pos rfl] at H; exact H
      clear H
      have H := H1
      clear H1
      have H' := Aside0.mk H
      clear H
      go_wp2
      go_loopg [7, 11] kj7 (fun kq v7 v11 w' => ∃ (x7_3 : Int) (x11_3 : Int), v7 = .int .i64 x7_3 ∧ v11 = .int .i64 x11_3 ∧ Aside0 (spec_ClearBetween.l1 kq l0 l1 l2 x7_3 t334 t337 x10_1 x11_3 = some r) ∧ Aside0 (kq ≤ kj7) ∧ Aside0 (Kd.R (Kd.int .i64) 3 w' w.heap.size (n1 v338) v335 t334) ∧ Aside0 (Kd.R (Kd.int .i64) 3 w' w.heap.size (n1 v335) v338 t337) ∧ Aside0 (Below w.heap.size w w'))
      case atStart => exact ⟨(x7_1), (0), rS, rS, H', ⟨Nat.le_refl _⟩, ⟨rK HO_8⟩, ⟨rK HO_9⟩, ⟨bA⟩⟩
      case round =>
       clear H'
       obtain ⟨x7_3, x11_3, rfl, rfl, HA, HK3, HO_8, HO_9, HB⟩ := hrel
       cases gk with
       | zero => exact absurd HA.out (by simp [spec_ClearBetween.l1])
       | succ k3 =>
        have H := HA.out
        clear HA
        simp only [spec_ClearBetween.l1] at H
        by_cases c20 : x11_3 < (t337.length : Int)
        ·
         rw [if_pos c20] at H
         have c20b0 := decide_eq_true c20
         clear c20
         have c21 : 0 ≤ x10_1 := ifN H
         replace H := ifT H
         have c21b0 := decide_eq_true c21
         clear c21
         have c22 : x10_1 < (t334.length : Int) := ifN H
         replace H := ifT H
         have c22b0 := decide_eq_true c22
         clear c22
         obtain ⟨t343, A23, H⟩ := bindE H
         try dsimp only at H
         have c24 : 0 ≤ t343 := ifN H
         replace H := ifT H
         have c24b0 := decide_eq_true c24
         clear c24
         have c25 : t343 < (l0.length : Int) := ifN H
         replace H := ifT H
         have c25b0 := decide_eq_true c25
         clear c25
         have c26 : 0 ≤ x11_3 := ifN H
         replace H := ifT H
         have c26b0 := decide_eq_true c26
         clear c26
         obtain ⟨t347, A27, H⟩ := bindE H
         try dsimp only at H
         have c28 : 0 ≤ t347 := ifN H
         replace H := ifT H
         have c28b0 := decide_eq_true c28
         clear c28
         have c29 : t347 < (l0.length : Int) := ifN H
         replace H := ifT H
         have c29b0 := decide_eq_true c29
         clear c29
         obtain ⟨t349, A30, H⟩ := bindE H
         try dsimp only at H
         by_cases c31 : t349 = true
         ·
          subst c31
          have H1 : ((spec_ClearOf.f ((rd_T50 l0 t343).f0) ((rd_T50 l0 t343).f1) ((rd_T50 l0 t343).f2) ((rd_T50 l0 t343).f3)).bind fun t350 => ((spec_Max.f x7_3 t350).bind fun t351 => (spec_ClearBetween.l1 k3 l0 l1 l2 t351 t334 t337 x10_1 (wrap64 (x11_3 + 1))))) = some r := by rw [if_pos rfl] at H; exact H
          clear H
          have H := H1
          clear H1
          obtain ⟨t350, A32, H⟩ := bindE H
          try dsimp only at H
          obtain ⟨t351, A33, H⟩ := bindE H
          try dsimp only at H
          have H' := Aside0.mk H
          clear H
          obtain ⟨Ao34, co34, eo34⟩ := Kd.R_slice HO_9.out
          subst eo34
          obtain ⟨Ao35, co35, eo35⟩ := Kd.R_slice HO_8.out
          subst eo35
          obtain ⟨p342, q342⟩ : 0 ≤ (x10_1 : Int) ∧ x10_1 < (t334.length : Int) := ⟨dA, dA⟩
          obtain ⟨ad342, e342, hx342_0⟩ := Kd.at_int (Kd.R_reads' HO_8.out).2.2 x10_1 p342 q342
          cases e342
          obtain ⟨p342, q342⟩ := eT p342 q342
          try go_wp2_with (first | ((with_reducible refine gate_callee (f := 144) rfl ?_); refine gL (some 47) Try.func144 #[.slice A0 l0.length c0, .int .i64 (rd t334 x10_1)] ?_; (with_reducible refine (spec_FindPath.calls k3 _ _ l0 (rd t334 x10_1) t343 _ ?_ ?_ A23.out).mono ?_); exact cB HR0; exact HC0.out; rintro e w' ⟨rfl, ⟨nd, rfl⟩⟩; refine ⟨_, rfl, ?_⟩; (try (rw [drewN_self wr]; generalize hq_ : World.drewN wr _ = wr; have n0_ : Aside0 (Kd.R (Kd.int .i64) 3 wr w.heap.size (n1 (.slice Ao34 t337.length co34)) (.slice (some ad342) t334.length co35) t334) := ⟨by rw [← hq_]; exact (rK HO_8)⟩; have n1_ : Aside0 (Kd.R (Kd.int .i64) 3 wr w.heap.size (n1 (.slice (some ad342) t334.length co35)) (.slice Ao34 t337.length co34) t337) := ⟨by rw [← hq_]; exact (rK HO_9)⟩; have n2_ : Aside0 (Below w.heap.size w wr) := ⟨by rw [← hq_]; exact bA⟩; clear HO_8 HO_9 HB hq_; have HO_8 := n0_; have HO_9 := n1_; have HB := n2_; clear n0_ n1_ n2_)); have p344 : 0 ≤ (t343 : Int) := dA; have q344 : t343 < (l0.length : Int) := dA; obtain ⟨ad344, e344, hx344_0, hx344_1, hx344_2, hx344_3⟩ := at_T50 HR0.out t343 p344 q344; cases e344; replace hx344_0 := hC HB hx344_0; replace hx344_1 := hC HB hx344_1; replace hx344_2 := hC HB hx344_2; replace hx344_3 := hC HB hx344_3; replace p344 := eq_true p344; replace q344 := eq_true q344) | ((with_reducible refine gate_dst (N := 12) rfl ?_); refine bE (N := 12) (cs := #[.int .i64 0, .int .i64 0, .int .i64 0, .int .i64 0]) (t := 50) ?_; intro gb345 hg w36 hbox hb; replace HO_8 := rb HO_8 hb; replace HO_9 := rb HO_9 hb; have BK345 := Aside0.mk (hbox); have GW345 := gw w hg; have GE345 := gw w hg; replace HB := bs HB hb; clear hb hbox hg; obtain ⟨_, _, _, _, _, _, _, _⟩ := blkc4 BK345))
          have n0_ : Aside0 (Kd.R (Kd.int .i64) 3 ((((w36.setCell ⟨gb345, 0, none⟩ (.int .i64 ((rd_T50 l0 t343).f0))).setCell ⟨gb345, 1, none⟩ (.int .i64 ((rd_T50 l0 t343).f1))).setCell ⟨gb345, 2, none⟩ (.int .i64 ((rd_T50 l0 t343).f2))).setCell ⟨gb345, 3, none⟩ (.int .i64 ((rd_T50 l0 t343).f3))) w.heap.size (n1 (.slice Ao34 t337.length co34)) (.slice (some ad342) t334.length co35) t334) := ⟨rf HO_8 BK345⟩
          have n1_ : Aside0 (Kd.R (Kd.int .i64) 3 ((((w36.setCell ⟨gb345, 0, none⟩ (.int .i64 ((rd_T50 l0 t343).f0))).setCell ⟨gb345, 1, none⟩ (.int .i64 ((rd_T50 l0 t343).f1))).setCell ⟨gb345, 2, none⟩ (.int .i64 ((rd_T50 l0 t343).f2))).setCell ⟨gb345, 3, none⟩ (.int .i64 ((rd_T50 l0 t343).f3))) w.heap.size (n1 (.slice (some ad342) t334.length co35)) (.slice Ao34 t337.length co34) t337) := ⟨rf HO_9 BK345⟩
          have n2_ : Aside0 (((((w36.setCell ⟨gb345, 0, none⟩ (.int .i64 ((rd_T50 l0 t343).f0))).setCell ⟨gb345, 1, none⟩ (.int .i64 ((rd_T50 l0 t343).f1))).setCell ⟨gb345, 2, none⟩ (.int .i64 ((rd_T50 l0 t343).f2))).setCell ⟨gb345, 3, none⟩ (.int .i64 ((rd_T50 l0 t343).f3))).heap[gb345]? = some (.cells #[.int .i64 ((rd_T50 l0 t343).f0), .int .i64 ((rd_T50 l0 t343).f1), .int .i64 ((rd_T50 l0 t343).f2), .int .i64 ((rd_T50 l0 t343).f3)] 50 (0, 0))) := ⟨kp BK345⟩
          have n3_ : Aside0 (Below w.heap.size w ((((w36.setCell ⟨gb345, 0, none⟩ (.int .i64 ((rd_T50 l0 t343).f0))).setCell ⟨gb345, 1, none⟩ (.int .i64 ((rd_T50 l0 t343).f1))).setCell ⟨gb345, 2, none⟩ (.int .i64 ((rd_T50 l0 t343).f2))).setCell ⟨gb345, 3, none⟩ (.int .i64 ((rd_T50 l0 t343).f3)))) := ⟨bG⟩
          (try clear HO_8)
          (try clear HO_9)
          (try clear BK345)
          (try clear HB)
          generalize ((((w36.setCell ⟨gb345, 0, none⟩ (.int .i64 ((rd_T50 l0 t343).f0))).setCell ⟨gb345, 1, none⟩ (.int .i64 ((rd_T50 l0 t343).f1))).setCell ⟨gb345, 2, none⟩ (.int .i64 ((rd_T50 l0 t343).f2))).setCell ⟨gb345, 3, none⟩ (.int .i64 ((rd_T50 l0 t343).f3))) = w38 at n0_ n1_ n2_ n3_ ⊢
          have HO_8 := n0_
          have HO_9 := n1_
          have BK345 := n2_
          have HB := n3_
          clear n0_ n1_ n2_ n3_
          replace HO_8 := dr HO_8
          replace HO_9 := dr HO_9
          replace BK345 := dk BK345
          have HBo := HB
          replace HB := db HB
          obtain ⟨p346, q346⟩ : 0 ≤ (x11_3 : Int) ∧ x11_3 < (t337.length : Int) := ⟨dA, dA⟩
          obtain ⟨ad346, e346, hx346_0⟩ := Kd.at_int (Kd.R_reads' HO_9.out).2.2 x11_3 p346 q346
          cases e346
          obtain ⟨p346, q346⟩ := eT p346 q346
          obtain ⟨p348, q348⟩ : 0 ≤ (t347 : Int) ∧ t347 < (l0.length : Int) := ⟨dA, dA⟩
          obtain ⟨ad348, e348, hx348_0, hx348_1, hx348_2, hx348_3⟩ := at_T50 HR0.out t347 p348 q348
          have hw348_3 := hx348_3
          have hw348_2 := hx348_2
          have hw348_1 := hx348_1
          have hw348_0 := hx348_0
          obtain rfl : ad344 = ad348 := (by injection e348)
          replace hx348_0 := hC HB hx348_0
          replace hx348_1 := hC HB hx348_1
          replace hx348_2 := hC HB hx348_2
          replace hx348_3 := hC HB hx348_3
          obtain ⟨p348, q348⟩ := eT p348 q348
          refine sw (ds := []) 11 (mb 11 0) spec_ClearBetween.tab11 spec_ClearBetween.bits11 (h4c BK345 (h1c hx346_0 (h1c (hC HB hw348_0) (h1c (hC HB hw348_1) (h1c (hC HB hw348_2) (h1 (hC HB hw348_3))))))) (fun hHeld HT_ HW_ => ?_)
          generalize w38.drew = w39 at HO_8 HO_9 BK345 HB hx346_0 hx348_0 hx348_1 hx348_2 hx348_3 hHeld ⊢
          refine pa 1 51 (mb 11 2) HT_ ?_
          refine pa 2 52 (mb 11 6) HT_ ?_
          refine pa 3 53 (mb 11 14) HT_ ?_
          refine pa 4 54 (mb 11 30) HT_ ?_
          refine pa 5 55 (mb 11 62) HT_ ?_
          refine ta9 0 50 (mb 11 63) HT_ HW_ hHeld ?_
          refine ta9 6 56 (mb 11 127) HT_ HW_ hHeld ?_
          refine oa 7 57 (mb 11 255) HT_ (fun K hK => ?_)
          refine gA Try.func144 #[.slice (some ad344) l0.length c0, .int .i64 (rd t337 x11_3)] ?_
          with_reducible refine (spec_FindPath.calls k3 _ _ l0 (rd t337 x11_3) t347 _ ?side1 ?side2 A27.out).mono ?_
          (case side1 => exact cB HR0)
          (case side2 => exact HC0.out)
          rintro e w' ⟨rfl, ⟨nd, rfl⟩⟩
          refine ⟨_, rfl, ?_⟩
          refine hK.out _ _ (cm4 BK345 ⟨hHeld.2.2.2.2.1, (hC HB hw348_0), (hC HB hw348_1), (hC HB hw348_2), (hC HB hw348_3)⟩) (fun hHeld => ?_)
          clear hK K
          refine nB ?_
          refine pa 8 58 (mb 11 511) HT_ ?_
          refine ta9 9 59 (mb 11 1023) HT_ HW_ hHeld ?_
          refine oa 10 60 (mb 11 2047) HT_ (fun K hK => ?_)
          refine gA Try.func145 #[.agg #[.int .i64 ((rd_T50 l0 t343).f0), .int .i64 ((rd_T50 l0 t343).f1), .int .i64 ((rd_T50 l0 t343).f2), .int .i64 ((rd_T50 l0 t343).f3)], .agg #[.int .i64 ((rd_T50 l0 t347).f0), .int .i64 ((rd_T50 l0 t347).f1), .int .i64 ((rd_T50 l0 t347).f2), .int .i64 ((rd_T50 l0 t347).f3)]] ?_
          with_reducible refine (spec_Conflict.calls k3 ((rd_T50 l0 t343).f0) ((rd_T50 l0 t343).f1) ((rd_T50 l0 t343).f2) ((rd_T50 l0 t343).f3) ((rd_T50 l0 t347).f0) ((rd_T50 l0 t347).f1) ((rd_T50 l0 t347).f2) ((rd_T50 l0 t347).f3) true _ A30.out).mono ?_
          rintro e w40 ⟨rfl, hb⟩
          have HS4_ := (hb.cell (World.block_lt_of_cell? _ _ (hHeld.2.2.2.2.1))).trans (hHeld.2.2.2.2.1)
          refine ⟨_, rfl, ?_⟩
          replace HO_8 := rb HO_8 hb
          replace HO_9 := rb HO_9 hb
          replace BK345 := kb BK345 hb
          replace HB := bs HB hb
          (try clear hb)
          (try clear hb2)
          (try clear hk)
          (try clear hi)
          refine hK.out _ _ (cm4 BK345 ⟨HS4_, (hC HB hw348_0), (hC HB hw348_1), (hC HB hw348_2), (hC HB hw348_3)⟩) (fun hHeld => ?_)
          clear hK K
          refine nB ?_
          refine eA HT_ ?_
          obtain ⟨_, _, _, _, _, _, _, _⟩ := blkc4 BK345
          try go_wp2_with (first | ((with_reducible refine gate_callee (f := 185) rfl ?_); refine gL (some 63) Try.func185 #[.agg #[.int .i64 ((rd_T50 l0 t343).f0), .int .i64 ((rd_T50 l0 t343).f1), .int .i64 ((rd_T50 l0 t343).f2), .int .i64 ((rd_T50 l0 t343).f3)]] ?_; (with_reducible refine (spec_ClearOf.calls ((rd_T50 l0 t343).f0) ((rd_T50 l0 t343).f1) ((rd_T50 l0 t343).f2) ((rd_T50 l0 t343).f3) t350 _ A32.out).mono ?_); rintro e w42 ⟨rfl, hb⟩; refine ⟨_, rfl, ?_⟩; replace HO_8 := rb HO_8 hb; replace HO_9 := rb HO_9 hb; replace BK345 := kb BK345 hb; replace HB := bs HB hb; (try clear hb)) | ((with_reducible refine gate_callee (f := 199) rfl ?_); refine gL (some 64) Try.func199 #[.int .i64 x7_3, .int .i64 t350] ?_; (with_reducible refine (spec_Max.calls x7_3 t350 t351 _ A33.out).mono ?_); rintro e w' ⟨rfl, ⟨nd, rfl⟩⟩; refine ⟨_, rfl, ?_⟩))
          go_roundg k3
          case measure => have := HK1.out; have := HJ7.out; have := HK3.out; omega
          case rel => exact ⟨(t351), (wrap64 (x11_3 + 1)), rS, rS, H', ⟨by have := HK1.out; have := HJ7.out; have := HK3.out; omega⟩, ⟨rK HO_8⟩, ⟨rK HO_9⟩, ⟨bG⟩⟩
         replace c31 := Bool.eq_false_iff.mpr c31
         subst c31
         have H1 : (spec_ClearBetween.l1 k3 l0 l1 l2 x7_3 t334 t337 x10_1 (wrap64 (x11_3 + 1))) = some r := by rw [if_neg (show ¬ (false = true) by decide)] at H; exact H
         clear H
         have H := H1
         clear H1
         have H' := Aside0.mk H
         clear H
         obtain ⟨Ao43, co43, eo43⟩ := Kd.R_slice HO_9.out
         subst eo43
         obtain ⟨Ao44, co44, eo44⟩ := Kd.R_slice HO_8.out
         subst eo44
         obtain ⟨p342, q342⟩ : 0 ≤ (x10_1 : Int) ∧ x10_1 < (t334.length : Int) := ⟨dA, dA⟩
         obtain ⟨ad342, e342, hx342_0⟩ := Kd.at_int (Kd.R_reads' HO_8.out).2.2 x10_1 p342 q342
         cases e342
         obtain ⟨p342, q342⟩ := eT p342 q342
         try go_wp2_with (first | ((with_reducible refine gate_callee (f := 144) rfl ?_); refine gL (some 47) Try.func144 #[.slice A0 l0.length c0, .int .i64 (rd t334 x10_1)] ?_; (with_reducible refine (spec_FindPath.calls k3 _ _ l0 (rd t334 x10_1) t343 _ ?_ ?_ A23.out).mono ?_); exact cB HR0; exact HC0.out; rintro e w' ⟨rfl, ⟨nd, rfl⟩⟩; refine ⟨_, rfl, ?_⟩; (try (rw [drewN_self wr]; generalize hq_ : World.drewN wr _ = wr; have n0_ : Aside0 (Kd.R (Kd.int .i64) 3 wr w.heap.size (n1 (.slice Ao43 t337.length co43)) (.slice (some ad342) t334.length co44) t334) := ⟨by rw [← hq_]; exact (rK HO_8)⟩; have n1_ : Aside0 (Kd.R (Kd.int .i64) 3 wr w.heap.size (n1 (.slice (some ad342) t334.length co44)) (.slice Ao43 t337.length co43) t337) := ⟨by rw [← hq_]; exact (rK HO_9)⟩; have n2_ : Aside0 (Below w.heap.size w wr) := ⟨by rw [← hq_]; exact bA⟩; clear HO_8 HO_9 HB hq_; have HO_8 := n0_; have HO_9 := n1_; have HB := n2_; clear n0_ n1_ n2_)); have p344 : 0 ≤ (t343 : Int) := dA; have q344 : t343 < (l0.length : Int) := dA; obtain ⟨ad344, e344, hx344_0, hx344_1, hx344_2, hx344_3⟩ := at_T50 HR0.out t343 p344 q344; cases e344; replace hx344_0 := hC HB hx344_0; replace hx344_1 := hC HB hx344_1; replace hx344_2 := hC HB hx344_2; replace hx344_3 := hC HB hx344_3; replace p344 := eq_true p344; replace q344 := eq_true q344) | ((with_reducible refine gate_dst (N := 12) rfl ?_); refine bE (N := 12) (cs := #[.int .i64 0, .int .i64 0, .int .i64 0, .int .i64 0]) (t := 50) ?_; intro gb345 hg w45 hbox hb; replace HO_8 := rb HO_8 hb; replace HO_9 := rb HO_9 hb; have BK345 := Aside0.mk (hbox); have GW345 := gw w hg; have GE345 := gw w hg; replace HB := bs HB hb; clear hb hbox hg; obtain ⟨_, _, _, _, _, _, _, _⟩ := blkc4 BK345))
         have n0_ : Aside0 (Kd.R (Kd.int .i64) 3 ((((w45.setCell ⟨gb345, 0, none⟩ (.int .i64 ((rd_T50 l0 t343).f0))).setCell ⟨gb345, 1, none⟩ (.int .i64 ((rd_T50 l0 t343).f1))).setCell ⟨gb345, 2, none⟩ (.int .i64 ((rd_T50 l0 t343).f2))).setCell ⟨gb345, 3, none⟩ (.int .i64 ((rd_T50 l0 t343).f3))) w.heap.size (n1 (.slice Ao43 t337.length co43)) (.slice (some ad342) t334.length co44) t334) := ⟨rf HO_8 BK345⟩
         have n1_ : Aside0 (Kd.R (Kd.int .i64) 3 ((((w45.setCell ⟨gb345, 0, none⟩ (.int .i64 ((rd_T50 l0 t343).f0))).setCell ⟨gb345, 1, none⟩ (.int .i64 ((rd_T50 l0 t343).f1))).setCell ⟨gb345, 2, none⟩ (.int .i64 ((rd_T50 l0 t343).f2))).setCell ⟨gb345, 3, none⟩ (.int .i64 ((rd_T50 l0 t343).f3))) w.heap.size (n1 (.slice (some ad342) t334.length co44)) (.slice Ao43 t337.length co43) t337) := ⟨rf HO_9 BK345⟩
         have n2_ : Aside0 (((((w45.setCell ⟨gb345, 0, none⟩ (.int .i64 ((rd_T50 l0 t343).f0))).setCell ⟨gb345, 1, none⟩ (.int .i64 ((rd_T50 l0 t343).f1))).setCell ⟨gb345, 2, none⟩ (.int .i64 ((rd_T50 l0 t343).f2))).setCell ⟨gb345, 3, none⟩ (.int .i64 ((rd_T50 l0 t343).f3))).heap[gb345]? = some (.cells #[.int .i64 ((rd_T50 l0 t343).f0), .int .i64 ((rd_T50 l0 t343).f1), .int .i64 ((rd_T50 l0 t343).f2), .int .i64 ((rd_T50 l0 t343).f3)] 50 (0, 0))) := ⟨kp BK345⟩
         have n3_ : Aside0 (Below w.heap.size w ((((w45.setCell ⟨gb345, 0, none⟩ (.int .i64 ((rd_T50 l0 t343).f0))).setCell ⟨gb345, 1, none⟩ (.int .i64 ((rd_T50 l0 t343).f1))).setCell ⟨gb345, 2, none⟩ (.int .i64 ((rd_T50 l0 t343).f2))).setCell ⟨gb345, 3, none⟩ (.int .i64 ((rd_T50 l0 t343).f3)))) := ⟨bG⟩
         (try clear HO_8)
         (try clear HO_9)
         (try clear BK345)
         (try clear HB)
         generalize ((((w45.setCell ⟨gb345, 0, none⟩ (.int .i64 ((rd_T50 l0 t343).f0))).setCell ⟨gb345, 1, none⟩ (.int .i64 ((rd_T50 l0 t343).f1))).setCell ⟨gb345, 2, none⟩ (.int .i64 ((rd_T50 l0 t343).f2))).setCell ⟨gb345, 3, none⟩ (.int .i64 ((rd_T50 l0 t343).f3))) = w47 at n0_ n1_ n2_ n3_ ⊢
         have HO_8 := n0_
         have HO_9 := n1_
         have BK345 := n2_
         have HB := n3_
         clear n0_ n1_ n2_ n3_
         replace HO_8 := dr HO_8
         replace HO_9 := dr HO_9
         replace BK345 := dk BK345
         have HBo := HB
         replace HB := db HB
         obtain ⟨p346, q346⟩ : 0 ≤ (x11_3 : Int) ∧ x11_3 < (t337.length : Int) := ⟨dA, dA⟩
         obtain ⟨ad346, e346, hx346_0⟩ := Kd.at_int (Kd.R_reads' HO_9.out).2.2 x11_3 p346 q346
         cases e346
         obtain ⟨p346, q346⟩ := eT p346 q346
         obtain ⟨p348, q348⟩ : 0 ≤ (t347 : Int) ∧ t347 < (l0.length : Int) := ⟨dA, dA⟩
         obtain ⟨ad348, e348, hx348_0, hx348_1, hx348_2, hx348_3⟩ := at_T50 HR0.out t347 p348 q348
         have hw348_3 := hx348_3
         have hw348_2 := hx348_2
         have hw348_1 := hx348_1
         have hw348_0 := hx348_0
         obtain rfl : ad344 = ad348 := (by injection e348)
         replace hx348_0 := hC HB hx348_0
         replace hx348_1 := hC HB hx348_1
         replace hx348_2 := hC HB hx348_2
         replace hx348_3 := hC HB hx348_3
         obtain ⟨p348, q348⟩ := eT p348 q348
         refine sw (ds := []) 11 (mb 11 0) spec_ClearBetween.tab11 spec_ClearBetween.bits11 (h4c BK345 (h1c hx346_0 (h1c (hC HB hw348_0) (h1c (hC HB hw348_1) (h1c (hC HB hw348_2) (h1 (hC HB hw348_3))))))) (fun hHeld HT_ HW_ => ?_)
         generalize w47.drew = w48 at HO_8 HO_9 BK345 HB hx346_0 hx348_0 hx348_1 hx348_2 hx348_3 hHeld ⊢
         refine pa 1 51 (mb 11 2) HT_ ?_
         refine pa 2 52 (mb 11 6) HT_ ?_
         refine pa 3 53 (mb 11 14) HT_ ?_
         refine pa 4 54 (mb 11 30) HT_ ?_
         refine pa 5 55 (mb 11 62) HT_ ?_
         refine ta9 0 50 (mb 11 63) HT_ HW_ hHeld ?_
         refine ta9 6 56 (mb 11 127) HT_ HW_ hHeld ?_
         refine oa 7 57 (mb 11 255) HT_ (fun K hK => ?_)
         refine gA Try.func144 #[.slice (some ad344) l0.length c0, .int .i64 (rd t337 x11_3)] ?_
         with_reducible refine (spec_FindPath.calls k3 _ _ l0 (rd t337 x11_3) t347 _ ?side1 ?side2 A27.out).mono ?_
         (case side1 => exact cB HR0)
         (case side2 => exact HC0.out)
         rintro e w' ⟨rfl, ⟨nd, rfl⟩⟩
         refine ⟨_, rfl, ?_⟩
         refine hK.out _ _ (cm4 BK345 ⟨hHeld.2.2.2.2.1, (hC HB hw348_0), (hC HB hw348_1), (hC HB hw348_2), (hC HB hw348_3)⟩) (fun hHeld => ?_)
         clear hK K
         refine nB ?_
         refine pa 8 58 (mb 11 511) HT_ ?_
         refine ta9 9 59 (mb 11 1023) HT_ HW_ hHeld ?_
         refine oa 10 60 (mb 11 2047) HT_ (fun K hK => ?_)
         refine gA Try.func145 #[.agg #[.int .i64 ((rd_T50 l0 t343).f0), .int .i64 ((rd_T50 l0 t343).f1), .int .i64 ((rd_T50 l0 t343).f2), .int .i64 ((rd_T50 l0 t343).f3)], .agg #[.int .i64 ((rd_T50 l0 t347).f0), .int .i64 ((rd_T50 l0 t347).f1), .int .i64 ((rd_T50 l0 t347).f2), .int .i64 ((rd_T50 l0 t347).f3)]] ?_
         with_reducible refine (spec_Conflict.calls k3 ((rd_T50 l0 t343).f0) ((rd_T50 l0 t343).f1) ((rd_T50 l0 t343).f2) ((rd_T50 l0 t343).f3) ((rd_T50 l0 t347).f0) ((rd_T50 l0 t347).f1) ((rd_T50 l0 t347).f2) ((rd_T50 l0 t347).f3) false _ A30.out).mono ?_
         rintro e w49 ⟨rfl, hb⟩
         have HS4_ := (hb.cell (World.block_lt_of_cell? _ _ (hHeld.2.2.2.2.1))).trans (hHeld.2.2.2.2.1)
         refine ⟨_, rfl, ?_⟩
         replace HO_8 := rb HO_8 hb
         replace HO_9 := rb HO_9 hb
         replace BK345 := kb BK345 hb
         replace HB := bs HB hb
         (try clear hb)
         (try clear hb2)
         (try clear hk)
         (try clear hi)
         refine hK.out _ _ (cm4 BK345 ⟨HS4_, (hC HB hw348_0), (hC HB hw348_1), (hC HB hw348_2), (hC HB hw348_3)⟩) (fun hHeld => ?_)
         clear hK K
         refine nB ?_
         refine eA HT_ ?_
         try go_wp2
         go_roundg k3
         case measure => have := HK1.out; have := HJ7.out; have := HK3.out; omega
         case rel => exact ⟨(x7_3), (wrap64 (x11_3 + 1)), rS, rS, H', ⟨by have := HK1.out; have := HJ7.out; have := HK3.out; omega⟩, ⟨rK HO_8⟩, ⟨rK HO_9⟩, ⟨bG⟩⟩
        rw [if_neg c20] at H
        have c20b0 := decide_eq_false c20
        clear c20
        have H' := Aside0.mk H
        clear H
        obtain ⟨Ao50, co50, eo50⟩ := Kd.R_slice HO_9.out
        subst eo50
        go_wp2
        go_roundg k3
        case measure => have := HK1.out; have := HJ7.out; have := HK3.out; omega
        case rel => exact ⟨(x7_3), (wrap64 (x10_1 + 1)), rS, rS, H', ⟨by have := HK1.out; have := HJ7.out; have := HK3.out; omega⟩, ⟨rK HO_8⟩, ⟨rK HO_9⟩, ⟨bA⟩⟩
     replace c19 := Bool.eq_false_iff.mpr c19
     subst c19
     have H1 : (some x7_1) = some r := by rw [if_neg (show ¬ (false = true) by decide)] at H; exact H
     clear H
     have H := H1
     clear H1
     obtain rfl := Option.some.inj H
     go_wp2
     go_ret
     exact ⟨rA, bA⟩

/-! ### spec_IsControl: function 193 -/
def spec_IsControl.j0 : Nat → List (S50) → Bool → List Int → Int → List Int → Int → Option (Bool)
 | 0, _, _, _, _, _, _ => none
 | k + 1, x0, x28, x353000, x353001, x353002, x353003 => if x28 = true then (some false) else (if (x353002.length : Int) = 0 then (some (x353003 == 0)) else ((spec_ClearBetween.f k x0 x353000 x353002).bind fun t356 => ((spec_l1In.f x353003 1 t356).bind fun t357 => (some t357))))
def spec_IsControl.f (k : Nat) (l0 : List (S50)) (l1_0 : List Int) (a1_1 : Int) (l1_2 : List Int) (a1_3 : Int) : Option (Bool) := if (l1_0.length : Int) = 0 then (spec_IsControl.j0 k l0 true l1_0 a1_1 l1_2 a1_3) else ((spec_IsTogether.f k l0 l1_0).bind fun t353 => (if t353 = true then ((spec_IsTogether.f k l0 l1_2).bind fun t354 => (if t354 = true then ((spec_l1In.f a1_1 0 1000000).bind fun t355 => (spec_IsControl.j0 k l0 (!t355) l1_0 a1_1 l1_2 a1_3)) else (spec_IsControl.j0 k l0 true l1_0 a1_1 l1_2 a1_3))) else (spec_IsControl.j0 k l0 true l1_0 a1_1 l1_2 a1_3)))
theorem spec_IsControl.mono_l : ∀ k, (∀ y0 y1 y2 y3 y4 y5, LeO (spec_IsControl.j0 k y0 y1 y2 y3 y4 y5) (spec_IsControl.j0 (k + 1) y0 y1 y2 y3 y4 y5))
 | 0 => fun _ _ _ _ _ _ r h => by simp [spec_IsControl.j0] at h
 | k + 1 => by
  have ih0 := spec_IsControl.mono_l k
  ·
   intro y0 y1 y2 y3 y4 y5
   unfold spec_IsControl.j0
   exact mz3 ih0 spec_ClearBetween.mono spec_IsTogether.mono
theorem spec_IsControl.mono : ∀ a0 a1 a2 a3 a4 k, LeO (spec_IsControl.f k a0 a1 a2 a3 a4) (spec_IsControl.f (k + 1) a0 a1 a2 a3 a4) := by
 intro a0 a1 a2 a3 a4 k
 have ih0 := spec_IsControl.mono_l k
 unfold spec_IsControl.f
 exact mz3 ih0 spec_ClearBetween.mono spec_IsTogether.mono
def spec_IsControl.T5 : Bool × List (List Nat × List Nat) := (true, [([], []), ([0], [0]), ([], []), ([], []), ([3], [3]), ([], []), ([5], [5]), ([2, 4, 6], [2, 4, 6]), ([1, 7, 7], [1, 7]), ([8, 8, 0, 1, 2, 3, 4, 5, 6, 7, 8], [8])])
def spec_IsControl.B5 : List Nat := [0, 1, 0, 0, 8, 0, 32, 124, 255, 511]
theorem spec_IsControl.tab5 : rtab .any (opsOf Try.f193 5) = spec_IsControl.T5 := by kernel_rfl
theorem spec_IsControl.bits5 : waitsOk spec_IsControl.T5.2 spec_IsControl.B5 = true := by kernel_rfl
set_option maxHeartbeats 8000000 in
set_option maxRecDepth 100000 in
theorem spec_IsControl.calls (k : Nat) (A0 : Option Addr) (c0 : Nat) (l0 : List (S50)) (A1_0 : Option Addr) (c1_0 : Nat) (l1_0 : List Int) (a1_1 : Int) (A1_2 : Option Addr) (c1_2 : Nat) (l1_2 : List Int) (a1_3 : Int) (r : Bool) (w : World) (hr0 : Kd.C k50 w A0 l0.length l0) (hc0 : l0.length ≤ c0) (hr1_0 : Kd.C (Kd.int .i64) w A1_0 l1_0.length l1_0) (hc1_0 : l1_0.length ≤ c1_0) (hr1_2 : Kd.C (Kd.int .i64) w A1_2 l1_2.length l1_2) (hc1_2 : l1_2.length ≤ c1_2) (h : spec_IsControl.f k l0 l1_0 a1_1 l1_2 a1_3 = some r) :
  Calls Try.prog 193 #[.slice A0 l0.length c0, .agg #[.slice A1_0 l1_0.length c1_0, .int .i64 a1_1, .slice A1_2 l1_2.length c1_2, .int .i64 a1_3]] w fun e w' => e = .returned (.bool r) ∧ Below w.heap.size w w' := by
 have hu66 := Try.underlying66
 have HR0 := Aside0.mk hr0
 have HC0 := Aside0.mk hc0
 clear hr0 hc0
 have HR1_0 := Aside0.mk hr1_0
 have HC1_0 := Aside0.mk hc1_0
 clear hr1_0 hc1_0
 have HR1_2 := Aside0.mk hr1_2
 have HC1_2 := Aside0.mk hc1_2
 clear hr1_2 hc1_2
 have HB := Aside0.mk (Below.refl w.heap.size w)
 have H : (if (l1_0.length : Int) = 0 then (spec_IsControl.j0 k l0 true l1_0 a1_1 l1_2 a1_3) else ((spec_IsTogether.f k l0 l1_0).bind fun t353 => (if t353 = true then ((spec_IsTogether.f k l0 l1_2).bind fun t354 => (if t354 = true then ((spec_l1In.f a1_1 0 1000000).bind fun t355 => (spec_IsControl.j0 k l0 (!t355) l1_0 a1_1 l1_2 a1_3)) else (spec_IsControl.j0 k l0 true l1_0 a1_1 l1_2 a1_3))) else (spec_IsControl.j0 k l0 true l1_0 a1_1 l1_2 a1_3)))) = some r := h
 clear h
 have HC3 := Aside0.mk H
 clear H
 go_enter Try.func193, Try.ntmps193
 go_upto_region 1 with (first | ((with_reducible refine gate_dst (N := 3) rfl ?_); refine bE (N := 3) (cs := #[.slice A1_0 l1_0.length c1_0, .int .i64 a1_1, .slice A1_2 l1_2.length c1_2, .int .i64 a1_3]) (t := 66) ?_; intro gb352 hg w4 hbox hb; have BK352 := Aside0.mk (hbox); have GW352 := gw w hg; have GE352 := gw w hg; replace HB := bs HB hb; clear hb hbox hg))
 (try simp only [Act.put, List.setIfInBounds_toArray, List.set_cons_zero, List.set_cons_succ])
 go_cut [28] (fun v28 wc => ∃ (kq : Nat) (x28_2 : Bool), v28 = .bool x28_2 ∧ Aside0 (spec_IsControl.j0 kq l0 x28_2 l1_0 a1_1 l1_2 a1_3 = some r) ∧ Aside0 (kq ≤ k) ∧ Aside0 (wc.heap[gb352]? = some (.cells #[(.slice A1_0 l1_0.length c1_0), .int .i64 a1_1, (.slice A1_2 l1_2.length c1_2), .int .i64 a1_3] 66 (0, 0))) ∧ Aside0 (Below w.heap.size w wc))
 case first =>
  have H := HC3.out
  clear HC3
  by_cases c5 : (l1_0.length : Int) = 0
  ·
   rw [if_pos c5] at H
   have c5b0 : ((l1_0.length : Int) == 0) = true := beq_iff_eq.mpr c5
   have c5b1 : ((l1_0.length : Int) != 0) = false := bne_eq_false_iff_eq.mpr c5
   clear c5
   (first | rw [c5b0] | (simp only [i64_w, i32_w]; rw [c5b0]) | skip)
   have H' := Aside0.mk H
   clear H
   obtain ⟨_, _, _, _, _, _, _, _⟩ := blkc4 BK352
   go_wp2
   go_meet
   case rel => exact ⟨_, (true), rS, H', ⟨oL⟩, ⟨bK BK352⟩, ⟨bG⟩⟩
  rw [if_neg c5] at H
  have c5b0 : ((l1_0.length : Int) == 0) = false := beq_eq_false_iff_ne.mpr c5
  have c5b1 : ((l1_0.length : Int) != 0) = true := bne_iff_ne.mpr c5
  have c5b2 : ¬ (l1_0 = []) := fun h_ => c5 (by rw [h_]; rfl)
  (first | rw [c5b0] | (simp only [i64_w, i32_w]; rw [c5b0]) | skip)
  obtain ⟨t353, A7, H⟩ := bindE H
  try dsimp only at H
  by_cases c8 : t353 = true
  ·
   subst c8
   have H1 : ((spec_IsTogether.f k l0 l1_2).bind fun t354 => (if t354 = true then ((spec_l1In.f a1_1 0 1000000).bind fun t355 => (spec_IsControl.j0 k l0 (!t355) l1_0 a1_1 l1_2 a1_3)) else (spec_IsControl.j0 k l0 true l1_0 a1_1 l1_2 a1_3))) = some r := by rw [if_pos rfl] at H; exact H
   clear H
   have H := H1
   clear H1
   obtain ⟨t354, A9, H⟩ := bindE H
   try dsimp only at H
   by_cases c10 : t354 = true
   ·
    subst c10
    have H1 : ((spec_l1In.f a1_1 0 1000000).bind fun t355 => (spec_IsControl.j0 k l0 (!t355) l1_0 a1_1 l1_2 a1_3)) = some r := by rw [if_pos rfl] at H; exact H
    clear H
    have H := H1
    clear H1
    obtain ⟨t355, A11, H⟩ := bindE H
    try dsimp only at H
    have H' := Aside0.mk H
    clear H
    obtain ⟨_, _, _, _, _, _, _, _⟩ := blkc4 BK352
    go_wp2_with (first | (go_at_call 112; (with_reducible refine (spec_IsTogether.calls k _ _ l0 _ _ l1_0 true _ ?_ ?_ ?_ ?_ A7.out).mono ?_); exact cB HR0; exact HC0.out; exact cB HR1_0; exact HC1_0.out; rintro e w13 ⟨rfl, hb⟩; replace BK352 := kb BK352 hb; replace HB := bs HB hb; (try clear hb); obtain ⟨_, _, _, _, _, _, _, _⟩ := blkc4 BK352) | (go_at_call 112; (with_reducible refine (spec_IsTogether.calls k _ _ l0 _ _ l1_2 true _ ?_ ?_ ?_ ?_ A9.out).mono ?_); exact cB HR0; exact HC0.out; exact cB HR1_2; exact HC1_2.out; rintro e w15 ⟨rfl, hb⟩; replace BK352 := kb BK352 hb; replace HB := bs HB hb; (try clear hb); obtain ⟨_, _, _, _, _, _, _, _⟩ := blkc4 BK352) | (go_at_call 111; (with_reducible refine (spec_l1In.calls a1_1 0 1000000 t355 _ A11.out).mono ?_); rintro e w' ⟨rfl, ⟨nd, rfl⟩⟩))
    go_meet
    case rel => exact ⟨_, (!t355), rS, H', ⟨oL⟩, ⟨bK BK352⟩, ⟨bG⟩⟩
   replace c10 := Bool.eq_false_iff.mpr c10
   subst c10
   have H1 : (spec_IsControl.j0 k l0 true l1_0 a1_1 l1_2 a1_3) = some r := by rw [if_neg (show ¬ (false = true) by decide)] at H; exact H
   clear H
   have H := H1
   clear H1
   have H' := Aside0.mk H
   clear H
   obtain ⟨_, _, _, _, _, _, _, _⟩ := blkc4 BK352
   go_wp2_with (first | (go_at_call 112; (with_reducible refine (spec_IsTogether.calls k _ _ l0 _ _ l1_0 true _ ?_ ?_ ?_ ?_ A7.out).mono ?_); exact cB HR0; exact HC0.out; exact cB HR1_0; exact HC1_0.out; rintro e w18 ⟨rfl, hb⟩; replace BK352 := kb BK352 hb; replace HB := bs HB hb; (try clear hb); obtain ⟨_, _, _, _, _, _, _, _⟩ := blkc4 BK352) | (go_at_call 112; (with_reducible refine (spec_IsTogether.calls k _ _ l0 _ _ l1_2 false _ ?_ ?_ ?_ ?_ A9.out).mono ?_); exact cB HR0; exact HC0.out; exact cB HR1_2; exact HC1_2.out; rintro e w20 ⟨rfl, hb⟩; replace BK352 := kb BK352 hb; replace HB := bs HB hb; (try clear hb)))
   go_meet
   case rel => exact ⟨_, (true), rS, H', ⟨oL⟩, ⟨bK BK352⟩, ⟨bG⟩⟩
  replace c8 := Bool.eq_false_iff.mpr c8
  subst c8
  have H1 : (spec_IsControl.j0 k l0 true l1_0 a1_1 l1_2 a1_3) = some r := by rw [if_neg (show ¬ (false = true) by decide)] at H; exact H
  clear H
  have H := H1
  clear H1
  have H' := Aside0.mk H
  clear H
  obtain ⟨_, _, _, _, _, _, _, _⟩ := blkc4 BK352
  go_wp2_with (first | (go_at_call 112; (with_reducible refine (spec_IsTogether.calls k _ _ l0 _ _ l1_0 false _ ?_ ?_ ?_ ?_ A7.out).mono ?_); exact cB HR0; exact HC0.out; exact cB HR1_0; exact HC1_0.out; rintro e w22 ⟨rfl, hb⟩; replace BK352 := kb BK352 hb; replace HB := bs HB hb; (try clear hb)))
  go_meet
  case rel => exact ⟨_, (true), rS, H', ⟨oL⟩, ⟨bK BK352⟩, ⟨bG⟩⟩
 case rest =>
  clear HC3
  obtain ⟨kq, x28_2, rfl, HA, HJ2, BK352, HB⟩ := hcut
  cases kq with
  | zero => exact absurd HA.out (by simp [spec_IsControl.j0])
  | succ kj2 =>
   have H := HA.out
   clear HA
   simp only [spec_IsControl.j0] at H
   by_cases c23 : x28_2 = true
   ·
    subst c23
    have H1 : (some false) = some r := by rw [if_pos rfl] at H; exact H
    clear H
    have H := H1
    clear H1
    obtain rfl := Option.some.inj H
    go_wp2
    go_ret
    exact ⟨rA, bG⟩
   replace c23 := Bool.eq_false_iff.mpr c23
   subst c23
   have H1 : (if (l1_2.length : Int) = 0 then (some (a1_3 == 0)) else ((spec_ClearBetween.f kj2 l0 l1_0 l1_2).bind fun t356 => ((spec_l1In.f a1_3 1 t356).bind fun t357 => (some t357)))) = some r := by rw [if_neg (show ¬ (false = true) by decide)] at H; exact H
   clear H
   have H := H1
   clear H1
   by_cases c24 : (l1_2.length : Int) = 0
   ·
    rw [if_pos c24] at H
    have c24b0 : ((l1_2.length : Int) == 0) = true := beq_iff_eq.mpr c24
    have c24b1 : ((l1_2.length : Int) != 0) = false := bne_eq_false_iff_eq.mpr c24
    clear c24
    obtain rfl := Option.some.inj H
    obtain ⟨_, _, _, _, _, _, _, _⟩ := blkc4 BK352
    go_wp2
    go_ret
    exact ⟨rA, bG⟩
   rw [if_neg c24] at H
   have c24b0 : ((l1_2.length : Int) == 0) = false := beq_eq_false_iff_ne.mpr c24
   have c24b1 : ((l1_2.length : Int) != 0) = true := bne_iff_ne.mpr c24
   have c24b2 : ¬ (l1_2 = []) := fun h_ => c24 (by rw [h_]; rfl)
   obtain ⟨t356, A26, H⟩ := bindE H
   try dsimp only at H
   obtain ⟨t357, A27, H⟩ := bindE H
   try dsimp only at H
   obtain rfl := Option.some.inj H
   obtain ⟨_, _, _, _, _, _, _, _⟩ := blkc4 BK352
   try go_wp2
   replace BK352 := dk BK352
   have HBo := HB
   replace HB := db HB
   refine sw (ds := []) 10 (mb 10 0) spec_IsControl.tab5 spec_IsControl.bits5 (h4 BK352) (fun hHeld HT_ HW_ => ?_)
   generalize wc.drew = w29 at BK352 HB hHeld ⊢
   refine pa 0 36 (mb 10 1) HT_ ?_
   refine pa 2 38 (mb 10 5) HT_ ?_
   refine pa 3 39 (mb 10 13) HT_ ?_
   refine pa 5 41 (mb 10 45) HT_ ?_
   refine ta4 1 37 (mb 10 47) HT_ HW_ hHeld ?_
   refine ta4 4 40 (mb 10 63) HT_ HW_ hHeld ?_
   refine ta4 6 42 (mb 10 127) HT_ HW_ hHeld ?_
   refine oa 7 43 (mb 10 255) HT_ (fun K hK => ?_)
   refine gA Try.func192 #[.slice A0 l0.length c0, .slice A1_0 l1_0.length c1_0, .slice A1_2 l1_2.length c1_2] ?_
   with_reducible refine (spec_ClearBetween.calls kj2 _ _ l0 _ _ l1_0 _ _ l1_2 t356 _ ?side1 ?side2 ?side3 ?side4 ?side5 ?side6 A26.out).mono ?_
   (case side1 => exact cB HR0)
   (case side2 => exact HC0.out)
   (case side3 => exact cB HR1_0)
   (case side4 => exact HC1_0.out)
   (case side5 => exact cB HR1_2)
   (case side6 => exact HC1_2.out)
   rintro e w30 ⟨rfl, hb⟩
   refine ⟨_, rfl, ?_⟩
   replace BK352 := kb BK352 hb
   replace HB := bs HB hb
   (try clear hb)
   (try clear hb2)
   (try clear hk)
   (try clear hi)
   refine hK.out _ _ (cn4 BK352) (fun hHeld => ?_)
   clear hK K
   refine nB ?_
   refine oa 8 44 (mb 10 511) HT_ (fun K hK => ?_)
   refine gA Try.func111 #[.int .i64 a1_3, .int .i64 1, .int .i64 t356] ?_
   with_reducible refine (spec_l1In.calls a1_3 1 t356 t357 _ A27.out).mono ?_
   rintro e w' ⟨rfl, ⟨nd, rfl⟩⟩
   refine ⟨_, rfl, ?_⟩
   refine hK.out _ _ (cn4 BK352) (fun hHeld => ?_)
   clear hK K
   refine nB ?_
   refine pa 9 4 (mb 10 1023) HT_ ?_
   refine eA HT_ ?_
   try go_wp2
   go_ret
   exact ⟨rA, bG⟩

/-! ### spec_CanEnd: function 190 -/
def spec_CanEnd.f (k : Nat) (l0 : List (S50)) (l1_0 : List Int) (a1_1 : Int) (l1_2 : List Int) (a1_3 : Int) : Option (Bool) := (spec_IsControl.f k l0 l1_0 a1_1 l1_2 a1_3).bind fun t359 => (if t359 = true then (if (l1_2.length : Int) = 0 then ((spec_LeastGreen.f k l0 l1_0).bind fun t360 => (some (decide (a1_1 ≥ t360)))) else (some false)) else (some false))
theorem spec_CanEnd.mono : ∀ a0 a1 a2 a3 a4 k, LeO (spec_CanEnd.f k a0 a1 a2 a3 a4) (spec_CanEnd.f (k + 1) a0 a1 a2 a3 a4) := by
 intro a0 a1 a2 a3 a4 k
 unfold spec_CanEnd.f
 exact mz2 spec_IsControl.mono spec_LeastGreen.mono
def spec_CanEnd.T1 : Bool × List (List Nat × List Nat) := (true, [([], []), ([], []), ([0, 1], [0, 1]), ([2, 2], [2]), ([3], [3]), ([4, 3], [3, 4]), ([5, 3], [3, 5]), ([6, 3], [3, 6]), ([3, 7], [3, 7]), ([8, 3], [8]), ([9], [9]), ([10, 9], [9, 10]), ([9], [9]), ([9], [9]), ([13, 9], [9, 13]), ([12, 14, 9, 9], [9, 12, 14]), ([11, 15, 9], [9, 11, 15]), ([9, 16], [9, 16]), ([17, 15, 0, 1, 2, 3, 4, 5, 6, 7, 8, 9, 10, 11, 12, 13, 14, 15, 16, 17], [17])])
def spec_CanEnd.B1 : List Nat := [0, 0, 3, 7, 15, 31, 63, 127, 255, 511, 1023, 2047, 1023, 1023, 9215, 29695, 65535, 131071, 262143]
theorem spec_CanEnd.tab1 : rtab .any (opsOf Try.f190 1) = spec_CanEnd.T1 := by kernel_rfl
theorem spec_CanEnd.bits1 : waitsOk spec_CanEnd.T1.2 spec_CanEnd.B1 = true := by kernel_rfl
set_option maxHeartbeats 8000000 in
set_option maxRecDepth 100000 in
theorem spec_CanEnd.calls (k : Nat) (A0 : Option Addr) (c0 : Nat) (l0 : List (S50)) (A1_0 : Option Addr) (c1_0 : Nat) (l1_0 : List Int) (a1_1 : Int) (A1_2 : Option Addr) (c1_2 : Nat) (l1_2 : List Int) (a1_3 : Int) (r : Bool) (w : World) (hr0 : Kd.C k50 w A0 l0.length l0) (hc0 : l0.length ≤ c0) (hr1_0 : Kd.C (Kd.int .i64) w A1_0 l1_0.length l1_0) (hc1_0 : l1_0.length ≤ c1_0) (hr1_2 : Kd.C (Kd.int .i64) w A1_2 l1_2.length l1_2) (hc1_2 : l1_2.length ≤ c1_2) (h : spec_CanEnd.f k l0 l1_0 a1_1 l1_2 a1_3 = some r) :
  Calls Try.prog 190 #[.slice A0 l0.length c0, .agg #[.slice A1_0 l1_0.length c1_0, .int .i64 a1_1, .slice A1_2 l1_2.length c1_2, .int .i64 a1_3]] w fun e w' => e = .returned (.bool r) ∧ Below w.heap.size w w' := by
 have hu66 := Try.underlying66
 have HR0 := Aside0.mk hr0
 have HC0 := Aside0.mk hc0
 clear hr0 hc0
 have HR1_0 := Aside0.mk hr1_0
 have HC1_0 := Aside0.mk hc1_0
 clear hr1_0 hc1_0
 have HR1_2 := Aside0.mk hr1_2
 have HC1_2 := Aside0.mk hc1_2
 clear hr1_2 hc1_2
 have HB := Aside0.mk (Below.refl w.heap.size w)
 have H : ((spec_IsControl.f k l0 l1_0 a1_1 l1_2 a1_3).bind fun t359 => (if t359 = true then (if (l1_2.length : Int) = 0 then ((spec_LeastGreen.f k l0 l1_0).bind fun t360 => (some (decide (a1_1 ≥ t360)))) else (some false)) else (some false))) = some r := h
 clear h
 obtain ⟨t359, A3, H⟩ := bindE H
 try dsimp only at H
 by_cases c4 : t359 = true
 ·
  subst c4
  have H1 : (if (l1_2.length : Int) = 0 then ((spec_LeastGreen.f k l0 l1_0).bind fun t360 => (some (decide (a1_1 ≥ t360)))) else (some false)) = some r := by rw [if_pos rfl] at H; exact H
  clear H
  have H := H1
  clear H1
  by_cases c5 : (l1_2.length : Int) = 0
  ·
   rw [if_pos c5] at H
   have c5b0 : ((l1_2.length : Int) == 0) = true := beq_iff_eq.mpr c5
   have c5b1 : ((l1_2.length : Int) != 0) = false := bne_eq_false_iff_eq.mpr c5
   clear c5
   obtain ⟨t360, A6, H⟩ := bindE H
   try dsimp only at H
   obtain rfl := Option.some.inj H
   go_enter Try.func190, Try.ntmps190
   try go_wp2_with (first | ((with_reducible refine gate_dst (N := 3) rfl ?_); (try (refine gate_guard (by rfl) ?_; dsimp only)); refine bE (N := 3) (cs := #[.slice A1_0 l1_0.length c1_0, .int .i64 a1_1, .slice A1_2 l1_2.length c1_2, .int .i64 a1_3]) (t := 66) ?_; intro gb358 hg w7 hbox hb; have BK358 := Aside0.mk (hbox); have GW358 := gw w hg; have GE358 := gw w hg; replace HB := bs HB hb; clear hb hbox hg))
   replace BK358 := dk BK358
   have HBo := HB
   replace HB := db HB
   refine sw (ds := []) 19 (mb 19 0) spec_CanEnd.tab1 spec_CanEnd.bits1 (h4 BK358) (fun hHeld HT_ HW_ => ?_)
   generalize w7.drew = w8 at BK358 HB hHeld ⊢
   refine pa 0 5 (mb 19 1) HT_ ?_
   refine ta4 1 6 (mb 19 3) HT_ HW_ hHeld ?_
   refine oa 2 7 (mb 19 7) HT_ (fun K hK => ?_)
   refine gA Try.func193 #[.slice A0 l0.length c0, .agg #[.slice A1_0 l1_0.length c1_0, .int .i64 a1_1, .slice A1_2 l1_2.length c1_2, .int .i64 a1_3]] ?_
   with_reducible refine (spec_IsControl.calls k _ _ l0 _ _ l1_0 a1_1 _ _ l1_2 a1_3 true _ ?side1 ?side2 ?side3 ?side4 ?side5 ?side6 A3.out).mono ?_
   (case side1 => exact cB HR0)
   (case side2 => exact HC0.out)
   (case side3 => exact cB HR1_0)
   (case side4 => exact HC1_0.out)
   (case side5 => exact cB HR1_2)
   (case side6 => exact HC1_2.out)
   rintro e w9 ⟨rfl, hb⟩
   refine ⟨_, rfl, ?_⟩
   replace BK358 := kb BK358 hb
   replace HB := bs HB hb
   (try clear hb)
   (try clear hb2)
   (try clear hk)
   (try clear hi)
   refine hK.out _ _ (cn4 BK358) (fun hHeld => ?_)
   clear hK K
   refine nB ?_
   refine pa 3 8 (mb 19 15) HT_ ?_
   refine pa 4 9 (mb 19 31) HT_ ?_
   refine ta4 5 10 (mb 19 63) HT_ HW_ hHeld ?_
   refine pa 6 11 (mb 19 127) HT_ ?_
   refine pa 7 12 (mb 19 255) HT_ ?_
   refine pa 8 13 (mb 19 511) HT_ ?_
   refine pa 9 14 (mb 19 1023) HT_ ?_
   refine pa 10 15 (mb 19 2047) HT_ ?_
   refine pa 12 17 (mb 19 6143) HT_ ?_
   refine pa 13 18 (mb 19 14335) HT_ ?_
   refine ta4 11 16 (mb 19 16383) HT_ HW_ hHeld ?_
   refine ta4 14 19 (mb 19 32767) HT_ HW_ hHeld ?_
   refine oa 15 20 (mb 19 65535) HT_ (fun K hK => ?_)
   refine gA Try.func113 #[.slice A0 l0.length c0, .slice A1_0 l1_0.length c1_0] ?_
   with_reducible refine (spec_LeastGreen.calls k _ _ l0 _ _ l1_0 t360 _ ?side1 ?side2 ?side3 ?side4 A6.out).mono ?_
   (case side1 => exact cB HR0)
   (case side2 => exact HC0.out)
   (case side3 => exact cB HR1_0)
   (case side4 => exact HC1_0.out)
   rintro e w' ⟨rfl, ⟨nd, rfl⟩⟩
   refine ⟨_, rfl, ?_⟩
   refine hK.out _ _ (cn4 BK358) (fun hHeld => ?_)
   clear hK K
   refine nB ?_
   refine pa 16 21 (mb 19 131071) HT_ ?_
   refine pa 17 22 (mb 19 262143) HT_ ?_
   refine pa 18 4 (mb 19 524287) HT_ ?_
   refine eA HT_ ?_
   try go_wp2
   go_ret
   exact ⟨rA, bG⟩
  rw [if_neg c5] at H
  have c5b0 : ((l1_2.length : Int) == 0) = false := beq_eq_false_iff_ne.mpr c5
  have c5b1 : ((l1_2.length : Int) != 0) = true := bne_iff_ne.mpr c5
  have c5b2 : ¬ (l1_2 = []) := fun h_ => c5 (by rw [h_]; rfl)
  obtain rfl := Option.some.inj H
  go_enter Try.func190, Try.ntmps190
  try go_wp2_with (first | ((with_reducible refine gate_dst (N := 3) rfl ?_); (try (refine gate_guard (by rfl) ?_; dsimp only)); refine bE (N := 3) (cs := #[.slice A1_0 l1_0.length c1_0, .int .i64 a1_1, .slice A1_2 l1_2.length c1_2, .int .i64 a1_3]) (t := 66) ?_; intro gb358 hg w10 hbox hb; have BK358 := Aside0.mk (hbox); have GW358 := gw w hg; have GE358 := gw w hg; replace HB := bs HB hb; clear hb hbox hg))
  replace BK358 := dk BK358
  have HBo := HB
  replace HB := db HB
  refine sw (ds := []) 19 (mb 19 0) spec_CanEnd.tab1 spec_CanEnd.bits1 (h4 BK358) (fun hHeld HT_ HW_ => ?_)
  generalize w10.drew = w11 at BK358 HB hHeld ⊢
  refine pa 0 5 (mb 19 1) HT_ ?_
  refine ta4 1 6 (mb 19 3) HT_ HW_ hHeld ?_
  refine oa 2 7 (mb 19 7) HT_ (fun K hK => ?_)
  refine gA Try.func193 #[.slice A0 l0.length c0, .agg #[.slice A1_0 l1_0.length c1_0, .int .i64 a1_1, .slice A1_2 l1_2.length c1_2, .int .i64 a1_3]] ?_
  with_reducible refine (spec_IsControl.calls k _ _ l0 _ _ l1_0 a1_1 _ _ l1_2 a1_3 true _ ?side1 ?side2 ?side3 ?side4 ?side5 ?side6 A3.out).mono ?_
  (case side1 => exact cB HR0)
  (case side2 => exact HC0.out)
  (case side3 => exact cB HR1_0)
  (case side4 => exact HC1_0.out)
  (case side5 => exact cB HR1_2)
  (case side6 => exact HC1_2.out)
  rintro e w12 ⟨rfl, hb⟩
  refine ⟨_, rfl, ?_⟩
  replace BK358 := kb BK358 hb
  replace HB := bs HB hb
  (try clear hb)
  (try clear hb2)
  (try clear hk)
  (try clear hi)
  refine hK.out _ _ (cn4 BK358) (fun hHeld => ?_)
  clear hK K
  refine nB ?_
  refine pa 3 8 (mb 19 15) HT_ ?_
  refine pa 4 9 (mb 19 31) HT_ ?_
  refine ta4 5 10 (mb 19 63) HT_ HW_ hHeld ?_
  refine pa 6 11 (mb 19 127) HT_ ?_
  refine pa 7 12 (mb 19 255) HT_ ?_
  refine pa 8 13 (mb 19 511) HT_ ?_
  refine pa 9 14 (mb 19 1023) HT_ ?_
  refine pu 10 15 (mb 19 2047) HT_ ?_
  refine pu 11 16 (mb 19 4095) HT_ ?_
  refine pu 12 17 (mb 19 8191) HT_ ?_
  refine pu 13 18 (mb 19 16383) HT_ ?_
  refine pu 14 19 (mb 19 32767) HT_ ?_
  refine pu 15 20 (mb 19 65535) HT_ ?_
  refine pu 16 21 (mb 19 131071) HT_ ?_
  refine pa 17 22 (mb 19 262143) HT_ ?_
  refine pa 18 4 (mb 19 524287) HT_ ?_
  refine eA HT_ ?_
  try go_wp2
  go_ret
  exact ⟨rA, bG⟩
 replace c4 := Bool.eq_false_iff.mpr c4
 subst c4
 have H1 : (some false) = some r := by rw [if_neg (show ¬ (false = true) by decide)] at H; exact H
 clear H
 have H := H1
 clear H1
 obtain rfl := Option.some.inj H
 go_enter Try.func190, Try.ntmps190
 try go_wp2_with (first | ((with_reducible refine gate_dst (N := 3) rfl ?_); (try (refine gate_guard (by rfl) ?_; dsimp only)); refine bE (N := 3) (cs := #[.slice A1_0 l1_0.length c1_0, .int .i64 a1_1, .slice A1_2 l1_2.length c1_2, .int .i64 a1_3]) (t := 66) ?_; intro gb358 hg w13 hbox hb; have BK358 := Aside0.mk (hbox); have GW358 := gw w hg; have GE358 := gw w hg; replace HB := bs HB hb; clear hb hbox hg))
 replace BK358 := dk BK358
 have HBo := HB
 replace HB := db HB
 refine sw (ds := []) 19 (mb 19 0) spec_CanEnd.tab1 spec_CanEnd.bits1 (h4 BK358) (fun hHeld HT_ HW_ => ?_)
 generalize w13.drew = w14 at BK358 HB hHeld ⊢
 refine pa 0 5 (mb 19 1) HT_ ?_
 refine ta4 1 6 (mb 19 3) HT_ HW_ hHeld ?_
 refine oa 2 7 (mb 19 7) HT_ (fun K hK => ?_)
 refine gA Try.func193 #[.slice A0 l0.length c0, .agg #[.slice A1_0 l1_0.length c1_0, .int .i64 a1_1, .slice A1_2 l1_2.length c1_2, .int .i64 a1_3]] ?_
 with_reducible refine (spec_IsControl.calls k _ _ l0 _ _ l1_0 a1_1 _ _ l1_2 a1_3 false _ ?side1 ?side2 ?side3 ?side4 ?side5 ?side6 A3.out).mono ?_
 (case side1 => exact cB HR0)
 (case side2 => exact HC0.out)
 (case side3 => exact cB HR1_0)
 (case side4 => exact HC1_0.out)
 (case side5 => exact cB HR1_2)
 (case side6 => exact HC1_2.out)
 rintro e w15 ⟨rfl, hb⟩
 refine ⟨_, rfl, ?_⟩
 replace BK358 := kb BK358 hb
 replace HB := bs HB hb
 (try clear hb)
 (try clear hb2)
 (try clear hk)
 (try clear hi)
 refine hK.out _ _ (cn4 BK358) (fun hHeld => ?_)
 clear hK K
 refine nB ?_
 refine pa 3 8 (mb 19 15) HT_ ?_
 refine pu 4 9 (mb 19 31) HT_ ?_
 refine pu 5 10 (mb 19 63) HT_ ?_
 refine pu 6 11 (mb 19 127) HT_ ?_
 refine pu 7 12 (mb 19 255) HT_ ?_
 refine pa 8 13 (mb 19 511) HT_ ?_
 refine pa 9 14 (mb 19 1023) HT_ ?_
 refine pu 10 15 (mb 19 2047) HT_ ?_
 refine pu 11 16 (mb 19 4095) HT_ ?_
 refine pu 12 17 (mb 19 8191) HT_ ?_
 refine pu 13 18 (mb 19 16383) HT_ ?_
 refine pu 14 19 (mb 19 32767) HT_ ?_
 refine pu 15 20 (mb 19 65535) HT_ ?_
 refine pu 16 21 (mb 19 131071) HT_ ?_
 refine pa 17 22 (mb 19 262143) HT_ ?_
 refine pa 18 4 (mb 19 524287) HT_ ?_
 refine eA HT_ ?_
 try go_wp2
 go_ret
 exact ⟨rA, bG⟩

/-! ### spec_EqualInts: function 191 -/
def spec_EqualInts.l0 : Nat → List Int → List Int → Int → Option (Bool)
 | 0, _, _, _ => none
 | k + 1, x0, x1, x5 => if x5 < (x0.length : Int) then (if 0 ≤ x5 then (if x5 < (x1.length : Int) then (if (rd x0 x5) = (rd x1 x5) then (spec_EqualInts.l0 k x0 x1 (wrap64 (x5 + 1))) else (some false)) else (none)) else (none)) else (some true)
def spec_EqualInts.f (k : Nat) (l0 : List Int) (l1 : List Int) : Option (Bool) := if (l0.length : Int) = (l1.length : Int) then (spec_EqualInts.l0 k l0 l1 0) else (some false)
theorem spec_EqualInts.mono_l : ∀ k, (∀ y0 y1 y2, LeO (spec_EqualInts.l0 k y0 y1 y2) (spec_EqualInts.l0 (k + 1) y0 y1 y2))
 | 0 => fun _ _ _ r h => by simp [spec_EqualInts.l0] at h
 | k + 1 => by
  have ih0 := spec_EqualInts.mono_l k
  ·
   intro y0 y1 y2
   unfold spec_EqualInts.l0
   exact mz1 ih0
theorem spec_EqualInts.mono : ∀ a0 a1 k, LeO (spec_EqualInts.f k a0 a1) (spec_EqualInts.f (k + 1) a0 a1) := by
 intro a0 a1 k
 have ih0 := spec_EqualInts.mono_l k
 unfold spec_EqualInts.f
 exact mz1 ih0
set_option maxHeartbeats 8000000 in
set_option maxRecDepth 100000 in
theorem spec_EqualInts.calls (k : Nat) (A0 : Option Addr) (c0 : Nat) (l0 : List Int) (A1 : Option Addr) (c1 : Nat) (l1 : List Int) (r : Bool) (w : World) (hr0 : Kd.C (Kd.int .i64) w A0 l0.length l0) (hc0 : l0.length ≤ c0) (hr1 : Kd.C (Kd.int .i64) w A1 l1.length l1) (hc1 : l1.length ≤ c1) (h : spec_EqualInts.f k l0 l1 = some r) :
  Calls Try.prog 191 #[.slice A0 l0.length c0, .slice A1 l1.length c1] w fun e w' => e = .returned (.bool r) ∧ Drawn0 w w' := by
 have HR0 := Aside0.mk hr0
 have HC0 := Aside0.mk hc0
 clear hr0 hc0
 have HR1 := Aside0.mk hr1
 have HC1 := Aside0.mk hc1
 clear hr1 hc1
 have H : (if (l0.length : Int) = (l1.length : Int) then (spec_EqualInts.l0 k l0 l1 0) else (some false)) = some r := h
 clear h
 by_cases c3 : (l0.length : Int) = (l1.length : Int)
 ·
  rw [if_pos c3] at H
  have c3b0 : ((l0.length : Int) == (l1.length : Int)) = true := beq_iff_eq.mpr c3
  have c3b1 : ((l0.length : Int) != (l1.length : Int)) = false := bne_eq_false_iff_eq.mpr c3
  have c3b2 : (l0.length == l1.length) = true := by first | simpa using c3 | (simp at c3 ⊢; omega)
  clear c3
  have H' := Aside0.mk H
  clear H
  go_enter Try.func191, Try.ntmps191
  go_wp2
  repeat (go_quiet (fail); try go_wp2)
  go_loopg [5] k (fun kq v5 w' => ∃ (x5_1 : Int), v5 = .int .i64 x5_1 ∧ Aside0 (spec_EqualInts.l0 kq l0 l1 x5_1 = some r) ∧ Aside0 (kq ≤ k) ∧ Drawn0 w w')
  case atStart => exact ⟨(0), rS, H', ⟨Nat.le_refl _⟩, by repeat (first | exact Drawn0.refl _ | apply Drawn0.step)⟩
  case round =>
   clear H'
   obtain ⟨x5_1, rfl, HA, HK1, ⟨m1, rfl⟩⟩ := hrel
   cases gk with
   | zero => exact absurd HA.out (by simp [spec_EqualInts.l0])
   | succ k1 =>
    have H := HA.out
    clear HA
    simp only [spec_EqualInts.l0] at H
    by_cases c4 : x5_1 < (l0.length : Int)
    ·
     rw [if_pos c4] at H
     have c4b0 := decide_eq_true c4
     clear c4
     have c5 : 0 ≤ x5_1 := ifN H
     replace H := ifT H
     have c5b0 := decide_eq_true c5
     clear c5
     have c6 : x5_1 < (l1.length : Int) := ifN H
     replace H := ifT H
     have c6b0 := decide_eq_true c6
     clear c6
     by_cases c7 : (rd l0 x5_1) = (rd l1 x5_1)
     ·
      rw [if_pos c7] at H
      have c7b0 : ((rd l0 x5_1) == (rd l1 x5_1)) = true := beq_iff_eq.mpr c7
      have c7b1 : ((rd l0 x5_1) != (rd l1 x5_1)) = false := bne_eq_false_iff_eq.mpr c7
      clear c7
      have H' := Aside0.mk H
      clear H
      obtain ⟨p361, q361⟩ : 0 ≤ (x5_1 : Int) ∧ x5_1 < (l0.length : Int) := ⟨dA, dA⟩
      obtain ⟨ad361, e361, hx361_0⟩ := Kd.at_int HR0.out x5_1 p361 q361
      cases e361
      obtain ⟨p361, q361⟩ := eT p361 q361
      obtain ⟨p362, q362⟩ : 0 ≤ (x5_1 : Int) ∧ x5_1 < (l1.length : Int) := ⟨dA, dA⟩
      obtain ⟨ad362, e362, hx362_0⟩ := Kd.at_int HR1.out x5_1 p362 q362
      cases e362
      obtain ⟨p362, q362⟩ := eT p362 q362
      go_wp2
      repeat (go_quiet (fail); try go_wp2)
      go_roundg k1
      case measure => have := HK1.out; omega
      case rel => exact ⟨(wrap64 (x5_1 + 1)), rS, H', ⟨by have := HK1.out; omega⟩, by repeat (first | exact Drawn0.refl _ | apply Drawn0.step)⟩
     rw [if_neg c7] at H
     have c7b0 : ((rd l0 x5_1) == (rd l1 x5_1)) = false := beq_eq_false_iff_ne.mpr c7
     have c7b1 : ((rd l0 x5_1) != (rd l1 x5_1)) = true := bne_iff_ne.mpr c7
     obtain rfl := Option.some.inj H
     obtain ⟨p361, q361⟩ : 0 ≤ (x5_1 : Int) ∧ x5_1 < (l0.length : Int) := ⟨dA, dA⟩
     obtain ⟨ad361, e361, hx361_0⟩ := Kd.at_int HR0.out x5_1 p361 q361
     cases e361
     obtain ⟨p361, q361⟩ := eT p361 q361
     obtain ⟨p362, q362⟩ : 0 ≤ (x5_1 : Int) ∧ x5_1 < (l1.length : Int) := ⟨dA, dA⟩
     obtain ⟨ad362, e362, hx362_0⟩ := Kd.at_int HR1.out x5_1 p362 q362
     cases e362
     obtain ⟨p362, q362⟩ := eT p362 q362
     go_wp2
     repeat (go_quiet (fail); try go_wp2)
     go_ret
     exact ⟨rS, dD⟩
    rw [if_neg c4] at H
    have c4b0 := decide_eq_false c4
    clear c4
    obtain rfl := Option.some.inj H
    go_wp2
    repeat (go_quiet (fail); try go_wp2)
    go_ret
    exact ⟨rS, dD⟩
 rw [if_neg c3] at H
 have c3b0 : ((l0.length : Int) == (l1.length : Int)) = false := beq_eq_false_iff_ne.mpr c3
 have c3b1 : ((l0.length : Int) != (l1.length : Int)) = true := bne_iff_ne.mpr c3
 have c3b2 : (l0.length == l1.length) = false := by first | simpa using c3 | (simp at c3 ⊢; omega)
 obtain rfl := Option.some.inj H
 go_enter Try.func191, Try.ntmps191
 go_wp2
 repeat (go_quiet (fail); try go_wp2)
 go_ret
 exact ⟨rS, dD⟩

/-! ### spec_AskStage: function 181 -/
def spec_AskStage.j0 : Nat → List (S50) → List Int → Bool → List Int → Int → List Int → Int → List Int → Int → List Int → Int → Option (List Int × Int × List Int × Int × Bool)
 | 0, _, _, _, _, _, _, _, _, _, _, _ => none
 | k + 1, x0, x2, x32, x364000, x364001, x364002, x364003, x374000, x374001, x374002, x374003 => if x32 = true then (some (x374000, x374001, x374002, x374003, false)) else ((spec_ClearBetween.f k x0 x364000 x2).bind fun t377 => (if t377 = 0 then ((some (([] : List Int) : List Int)).bind fun y378 => (if y378.length + x2.length < 17592186044416 then (some ((y378 ++ x2), 0, ([] : List Int), 0, true)) else (none))) else ((some (([] : List Int) : List Int)).bind fun y384 => (if y384.length + x2.length < 17592186044416 then (some (x374000, x374001, (y384 ++ x2), t377, true)) else (none)))))
def spec_AskStage.f (k : Nat) (l0 : List (S50)) (l1_0 : List Int) (a1_1 : Int) (l1_2 : List Int) (a1_3 : Int) (l2 : List Int) : Option (List Int × Int × List Int × Int × Bool) := (spec_l14Copy.f l1_0 a1_1 l1_2 a1_3).bind fun bt365 => ((spec_CanEnd.f k l0 l1_0 a1_1 l1_2 a1_3).bind fun t374 => (if t374 = true then (if (l2.length : Int) = 0 then (spec_AskStage.j0 k l0 l2 true l1_0 a1_1 l1_2 a1_3 bt365.1 bt365.2.1 bt365.2.2.1 bt365.2.2.2) else ((spec_IsTogether.f k l0 l2).bind fun t375 => (if t375 = true then ((spec_EqualInts.f k l2 l1_0).bind fun t376 => (spec_AskStage.j0 k l0 l2 t376 l1_0 a1_1 l1_2 a1_3 bt365.1 bt365.2.1 bt365.2.2.1 bt365.2.2.2)) else (spec_AskStage.j0 k l0 l2 true l1_0 a1_1 l1_2 a1_3 bt365.1 bt365.2.1 bt365.2.2.1 bt365.2.2.2)))) else (spec_AskStage.j0 k l0 l2 true l1_0 a1_1 l1_2 a1_3 bt365.1 bt365.2.1 bt365.2.2.1 bt365.2.2.2)))
theorem spec_AskStage.mono_l : ∀ k, (∀ y0 y1 y2 y3 y4 y5 y6 y7 y8 y9 y10, LeO (spec_AskStage.j0 k y0 y1 y2 y3 y4 y5 y6 y7 y8 y9 y10) (spec_AskStage.j0 (k + 1) y0 y1 y2 y3 y4 y5 y6 y7 y8 y9 y10))
 | 0 => fun _ _ _ _ _ _ _ _ _ _ _ r h => by simp [spec_AskStage.j0] at h
 | k + 1 => by
  have ih0 := spec_AskStage.mono_l k
  ·
   intro y0 y1 y2 y3 y4 y5 y6 y7 y8 y9 y10
   unfold spec_AskStage.j0
   exact mz5 ih0 spec_CanEnd.mono spec_ClearBetween.mono spec_EqualInts.mono spec_IsTogether.mono
theorem spec_AskStage.mono : ∀ a0 a1 a2 a3 a4 a5 k, LeO (spec_AskStage.f k a0 a1 a2 a3 a4 a5) (spec_AskStage.f (k + 1) a0 a1 a2 a3 a4 a5) := by
 intro a0 a1 a2 a3 a4 a5 k
 have ih0 := spec_AskStage.mono_l k
 unfold spec_AskStage.f
 exact mz5 ih0 spec_CanEnd.mono spec_ClearBetween.mono spec_EqualInts.mono spec_IsTogether.mono
set_option maxHeartbeats 8000000 in
set_option maxRecDepth 100000 in
theorem spec_AskStage.calls (k : Nat) (A0 : Option Addr) (c0 : Nat) (l0 : List (S50)) (A1_0 : Option Addr) (c1_0 : Nat) (l1_0 : List Int) (a1_1 : Int) (A1_2 : Option Addr) (c1_2 : Nat) (l1_2 : List Int) (a1_3 : Int) (A2 : Option Addr) (c2 : Nat) (l2 : List Int) (r1 : List Int) (r2 : Int) (r3 : List Int) (r4 : Int) (r5 : Bool) (w : World) (hr0 : Kd.C k50 w A0 l0.length l0) (hc0 : l0.length ≤ c0) (hr1_0 : Kd.C (Kd.int .i64) w A1_0 l1_0.length l1_0) (hc1_0 : l1_0.length ≤ c1_0) (hr1_2 : Kd.C (Kd.int .i64) w A1_2 l1_2.length l1_2) (hc1_2 : l1_2.length ≤ c1_2) (hr2 : Kd.C (Kd.int .i64) w A2 l2.length l2) (hc2 : l2.length ≤ c2) (h : spec_AskStage.f k l0 l1_0 a1_1 l1_2 a1_3 l2 = some (r1, r2, r3, r4, r5)) :
  Calls Try.prog 181 #[.slice A0 l0.length c0, .agg #[.slice A1_0 l1_0.length c1_0, .int .i64 a1_1, .slice A1_2 l1_2.length c1_2, .int .i64 a1_3], .slice A2 l2.length c2] w fun e w' => ∃ v0_ v2_ : Value, e = .returned (.tuple #[.agg #[v0_, .int .i64 r2, v2_, .int .i64 r4], .bool r5]) ∧ Kd.R (Kd.int .i64) 3 w' w.heap.size (n1 v2_) v0_ r1 ∧ Kd.R (Kd.int .i64) 3 w' w.heap.size (n1 v0_) v2_ r3 ∧ Below w.heap.size w w' := by
 have hu66 := Try.underlying66
 have HR0 := Aside0.mk hr0
 have HC0 := Aside0.mk hc0
 clear hr0 hc0
 have HR1_0 := Aside0.mk hr1_0
 have HC1_0 := Aside0.mk hc1_0
 clear hr1_0 hc1_0
 have HR1_2 := Aside0.mk hr1_2
 have HC1_2 := Aside0.mk hc1_2
 clear hr1_2 hc1_2
 have HR2 := Aside0.mk hr2
 have HC2 := Aside0.mk hc2
 clear hr2 hc2
 have HB := Aside0.mk (Below.refl w.heap.size w)
 have H : ((spec_l14Copy.f l1_0 a1_1 l1_2 a1_3).bind fun bt365 => ((spec_CanEnd.f k l0 l1_0 a1_1 l1_2 a1_3).bind fun t374 => (if t374 = true then (if (l2.length : Int) = 0 then (spec_AskStage.j0 k l0 l2 true l1_0 a1_1 l1_2 a1_3 bt365.1 bt365.2.1 bt365.2.2.1 bt365.2.2.2) else ((spec_IsTogether.f k l0 l2).bind fun t375 => (if t375 = true then ((spec_EqualInts.f k l2 l1_0).bind fun t376 => (spec_AskStage.j0 k l0 l2 t376 l1_0 a1_1 l1_2 a1_3 bt365.1 bt365.2.1 bt365.2.2.1 bt365.2.2.2)) else (spec_AskStage.j0 k l0 l2 true l1_0 a1_1 l1_2 a1_3 bt365.1 bt365.2.1 bt365.2.2.1 bt365.2.2.2)))) else (spec_AskStage.j0 k l0 l2 true l1_0 a1_1 l1_2 a1_3 bt365.1 bt365.2.1 bt365.2.2.1 bt365.2.2.2)))) = some (r1, r2, r3, r4, r5) := h
 clear h
 obtain ⟨⟨t365, t368, t369, t372⟩, A4, H⟩ := bindE H
 try dsimp only at H
 have HC5 := Aside0.mk H
 clear H
 go_enter Try.func181, Try.ntmps181
 go_upto_region 2 with (first | ((with_reducible refine gate_dst (N := 4) rfl ?_); (try (refine gate_guard (by rfl) ?_; dsimp only)); refine bE (N := 4) (cs := #[.slice A1_0 l1_0.length c1_0, .int .i64 a1_1, .slice A1_2 l1_2.length c1_2, .int .i64 a1_3]) (t := 66) ?_; intro gb363 hg w6 hbox hb; have BK363 := Aside0.mk (hbox); have GW363 := gw w hg; have GE363 := gw w hg; replace HB := bs HB hb; clear hb hbox hg) | ((with_reducible refine gate_dst (N := 6) rfl ?_); (try (refine gate_guard (by rfl) ?_; dsimp only)); refine bE (N := 6) (cs := #[.slice none 0 0, .int .i64 0, .slice none 0 0, .int .i64 0]) (t := 66) ?_; intro gb364 hg w7 hbox hb; have BK364 := Aside0.mk (hbox); have GW364 := gw w hg; have GE364 := gw w hg; replace HB := bs HB hb; have NB363_364 := nl BK363 hg; have NB364_363 := nr BK363 hg; replace BK363 := kb BK363 hb; clear hb hbox hg; have hnb8 := NB363_364.out; have hnc8 := NB364_363.out; obtain ⟨_, _, _, _, _, _, _, _⟩ := blkc4 BK363) | ((with_reducible refine gate_callee (f := 189) rfl ?_); refine gL (some 11) Try.func189 #[.agg #[.slice A1_0 l1_0.length c1_0, .int .i64 a1_1, .slice A1_2 l1_2.length c1_2, .int .i64 a1_3]] ?_; (with_reducible refine (spec_l14Copy.calls _ _ l1_0 a1_1 _ _ l1_2 a1_3 t365 t368 t369 t372 _ ?_ ?_ ?_ ?_ A4.out).mono ?_); exact cB HR1_0; exact HC1_0.out; exact cB HR1_2; exact HC1_2.out; rintro e w10 ⟨v366, v370, rfl, ho0, ho1, hb⟩; refine ⟨_, rfl, ?_⟩; have HO367 := rl w ho0; have HO371 := rl w ho1; replace BK363 := kb BK363 hb; replace BK364 := kb BK364 hb; replace HB := bs HB hb; (try clear hb); (try clear ho0); (try clear ho1)) | ((with_reducible refine gate_dst (N := 8) rfl ?_); (try (refine gate_guard (by rfl) ?_; dsimp only)); refine bE (N := 8) (cs := #[.slice none 0 0, .int .i64 0, .slice none 0 0, .int .i64 0]) (t := 66) ?_; intro gb373 hg w11 hbox hb; replace HO367 := rb HO367 hb; replace HO371 := rb HO371 hb; have BK373 := Aside0.mk (hbox); have GW373 := gw w hg; have GE373 := gw w hg; replace HB := bs HB hb; have NB363_373 := nl BK363 hg; have NB373_363 := nr BK363 hg; replace BK363 := kb BK363 hb; have NB364_373 := nl BK364 hg; have NB373_364 := nr BK364 hg; replace BK364 := kb BK364 hb; clear hb hbox hg; obtain ⟨Ao12, co12, eo12⟩ := Kd.R_slice HO367.out; subst eo12; have hnb13 := NB373_363.out; have hnc13 := NB363_373.out; have hnb14 := NB373_364.out; have hnc14 := NB364_373.out; obtain ⟨_, _, _, _, _, _, _, _⟩ := blkc4 BK373; obtain ⟨Ao16, co16, eo16⟩ := Kd.R_slice HO371.out; subst eo16))
 (try simp only [Act.put, List.setIfInBounds_toArray, List.set_cons_zero, List.set_cons_succ])
 go_cut [32] (fun v32 wc => ∃ (kq : Nat) (x32_4 : Bool), v32 = .bool x32_4 ∧ Aside0 (spec_AskStage.j0 kq l0 l2 x32_4 l1_0 a1_1 l1_2 a1_3 t365 t368 t369 t372 = some (r1, r2, r3, r4, r5)) ∧ Aside0 (kq ≤ k) ∧ Aside0 (Kd.R (Kd.int .i64) 3 wc w.heap.size (n1 (.slice Ao16 t369.length co16)) (.slice Ao12 t365.length co12) t365) ∧ Aside0 (Kd.R (Kd.int .i64) 3 wc w.heap.size (n1 (.slice Ao12 t365.length co12)) (.slice Ao16 t369.length co16) t369) ∧ Aside0 (wc.heap[gb363]? = some (.cells #[(.slice A1_0 l1_0.length c1_0), .int .i64 a1_1, (.slice A1_2 l1_2.length c1_2), .int .i64 a1_3] 66 (0, 0))) ∧ Aside0 (wc.heap[gb364]? = some (.cells #[(.slice none 0 0), .int .i64 0, (.slice none 0 0), .int .i64 0] 66 (0, 0))) ∧ Aside0 (wc.heap[gb373]? = some (.cells #[(.slice Ao12 t365.length co12), .int .i64 t368, (.slice Ao16 t369.length co16), .int .i64 t372] 66 (0, 0))) ∧ Aside0 (Below w.heap.size w wc))
 case first =>
  have H := HC5.out
  clear HC5
  obtain ⟨t374, A17, H⟩ := bindE H
  try dsimp only at H
  by_cases c18 : t374 = true
  ·
   subst c18
   have H1 : (if (l2.length : Int) = 0 then (spec_AskStage.j0 k l0 l2 true l1_0 a1_1 l1_2 a1_3 t365 t368 t369 t372) else ((spec_IsTogether.f k l0 l2).bind fun t375 => (if t375 = true then ((spec_EqualInts.f k l2 l1_0).bind fun t376 => (spec_AskStage.j0 k l0 l2 t376 l1_0 a1_1 l1_2 a1_3 t365 t368 t369 t372)) else (spec_AskStage.j0 k l0 l2 true l1_0 a1_1 l1_2 a1_3 t365 t368 t369 t372)))) = some (r1, r2, r3, r4, r5) := by rw [if_pos rfl] at H; exact H
   clear H
   have H := H1
   clear H1
   by_cases c19 : (l2.length : Int) = 0
   ·
    rw [if_pos c19] at H
    have c19b0 : ((l2.length : Int) == 0) = true := beq_iff_eq.mpr c19
    have c19b1 : ((l2.length : Int) != 0) = false := bne_eq_false_iff_eq.mpr c19
    clear c19
    (first | rw [c19b0] | (simp only [i64_w, i32_w]; rw [c19b0]) | skip)
    have H' := Aside0.mk H
    clear H
    have hnb20 := NB363_364.out
    have hnc20 := NB364_363.out
    have hnb21 := NB363_373.out
    have hnc21 := NB373_363.out
    obtain ⟨_, _, _, _, _, _, _, _⟩ := blkc4 BK363
    go_wp2_with (first | ((with_reducible refine gate_callee (f := 190) rfl ?_); refine gL (some 14) Try.func190 #[.slice A0 l0.length c0, .agg #[.slice A1_0 l1_0.length c1_0, .int .i64 a1_1, .slice A1_2 l1_2.length c1_2, .int .i64 a1_3]] ?_; (with_reducible refine (spec_CanEnd.calls k _ _ l0 _ _ l1_0 a1_1 _ _ l1_2 a1_3 true _ ?_ ?_ ?_ ?_ ?_ ?_ A17.out).mono ?_); exact Kd.C_below HR0.out bG; exact HC0.out; exact Kd.C_below HR1_0.out bG; exact HC1_0.out; exact Kd.C_below HR1_2.out bG; exact HC1_2.out; rintro e w23 ⟨rfl, hb⟩; refine ⟨_, rfl, ?_⟩; replace HO367 := Aside0.mk (Kd.R_below (rf HO367 BK373) hb); replace HO371 := Aside0.mk (Kd.R_below (rf HO371 BK373) hb); replace BK363 := kc (kf BK363 NB363_373) hb; replace BK364 := kc (kf BK364 NB364_373) hb; replace BK373 := kc (o := .cells #[.slice Ao12 t365.length co12, .int .i64 t368, .slice Ao16 t369.length co16, .int .i64 t372] 66 (0, 0)) (kp BK373) hb; replace HB := bs HB hb; (try clear hb)))
    go_meet
    case rel => exact ⟨_, (true), rS, H', ⟨oL⟩, ⟨rK HO367⟩, ⟨rK HO371⟩, ⟨bK BK363⟩, ⟨bK BK364⟩, ⟨bK BK373⟩, ⟨bG⟩⟩
   rw [if_neg c19] at H
   have c19b0 : ((l2.length : Int) == 0) = false := beq_eq_false_iff_ne.mpr c19
   have c19b1 : ((l2.length : Int) != 0) = true := bne_iff_ne.mpr c19
   have c19b2 : ¬ (l2 = []) := fun h_ => c19 (by rw [h_]; rfl)
   (first | rw [c19b0] | (simp only [i64_w, i32_w]; rw [c19b0]) | skip)
   obtain ⟨t375, A24, H⟩ := bindE H
   try dsimp only at H
   by_cases c25 : t375 = true
   ·
    subst c25
    have H1 : ((spec_EqualInts.f k l2 l1_0).bind fun t376 => (spec_AskStage.j0 k l0 l2 t376 l1_0 a1_1 l1_2 a1_3 t365 t368 t369 t372)) = some (r1, r2, r3, r4, r5) := by rw [if_pos rfl] at H; exact H
    clear H
    have H := H1
    clear H1
    obtain ⟨t376, A26, H⟩ := bindE H
    try dsimp only at H
    have H' := Aside0.mk H
    clear H
    have hnb27 := NB363_364.out
    have hnc27 := NB364_363.out
    have hnb28 := NB363_373.out
    have hnc28 := NB373_363.out
    obtain ⟨_, _, _, _, _, _, _, _⟩ := blkc4 BK363
    go_wp2_with (first | ((with_reducible refine gate_callee (f := 190) rfl ?_); refine gL (some 14) Try.func190 #[.slice A0 l0.length c0, .agg #[.slice A1_0 l1_0.length c1_0, .int .i64 a1_1, .slice A1_2 l1_2.length c1_2, .int .i64 a1_3]] ?_; (with_reducible refine (spec_CanEnd.calls k _ _ l0 _ _ l1_0 a1_1 _ _ l1_2 a1_3 true _ ?_ ?_ ?_ ?_ ?_ ?_ A17.out).mono ?_); exact Kd.C_below HR0.out bG; exact HC0.out; exact Kd.C_below HR1_0.out bG; exact HC1_0.out; exact Kd.C_below HR1_2.out bG; exact HC1_2.out; rintro e w30 ⟨rfl, hb⟩; refine ⟨_, rfl, ?_⟩; replace HO367 := Aside0.mk (Kd.R_below (rf HO367 BK373) hb); replace HO371 := Aside0.mk (Kd.R_below (rf HO371 BK373) hb); replace BK363 := kc (kf BK363 NB363_373) hb; replace BK364 := kc (kf BK364 NB364_373) hb; replace BK373 := kc (o := .cells #[.slice Ao12 t365.length co12, .int .i64 t368, .slice Ao16 t369.length co16, .int .i64 t372] 66 (0, 0)) (kp BK373) hb; replace HB := bs HB hb; (try clear hb)) | (go_at_call 112; (with_reducible refine (spec_IsTogether.calls k _ _ l0 _ _ l2 true _ ?_ ?_ ?_ ?_ A24.out).mono ?_); exact cB HR0; exact HC0.out; exact cB HR2; exact HC2.out; rintro e w31 ⟨rfl, hb⟩; replace HO367 := rb HO367 hb; replace HO371 := rb HO371 hb; replace BK363 := kb BK363 hb; replace BK364 := kb BK364 hb; replace BK373 := kb BK373 hb; replace HB := bs HB hb; (try clear hb); obtain ⟨_, _, _, _, _, _, _, _⟩ := blkc4 BK363) | (go_at_call 191; (with_reducible refine (spec_EqualInts.calls k _ _ l2 _ _ l1_0 t376 _ ?_ ?_ ?_ ?_ A26.out).mono ?_); exact cB HR2; exact HC2.out; exact cB HR1_0; exact HC1_0.out; rintro e w' ⟨rfl, ⟨nd, rfl⟩⟩))
    go_meet
    case rel => exact ⟨_, (t376), rS, H', ⟨oL⟩, ⟨rK HO367⟩, ⟨rK HO371⟩, ⟨bK BK363⟩, ⟨bK BK364⟩, ⟨bK BK373⟩, ⟨bG⟩⟩
   replace c25 := Bool.eq_false_iff.mpr c25
   subst c25
   have H1 : (spec_AskStage.j0 k l0 l2 true l1_0 a1_1 l1_2 a1_3 t365 t368 t369 t372) = some (r1, r2, r3, r4, r5) := by rw [if_neg (show ¬ (false = true) by decide)] at H; exact H
   clear H
   have H := H1
   clear H1
   have H' := Aside0.mk H
   clear H
   have hnb33 := NB363_364.out
   have hnc33 := NB364_363.out
   have hnb34 := NB363_373.out
   have hnc34 := NB373_363.out
   obtain ⟨_, _, _, _, _, _, _, _⟩ := blkc4 BK363
   go_wp2_with (first | ((with_reducible refine gate_callee (f := 190) rfl ?_); refine gL (some 14) Try.func190 #[.slice A0 l0.length c0, .agg #[.slice A1_0 l1_0.length c1_0, .int .i64 a1_1, .slice A1_2 l1_2.length c1_2, .int .i64 a1_3]] ?_; (with_reducible refine (spec_CanEnd.calls k _ _ l0 _ _ l1_0 a1_1 _ _ l1_2 a1_3 true _ ?_ ?_ ?_ ?_ ?_ ?_ A17.out).mono ?_); exact Kd.C_below HR0.out bG; exact HC0.out; exact Kd.C_below HR1_0.out bG; exact HC1_0.out; exact Kd.C_below HR1_2.out bG; exact HC1_2.out; rintro e w36 ⟨rfl, hb⟩; refine ⟨_, rfl, ?_⟩; replace HO367 := Aside0.mk (Kd.R_below (rf HO367 BK373) hb); replace HO371 := Aside0.mk (Kd.R_below (rf HO371 BK373) hb); replace BK363 := kc (kf BK363 NB363_373) hb; replace BK364 := kc (kf BK364 NB364_373) hb; replace BK373 := kc (o := .cells #[.slice Ao12 t365.length co12, .int .i64 t368, .slice Ao16 t369.length co16, .int .i64 t372] 66 (0, 0)) (kp BK373) hb; replace HB := bs HB hb; (try clear hb)) | (go_at_call 112; (with_reducible refine (spec_IsTogether.calls k _ _ l0 _ _ l2 false _ ?_ ?_ ?_ ?_ A24.out).mono ?_); exact cB HR0; exact HC0.out; exact cB HR2; exact HC2.out; rintro e w37 ⟨rfl, hb⟩; replace HO367 := rb HO367 hb; replace HO371 := rb HO371 hb; replace BK363 := kb BK363 hb; replace BK364 := kb BK364 hb; replace BK373 := kb BK373 hb; replace HB := bs HB hb; (try clear hb)))
   go_meet
   case rel => exact ⟨_, (true), rS, H', ⟨oL⟩, ⟨rK HO367⟩, ⟨rK HO371⟩, ⟨bK BK363⟩, ⟨bK BK364⟩, ⟨bK BK373⟩, ⟨bG⟩⟩
  replace c18 := Bool.eq_false_iff.mpr c18
  subst c18
  have H1 : (spec_AskStage.j0 k l0 l2 true l1_0 a1_1 l1_2 a1_3 t365 t368 t369 t372) = some (r1, r2, r3, r4, r5) := by rw [if_neg (show ¬ (false = true) by decide)] at H; exact H
  clear H
  have H := H1
  clear H1
  have H' := Aside0.mk H
  clear H
  have hnb38 := NB363_364.out
  have hnc38 := NB364_363.out
  have hnb39 := NB363_373.out
  have hnc39 := NB373_363.out
  obtain ⟨_, _, _, _, _, _, _, _⟩ := blkc4 BK363
  go_wp2_with (first | ((with_reducible refine gate_callee (f := 190) rfl ?_); refine gL (some 14) Try.func190 #[.slice A0 l0.length c0, .agg #[.slice A1_0 l1_0.length c1_0, .int .i64 a1_1, .slice A1_2 l1_2.length c1_2, .int .i64 a1_3]] ?_; (with_reducible refine (spec_CanEnd.calls k _ _ l0 _ _ l1_0 a1_1 _ _ l1_2 a1_3 false _ ?_ ?_ ?_ ?_ ?_ ?_ A17.out).mono ?_); exact Kd.C_below HR0.out bG; exact HC0.out; exact Kd.C_below HR1_0.out bG; exact HC1_0.out; exact Kd.C_below HR1_2.out bG; exact HC1_2.out; rintro e w41 ⟨rfl, hb⟩; refine ⟨_, rfl, ?_⟩; replace HO367 := Aside0.mk (Kd.R_below (rf HO367 BK373) hb); replace HO371 := Aside0.mk (Kd.R_below (rf HO371 BK373) hb); replace BK363 := kc (kf BK363 NB363_373) hb; replace BK364 := kc (kf BK364 NB364_373) hb; replace BK373 := kc (o := .cells #[.slice Ao12 t365.length co12, .int .i64 t368, .slice Ao16 t369.length co16, .int .i64 t372] 66 (0, 0)) (kp BK373) hb; replace HB := bs HB hb; (try clear hb)))
  go_meet
  case rel => exact ⟨_, (true), rS, H', ⟨oL⟩, ⟨rK HO367⟩, ⟨rK HO371⟩, ⟨bK BK363⟩, ⟨bK BK364⟩, ⟨bK BK373⟩, ⟨bG⟩⟩
 case rest =>
  clear HC5
  obtain ⟨kq, x32_4, rfl, HA, HJ4, HO_374000, HO_374002, BK363, BK364, BK373, HB⟩ := hcut
  cases kq with
  | zero => exact absurd HA.out (by simp [spec_AskStage.j0])
  | succ kj4 =>
   have H := HA.out
   clear HA
   simp only [spec_AskStage.j0] at H
   by_cases c42 : x32_4 = true
   ·
    subst c42
    have H1 : (some (t365, t368, t369, t372, false)) = some (r1, r2, r3, r4, r5) := by rw [if_pos rfl] at H; exact H
    clear H
    have H := H1
    clear H1
    simp only [Option.some.injEq, Prod.mk.injEq] at H
    obtain ⟨rfl, rfl, rfl, rfl, rfl⟩ := H
    have hnb43 := NB373_363.out
    have hnc43 := NB363_373.out
    have hnb44 := NB373_364.out
    have hnc44 := NB364_373.out
    obtain ⟨_, _, _, _, _, _, _, _⟩ := blkc4 BK373
    have hnb46 := NB364_363.out
    have hnc46 := NB363_364.out
    obtain ⟨_, _, _, _, _, _, _, _⟩ := blkc4 BK364
    go_wp2
    refine bodyPost_ret (results_ct rfl _ _ gb364 66 #[.slice Ao12 t365.length co12, .int .i64 t368, .slice Ao16 t369.length co16, .int .i64 t372] (0, 0) _ rfl (kp BK364) Try.underlying66 rfl (by kernel_rfl)) rfl ?_
    exact ⟨_, _, rA, rf HO_374000 BK364, rf HO_374002 BK364, bG⟩
   replace c42 := Bool.eq_false_iff.mpr c42
   subst c42
   have H1 : ((spec_ClearBetween.f kj4 l0 l1_0 l2).bind fun t377 => (if t377 = 0 then ((some (([] : List Int) : List Int)).bind fun y378 => (if y378.length + l2.length < 17592186044416 then (some ((y378 ++ l2), 0, ([] : List Int), 0, true)) else (none))) else ((some (([] : List Int) : List Int)).bind fun y384 => (if y384.length + l2.length < 17592186044416 then (some (t365, t368, (y384 ++ l2), t377, true)) else (none))))) = some (r1, r2, r3, r4, r5) := by rw [if_neg (show ¬ (false = true) by decide)] at H; exact H
   clear H
   have H := H1
   clear H1
   obtain ⟨t377, A48, H⟩ := bindE H
   try dsimp only at H
   by_cases c49 : t377 = 0
   ·
    rw [if_pos c49] at H
    have c49b0 : (t377 == 0) = true := beq_iff_eq.mpr c49
    have c49b1 : (t377 != 0) = false := bne_eq_false_iff_eq.mpr c49
    clear c49
    obtain ⟨y378, hy378⟩ : ∃ y_ : List Int, y_ = (([] : List Int)) := ⟨_, rfl⟩
    replace H : (if y378.length + l2.length < 17592186044416 then (some ((y378 ++ l2), 0, ([] : List Int), 0, true)) else (none)) = some (r1, r2, r3, r4, r5) := rH H hy378
    have Ny378 := Aside0.mk hy378
    clear hy378
    have c50 : y378.length + l2.length < 17592186044416 := ifN H
    replace H := ifT H
    have LMc50 := Aside0.mk c50
    clear c50
    obtain ⟨y381, hy381⟩ : ∃ y_ : List Int, y_ = (y378 ++ l2) := ⟨_, rfl⟩
    replace H : (some (y381, 0, ([] : List Int), 0, true)) = some (r1, r2, r3, r4, r5) := rH H hy381
    have Ny381 := Aside0.mk hy381
    clear hy381
    simp only [Option.some.injEq, Prod.mk.injEq] at H
    obtain ⟨rfl, rfl, rfl, rfl, rfl⟩ := H
    have hnb51 := NB363_364.out
    have hnc51 := NB364_363.out
    have hnb52 := NB363_373.out
    have hnc52 := NB373_363.out
    obtain ⟨_, _, _, _, _, _, _, _⟩ := blkc4 BK363
    go_wp2_with (first | ((with_reducible refine gate_callee (f := 192) rfl ?_); refine gL (some 38) Try.func192 #[.slice A0 l0.length c0, .slice A1_0 l1_0.length c1_0, .slice A2 l2.length c2] ?_; (with_reducible refine (spec_ClearBetween.calls kj4 _ _ l0 _ _ l1_0 _ _ l2 t377 _ ?_ ?_ ?_ ?_ ?_ ?_ A48.out).mono ?_); exact cB HR0; exact HC0.out; exact cB HR1_0; exact HC1_0.out; exact cB HR2; exact HC2.out; rintro e w54 ⟨rfl, hb⟩; refine ⟨_, rfl, ?_⟩; replace HO_374000 := rb HO_374000 hb; replace HO_374002 := rb HO_374002 hb; replace BK363 := kb BK363 hb; replace BK364 := kb BK364 hb; replace BK373 := kb BK373 hb; replace HB := bs HB hb; (try clear hb)) | ((with_reducible refine gate_dst (N := 41) rfl ?_); (try (refine gate_guard (by rfl) ?_; dsimp only)); refine Kd.R_lit (Kd.int .i64) _ 3 ?hg (N := 41) ?hd (xs := ([] : List Int)) (inner := []) (ok := fun _ => True) (okp := fun _ => True) ?hr ?hp (fun _ hk => hk) trivial (Below.refl _ _) (Nat.le_refl _) (by simp) ?_; (case hd => rfl); (case hg => rfl); (case hr => first | (go_simp; done) | (go_simp; rfl)); (case hp => exact (Reps.none _ _)); intro v379 w55 ho56 hb hg_ hnew_; clear hg_ hnew_; (first | rw [← Ny378.out] at ho56 | (simp only [Int.reduceToNat] at ho56; rw [← Ny378.out] at ho56)); have HO380 := rl w (rn (rn ho56 HO_374000) HO_374002); replace HO_374000 := re HO_374000 ho56 hb; replace HO_374002 := re HO_374002 ho56 hb; replace BK363 := kb BK363 hb; replace BK364 := kb BK364 hb; replace BK373 := kb BK373 hb; replace HB := bs HB hb; clear hb ho56) | ((with_reducible refine gate_builtin (b := .append) (xs := #[.tmp 41, .tmp 42]) rfl ?_); (try (refine gate_guard (by rfl) ?_; dsimp only)); at_builtin; refine Kd.R_append_rows (Kd.int .i64) (w0 := w) w.heap.size rfl (.tmp 41) (.tmp 42) 35 3 (.int .i64 0) 8 rfl Try.underlying35 info3 rfl (by decide) (by omega) v379 y378 l2 _ _ _ (n2 (.slice Ao12 t365.length co12) (.slice Ao16 t369.length co16)) (fun _ => False) rfl rfl ?aO ?aR (fun _ _ h => h) (fun _ h => h.elim) ?aF ?aB ?aS ?aL ?_; (case aR => repeat (first | exact (Kd.C_below HR2.out HB.out) | (with_reducible refine Kd.C_alloc ?_ _) | (with_reducible refine Kd.C_drewN ?_ _) | (with_reducible refine Kd.C_drew ?_))); (case aB => exact bG); (case aF => exact (fun k_ hk => ⟨Kd.fresh' (Kd.R_lt (rK HO_374000)) k_ hk, Kd.fresh' (Kd.R_lt (rK HO_374002)) k_ hk⟩)); (case aO => exact (rm HO380 (fun _ hk => ⟨hk.1.2, hk.2⟩))); (case aS => exact (below_size bG)); (case aL => have := LMc50.out; omega); intro v382 w57 ho hb hg hat; rw [← Ny381.out] at ho; have n0_ := Aside0.mk (Kd.R_after (ok := (n1 (.slice Ao16 t369.length co16))) (rK HO_374000) hg hat); have n1_ := Aside0.mk (Kd.R_after (ok := (n1 (.slice Ao12 t365.length co12))) (rK HO_374002) hg hat); have n2_ := Aside0.mk (blk_grown (g := gb363) (o := .cells #[.slice A1_0 l1_0.length c1_0, .int .i64 a1_1, .slice A1_2 l1_2.length c1_2, .int .i64 a1_3] 66 (0, 0)) (bK BK363) hg (Kd.R_ne HO380.out BK363.out (by decide))); have n3_ := Aside0.mk (blk_grown (g := gb364) (o := .cells #[.slice none 0 0, .int .i64 0, .slice none 0 0, .int .i64 0] 66 (0, 0)) (bK BK364) hg (Kd.R_ne HO380.out BK364.out (by decide))); have n4_ := Aside0.mk (blk_grown (g := gb373) (o := .cells #[.slice Ao12 t365.length co12, .int .i64 t368, .slice Ao16 t369.length co16, .int .i64 t372] 66 (0, 0)) (bK BK373) hg (Kd.R_ne HO380.out BK373.out (by decide))); have n5_ := Aside0.mk (hb); have n6_ := Aside0.mk (ho); clear HO_374000; clear HO_374002; clear BK363; clear BK364; clear BK373; clear HB; clear HO380; have HO_374000 := n0_; have HO_374002 := n1_; have BK363 := n2_; have BK364 := n3_; have BK373 := n4_; have HB := n5_; have HO383 := n6_; clear n0_ n1_ n2_ n3_ n4_ n5_ n6_; clear ho hb hg hat; obtain ⟨Ao58, co58, eo58⟩ := Kd.R_slice HO383.out; subst eo58; have hnb59 := NB364_373.out; have hnc59 := NB373_364.out; obtain ⟨_, _, _, _, _, _, _, _⟩ := blkc4 BK364))
    refine bodyPost_ret (results_ct rfl _ _ gb364 66 #[.slice Ao58 y381.length co58, .int .i64 0, .slice none 0 0, .int .i64 0] (0, 0) _ rfl (kp BK364) Try.underlying66 rfl (by kernel_rfl)) rfl ?_
    exact ⟨_, _, rA, Kd.R_mono (rf HO383 BK364) (fun _ hk => (by simp [Value.ownBlock])), by first | exact Kd.R_nil _ _ _ _ _ | exact Kd.N_nil _ _ _ _ _ | exact Kd.V_nil _ _ _ _ _ | exact Kd.Q_nil _ _ _ _ _ | exact Kd.S_nil _ _ _ _ _, bG⟩
   rw [if_neg c49] at H
   have c49b0 : (t377 == 0) = false := beq_eq_false_iff_ne.mpr c49
   have c49b1 : (t377 != 0) = true := bne_iff_ne.mpr c49
   obtain ⟨y384, hy384⟩ : ∃ y_ : List Int, y_ = (([] : List Int)) := ⟨_, rfl⟩
   replace H : (if y384.length + l2.length < 17592186044416 then (some (t365, t368, (y384 ++ l2), t377, true)) else (none)) = some (r1, r2, r3, r4, r5) := rH H hy384
   have Ny384 := Aside0.mk hy384
   clear hy384
   have c61 : y384.length + l2.length < 17592186044416 := ifN H
   replace H := ifT H
   have LMc61 := Aside0.mk c61
   clear c61
   obtain ⟨y387, hy387⟩ : ∃ y_ : List Int, y_ = (y384 ++ l2) := ⟨_, rfl⟩
   replace H : (some (t365, t368, y387, t377, true)) = some (r1, r2, r3, r4, r5) := rH H hy387
   have Ny387 := Aside0.mk hy387
   clear hy387
   simp only [Option.some.injEq, Prod.mk.injEq] at H
   obtain ⟨rfl, rfl, rfl, rfl, rfl⟩ := H
   have hnb62 := NB363_364.out
   have hnc62 := NB364_363.out
   have hnb63 := NB363_373.out
   have hnc63 := NB373_363.out
   obtain ⟨_, _, _, _, _, _, _, _⟩ := blkc4 BK363
   go_wp2_with (first | ((with_reducible refine gate_callee (f := 192) rfl ?_); refine gL (some 38) Try.func192 #[.slice A0 l0.length c0, .slice A1_0 l1_0.length c1_0, .slice A2 l2.length c2] ?_; (with_reducible refine (spec_ClearBetween.calls kj4 _ _ l0 _ _ l1_0 _ _ l2 t377 _ ?_ ?_ ?_ ?_ ?_ ?_ A48.out).mono ?_); exact cB HR0; exact HC0.out; exact cB HR1_0; exact HC1_0.out; exact cB HR2; exact HC2.out; rintro e w65 ⟨rfl, hb⟩; refine ⟨_, rfl, ?_⟩; replace HO_374000 := rb HO_374000 hb; replace HO_374002 := rb HO_374002 hb; replace BK363 := kb BK363 hb; replace BK364 := kb BK364 hb; replace BK373 := kb BK373 hb; replace HB := bs HB hb; (try clear hb)) | ((with_reducible refine gate_dst (N := 45) rfl ?_); (try (refine gate_guard (by rfl) ?_; dsimp only)); refine Kd.R_lit (Kd.int .i64) _ 3 ?hg (N := 45) ?hd (xs := ([] : List Int)) (inner := []) (ok := fun _ => True) (okp := fun _ => True) ?hr ?hp (fun _ hk => hk) trivial (Below.refl _ _) (Nat.le_refl _) (by simp) ?_; (case hd => rfl); (case hg => rfl); (case hr => first | (go_simp; done) | (go_simp; rfl)); (case hp => exact (Reps.none _ _)); intro v385 w66 ho67 hb hg_ hnew_; clear hg_ hnew_; (first | rw [← Ny384.out] at ho67 | (simp only [Int.reduceToNat] at ho67; rw [← Ny384.out] at ho67)); have HO386 := rl w (rn (rn ho67 HO_374000) HO_374002); replace HO_374000 := re HO_374000 ho67 hb; replace HO_374002 := re HO_374002 ho67 hb; replace BK363 := kb BK363 hb; replace BK364 := kb BK364 hb; replace BK373 := kb BK373 hb; replace HB := bs HB hb; clear hb ho67) | ((with_reducible refine gate_builtin (b := .append) (xs := #[.tmp 45, .tmp 46]) rfl ?_); (try (refine gate_guard (by rfl) ?_; dsimp only)); at_builtin; refine Kd.R_append_rows (Kd.int .i64) (w0 := w) w.heap.size rfl (.tmp 45) (.tmp 46) 35 3 (.int .i64 0) 8 rfl Try.underlying35 info3 rfl (by decide) (by omega) v385 y384 l2 _ _ _ (n2 (.slice Ao12 t365.length co12) (.slice Ao16 t369.length co16)) (fun _ => False) rfl rfl ?aO ?aR (fun _ _ h => h) (fun _ h => h.elim) ?aF ?aB ?aS ?aL ?_; (case aR => repeat (first | exact (Kd.C_below HR2.out HB.out) | (with_reducible refine Kd.C_alloc ?_ _) | (with_reducible refine Kd.C_drewN ?_ _) | (with_reducible refine Kd.C_drew ?_))); (case aB => exact bG); (case aF => exact (fun k_ hk => ⟨Kd.fresh' (Kd.R_lt (rK HO_374000)) k_ hk, Kd.fresh' (Kd.R_lt (rK HO_374002)) k_ hk⟩)); (case aO => exact (rm HO386 (fun _ hk => ⟨hk.1.2, hk.2⟩))); (case aS => exact (below_size bG)); (case aL => have := LMc61.out; omega); intro v388 w68 ho hb hg hat; rw [← Ny387.out] at ho; have n0_ := Aside0.mk (Kd.R_after (ok := (n1 (.slice Ao16 t369.length co16))) (rK HO_374000) hg hat); have n1_ := Aside0.mk (Kd.R_after (ok := (n1 (.slice Ao12 t365.length co12))) (rK HO_374002) hg hat); have n2_ := Aside0.mk (blk_grown (g := gb363) (o := .cells #[.slice A1_0 l1_0.length c1_0, .int .i64 a1_1, .slice A1_2 l1_2.length c1_2, .int .i64 a1_3] 66 (0, 0)) (bK BK363) hg (Kd.R_ne HO386.out BK363.out (by decide))); have n3_ := Aside0.mk (blk_grown (g := gb364) (o := .cells #[.slice none 0 0, .int .i64 0, .slice none 0 0, .int .i64 0] 66 (0, 0)) (bK BK364) hg (Kd.R_ne HO386.out BK364.out (by decide))); have n4_ := Aside0.mk (blk_grown (g := gb373) (o := .cells #[.slice Ao12 t365.length co12, .int .i64 t368, .slice Ao16 t369.length co16, .int .i64 t372] 66 (0, 0)) (bK BK373) hg (Kd.R_ne HO386.out BK373.out (by decide))); have n5_ := Aside0.mk (hb); have n6_ := Aside0.mk (ho); clear HO_374000; clear HO_374002; clear BK363; clear BK364; clear BK373; clear HB; clear HO386; have HO_374000 := n0_; have HO_374002 := n1_; have BK363 := n2_; have BK364 := n3_; have BK373 := n4_; have HB := n5_; have HO389 := n6_; clear n0_ n1_ n2_ n3_ n4_ n5_ n6_; clear ho hb hg hat; obtain ⟨Ao69, co69, eo69⟩ := Kd.R_slice HO389.out; subst eo69; have hnb70 := NB373_364.out; have hnc70 := NB364_373.out; obtain ⟨_, _, _, _, _, _, _, _⟩ := blkc4 BK373; obtain ⟨_, _, _, _, _, _, _, _⟩ := blkc4 BK364))
   refine bodyPost_ret (results_ct rfl _ _ gb364 66 #[.slice Ao12 t365.length co12, .int .i64 t368, .slice Ao69 y387.length co69, .int .i64 t377] (0, 0) _ rfl (kP BK364 NB364_373) Try.underlying66 rfl (by kernel_rfl)) rfl ?_
   exact ⟨_, _, rA, by (with_reducible repeat (first | apply Kd.R_alloc | apply Kd.R_drewN | apply Kd.R_drew)); exact Kd.R_mono (Kd.R_far (p := ⟨gb364, 3, none⟩) (Kd.R_far (p := ⟨gb364, 2, none⟩) (Kd.R_far (p := ⟨gb364, 1, none⟩) (Kd.R_far (p := ⟨gb364, 0, none⟩) (Kd.R_far (p := ⟨gb373, 3, none⟩) (Kd.R_far (p := ⟨gb373, 2, none⟩) (Kd.R_types (Kd.R_types HO_374000.out BK373.out (by decide)) BK364.out (by decide)) (fun _ hk => hk.1.2) (.slice Ao69 y387.length co69)) (fun _ hk => hk.1.2) (.int .i64 t377)) (fun _ hk => hk.2) (.slice Ao12 t365.length co12)) (fun _ hk => hk.2) (.int .i64 t368)) (fun _ hk => hk.2) (.slice Ao69 y387.length co69)) (fun _ hk => hk.2) (.int .i64 t377)) (fun _ hk => hk.1.1.2), by (with_reducible repeat (first | apply Kd.R_alloc | apply Kd.R_drewN | apply Kd.R_drew)); exact Kd.R_mono (Kd.R_far (p := ⟨gb364, 3, none⟩) (Kd.R_far (p := ⟨gb364, 2, none⟩) (Kd.R_far (p := ⟨gb364, 1, none⟩) (Kd.R_far (p := ⟨gb364, 0, none⟩) (Kd.R_far (p := ⟨gb373, 3, none⟩) (Kd.R_far (p := ⟨gb373, 2, none⟩) (Kd.R_types (Kd.R_types HO389.out BK373.out (by decide)) BK364.out (by decide)) (fun _ hk => hk.1.2) (.slice Ao69 y387.length co69)) (fun _ hk => hk.1.2) (.int .i64 t377)) (fun _ hk => hk.2) (.slice Ao12 t365.length co12)) (fun _ hk => hk.2) (.int .i64 t368)) (fun _ hk => hk.2) (.slice Ao69 y387.length co69)) (fun _ hk => hk.2) (.int .i64 t377)) (fun _ hk => hk.1.1.1), bG⟩

/-! ### spec_Min: function 194 -/
def spec_Min.f (a0 : Int) (a1 : Int) : Option (Int) := if a1 < a0 then (some a1) else (some a0)
set_option maxHeartbeats 8000000 in
set_option maxRecDepth 100000 in
theorem spec_Min.calls (a0 : Int) (a1 : Int) (r : Int) (w : World) (h : spec_Min.f a0 a1 = some r) :
  Calls Try.prog 194 #[.int .i64 a0, .int .i64 a1] w fun e w' => e = .returned (.int .i64 r) ∧ Drawn0 w w' := by
 have H : (if a1 < a0 then (some a1) else (some a0)) = some r := h
 clear h
 by_cases c3 : a1 < a0
 ·
  rw [if_pos c3] at H
  have c3b0 := decide_eq_true c3
  clear c3
  obtain rfl := Option.some.inj H
  go_enter Try.func194, Try.ntmps194
  go_wp2
  go_ret
  exact ⟨rS, dD⟩
 rw [if_neg c3] at H
 have c3b0 := decide_eq_false c3
 clear c3
 obtain rfl := Option.some.inj H
 go_enter Try.func194, Try.ntmps194
 go_wp2
 go_ret
 exact ⟨rS, dD⟩

/-! ### spec_TickControl: function 182 -/
def spec_TickControl.f (k : Nat) (l0 : List (S50)) (l1_0 : List Int) (a1_1 : Int) (l1_2 : List Int) (a1_3 : Int) : Option (List Int × Int × List Int × Int) := (spec_l14Copy.f l1_0 a1_1 l1_2 a1_3).bind fun bt392 => ((spec_IsControl.f k l0 l1_0 a1_1 l1_2 a1_3).bind fun t401 => (if t401 = true then (if (l1_2.length : Int) = 0 then ((spec_Min.f 1000000 (wrap64 (a1_1 + 1))).bind fun t402 => (some (bt392.1, t402, bt392.2.2.1, bt392.2.2.2))) else (if (wrap64 (a1_3 - 1)) = 0 then (some (bt392.2.2.1, 0, ([] : List Int), 0)) else (some (bt392.1, bt392.2.1, bt392.2.2.1, wrap64 (a1_3 - 1))))) else (some (bt392.1, bt392.2.1, bt392.2.2.1, bt392.2.2.2))))
theorem spec_TickControl.mono : ∀ a0 a1 a2 a3 a4 k, LeO (spec_TickControl.f k a0 a1 a2 a3 a4) (spec_TickControl.f (k + 1) a0 a1 a2 a3 a4) := by
 intro a0 a1 a2 a3 a4 k
 unfold spec_TickControl.f
 exact mz1 spec_IsControl.mono
set_option maxHeartbeats 8000000 in
set_option maxRecDepth 100000 in
theorem spec_TickControl.calls (k : Nat) (A0 : Option Addr) (c0 : Nat) (l0 : List (S50)) (A1_0 : Option Addr) (c1_0 : Nat) (l1_0 : List Int) (a1_1 : Int) (A1_2 : Option Addr) (c1_2 : Nat) (l1_2 : List Int) (a1_3 : Int) (r1 : List Int) (r2 : Int) (r3 : List Int) (r4 : Int) (w : World) (hr0 : Kd.C k50 w A0 l0.length l0) (hc0 : l0.length ≤ c0) (hr1_0 : Kd.C (Kd.int .i64) w A1_0 l1_0.length l1_0) (hc1_0 : l1_0.length ≤ c1_0) (hr1_2 : Kd.C (Kd.int .i64) w A1_2 l1_2.length l1_2) (hc1_2 : l1_2.length ≤ c1_2) (h : spec_TickControl.f k l0 l1_0 a1_1 l1_2 a1_3 = some (r1, r2, r3, r4)) :
  Calls Try.prog 182 #[.slice A0 l0.length c0, .agg #[.slice A1_0 l1_0.length c1_0, .int .i64 a1_1, .slice A1_2 l1_2.length c1_2, .int .i64 a1_3]] w fun e w' => ∃ v0_ v2_ : Value, e = .returned (.agg #[v0_, .int .i64 r2, v2_, .int .i64 r4]) ∧ Kd.R (Kd.int .i64) 3 w' w.heap.size (n1 v2_) v0_ r1 ∧ Kd.R (Kd.int .i64) 3 w' w.heap.size (n1 v0_) v2_ r3 ∧ Below w.heap.size w w' := by
 have hu66 := Try.underlying66
 have HR0 := Aside0.mk hr0
 have HC0 := Aside0.mk hc0
 clear hr0 hc0
 have HR1_0 := Aside0.mk hr1_0
 have HC1_0 := Aside0.mk hc1_0
 clear hr1_0 hc1_0
 have HR1_2 := Aside0.mk hr1_2
 have HC1_2 := Aside0.mk hc1_2
 clear hr1_2 hc1_2
 have HB := Aside0.mk (Below.refl w.heap.size w)
 have H : ((spec_l14Copy.f l1_0 a1_1 l1_2 a1_3).bind fun bt392 => ((spec_IsControl.f k l0 l1_0 a1_1 l1_2 a1_3).bind fun t401 => (if t401 = true then (if (l1_2.length : Int) = 0 then ((spec_Min.f 1000000 (wrap64 (a1_1 + 1))).bind fun t402 => (some (bt392.1, t402, bt392.2.2.1, bt392.2.2.2))) else (if (wrap64 (a1_3 - 1)) = 0 then (some (bt392.2.2.1, 0, ([] : List Int), 0)) else (some (bt392.1, bt392.2.1, bt392.2.2.1, wrap64 (a1_3 - 1))))) else (some (bt392.1, bt392.2.1, bt392.2.2.1, bt392.2.2.2))))) = some (r1, r2, r3, r4) := h
 clear h
 obtain ⟨⟨t392, t395, t396, t399⟩, A3, H⟩ := bindE H
 try dsimp only at H
 obtain ⟨t401, A4, H⟩ := bindE H
 try dsimp only at H
 by_cases c5 : t401 = true
 ·
  subst c5
  have H1 : (if (l1_2.length : Int) = 0 then ((spec_Min.f 1000000 (wrap64 (a1_1 + 1))).bind fun t402 => (some (t392, t402, t396, t399))) else (if (wrap64 (a1_3 - 1)) = 0 then (some (t396, 0, ([] : List Int), 0)) else (some (t392, t395, t396, wrap64 (a1_3 - 1))))) = some (r1, r2, r3, r4) := by rw [if_pos rfl] at H; exact H
  clear H
  have H := H1
  clear H1
  by_cases c6 : (l1_2.length : Int) = 0
  ·
   rw [if_pos c6] at H
   have c6b0 : ((l1_2.length : Int) == 0) = true := beq_iff_eq.mpr c6
   have c6b1 : ((l1_2.length : Int) != 0) = false := bne_eq_false_iff_eq.mpr c6
   clear c6
   obtain ⟨t402, A7, H⟩ := bindE H
   try dsimp only at H
   simp only [Option.some.injEq, Prod.mk.injEq] at H
   obtain ⟨rfl, rfl, rfl, rfl⟩ := H
   go_enter Try.func182, Try.ntmps182
   go_wp2_with (first | ((with_reducible refine gate_dst (N := 3) rfl ?_); refine bE (N := 3) (cs := #[.slice A1_0 l1_0.length c1_0, .int .i64 a1_1, .slice A1_2 l1_2.length c1_2, .int .i64 a1_3]) (t := 66) ?_; intro gb390 hg w8 hbox hb; have BK390 := Aside0.mk (hbox); have GW390 := gw w hg; have GE390 := gw w hg; replace HB := bs HB hb; clear hb hbox hg) | ((with_reducible refine gate_dst (N := 4) rfl ?_); refine bE (N := 4) (cs := #[.slice none 0 0, .int .i64 0, .slice none 0 0, .int .i64 0]) (t := 66) ?_; intro gb391 hg w9 hbox hb; have BK391 := Aside0.mk (hbox); have GW391 := gw w hg; have GE391 := gw w hg; replace HB := bs HB hb; have NB390_391 := nl BK390 hg; have NB391_390 := nr BK390 hg; replace BK390 := kb BK390 hb; clear hb hbox hg; have hnb10 := NB390_391.out; have hnc10 := NB391_390.out; obtain ⟨_, _, _, _, _, _, _, _⟩ := blkc4 BK390) | ((with_reducible refine gate_callee (f := 189) rfl ?_); refine gL (some 7) Try.func189 #[.agg #[.slice A1_0 l1_0.length c1_0, .int .i64 a1_1, .slice A1_2 l1_2.length c1_2, .int .i64 a1_3]] ?_; (with_reducible refine (spec_l14Copy.calls _ _ l1_0 a1_1 _ _ l1_2 a1_3 t392 t395 t396 t399 _ ?_ ?_ ?_ ?_ A3.out).mono ?_); exact cB HR1_0; exact HC1_0.out; exact cB HR1_2; exact HC1_2.out; rintro e w12 ⟨v393, v397, rfl, ho0, ho1, hb⟩; refine ⟨_, rfl, ?_⟩; have HO394 := rl w ho0; have HO398 := rl w ho1; replace BK390 := kb BK390 hb; replace BK391 := kb BK391 hb; replace HB := bs HB hb; (try clear hb); (try clear ho0); (try clear ho1)) | ((with_reducible refine gate_dst (N := 5) rfl ?_); refine bE (N := 5) (cs := #[.slice none 0 0, .int .i64 0, .slice none 0 0, .int .i64 0]) (t := 66) ?_; intro gb400 hg w13 hbox hb; replace HO394 := rb HO394 hb; replace HO398 := rb HO398 hb; have BK400 := Aside0.mk (hbox); have GW400 := gw w hg; have GE400 := gw w hg; replace HB := bs HB hb; have NB390_400 := nl BK390 hg; have NB400_390 := nr BK390 hg; replace BK390 := kb BK390 hb; have NB391_400 := nl BK391 hg; have NB400_391 := nr BK391 hg; replace BK391 := kb BK391 hb; clear hb hbox hg; obtain ⟨Ao14, co14, eo14⟩ := Kd.R_slice HO394.out; subst eo14; have hnb15 := NB400_390.out; have hnc15 := NB390_400.out; have hnb16 := NB400_391.out; have hnc16 := NB391_400.out; obtain ⟨_, _, _, _, _, _, _, _⟩ := blkc4 BK400; obtain ⟨Ao18, co18, eo18⟩ := Kd.R_slice HO398.out; subst eo18; obtain ⟨_, _, _, _, _, _, _, _⟩ := blkc4 BK390) | ((with_reducible refine gate_callee (f := 193) rfl ?_); refine gL (some 11) Try.func193 #[.slice A0 l0.length c0, .agg #[.slice A1_0 l1_0.length c1_0, .int .i64 a1_1, .slice A1_2 l1_2.length c1_2, .int .i64 a1_3]] ?_; (with_reducible refine (spec_IsControl.calls k _ _ l0 _ _ l1_0 a1_1 _ _ l1_2 a1_3 true _ ?_ ?_ ?_ ?_ ?_ ?_ A4.out).mono ?_); exact Kd.C_below HR0.out bG; exact HC0.out; exact Kd.C_below HR1_0.out bG; exact HC1_0.out; exact Kd.C_below HR1_2.out bG; exact HC1_2.out; rintro e w20 ⟨rfl, hb⟩; refine ⟨_, rfl, ?_⟩; replace HO394 := Aside0.mk (Kd.R_below (rf HO394 BK400) hb); replace HO398 := Aside0.mk (Kd.R_below (rf HO398 BK400) hb); replace BK390 := kc (kf BK390 NB390_400) hb; replace BK391 := kc (kf BK391 NB391_400) hb; replace BK400 := kc (o := .cells #[.slice Ao14 t392.length co14, .int .i64 t395, .slice Ao18 t396.length co18, .int .i64 t399] 66 (0, 0)) (kp BK400) hb; replace HB := bs HB hb; (try clear hb); obtain ⟨_, _, _, _, _, _, _, _⟩ := blkc4 BK390) | ((with_reducible refine gate_callee (f := 194) rfl ?_); refine gL (some 22) Try.func194 #[.int .i64 1000000, .int .i64 (wrap64 (a1_1 + 1))] ?_; (with_reducible refine (spec_Min.calls 1000000 (wrap64 (a1_1 + 1)) t402 _ A7.out).mono ?_); rintro e w' ⟨rfl, ⟨nd, rfl⟩⟩; refine ⟨_, rfl, ?_⟩; (try (rw [drewN_self w20]; generalize hq_ : World.drewN w20 _ = w20; have n0_ : Aside0 (Kd.R (Kd.int .i64) 3 w20 w.heap.size (n1 (.slice Ao18 t396.length co18)) (.slice Ao14 t392.length co14) t392) := ⟨by rw [← hq_]; exact (rK HO394)⟩; have n1_ : Aside0 (Kd.R (Kd.int .i64) 3 w20 w.heap.size (n1 (.slice Ao14 t392.length co14)) (.slice Ao18 t396.length co18) t396) := ⟨by rw [← hq_]; exact (rK HO398)⟩; have n2_ : Aside0 (w20.heap[gb390]? = some (.cells #[.slice A1_0 l1_0.length c1_0, .int .i64 a1_1, .slice A1_2 l1_2.length c1_2, .int .i64 a1_3] 66 (0, 0))) := ⟨by rw [← hq_]; exact (bK BK390)⟩; have n3_ : Aside0 (w20.heap[gb391]? = some (.cells #[.slice none 0 0, .int .i64 0, .slice none 0 0, .int .i64 0] 66 (0, 0))) := ⟨by rw [← hq_]; exact (bK BK391)⟩; have n4_ : Aside0 (w20.heap[gb400]? = some (.cells #[.slice Ao14 t392.length co14, .int .i64 t395, .slice Ao18 t396.length co18, .int .i64 t399] 66 (0, 0))) := ⟨by rw [← hq_]; exact (bK BK400)⟩; have n5_ : Aside0 (Below w.heap.size w w20) := ⟨by rw [← hq_]; exact bG⟩; clear HO394 HO398 BK390 BK391 BK400 HB hq_; have HO394 := n0_; have HO398 := n1_; have BK390 := n2_; have BK391 := n3_; have BK400 := n4_; have HB := n5_; clear n0_ n1_ n2_ n3_ n4_ n5_)); obtain ⟨_, _, _, _, _, _, _, _⟩ := blkc4 BK400; obtain ⟨_, _, _, _, _, _, _, _⟩ := blkc4 BK391))
   refine bodyPost_ret (results_cell_row rfl _ _ gb391 66 #[.slice Ao14 t392.length co14, .int .i64 t402, .slice Ao18 t396.length co18, .int .i64 t399] (0, 0) _ rfl (kP BK391 NB391_400) Try.underlying66 rfl (by kernel_rfl)) rfl ?_
   exact ⟨_, _, rA, by (with_reducible repeat (first | apply Kd.R_alloc | apply Kd.R_drewN | apply Kd.R_drew)); exact Kd.R_mono (Kd.R_far (p := ⟨gb391, 3, none⟩) (Kd.R_far (p := ⟨gb391, 2, none⟩) (Kd.R_far (p := ⟨gb391, 1, none⟩) (Kd.R_far (p := ⟨gb391, 0, none⟩) (Kd.R_far (p := ⟨gb400, 1, none⟩) (Kd.R_types (Kd.R_types HO394.out BK400.out (by decide)) BK391.out (by decide)) (fun _ hk => hk.1.2) (.int .i64 t402)) (fun _ hk => hk.2) (.slice Ao14 t392.length co14)) (fun _ hk => hk.2) (.int .i64 t402)) (fun _ hk => hk.2) (.slice Ao18 t396.length co18)) (fun _ hk => hk.2) (.int .i64 t399)) (fun _ hk => hk.1.1), by (with_reducible repeat (first | apply Kd.R_alloc | apply Kd.R_drewN | apply Kd.R_drew)); exact Kd.R_mono (Kd.R_far (p := ⟨gb391, 3, none⟩) (Kd.R_far (p := ⟨gb391, 2, none⟩) (Kd.R_far (p := ⟨gb391, 1, none⟩) (Kd.R_far (p := ⟨gb391, 0, none⟩) (Kd.R_far (p := ⟨gb400, 1, none⟩) (Kd.R_types (Kd.R_types HO398.out BK400.out (by decide)) BK391.out (by decide)) (fun _ hk => hk.1.2) (.int .i64 t402)) (fun _ hk => hk.2) (.slice Ao14 t392.length co14)) (fun _ hk => hk.2) (.int .i64 t402)) (fun _ hk => hk.2) (.slice Ao18 t396.length co18)) (fun _ hk => hk.2) (.int .i64 t399)) (fun _ hk => hk.1.1), bG⟩
  rw [if_neg c6] at H
  have c6b0 : ((l1_2.length : Int) == 0) = false := beq_eq_false_iff_ne.mpr c6
  have c6b1 : ((l1_2.length : Int) != 0) = true := bne_iff_ne.mpr c6
  have c6b2 : ¬ (l1_2 = []) := fun h_ => c6 (by rw [h_]; rfl)
  by_cases c24 : (wrap64 (a1_3 - 1)) = 0
  ·
   rw [if_pos c24] at H
   have c24b0 : ((wrap64 (a1_3 - 1)) == 0) = true := beq_iff_eq.mpr c24
   have c24b1 : ((wrap64 (a1_3 - 1)) != 0) = false := bne_eq_false_iff_eq.mpr c24
   clear c24
   simp only [Option.some.injEq, Prod.mk.injEq] at H
   obtain ⟨rfl, rfl, rfl, rfl⟩ := H
   go_enter Try.func182, Try.ntmps182
   go_wp2_with (first | ((with_reducible refine gate_dst (N := 3) rfl ?_); refine bE (N := 3) (cs := #[.slice A1_0 l1_0.length c1_0, .int .i64 a1_1, .slice A1_2 l1_2.length c1_2, .int .i64 a1_3]) (t := 66) ?_; intro gb390 hg w25 hbox hb; have BK390 := Aside0.mk (hbox); have GW390 := gw w hg; have GE390 := gw w hg; replace HB := bs HB hb; clear hb hbox hg) | ((with_reducible refine gate_dst (N := 4) rfl ?_); refine bE (N := 4) (cs := #[.slice none 0 0, .int .i64 0, .slice none 0 0, .int .i64 0]) (t := 66) ?_; intro gb391 hg w26 hbox hb; have BK391 := Aside0.mk (hbox); have GW391 := gw w hg; have GE391 := gw w hg; replace HB := bs HB hb; have NB390_391 := nl BK390 hg; have NB391_390 := nr BK390 hg; replace BK390 := kb BK390 hb; clear hb hbox hg; have hnb27 := NB390_391.out; have hnc27 := NB391_390.out; obtain ⟨_, _, _, _, _, _, _, _⟩ := blkc4 BK390) | ((with_reducible refine gate_callee (f := 189) rfl ?_); refine gL (some 7) Try.func189 #[.agg #[.slice A1_0 l1_0.length c1_0, .int .i64 a1_1, .slice A1_2 l1_2.length c1_2, .int .i64 a1_3]] ?_; (with_reducible refine (spec_l14Copy.calls _ _ l1_0 a1_1 _ _ l1_2 a1_3 t392 t395 t396 t399 _ ?_ ?_ ?_ ?_ A3.out).mono ?_); exact cB HR1_0; exact HC1_0.out; exact cB HR1_2; exact HC1_2.out; rintro e w29 ⟨v393, v397, rfl, ho0, ho1, hb⟩; refine ⟨_, rfl, ?_⟩; have HO394 := rl w ho0; have HO398 := rl w ho1; replace BK390 := kb BK390 hb; replace BK391 := kb BK391 hb; replace HB := bs HB hb; (try clear hb); (try clear ho0); (try clear ho1)) | ((with_reducible refine gate_dst (N := 5) rfl ?_); refine bE (N := 5) (cs := #[.slice none 0 0, .int .i64 0, .slice none 0 0, .int .i64 0]) (t := 66) ?_; intro gb400 hg w30 hbox hb; replace HO394 := rb HO394 hb; replace HO398 := rb HO398 hb; have BK400 := Aside0.mk (hbox); have GW400 := gw w hg; have GE400 := gw w hg; replace HB := bs HB hb; have NB390_400 := nl BK390 hg; have NB400_390 := nr BK390 hg; replace BK390 := kb BK390 hb; have NB391_400 := nl BK391 hg; have NB400_391 := nr BK391 hg; replace BK391 := kb BK391 hb; clear hb hbox hg; obtain ⟨Ao31, co31, eo31⟩ := Kd.R_slice HO394.out; subst eo31; have hnb32 := NB400_390.out; have hnc32 := NB390_400.out; have hnb33 := NB400_391.out; have hnc33 := NB391_400.out; obtain ⟨_, _, _, _, _, _, _, _⟩ := blkc4 BK400; obtain ⟨Ao35, co35, eo35⟩ := Kd.R_slice HO398.out; subst eo35; obtain ⟨_, _, _, _, _, _, _, _⟩ := blkc4 BK390) | ((with_reducible refine gate_callee (f := 193) rfl ?_); refine gL (some 11) Try.func193 #[.slice A0 l0.length c0, .agg #[.slice A1_0 l1_0.length c1_0, .int .i64 a1_1, .slice A1_2 l1_2.length c1_2, .int .i64 a1_3]] ?_; (with_reducible refine (spec_IsControl.calls k _ _ l0 _ _ l1_0 a1_1 _ _ l1_2 a1_3 true _ ?_ ?_ ?_ ?_ ?_ ?_ A4.out).mono ?_); exact Kd.C_below HR0.out bG; exact HC0.out; exact Kd.C_below HR1_0.out bG; exact HC1_0.out; exact Kd.C_below HR1_2.out bG; exact HC1_2.out; rintro e w37 ⟨rfl, hb⟩; refine ⟨_, rfl, ?_⟩; replace HO394 := Aside0.mk (Kd.R_below (rf HO394 BK400) hb); replace HO398 := Aside0.mk (Kd.R_below (rf HO398 BK400) hb); replace BK390 := kc (kf BK390 NB390_400) hb; replace BK391 := kc (kf BK391 NB391_400) hb; replace BK400 := kc (o := .cells #[.slice Ao31 t392.length co31, .int .i64 t395, .slice Ao35 t396.length co35, .int .i64 t399] 66 (0, 0)) (kp BK400) hb; replace HB := bs HB hb; (try clear hb); obtain ⟨_, _, _, _, _, _, _, _⟩ := blkc4 BK390; obtain ⟨_, _, _, _, _, _, _, _⟩ := blkc4 BK400; obtain ⟨_, _, _, _, _, _, _, _⟩ := blkc4 BK391))
   refine bodyPost_ret (results_cell_row rfl _ _ gb391 66 #[.slice Ao35 t396.length co35, .int .i64 0, .slice none 0 0, .int .i64 0] (0, 0) _ rfl (kP BK391 NB391_400) Try.underlying66 rfl (by kernel_rfl)) rfl ?_
   exact ⟨_, _, rA, by (with_reducible repeat (first | apply Kd.R_alloc | apply Kd.R_drewN | apply Kd.R_drew)); exact Kd.R_mono (Kd.R_far (p := ⟨gb391, 3, none⟩) (Kd.R_far (p := ⟨gb391, 2, none⟩) (Kd.R_far (p := ⟨gb391, 1, none⟩) (Kd.R_far (p := ⟨gb391, 0, none⟩) (Kd.R_far (p := ⟨gb400, 3, none⟩) (Kd.R_types (Kd.R_types HO398.out BK400.out (by decide)) BK391.out (by decide)) (fun _ hk => hk.1.2) (.int .i64 (wrap64 (a1_3 - 1)))) (fun _ hk => hk.2) (.slice Ao35 t396.length co35)) (fun _ hk => hk.2) (.int .i64 0)) (fun _ hk => hk.2) (.slice none 0 0)) (fun _ hk => hk.2) (.int .i64 0)) (fun _ hk => (by simp [Value.ownBlock])), by first | exact Kd.R_nil _ _ _ _ _ | exact Kd.N_nil _ _ _ _ _ | exact Kd.V_nil _ _ _ _ _ | exact Kd.Q_nil _ _ _ _ _ | exact Kd.S_nil _ _ _ _ _, bG⟩
  rw [if_neg c24] at H
  have c24b0 : ((wrap64 (a1_3 - 1)) == 0) = false := beq_eq_false_iff_ne.mpr c24
  have c24b1 : ((wrap64 (a1_3 - 1)) != 0) = true := bne_iff_ne.mpr c24
  simp only [Option.some.injEq, Prod.mk.injEq] at H
  obtain ⟨rfl, rfl, rfl, rfl⟩ := H
  go_enter Try.func182, Try.ntmps182
  go_wp2_with (first | ((with_reducible refine gate_dst (N := 3) rfl ?_); refine bE (N := 3) (cs := #[.slice A1_0 l1_0.length c1_0, .int .i64 a1_1, .slice A1_2 l1_2.length c1_2, .int .i64 a1_3]) (t := 66) ?_; intro gb390 hg w41 hbox hb; have BK390 := Aside0.mk (hbox); have GW390 := gw w hg; have GE390 := gw w hg; replace HB := bs HB hb; clear hb hbox hg) | ((with_reducible refine gate_dst (N := 4) rfl ?_); refine bE (N := 4) (cs := #[.slice none 0 0, .int .i64 0, .slice none 0 0, .int .i64 0]) (t := 66) ?_; intro gb391 hg w42 hbox hb; have BK391 := Aside0.mk (hbox); have GW391 := gw w hg; have GE391 := gw w hg; replace HB := bs HB hb; have NB390_391 := nl BK390 hg; have NB391_390 := nr BK390 hg; replace BK390 := kb BK390 hb; clear hb hbox hg; have hnb43 := NB390_391.out; have hnc43 := NB391_390.out; obtain ⟨_, _, _, _, _, _, _, _⟩ := blkc4 BK390) | ((with_reducible refine gate_callee (f := 189) rfl ?_); refine gL (some 7) Try.func189 #[.agg #[.slice A1_0 l1_0.length c1_0, .int .i64 a1_1, .slice A1_2 l1_2.length c1_2, .int .i64 a1_3]] ?_; (with_reducible refine (spec_l14Copy.calls _ _ l1_0 a1_1 _ _ l1_2 a1_3 t392 t395 t396 t399 _ ?_ ?_ ?_ ?_ A3.out).mono ?_); exact cB HR1_0; exact HC1_0.out; exact cB HR1_2; exact HC1_2.out; rintro e w45 ⟨v393, v397, rfl, ho0, ho1, hb⟩; refine ⟨_, rfl, ?_⟩; have HO394 := rl w ho0; have HO398 := rl w ho1; replace BK390 := kb BK390 hb; replace BK391 := kb BK391 hb; replace HB := bs HB hb; (try clear hb); (try clear ho0); (try clear ho1)) | ((with_reducible refine gate_dst (N := 5) rfl ?_); refine bE (N := 5) (cs := #[.slice none 0 0, .int .i64 0, .slice none 0 0, .int .i64 0]) (t := 66) ?_; intro gb400 hg w46 hbox hb; replace HO394 := rb HO394 hb; replace HO398 := rb HO398 hb; have BK400 := Aside0.mk (hbox); have GW400 := gw w hg; have GE400 := gw w hg; replace HB := bs HB hb; have NB390_400 := nl BK390 hg; have NB400_390 := nr BK390 hg; replace BK390 := kb BK390 hb; have NB391_400 := nl BK391 hg; have NB400_391 := nr BK391 hg; replace BK391 := kb BK391 hb; clear hb hbox hg; obtain ⟨Ao47, co47, eo47⟩ := Kd.R_slice HO394.out; subst eo47; have hnb48 := NB400_390.out; have hnc48 := NB390_400.out; have hnb49 := NB400_391.out; have hnc49 := NB391_400.out; obtain ⟨_, _, _, _, _, _, _, _⟩ := blkc4 BK400; obtain ⟨Ao51, co51, eo51⟩ := Kd.R_slice HO398.out; subst eo51; obtain ⟨_, _, _, _, _, _, _, _⟩ := blkc4 BK390) | ((with_reducible refine gate_callee (f := 193) rfl ?_); refine gL (some 11) Try.func193 #[.slice A0 l0.length c0, .agg #[.slice A1_0 l1_0.length c1_0, .int .i64 a1_1, .slice A1_2 l1_2.length c1_2, .int .i64 a1_3]] ?_; (with_reducible refine (spec_IsControl.calls k _ _ l0 _ _ l1_0 a1_1 _ _ l1_2 a1_3 true _ ?_ ?_ ?_ ?_ ?_ ?_ A4.out).mono ?_); exact Kd.C_below HR0.out bG; exact HC0.out; exact Kd.C_below HR1_0.out bG; exact HC1_0.out; exact Kd.C_below HR1_2.out bG; exact HC1_2.out; rintro e w53 ⟨rfl, hb⟩; refine ⟨_, rfl, ?_⟩; replace HO394 := Aside0.mk (Kd.R_below (rf HO394 BK400) hb); replace HO398 := Aside0.mk (Kd.R_below (rf HO398 BK400) hb); replace BK390 := kc (kf BK390 NB390_400) hb; replace BK391 := kc (kf BK391 NB391_400) hb; replace BK400 := kc (o := .cells #[.slice Ao47 t392.length co47, .int .i64 t395, .slice Ao51 t396.length co51, .int .i64 t399] 66 (0, 0)) (kp BK400) hb; replace HB := bs HB hb; (try clear hb); obtain ⟨_, _, _, _, _, _, _, _⟩ := blkc4 BK390; obtain ⟨_, _, _, _, _, _, _, _⟩ := blkc4 BK400; obtain ⟨_, _, _, _, _, _, _, _⟩ := blkc4 BK391))
  refine bodyPost_ret (results_cell_row rfl _ _ gb391 66 #[.slice Ao47 t392.length co47, .int .i64 t395, .slice Ao51 t396.length co51, .int .i64 (wrap64 (a1_3 - 1))] (0, 0) _ rfl (kP BK391 NB391_400) Try.underlying66 rfl (by kernel_rfl)) rfl ?_
  exact ⟨_, _, rA, by (with_reducible repeat (first | apply Kd.R_alloc | apply Kd.R_drewN | apply Kd.R_drew)); exact Kd.R_mono (Kd.R_far (p := ⟨gb391, 3, none⟩) (Kd.R_far (p := ⟨gb391, 2, none⟩) (Kd.R_far (p := ⟨gb391, 1, none⟩) (Kd.R_far (p := ⟨gb391, 0, none⟩) (Kd.R_far (p := ⟨gb400, 3, none⟩) (Kd.R_types (Kd.R_types HO394.out BK400.out (by decide)) BK391.out (by decide)) (fun _ hk => hk.1.2) (.int .i64 (wrap64 (a1_3 - 1)))) (fun _ hk => hk.2) (.slice Ao47 t392.length co47)) (fun _ hk => hk.2) (.int .i64 t395)) (fun _ hk => hk.2) (.slice Ao51 t396.length co51)) (fun _ hk => hk.2) (.int .i64 (wrap64 (a1_3 - 1)))) (fun _ hk => hk.1.1), by (with_reducible repeat (first | apply Kd.R_alloc | apply Kd.R_drewN | apply Kd.R_drew)); exact Kd.R_mono (Kd.R_far (p := ⟨gb391, 3, none⟩) (Kd.R_far (p := ⟨gb391, 2, none⟩) (Kd.R_far (p := ⟨gb391, 1, none⟩) (Kd.R_far (p := ⟨gb391, 0, none⟩) (Kd.R_far (p := ⟨gb400, 3, none⟩) (Kd.R_types (Kd.R_types HO398.out BK400.out (by decide)) BK391.out (by decide)) (fun _ hk => hk.1.2) (.int .i64 (wrap64 (a1_3 - 1)))) (fun _ hk => hk.2) (.slice Ao47 t392.length co47)) (fun _ hk => hk.2) (.int .i64 t395)) (fun _ hk => hk.2) (.slice Ao51 t396.length co51)) (fun _ hk => hk.2) (.int .i64 (wrap64 (a1_3 - 1)))) (fun _ hk => hk.1.1), bG⟩
 replace c5 := Bool.eq_false_iff.mpr c5
 subst c5
 have H1 : (some (t392, t395, t396, t399)) = some (r1, r2, r3, r4) := by rw [if_neg (show ¬ (false = true) by decide)] at H; exact H
 clear H
 have H := H1
 clear H1
 simp only [Option.some.injEq, Prod.mk.injEq] at H
 obtain ⟨rfl, rfl, rfl, rfl⟩ := H
 go_enter Try.func182, Try.ntmps182
 go_wp2_with (first | ((with_reducible refine gate_dst (N := 3) rfl ?_); refine bE (N := 3) (cs := #[.slice A1_0 l1_0.length c1_0, .int .i64 a1_1, .slice A1_2 l1_2.length c1_2, .int .i64 a1_3]) (t := 66) ?_; intro gb390 hg w57 hbox hb; have BK390 := Aside0.mk (hbox); have GW390 := gw w hg; have GE390 := gw w hg; replace HB := bs HB hb; clear hb hbox hg) | ((with_reducible refine gate_dst (N := 4) rfl ?_); refine bE (N := 4) (cs := #[.slice none 0 0, .int .i64 0, .slice none 0 0, .int .i64 0]) (t := 66) ?_; intro gb391 hg w58 hbox hb; have BK391 := Aside0.mk (hbox); have GW391 := gw w hg; have GE391 := gw w hg; replace HB := bs HB hb; have NB390_391 := nl BK390 hg; have NB391_390 := nr BK390 hg; replace BK390 := kb BK390 hb; clear hb hbox hg; have hnb59 := NB390_391.out; have hnc59 := NB391_390.out; obtain ⟨_, _, _, _, _, _, _, _⟩ := blkc4 BK390) | ((with_reducible refine gate_callee (f := 189) rfl ?_); refine gL (some 7) Try.func189 #[.agg #[.slice A1_0 l1_0.length c1_0, .int .i64 a1_1, .slice A1_2 l1_2.length c1_2, .int .i64 a1_3]] ?_; (with_reducible refine (spec_l14Copy.calls _ _ l1_0 a1_1 _ _ l1_2 a1_3 t392 t395 t396 t399 _ ?_ ?_ ?_ ?_ A3.out).mono ?_); exact cB HR1_0; exact HC1_0.out; exact cB HR1_2; exact HC1_2.out; rintro e w61 ⟨v393, v397, rfl, ho0, ho1, hb⟩; refine ⟨_, rfl, ?_⟩; have HO394 := rl w ho0; have HO398 := rl w ho1; replace BK390 := kb BK390 hb; replace BK391 := kb BK391 hb; replace HB := bs HB hb; (try clear hb); (try clear ho0); (try clear ho1)) | ((with_reducible refine gate_dst (N := 5) rfl ?_); refine bE (N := 5) (cs := #[.slice none 0 0, .int .i64 0, .slice none 0 0, .int .i64 0]) (t := 66) ?_; intro gb400 hg w62 hbox hb; replace HO394 := rb HO394 hb; replace HO398 := rb HO398 hb; have BK400 := Aside0.mk (hbox); have GW400 := gw w hg; have GE400 := gw w hg; replace HB := bs HB hb; have NB390_400 := nl BK390 hg; have NB400_390 := nr BK390 hg; replace BK390 := kb BK390 hb; have NB391_400 := nl BK391 hg; have NB400_391 := nr BK391 hg; replace BK391 := kb BK391 hb; clear hb hbox hg; obtain ⟨Ao63, co63, eo63⟩ := Kd.R_slice HO394.out; subst eo63; have hnb64 := NB400_390.out; have hnc64 := NB390_400.out; have hnb65 := NB400_391.out; have hnc65 := NB391_400.out; obtain ⟨_, _, _, _, _, _, _, _⟩ := blkc4 BK400; obtain ⟨Ao67, co67, eo67⟩ := Kd.R_slice HO398.out; subst eo67; obtain ⟨_, _, _, _, _, _, _, _⟩ := blkc4 BK390) | ((with_reducible refine gate_callee (f := 193) rfl ?_); refine gL (some 11) Try.func193 #[.slice A0 l0.length c0, .agg #[.slice A1_0 l1_0.length c1_0, .int .i64 a1_1, .slice A1_2 l1_2.length c1_2, .int .i64 a1_3]] ?_; (with_reducible refine (spec_IsControl.calls k _ _ l0 _ _ l1_0 a1_1 _ _ l1_2 a1_3 false _ ?_ ?_ ?_ ?_ ?_ ?_ A4.out).mono ?_); exact Kd.C_below HR0.out bG; exact HC0.out; exact Kd.C_below HR1_0.out bG; exact HC1_0.out; exact Kd.C_below HR1_2.out bG; exact HC1_2.out; rintro e w69 ⟨rfl, hb⟩; refine ⟨_, rfl, ?_⟩; replace HO394 := Aside0.mk (Kd.R_below (rf HO394 BK400) hb); replace HO398 := Aside0.mk (Kd.R_below (rf HO398 BK400) hb); replace BK390 := kc (kf BK390 NB390_400) hb; replace BK391 := kc (kf BK391 NB391_400) hb; replace BK400 := kc (o := .cells #[.slice Ao63 t392.length co63, .int .i64 t395, .slice Ao67 t396.length co67, .int .i64 t399] 66 (0, 0)) (kp BK400) hb; replace HB := bs HB hb; (try clear hb); obtain ⟨_, _, _, _, _, _, _, _⟩ := blkc4 BK400; obtain ⟨_, _, _, _, _, _, _, _⟩ := blkc4 BK391))
 refine bodyPost_ret (results_cell_row rfl _ _ gb391 66 #[.slice Ao63 t392.length co63, .int .i64 t395, .slice Ao67 t396.length co67, .int .i64 t399] (0, 0) _ rfl (kp BK391) Try.underlying66 rfl (by kernel_rfl)) rfl ?_
 exact ⟨_, _, rA, rf HO394 BK391, rf HO398 BK391, bG⟩

end Go.Proofs.Ytjgonpcajedkjaa.P
