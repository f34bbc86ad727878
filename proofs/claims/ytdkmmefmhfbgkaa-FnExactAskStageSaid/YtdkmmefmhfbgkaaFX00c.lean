/- Printed by myprint.py (wip/tools) over the kit's print: what Go's functions compute, and that they do. Lean checks it. -/
import Derived.Test.YtdkmmefmhfbgkaaF0
import Derived.Test.YtdkmmefmhfbgkaaFX00
import Derived.Test.YtdkmmefmhfbgkaaFX00b
namespace Go.Proofs.Ytdkmmefmhfbgkaa.P
open Go.RowKit Go.Proofs.YtdkmmefmhfbgkaaW.PrintWords Go.Proofs.YtdkmmefmhfbgkaaW.PrintLast Go.Proofs.YtdkmmefmhfbgkaaW.PrintMore Go.Proofs.Ytdkmmefmhfbgkaa.Sq
attribute [local go_sem] max2_int min2_int max_two min_two max_three min_three max_four min_four
set_option linter.unusedVariables false
set_option linter.unusedSimpArgs false

/-! ### slices_Index_int_int: function 138 -/
def slices_Index_int_int.l0 : Nat → List Int → Int → Int → Int → Option (Int)
 | 0, _, _, _, _ => none
 | k + 1, x0, x1, x7, x8 => if x8 < x7 then (if 0 ≤ x8 then (if x8 < (x0.length : Int) then (if x1 = (rd x0 x8) then (some x8) else (slices_Index_int_int.l0 k x0 x1 x7 (wrap64 (x8 + 1)))) else (none)) else (none)) else (some (-1))
def slices_Index_int_int.f (k : Nat) (l0 : List Int) (a1 : Int) : Option (Int) := slices_Index_int_int.l0 k l0 a1 (l0.length : Int) 0
theorem slices_Index_int_int.mono_l : ∀ k, (∀ y0 y1 y2 y3, LeO (slices_Index_int_int.l0 k y0 y1 y2 y3) (slices_Index_int_int.l0 (k + 1) y0 y1 y2 y3))
 | 0 => fun _ _ _ _ r h => by simp [slices_Index_int_int.l0] at h
 | k + 1 => by
  have ih0 := slices_Index_int_int.mono_l k
  ·
   intro y0 y1 y2 y3
   unfold slices_Index_int_int.l0
   exact mz1 ih0
theorem slices_Index_int_int.mono : ∀ a0 a1 k, LeO (slices_Index_int_int.f k a0 a1) (slices_Index_int_int.f (k + 1) a0 a1) := by
 intro a0 a1 k
 have ih0 := slices_Index_int_int.mono_l k
 unfold slices_Index_int_int.f
 exact mz1 ih0
set_option maxHeartbeats 8000000 in
set_option maxRecDepth 100000 in
theorem slices_Index_int_int.calls (k : Nat) (A0 : Option Addr) (c0 : Nat) (l0 : List Int) (a1 : Int) (r : Int) (w : World) (hr0 : Kd.C (Kd.int .i64) w A0 l0.length l0) (hc0 : l0.length ≤ c0) (h : slices_Index_int_int.f k l0 a1 = some r) :
  Calls Try.prog 138 #[.slice A0 l0.length c0, .int .i64 a1] w fun e w' => e = .returned (.int .i64 r) ∧ Drawn0 w w' := by
 have HR0 := Aside0.mk hr0
 have HC0 := Aside0.mk hc0
 clear hr0 hc0
 have H : (slices_Index_int_int.l0 k l0 a1 (l0.length : Int) 0) = some r := h
 clear h
 have H' := Aside0.mk H
 clear H
 go_enter Try.func138, Try.ntmps138
 go_wp2
 go_loopg [8] k (fun kq v8 w' => ∃ (x8_1 : Int), v8 = .int .i64 x8_1 ∧ Aside0 (slices_Index_int_int.l0 kq l0 a1 (l0.length : Int) x8_1 = some r) ∧ Aside0 (kq ≤ k) ∧ Drawn0 w w')
 case atStart => exact ⟨(0), rS, H', ⟨Nat.le_refl _⟩, by repeat (first | exact Drawn0.refl _ | apply Drawn0.step)⟩
 case round =>
  clear H'
  obtain ⟨x8_1, rfl, HA, HK1, ⟨m1, rfl⟩⟩ := hrel
  cases gk with
  | zero => exact absurd HA.out (by simp [slices_Index_int_int.l0])
  | succ k1 =>
   have H := HA.out
   clear HA
   simp only [slices_Index_int_int.l0] at H
   by_cases c3 : x8_1 < (l0.length : Int)
   ·
    rw [if_pos c3] at H
    have c3b0 := decide_eq_true c3
    clear c3
    have c4 : 0 ≤ x8_1 := ifN H
    replace H := ifT H
    have c4b0 := decide_eq_true c4
    clear c4
    have c5 : x8_1 < (l0.length : Int) := ifN H
    replace H := ifT H
    have c5b0 := decide_eq_true c5
    clear c5
    by_cases c6 : a1 = (rd l0 x8_1)
    ·
     rw [if_pos c6] at H
     have c6b0 : (a1 == (rd l0 x8_1)) = true := beq_iff_eq.mpr c6
     have c6b1 : (a1 != (rd l0 x8_1)) = false := bne_eq_false_iff_eq.mpr c6
     clear c6
     obtain rfl := Option.some.inj H
     obtain ⟨p320, q320⟩ : 0 ≤ (x8_1 : Int) ∧ x8_1 < (l0.length : Int) := ⟨dA, dA⟩
     obtain ⟨ad320, e320, hx320_0⟩ := Kd.at_int HR0.out x8_1 p320 q320
     cases e320
     obtain ⟨p320, q320⟩ := eT p320 q320
     go_wp2
     go_ret
     exact ⟨rS, dD⟩
    rw [if_neg c6] at H
    have c6b0 : (a1 == (rd l0 x8_1)) = false := beq_eq_false_iff_ne.mpr c6
    have c6b1 : (a1 != (rd l0 x8_1)) = true := bne_iff_ne.mpr c6
    have H' := Aside0.mk H
    clear H
    obtain ⟨p320, q320⟩ : 0 ≤ (x8_1 : Int) ∧ x8_1 < (l0.length : Int) := ⟨dA, dA⟩
    obtain ⟨ad320, e320, hx320_0⟩ := Kd.at_int HR0.out x8_1 p320 q320
    cases e320
    obtain ⟨p320, q320⟩ := eT p320 q320
    go_wp2
    go_roundg k1
    case measure => have := HK1.out; omega
    case rel => exact ⟨(wrap64 (x8_1 + 1)), rS, H', ⟨by have := HK1.out; omega⟩, by repeat (first | exact Drawn0.refl _ | apply Drawn0.step)⟩
   rw [if_neg c3] at H
   have c3b0 := decide_eq_false c3
   clear c3
   obtain rfl := Option.some.inj H
   go_wp2
   go_ret
   exact ⟨rS, dD⟩

/-! ### slices_Contains_int_int: function 104 -/
def slices_Contains_int_int.f (k : Nat) (l0 : List Int) (a1 : Int) : Option (Bool) := (slices_Index_int_int.f k l0 a1).bind fun t321 => (some (decide (t321 ≥ 0)))
theorem slices_Contains_int_int.mono : ∀ a0 a1 k, LeO (slices_Contains_int_int.f k a0 a1) (slices_Contains_int_int.f (k + 1) a0 a1) := by
 intro a0 a1 k
 unfold slices_Contains_int_int.f
 exact mz1 slices_Index_int_int.mono
set_option maxHeartbeats 8000000 in
set_option maxRecDepth 100000 in
theorem slices_Contains_int_int.calls (k : Nat) (A0 : Option Addr) (c0 : Nat) (l0 : List Int) (a1 : Int) (r : Bool) (w : World) (hr0 : Kd.C (Kd.int .i64) w A0 l0.length l0) (hc0 : l0.length ≤ c0) (h : slices_Contains_int_int.f k l0 a1 = some r) :
  Calls Try.prog 104 #[.slice A0 l0.length c0, .int .i64 a1] w fun e w' => e = .returned (.bool r) ∧ Drawn0 w w' := by
 have HR0 := Aside0.mk hr0
 have HC0 := Aside0.mk hc0
 clear hr0 hc0
 have H : ((slices_Index_int_int.f k l0 a1).bind fun t321 => (some (decide (t321 ≥ 0)))) = some r := h
 clear h
 obtain ⟨t321, A3, H⟩ := bindE H
 try dsimp only at H
 obtain rfl := Option.some.inj H
 go_enter Try.func104, Try.ntmps104
 go_wp2_with (first | ((with_reducible refine gate_callee (f := 138) rfl ?_); refine gL (some 7) Try.func138 #[.slice A0 l0.length c0, .int .i64 a1] ?_; (with_reducible refine (slices_Index_int_int.calls k _ _ l0 a1 t321 _ ?_ ?_ A3.out).mono ?_); exact cO HR0; exact HC0.out; rintro e w' ⟨rfl, ⟨nd, rfl⟩⟩; refine ⟨_, rfl, ?_⟩))
 go_ret
 exact ⟨rS, dD⟩

/-! ### impl_sieve: function 155 -/
def impl_sieve.l0 : Nat → List Int → Bool → List Int → List Int → Int → Int → Option (List Int)
 | 0, _, _, _, _, _, _ => none
 | k + 1, x1, x2, x7, x11, x12, x13 => if x13 < x12 then (if 0 ≤ x13 then (if x13 < (x11.length : Int) then ((slices_Contains_int_int.f k x1 (rd x11 x13)).bind fun t326 => (if (t326 == x2) = true then (if x7.length < 17592186044416 then (impl_sieve.l0 k x1 x2 (x7 ++ [rd x11 x13]) x11 x12 (wrap64 (x13 + 1))) else (none)) else (impl_sieve.l0 k x1 x2 x7 x11 x12 (wrap64 (x13 + 1))))) else (none)) else (none)) else (some x7)
def impl_sieve.f (k : Nat) (l0 : List Int) (l1 : List Int) (a2 : Bool) : Option (List Int) := impl_sieve.l0 k l1 a2 (([] : List Int)) l0 (l0.length : Int) 0
theorem impl_sieve.mono_l : ∀ k, (∀ y0 y1 y2 y3 y4 y5, LeO (impl_sieve.l0 k y0 y1 y2 y3 y4 y5) (impl_sieve.l0 (k + 1) y0 y1 y2 y3 y4 y5))
 | 0 => fun _ _ _ _ _ _ r h => by simp [impl_sieve.l0] at h
 | k + 1 => by
  have ih0 := impl_sieve.mono_l k
  ·
   intro y0 y1 y2 y3 y4 y5
   unfold impl_sieve.l0
   exact mz2 ih0 slices_Contains_int_int.mono
theorem impl_sieve.mono : ∀ a0 a1 a2 k, LeO (impl_sieve.f k a0 a1 a2) (impl_sieve.f (k + 1) a0 a1 a2) := by
 intro a0 a1 a2 k
 have ih0 := impl_sieve.mono_l k
 unfold impl_sieve.f
 exact mz2 ih0 slices_Contains_int_int.mono
set_option maxHeartbeats 8000000 in
set_option maxRecDepth 100000 in
theorem impl_sieve.calls (k : Nat) (A0 : Option Addr) (c0 : Nat) (l0 : List Int) (A1 : Option Addr) (c1 : Nat) (l1 : List Int) (a2 : Bool) (r : List Int) (w : World) (hr0 : Kd.C (Kd.int .i64) w A0 l0.length l0) (hc0 : l0.length ≤ c0) (hr1 : Kd.C (Kd.int .i64) w A1 l1.length l1) (hc1 : l1.length ≤ c1) (h : impl_sieve.f k l0 l1 a2 = some r) :
  Calls Try.prog 155 #[.slice A0 l0.length c0, .slice A1 l1.length c1, .bool a2] w fun e w' => ∃ v0_ : Value, e = .returned (v0_) ∧ Kd.R (Kd.int .i64) 3 w' w.heap.size (fun _ => True) v0_ r ∧ Below w.heap.size w w' := by
 have HR0 := Aside0.mk hr0
 have HC0 := Aside0.mk hc0
 clear hr0 hc0
 have HR1 := Aside0.mk hr1
 have HC1 := Aside0.mk hc1
 clear hr1 hc1
 have HB := Aside0.mk (Below.refl w.heap.size w)
 have H : (impl_sieve.l0 k l1 a2 (([] : List Int)) l0 (l0.length : Int) 0) = some r := h
 clear h
 obtain ⟨y322, hy322⟩ : ∃ y_ : List Int, y_ = (([] : List Int)) := ⟨_, rfl⟩
 replace H : (impl_sieve.l0 k l1 a2 y322 l0 (l0.length : Int) 0) = some r := rH H hy322
 have Ny322 := Aside0.mk hy322
 clear hy322
 have H' := Aside0.mk H
 clear H
 go_enter Try.func155, Try.ntmps155
 go_wp2_with (first | ((with_reducible refine gate_dst (N := 10) rfl ?_); refine Kd.R_lit (Kd.int .i64) _ 3 ?hg (N := 10) ?hd (xs := ([] : List Int)) (inner := []) (ok := fun _ => True) (okp := fun _ => True) ?hr ?hp (fun _ hk => hk) trivial (Below.refl _ _) (Nat.le_refl _) (by simp) ?_; (case hd => rfl); (case hg => rfl); (case hr => first | (go_simp; done) | (go_simp; rfl)); (case hp => exact (Reps.none _ _)); intro v323 w4 ho5 hb hg_ hnew_; clear hg_ hnew_; (first | rw [← Ny322.out] at ho5 | (simp only [Int.reduceToNat] at ho5; rw [← Ny322.out] at ho5)); have HO324 := rl w ho5; replace HB := bs HB hb; clear hb ho5))
 go_loopg [7, 13] k (fun kq v7 v13 w' => ∃ (x7_1 : List Int) (x13_1 : Int), v13 = .int .i64 x13_1 ∧ Aside0 (impl_sieve.l0 kq l1 a2 x7_1 l0 (l0.length : Int) x13_1 = some r) ∧ Aside0 (kq ≤ k) ∧ Aside0 (Kd.R (Kd.int .i64) 3 w' w.heap.size (fun _ => True) v7 x7_1) ∧ Aside0 (Below w.heap.size w w'))
 case atStart => exact ⟨(y322), (0), rS, H', ⟨Nat.le_refl _⟩, ⟨rK HO324⟩, ⟨bA⟩⟩
 case round =>
  clear H'
  obtain ⟨x7_1, x13_1, rfl, HA, HK1, HO_7, HB⟩ := hrel
  cases gk with
  | zero => exact absurd HA.out (by simp [impl_sieve.l0])
  | succ k1 =>
   have H := HA.out
   clear HA
   simp only [impl_sieve.l0] at H
   by_cases c6 : x13_1 < (l0.length : Int)
   ·
    rw [if_pos c6] at H
    have c6b0 := decide_eq_true c6
    clear c6
    have c7 : 0 ≤ x13_1 := ifN H
    replace H := ifT H
    have c7b0 := decide_eq_true c7
    clear c7
    have c8 : x13_1 < (l0.length : Int) := ifN H
    replace H := ifT H
    have c8b0 := decide_eq_true c8
    clear c8
    obtain ⟨t326, A9, H⟩ := bindE H
    try dsimp only at H
    by_cases c10 : (t326 == a2) = true
    ·
     rw [if_pos c10] at H
     have c10b0 : (t326 == a2) = true := c10
     (try (have c10b1 : decide (t326 = a2) = true := by simpa using c10))
     (try (have c10b2 : (t326 == a2) = true := by simpa using c10))
     clear c10
     have c11 : x7_1.length < 17592186044416 := ifN H
     replace H := ifT H
     have LMc11 := Aside0.mk c11
     clear c11
     obtain ⟨y327, hy327⟩ : ∃ y_ : List Int, y_ = (x7_1 ++ [rd l0 x13_1]) := ⟨_, rfl⟩
     replace H : (impl_sieve.l0 k1 l1 a2 y327 l0 (l0.length : Int) (wrap64 (x13_1 + 1))) = some r := rH H hy327
     have Ny327 := Aside0.mk hy327
     clear hy327
     have H' := Aside0.mk H
     clear H
     obtain ⟨p325, q325⟩ : 0 ≤ (x13_1 : Int) ∧ x13_1 < (l0.length : Int) := ⟨dA, dA⟩
     obtain ⟨ad325, e325, hx325_0⟩ := Kd.at_int (Kd.C_below HR0.out HB.out) x13_1 p325 q325
     cases e325
     obtain ⟨p325, q325⟩ := eT p325 q325
     go_wp2_with (first | ((with_reducible refine gate_callee (f := 104) rfl ?_); refine gL (some 19) Try.func104 #[.slice A1 l1.length c1, .int .i64 (rd l0 x13_1)] ?_; (with_reducible refine (slices_Contains_int_int.calls k1 _ _ l1 (rd l0 x13_1) t326 _ ?_ ?_ A9.out).mono ?_); exact cB HR1; exact HC1.out; rintro e w' ⟨rfl, ⟨nd, rfl⟩⟩; refine ⟨_, rfl, ?_⟩) | ((with_reducible refine gate_builtin (b := .append) (xs := #[.tmp 22, .tmp 24]) rfl ?_); at_builtin; refine Kd.R_append (Kd.int .i64) (w0 := w) w.heap.size rfl (.tmp 22) (.tmp 24) 41 3 (.int .i64 0) 8 rfl Try.underlying41 info3 rfl (by decide) (by omega) u7 x7_1 (rd l0 x13_1) [.int .i64 (rd l0 x13_1)] (fun _ => True) (fun _ => False) rfl rfl ?aP (fun _ hk => hk.elim) ?aF ?aO ?aB ?aS ?aL ?_; (case aP => exact rfl); (case aB => exact bA); (case aF => exact (fun _ _ => trivial)); (case aO => exact (rK HO_7)); (case aS => exact (below_size bA)); (case aL => have := LMc11.out; omega); intro v328 w12 ho hb hg hat; rw [← Ny327.out] at ho; have n0_ := Aside0.mk (hb); have n1_ := Aside0.mk (ho); clear HB; clear HO_7; have HB := n0_; have HO329 := n1_; clear n0_ n1_; clear ho hb hg hat))
     go_roundg k1
     case measure => have := HK1.out; omega
     case rel => exact ⟨(y327), (wrap64 (x13_1 + 1)), rS, H', ⟨by have := HK1.out; omega⟩, ⟨rK HO329⟩, ⟨bA⟩⟩
    rw [if_neg c10] at H
    have c10b0 : (t326 == a2) = false := by simpa using c10
    (try (have c10b1 : decide (t326 = a2) = false := by simpa using c10))
    (try (have c10b2 : (t326 == a2) = false := by simpa using c10))
    (try (have c10b3 : ¬ (t326 = a2) := by simpa using c10))
    clear c10
    have H' := Aside0.mk H
    clear H
    obtain ⟨p325, q325⟩ : 0 ≤ (x13_1 : Int) ∧ x13_1 < (l0.length : Int) := ⟨dA, dA⟩
    obtain ⟨ad325, e325, hx325_0⟩ := Kd.at_int (Kd.C_below HR0.out HB.out) x13_1 p325 q325
    cases e325
    obtain ⟨p325, q325⟩ := eT p325 q325
    go_wp2_with (first | ((with_reducible refine gate_callee (f := 104) rfl ?_); refine gL (some 19) Try.func104 #[.slice A1 l1.length c1, .int .i64 (rd l0 x13_1)] ?_; (with_reducible refine (slices_Contains_int_int.calls k1 _ _ l1 (rd l0 x13_1) t326 _ ?_ ?_ A9.out).mono ?_); exact cB HR1; exact HC1.out; rintro e w' ⟨rfl, ⟨nd, rfl⟩⟩; refine ⟨_, rfl, ?_⟩))
    go_roundg k1
    case measure => have := HK1.out; omega
    case rel => exact ⟨(x7_1), (wrap64 (x13_1 + 1)), rS, H', ⟨by have := HK1.out; omega⟩, ⟨rK HO_7⟩, ⟨bA⟩⟩
   rw [if_neg c6] at H
   have c6b0 := decide_eq_false c6
   clear c6
   obtain rfl := Option.some.inj H
   go_wp2
   go_ret
   exact ⟨_, rA, rK HO_7, bA⟩

/-! ### impl_Closes: function 134 -/
def impl_Closes.f (k : Nat) (l0 : List Int) (l1 : List Int) : Option (List Int) := (impl_sieve.f k l0 l1 false).bind fun t330 => (some t330)
theorem impl_Closes.mono : ∀ a0 a1 k, LeO (impl_Closes.f k a0 a1) (impl_Closes.f (k + 1) a0 a1) := by
 intro a0 a1 k
 unfold impl_Closes.f
 exact mz1 impl_sieve.mono
set_option maxHeartbeats 8000000 in
set_option maxRecDepth 100000 in
theorem impl_Closes.calls (k : Nat) (A0 : Option Addr) (c0 : Nat) (l0 : List Int) (A1 : Option Addr) (c1 : Nat) (l1 : List Int) (r : List Int) (w : World) (hr0 : Kd.C (Kd.int .i64) w A0 l0.length l0) (hc0 : l0.length ≤ c0) (hr1 : Kd.C (Kd.int .i64) w A1 l1.length l1) (hc1 : l1.length ≤ c1) (h : impl_Closes.f k l0 l1 = some r) :
  Calls Try.prog 134 #[.slice A0 l0.length c0, .slice A1 l1.length c1] w fun e w' => ∃ v0_ : Value, e = .returned (v0_) ∧ Kd.R (Kd.int .i64) 3 w' w.heap.size (fun _ => True) v0_ r ∧ Below w.heap.size w w' := by
 have HR0 := Aside0.mk hr0
 have HC0 := Aside0.mk hc0
 clear hr0 hc0
 have HR1 := Aside0.mk hr1
 have HC1 := Aside0.mk hc1
 clear hr1 hc1
 have HB := Aside0.mk (Below.refl w.heap.size w)
 have H : ((impl_sieve.f k l0 l1 false).bind fun t330 => (some t330)) = some r := h
 clear h
 obtain ⟨t330, A3, H⟩ := bindE H
 try dsimp only at H
 obtain rfl := Option.some.inj H
 go_enter Try.func134, Try.ntmps134
 go_wp2_with (first | ((with_reducible refine gate_callee (f := 155) rfl ?_); refine gL (some 7) Try.func155 #[.slice A0 l0.length c0, .slice A1 l1.length c1, .bool false] ?_; (with_reducible refine (impl_sieve.calls k _ _ l0 _ _ l1 false t330 _ ?_ ?_ ?_ ?_ A3.out).mono ?_); exact cO HR0; exact HC0.out; exact cO HR1; exact HC1.out; rintro e w4 ⟨v331, rfl, ho0, hb⟩; refine ⟨_, rfl, ?_⟩; have HO332 := rl w ho0; replace HB := bs HB hb; (try clear hb); (try clear ho0)))
 go_ret
 exact ⟨_, rA, rK HO332, bA⟩

/-! ### impl_ClearOf: function 135 -/
def impl_ClearOf.f (a0_0 : Int) (a0_1 : Int) (a0_2 : Int) (a0_3 : Int) : Option (Int) := (impl_IsPath.f a0_0 a0_1 a0_2 a0_3).bind fun t334 => (if t334 = true then (if a0_1 = 1 then (some 2) else (if a0_1 = 3 then (some 3) else (some 5))) else (some 0))
set_option maxHeartbeats 8000000 in
set_option maxRecDepth 100000 in
theorem impl_ClearOf.calls (a0_0 : Int) (a0_1 : Int) (a0_2 : Int) (a0_3 : Int) (r : Int) (w : World) (h : impl_ClearOf.f a0_0 a0_1 a0_2 a0_3 = some r) :
  Calls Try.prog 135 #[.agg #[.int .i64 a0_0, .int .i64 a0_1, .int .i64 a0_2, .int .i64 a0_3]] w fun e w' => e = .returned (.int .i64 r) ∧ Below w.heap.size w w' := by
 have hu89 := Try.underlying89
 have HB := Aside0.mk (Below.refl w.heap.size w)
 have H : ((impl_IsPath.f a0_0 a0_1 a0_2 a0_3).bind fun t334 => (if t334 = true then (if a0_1 = 1 then (some 2) else (if a0_1 = 3 then (some 3) else (some 5))) else (some 0))) = some r := h
 clear h
 obtain ⟨t334, A2, H⟩ := bindE H
 try dsimp only at H
 by_cases c3 : t334 = true
 ·
  subst c3
  have H1 : (if a0_1 = 1 then (some 2) else (if a0_1 = 3 then (some 3) else (some 5))) = some r := by rw [if_pos rfl] at H; exact H
  clear H
  have H := H1
  clear H1
  by_cases c4 : a0_1 = 1
  ·
   rw [if_pos c4] at H
   have c4b0 : (a0_1 == 1) = true := beq_iff_eq.mpr c4
   have c4b1 : (a0_1 != 1) = false := bne_eq_false_iff_eq.mpr c4
   clear c4
   obtain rfl := Option.some.inj H
   go_enter Try.func135, Try.ntmps135
   go_wp2_with (first | ((with_reducible refine gate_dst (N := 1) rfl ?_); refine bE (N := 1) (cs := #[.int .i64 a0_0, .int .i64 a0_1, .int .i64 a0_2, .int .i64 a0_3]) (t := 89) ?_; intro gb333 hg w5 hbox hb; have BK333 := Aside0.mk (hbox); have GW333 := gw w hg; have GE333 := gw w hg; replace HB := bs HB hb; clear hb hbox hg; have hcz6_0 : w5.cell? ⟨gb333, 0, none⟩ = some (.int .i64 a0_0) := bC BK333 0; have hcz6_1 : w5.cell? ⟨gb333, 1, none⟩ = some (.int .i64 a0_1) := bC BK333 1; have hcz6_2 : w5.cell? ⟨gb333, 2, none⟩ = some (.int .i64 a0_2) := bC BK333 2; have hcz6_3 : w5.cell? ⟨gb333, 3, none⟩ = some (.int .i64 a0_3) := bC BK333 3; have hfz6_0 := blk_frozen BK333.out 0; have hfz6_1 := blk_frozen BK333.out 1; have hfz6_2 := blk_frozen BK333.out 2; have hfz6_3 := blk_frozen BK333.out 3) | ((with_reducible refine gate_callee (f := 146) rfl ?_); refine gL (some 4) Try.func146 #[.agg #[.int .i64 a0_0, .int .i64 a0_1, .int .i64 a0_2, .int .i64 a0_3]] ?_; (with_reducible refine (impl_IsPath.calls a0_0 a0_1 a0_2 a0_3 true _ A2.out).mono ?_); rintro e w7 ⟨rfl, hb⟩; refine ⟨_, rfl, ?_⟩; replace BK333 := kb BK333 hb; replace HB := bs HB hb; (try clear hb); obtain ⟨_, _, _, _, _, _, _, _⟩ := blkc4 BK333))
   go_ret
   exact ⟨rA, bG⟩
  rw [if_neg c4] at H
  have c4b0 : (a0_1 == 1) = false := beq_eq_false_iff_ne.mpr c4
  have c4b1 : (a0_1 != 1) = true := bne_iff_ne.mpr c4
  by_cases c9 : a0_1 = 3
  ·
   rw [if_pos c9] at H
   have c9b0 : (a0_1 == 3) = true := beq_iff_eq.mpr c9
   have c9b1 : (a0_1 != 3) = false := bne_eq_false_iff_eq.mpr c9
   clear c9
   obtain rfl := Option.some.inj H
   go_enter Try.func135, Try.ntmps135
   go_wp2_with (first | ((with_reducible refine gate_dst (N := 1) rfl ?_); refine bE (N := 1) (cs := #[.int .i64 a0_0, .int .i64 a0_1, .int .i64 a0_2, .int .i64 a0_3]) (t := 89) ?_; intro gb333 hg w10 hbox hb; have BK333 := Aside0.mk (hbox); have GW333 := gw w hg; have GE333 := gw w hg; replace HB := bs HB hb; clear hb hbox hg; have hcz11_0 : w10.cell? ⟨gb333, 0, none⟩ = some (.int .i64 a0_0) := bC BK333 0; have hcz11_1 : w10.cell? ⟨gb333, 1, none⟩ = some (.int .i64 a0_1) := bC BK333 1; have hcz11_2 : w10.cell? ⟨gb333, 2, none⟩ = some (.int .i64 a0_2) := bC BK333 2; have hcz11_3 : w10.cell? ⟨gb333, 3, none⟩ = some (.int .i64 a0_3) := bC BK333 3; have hfz11_0 := blk_frozen BK333.out 0; have hfz11_1 := blk_frozen BK333.out 1; have hfz11_2 := blk_frozen BK333.out 2; have hfz11_3 := blk_frozen BK333.out 3) | ((with_reducible refine gate_callee (f := 146) rfl ?_); refine gL (some 4) Try.func146 #[.agg #[.int .i64 a0_0, .int .i64 a0_1, .int .i64 a0_2, .int .i64 a0_3]] ?_; (with_reducible refine (impl_IsPath.calls a0_0 a0_1 a0_2 a0_3 true _ A2.out).mono ?_); rintro e w12 ⟨rfl, hb⟩; refine ⟨_, rfl, ?_⟩; replace BK333 := kb BK333 hb; replace HB := bs HB hb; (try clear hb); obtain ⟨_, _, _, _, _, _, _, _⟩ := blkc4 BK333))
   go_ret
   exact ⟨rA, bG⟩
  rw [if_neg c9] at H
  have c9b0 : (a0_1 == 3) = false := beq_eq_false_iff_ne.mpr c9
  have c9b1 : (a0_1 != 3) = true := bne_iff_ne.mpr c9
  obtain rfl := Option.some.inj H
  go_enter Try.func135, Try.ntmps135
  go_wp2_with (first | ((with_reducible refine gate_dst (N := 1) rfl ?_); refine bE (N := 1) (cs := #[.int .i64 a0_0, .int .i64 a0_1, .int .i64 a0_2, .int .i64 a0_3]) (t := 89) ?_; intro gb333 hg w14 hbox hb; have BK333 := Aside0.mk (hbox); have GW333 := gw w hg; have GE333 := gw w hg; replace HB := bs HB hb; clear hb hbox hg; have hcz15_0 : w14.cell? ⟨gb333, 0, none⟩ = some (.int .i64 a0_0) := bC BK333 0; have hcz15_1 : w14.cell? ⟨gb333, 1, none⟩ = some (.int .i64 a0_1) := bC BK333 1; have hcz15_2 : w14.cell? ⟨gb333, 2, none⟩ = some (.int .i64 a0_2) := bC BK333 2; have hcz15_3 : w14.cell? ⟨gb333, 3, none⟩ = some (.int .i64 a0_3) := bC BK333 3; have hfz15_0 := blk_frozen BK333.out 0; have hfz15_1 := blk_frozen BK333.out 1; have hfz15_2 := blk_frozen BK333.out 2; have hfz15_3 := blk_frozen BK333.out 3) | ((with_reducible refine gate_callee (f := 146) rfl ?_); refine gL (some 4) Try.func146 #[.agg #[.int .i64 a0_0, .int .i64 a0_1, .int .i64 a0_2, .int .i64 a0_3]] ?_; (with_reducible refine (impl_IsPath.calls a0_0 a0_1 a0_2 a0_3 true _ A2.out).mono ?_); rintro e w16 ⟨rfl, hb⟩; refine ⟨_, rfl, ?_⟩; replace BK333 := kb BK333 hb; replace HB := bs HB hb; (try clear hb); obtain ⟨_, _, _, _, _, _, _, _⟩ := blkc4 BK333))
  go_ret
  exact ⟨rA, bG⟩
 replace c3 := Bool.eq_false_iff.mpr c3
 subst c3
 have H1 : (some 0) = some r := by rw [if_neg (show ¬ (false = true) by decide)] at H; exact H
 clear H
 have H := H1
 clear H1
 obtain rfl := Option.some.inj H
 go_enter Try.func135, Try.ntmps135
 go_wp2_with (first | ((with_reducible refine gate_dst (N := 1) rfl ?_); refine bE (N := 1) (cs := #[.int .i64 a0_0, .int .i64 a0_1, .int .i64 a0_2, .int .i64 a0_3]) (t := 89) ?_; intro gb333 hg w18 hbox hb; have BK333 := Aside0.mk (hbox); have GW333 := gw w hg; have GE333 := gw w hg; replace HB := bs HB hb; clear hb hbox hg; have hcz19_0 : w18.cell? ⟨gb333, 0, none⟩ = some (.int .i64 a0_0) := bC BK333 0; have hcz19_1 : w18.cell? ⟨gb333, 1, none⟩ = some (.int .i64 a0_1) := bC BK333 1; have hcz19_2 : w18.cell? ⟨gb333, 2, none⟩ = some (.int .i64 a0_2) := bC BK333 2; have hcz19_3 : w18.cell? ⟨gb333, 3, none⟩ = some (.int .i64 a0_3) := bC BK333 3; have hfz19_0 := blk_frozen BK333.out 0; have hfz19_1 := blk_frozen BK333.out 1; have hfz19_2 := blk_frozen BK333.out 2; have hfz19_3 := blk_frozen BK333.out 3) | ((with_reducible refine gate_callee (f := 146) rfl ?_); refine gL (some 4) Try.func146 #[.agg #[.int .i64 a0_0, .int .i64 a0_1, .int .i64 a0_2, .int .i64 a0_3]] ?_; (with_reducible refine (impl_IsPath.calls a0_0 a0_1 a0_2 a0_3 false _ A2.out).mono ?_); rintro e w20 ⟨rfl, hb⟩; refine ⟨_, rfl, ?_⟩; replace BK333 := kb BK333 hb; replace HB := bs HB hb; (try clear hb)))
 go_ret
 exact ⟨rA, bG⟩

/-! ### impl_ClearBetween: function 89 -/
mutual
def impl_ClearBetween.j0 : Nat → List (S89) → List Int → List Int → Int → Bool → Option (Int)
 | 0, _, _, _, _, _ => none
 | k + 1, x0, x1, x2, x7, x22 => if x22 = true then (some x7) else ((impl_Closes.f k x1 x2).bind fun t337 => (impl_ClearBetween.l0 k x0 x1 x2 x7 t337 (t337.length : Int) 0))
def impl_ClearBetween.l0 : Nat → List (S89) → List Int → List Int → Int → List Int → Int → Int → Option (Int)
 | 0, _, _, _, _, _, _, _ => none
 | k + 1, x0, x1, x2, x7, x26, x27, x28 => if x28 < x27 then (if 0 ≤ x28 then (if x28 < (x26.length : Int) then ((impl_Closes.f k x2 x1).bind fun t341 => (impl_ClearBetween.l1 k x0 x1 x2 x7 (rd x26 x28) x26 x27 x28 t341 (t341.length : Int) 0)) else (none)) else (none)) else (some x7)
def impl_ClearBetween.l1 : Nat → List (S89) → List Int → List Int → Int → Int → List Int → Int → Int → List Int → Int → Int → Option (Int)
 | 0, _, _, _, _, _, _, _, _, _, _, _ => none
 | k + 1, x0, x1, x2, x7, x9, x26, x27, x28, x34, x35, x36 => if x36 < x35 then (if 0 ≤ x36 then (if x36 < (x34.length : Int) then ((impl_FindPath.f x0 x9).bind fun t345 => (if 0 ≤ t345 then (if t345 < (x0.length : Int) then ((impl_FindPath.f x0 (rd x34 x36)).bind fun t348 => (if 0 ≤ t348 then (if t348 < (x0.length : Int) then ((impl_Conflict.f k ((rd_T89 x0 t345).f0) ((rd_T89 x0 t345).f1) ((rd_T89 x0 t345).f2) ((rd_T89 x0 t345).f3) ((rd_T89 x0 t348).f0) ((rd_T89 x0 t348).f1) ((rd_T89 x0 t348).f2) ((rd_T89 x0 t348).f3)).bind fun t350 => (if t350 = true then ((impl_ClearOf.f ((rd_T89 x0 t345).f0) ((rd_T89 x0 t345).f1) ((rd_T89 x0 t345).f2) ((rd_T89 x0 t345).f3)).bind fun t351 => (impl_ClearBetween.l1 k x0 x1 x2 (mx x7 t351) x9 x26 x27 x28 x34 x35 (wrap64 (x36 + 1)))) else (impl_ClearBetween.l1 k x0 x1 x2 x7 x9 x26 x27 x28 x34 x35 (wrap64 (x36 + 1))))) else (none)) else (none))) else (none)) else (none))) else (none)) else (none)) else (impl_ClearBetween.l0 k x0 x1 x2 x7 x26 x27 (wrap64 (x28 + 1)))
end
def impl_ClearBetween.f (k : Nat) (l0 : List (S89)) (l1 : List Int) (l2 : List Int) : Option (Int) := (impl_IsTogether.f k l0 l1).bind fun t335 => (if t335 = true then ((impl_IsTogether.f k l0 l2).bind fun t336 => (impl_ClearBetween.j0 k l0 l1 l2 0 (!t336))) else (impl_ClearBetween.j0 k l0 l1 l2 0 true))
theorem impl_ClearBetween.mono_l : ∀ k, (∀ y0 y1 y2 y3 y4, LeO (impl_ClearBetween.j0 k y0 y1 y2 y3 y4) (impl_ClearBetween.j0 (k + 1) y0 y1 y2 y3 y4)) ∧ (∀ y0 y1 y2 y3 y4 y5 y6, LeO (impl_ClearBetween.l0 k y0 y1 y2 y3 y4 y5 y6) (impl_ClearBetween.l0 (k + 1) y0 y1 y2 y3 y4 y5 y6)) ∧ (∀ y0 y1 y2 y3 y4 y5 y6 y7 y8 y9 y10, LeO (impl_ClearBetween.l1 k y0 y1 y2 y3 y4 y5 y6 y7 y8 y9 y10) (impl_ClearBetween.l1 (k + 1) y0 y1 y2 y3 y4 y5 y6 y7 y8 y9 y10))
 | 0 => ⟨fun _ _ _ _ _ r h => by simp [impl_ClearBetween.j0] at h, fun _ _ _ _ _ _ _ r h => by simp [impl_ClearBetween.l0] at h, fun _ _ _ _ _ _ _ _ _ _ _ r h => by simp [impl_ClearBetween.l1] at h⟩
 | k + 1 => by
  obtain ⟨ih0, ih1, ih2⟩ := impl_ClearBetween.mono_l k
  refine ⟨?_, ?_, ?_⟩
  ·
   intro y0 y1 y2 y3 y4
   unfold impl_ClearBetween.j0
   exact mz6 ih0 ih1 ih2 impl_Closes.mono impl_Conflict.mono impl_IsTogether.mono
  ·
   intro y0 y1 y2 y3 y4 y5 y6
   unfold impl_ClearBetween.l0
   exact mz6 ih0 ih1 ih2 impl_Closes.mono impl_Conflict.mono impl_IsTogether.mono
  ·
   intro y0 y1 y2 y3 y4 y5 y6 y7 y8 y9 y10
   unfold impl_ClearBetween.l1
   exact mz6 ih0 ih1 ih2 impl_Closes.mono impl_Conflict.mono impl_IsTogether.mono
theorem impl_ClearBetween.mono : ∀ a0 a1 a2 k, LeO (impl_ClearBetween.f k a0 a1 a2) (impl_ClearBetween.f (k + 1) a0 a1 a2) := by
 intro a0 a1 a2 k
 obtain ⟨ih0, ih1, ih2⟩ := impl_ClearBetween.mono_l k
 unfold impl_ClearBetween.f
 exact mz6 ih0 ih1 ih2 impl_Closes.mono impl_Conflict.mono impl_IsTogether.mono
def impl_ClearBetween.T11 : Bool × List (List Nat × List Nat) := (true, [([], []), ([], []), ([], []), ([], []), ([2, 3], [2, 3]), ([1, 4], [1, 4]), ([5], [5]), ([0, 6, 4], [0, 6])])
def impl_ClearBetween.B11 : List Nat := [0, 0, 0, 0, 12, 30, 62, 127]
theorem impl_ClearBetween.tab11 : rtab .any (opsOf Try.f89 11) = impl_ClearBetween.T11 := by kernel_rfl
theorem impl_ClearBetween.bits11 : waitsOk impl_ClearBetween.T11.2 impl_ClearBetween.B11 = true := by kernel_rfl
set_option maxHeartbeats 8000000 in
set_option maxRecDepth 100000 in
theorem impl_ClearBetween.calls (k : Nat) (A0 : Option Addr) (c0 : Nat) (l0 : List (S89)) (A1 : Option Addr) (c1 : Nat) (l1 : List Int) (A2 : Option Addr) (c2 : Nat) (l2 : List Int) (r : Int) (w : World) (hr0 : Kd.C k89 w A0 l0.length l0) (hc0 : l0.length ≤ c0) (hr1 : Kd.C (Kd.int .i64) w A1 l1.length l1) (hc1 : l1.length ≤ c1) (hr2 : Kd.C (Kd.int .i64) w A2 l2.length l2) (hc2 : l2.length ≤ c2) (h : impl_ClearBetween.f k l0 l1 l2 = some r) :
  Calls Try.prog 89 #[.slice A0 l0.length c0, .slice A1 l1.length c1, .slice A2 l2.length c2] w fun e w' => e = .returned (.int .i64 r) ∧ Below w.heap.size w w' := by
 have hu89 := Try.underlying89
 have HR0 := Aside0.mk hr0
 have HC0 := Aside0.mk hc0
 clear hr0 hc0
 have HR1 := Aside0.mk hr1
 have HC1 := Aside0.mk hc1
 clear hr1 hc1
 have HR2 := Aside0.mk hr2
 have HC2 := Aside0.mk hc2
 clear hr2 hc2
 have HB := Aside0.mk (Below.refl w.heap.size w)
 have H : ((impl_IsTogether.f k l0 l1).bind fun t335 => (if t335 = true then ((impl_IsTogether.f k l0 l2).bind fun t336 => (impl_ClearBetween.j0 k l0 l1 l2 0 (!t336))) else (impl_ClearBetween.j0 k l0 l1 l2 0 true))) = some r := h
 clear h
 have HC4 := Aside0.mk H
 clear H
 go_enter Try.func89, Try.ntmps89
 go_upto_region 2 with (fail)
 go_cut [22] (fun v22 wc => ∃ (kq : Nat) (x22_3 : Bool), v22 = .bool x22_3 ∧ Aside0 (impl_ClearBetween.j0 kq l0 l1 l2 0 x22_3 = some r) ∧ Aside0 (kq ≤ k) ∧ Aside0 (Below w.heap.size w wc))
 case first =>
  have H := HC4.out
  clear HC4
  obtain ⟨t335, A5, H⟩ := bindE H
  try dsimp only at H
  by_cases c6 : t335 = true
  ·
   subst c6
   have H1 : ((impl_IsTogether.f k l0 l2).bind fun t336 => (impl_ClearBetween.j0 k l0 l1 l2 0 (!t336))) = some r := by rw [if_pos rfl] at H; exact H
   clear H
   have H := H1
   clear H1
   obtain ⟨t336, A7, H⟩ := bindE H
   try dsimp only at H
   have H' := Aside0.mk H
   clear H
   go_wp2_with (first | ((with_reducible refine gate_callee (f := 87) rfl ?_); refine gL (some 15) Try.func87 #[.slice A0 l0.length c0, .slice A1 l1.length c1] ?_; (with_reducible refine (impl_IsTogether.calls k _ _ l0 _ _ l1 true _ ?_ ?_ ?_ ?_ A5.out).mono ?_); exact cB HR0; exact HC0.out; exact cB HR1; exact HC1.out; rintro e w8 ⟨rfl, hb⟩; refine ⟨_, rfl, ?_⟩; replace HB := bs HB hb; (try clear hb)) | (go_at_call 87; (with_reducible refine (impl_IsTogether.calls k _ _ l0 _ _ l2 t336 _ ?_ ?_ ?_ ?_ A7.out).mono ?_); exact cB HR0; exact HC0.out; exact cB HR2; exact HC2.out; rintro e w9 ⟨rfl, hb⟩; replace HB := bs HB hb; (try clear hb)))
   go_meet
   case rel => exact ⟨_, (!t336), rS, H', ⟨oL⟩, ⟨bA⟩⟩
  replace c6 := Bool.eq_false_iff.mpr c6
  subst c6
  have H1 : (impl_ClearBetween.j0 k l0 l1 l2 0 true) = some r := by rw [if_neg (show ¬ (false = true) by decide)] at H; exact H
  clear H
  have H := H1
  clear H1
  have H' := Aside0.mk H
  clear H
  go_wp2_with (first | ((with_reducible refine gate_callee (f := 87) rfl ?_); refine gL (some 15) Try.func87 #[.slice A0 l0.length c0, .slice A1 l1.length c1] ?_; (with_reducible refine (impl_IsTogether.calls k _ _ l0 _ _ l1 false _ ?_ ?_ ?_ ?_ A5.out).mono ?_); exact cB HR0; exact HC0.out; exact cB HR1; exact HC1.out; rintro e w10 ⟨rfl, hb⟩; refine ⟨_, rfl, ?_⟩; replace HB := bs HB hb; (try clear hb)))
  go_meet
  case rel => exact ⟨_, (true), rS, H', ⟨oL⟩, ⟨bA⟩⟩
 case rest =>
  clear HC4
  obtain ⟨kq, x22_3, rfl, HA, HJ3, HB⟩ := hcut
  cases kq with
  | zero => exact absurd HA.out (by simp [impl_ClearBetween.j0])
  | succ kj3 =>
   have H := HA.out
   clear HA
   simp only [impl_ClearBetween.j0] at H
   by_cases c11 : x22_3 = true
   ·
    subst c11
    have H1 : (some 0) = some r := by rw [if_pos rfl] at H; exact H
    clear H
    have H := H1
    clear H1
    obtain rfl := Option.some.inj H
    go_wp2
    go_ret
    exact ⟨rA, bA⟩
   replace c11 := Bool.eq_false_iff.mpr c11
   subst c11
   have H1 : ((impl_Closes.f kj3 l1 l2).bind fun t337 => (impl_ClearBetween.l0 kj3 l0 l1 l2 0 t337 (t337.length : Int) 0)) = some r := by rw [if_neg (show ¬ (false = true) by decide)] at H; exact H
   clear H
   have H := H1
   clear H1
   obtain ⟨t337, A12, H⟩ := bindE H
   try dsimp only at H
   have H' := Aside0.mk H
   clear H
   go_wp2_with (first | ((with_reducible refine gate_callee (f := 134) rfl ?_); refine gL (some 26) Try.func134 #[.slice A1 l1.length c1, .slice A2 l2.length c2] ?_; (with_reducible refine (impl_Closes.calls kj3 _ _ l1 _ _ l2 t337 _ ?_ ?_ ?_ ?_ A12.out).mono ?_); exact cB HR1; exact HC1.out; exact cB HR2; exact HC2.out; rintro e w13 ⟨v338, rfl, ho0, hb⟩; refine ⟨_, rfl, ?_⟩; have HO339 := rl w ho0; replace HB := bs HB hb; (try clear hb); (try clear ho0); obtain ⟨Ao14, co14, eo14⟩ := Kd.R_slice HO339.out; subst eo14))
   go_loopg [7, 28] kj3 (fun kq v7 v28 w' => ∃ (x7_2 : Int) (x28_2 : Int), v7 = .int .i64 x7_2 ∧ v28 = .int .i64 x28_2 ∧ Aside0 (impl_ClearBetween.l0 kq l0 l1 l2 x7_2 t337 (t337.length : Int) x28_2 = some r) ∧ Aside0 (kq ≤ kj3) ∧ Aside0 (Kd.R (Kd.int .i64) 3 w' w.heap.size (fun _ => True) (.slice Ao14 t337.length co14) t337) ∧ Aside0 (Below w.heap.size w w'))
   case atStart => exact ⟨(0), (0), rS, rS, H', ⟨Nat.le_refl _⟩, ⟨rK HO339⟩, ⟨bA⟩⟩
   case round =>
    clear H'
    obtain ⟨x7_2, x28_2, rfl, rfl, HA, HK2, HO_26, HB⟩ := hrel
    cases gk with
    | zero => exact absurd HA.out (by simp [impl_ClearBetween.l0])
    | succ k2 =>
     have H := HA.out
     clear HA
     simp only [impl_ClearBetween.l0] at H
     by_cases c15 : x28_2 < (t337.length : Int)
     ·
      rw [if_pos c15] at H
      have c15b0 := decide_eq_true c15
      clear c15
      have c16 : 0 ≤ x28_2 := ifN H
      replace H := ifT H
      have c16b0 := decide_eq_true c16
      clear c16
      have c17 : x28_2 < (t337.length : Int) := ifN H
      replace H := ifT H
      have c17b0 := decide_eq_true c17
      clear c17
      obtain ⟨t341, A18, H⟩ := bindE H
      try dsimp only at H
      have H' := Aside0.mk H
      clear H
      obtain ⟨p340, q340⟩ : 0 ≤ (x28_2 : Int) ∧ x28_2 < (t337.length : Int) := ⟨dA, dA⟩
      obtain ⟨ad340, e340, hx340_0⟩ := Kd.at_int (Kd.R_reads' HO_26.out).2.2 x28_2 p340 q340
      cases e340
      obtain ⟨p340, q340⟩ := eT p340 q340
      go_wp2_with (first | ((with_reducible refine gate_callee (f := 134) rfl ?_); refine gL (some 34) Try.func134 #[.slice A2 l2.length c2, .slice A1 l1.length c1] ?_; (with_reducible refine (impl_Closes.calls k2 _ _ l2 _ _ l1 t341 _ ?_ ?_ ?_ ?_ A18.out).mono ?_); exact cB HR2; exact HC2.out; exact cB HR1; exact HC1.out; rintro e w19 ⟨v342, rfl, ho0, hb⟩; refine ⟨_, rfl, ?_⟩; have HO343 := rl w (rn ho0 HO_26); replace HO_26 := re HO_26 ho0 hb; replace HB := bs HB hb; (try clear hb); (try clear ho0); obtain ⟨Ao20, co20, eo20⟩ := Kd.R_slice HO343.out; subst eo20))
      go_loopg [7, 36] k2 (fun kq v7 v36 w' => ∃ (x7_3 : Int) (x36_3 : Int), v7 = .int .i64 x7_3 ∧ v36 = .int .i64 x36_3 ∧ Aside0 (impl_ClearBetween.l1 kq l0 l1 l2 x7_3 (rd t337 x28_2) t337 (t337.length : Int) x28_2 t341 (t341.length : Int) x36_3 = some r) ∧ Aside0 (kq ≤ k2) ∧ Aside0 (Kd.R (Kd.int .i64) 3 w' w.heap.size (n1 (.slice Ao20 t341.length co20)) (.slice (some ad340) t337.length co14) t337) ∧ Aside0 (Kd.R (Kd.int .i64) 3 w' w.heap.size (n1 (.slice (some ad340) t337.length co14)) (.slice Ao20 t341.length co20) t341) ∧ Aside0 (Below w.heap.size w w'))
      case atStart => exact ⟨(x7_2), (0), rS, rS, H', ⟨Nat.le_refl _⟩, ⟨rm HO_26 (fun _ hk => hk.2)⟩, ⟨rm HO343 (fun _ hk => hk.2)⟩, ⟨bA⟩⟩
      case round =>
       clear H'
       obtain ⟨x7_3, x36_3, rfl, rfl, HA, HK3, HO_26, HO_34, HB⟩ := hrel
       cases gk with
       | zero => exact absurd HA.out (by simp [impl_ClearBetween.l1])
       | succ k3 =>
        have H := HA.out
        clear HA
        simp only [impl_ClearBetween.l1] at H
        by_cases c21 : x36_3 < (t341.length : Int)
        ·
         rw [if_pos c21] at H
         have c21b0 := decide_eq_true c21
         clear c21
         have c22 : 0 ≤ x36_3 := ifN H
         replace H := ifT H
         have c22b0 := decide_eq_true c22
         clear c22
         have c23 : x36_3 < (t341.length : Int) := ifN H
         replace H := ifT H
         have c23b0 := decide_eq_true c23
         clear c23
         obtain ⟨t345, A24, H⟩ := bindE H
         try dsimp only at H
         have c25 : 0 ≤ t345 := ifN H
         replace H := ifT H
         have c25b0 := decide_eq_true c25
         clear c25
         have c26 : t345 < (l0.length : Int) := ifN H
         replace H := ifT H
         have c26b0 := decide_eq_true c26
         clear c26
         obtain ⟨t348, A27, H⟩ := bindE H
         try dsimp only at H
         have c28 : 0 ≤ t348 := ifN H
         replace H := ifT H
         have c28b0 := decide_eq_true c28
         clear c28
         have c29 : t348 < (l0.length : Int) := ifN H
         replace H := ifT H
         have c29b0 := decide_eq_true c29
         clear c29
         obtain ⟨t350, A30, H⟩ := bindE H
         try dsimp only at H
         by_cases c31 : t350 = true
         ·
          subst c31
          have H1 : ((impl_ClearOf.f ((rd_T89 l0 t345).f0) ((rd_T89 l0 t345).f1) ((rd_T89 l0 t345).f2) ((rd_T89 l0 t345).f3)).bind fun t351 => (impl_ClearBetween.l1 k3 l0 l1 l2 (mx x7_3 t351) (rd t337 x28_2) t337 (t337.length : Int) x28_2 t341 (t341.length : Int) (wrap64 (x36_3 + 1)))) = some r := by rw [if_pos rfl] at H; exact H
          clear H
          have H := H1
          clear H1
          obtain ⟨t351, A32, H⟩ := bindE H
          try dsimp only at H
          obtain ⟨ji33, hji33⟩ : ∃ j_ : Int, (mx x7_3 t351) = j_ := ⟨_, rfl⟩
          replace H : (impl_ClearBetween.l1 k3 l0 l1 l2 ji33 (rd t337 x28_2) t337 (t337.length : Int) x28_2 t341 (t341.length : Int) (wrap64 (x36_3 + 1))) = some r := by first | (rw [hji33] at H; exact H) | (simp only [hji33] at H ⊢; exact H)
          (try rw [hji33] at A24)
          (try rw [hji33] at A27)
          (try rw [hji33] at A30)
          (try rw [hji33] at A32)
          have hji33_ : (if x7_3 < t351 then t351 else x7_3) = ji33 := hji33
          have H' := Aside0.mk H
          clear H
          obtain ⟨p344, q344⟩ : 0 ≤ (x36_3 : Int) ∧ x36_3 < (t341.length : Int) := ⟨dA, dA⟩
          obtain ⟨ad344, e344, hx344_0⟩ := Kd.at_int (Kd.R_reads' HO_34.out).2.2 x36_3 p344 q344
          cases e344
          obtain ⟨p344, q344⟩ := eT p344 q344
          try go_wp2_with (first | ((with_reducible refine gate_callee (f := 119) rfl ?_); refine gL (some 43) Try.func119 #[.slice A0 l0.length c0, .int .i64 (rd t337 x28_2)] ?_; (with_reducible refine (impl_FindPath.calls _ _ l0 (rd t337 x28_2) t345 _ ?_ ?_ A24.out).mono ?_); exact cB HR0; exact HC0.out; rintro e w34 ⟨rfl, hb⟩; refine ⟨_, rfl, ?_⟩; replace HO_26 := rb HO_26 hb; replace HO_34 := rb HO_34 hb; replace HB := bs HB hb; (try clear hb); have p346 : 0 ≤ (t345 : Int) := dA; have q346 : t345 < (l0.length : Int) := dA; obtain ⟨ad346, e346, hx346_0, hx346_1, hx346_2, hx346_3⟩ := at_T89 HR0.out t345 p346 q346; cases e346; replace hx346_0 := hC HB hx346_0; replace hx346_1 := hC HB hx346_1; replace hx346_2 := hC HB hx346_2; replace hx346_3 := hC HB hx346_3; replace p346 := eq_true p346; replace q346 := eq_true q346) | ((with_reducible refine gate_dst (N := 12) rfl ?_); refine bE (N := 12) (cs := #[.int .i64 0, .int .i64 0, .int .i64 0, .int .i64 0]) (t := 89) ?_; intro gb347 hg w35 hbox hb; replace HO_26 := rb HO_26 hb; replace HO_34 := rb HO_34 hb; have BK347 := Aside0.mk (hbox); have GW347 := gw w hg; have GE347 := gw w hg; replace HB := bs HB hb; clear hb hbox hg; obtain ⟨_, _, _, _, _, _, _, _⟩ := blkc4 BK347))
          have n0_ : Aside0 (Kd.R (Kd.int .i64) 3 ((((w35.setCell ⟨gb347, 0, none⟩ (.int .i64 ((rd_T89 l0 t345).f0))).setCell ⟨gb347, 1, none⟩ (.int .i64 ((rd_T89 l0 t345).f1))).setCell ⟨gb347, 2, none⟩ (.int .i64 ((rd_T89 l0 t345).f2))).setCell ⟨gb347, 3, none⟩ (.int .i64 ((rd_T89 l0 t345).f3))) w.heap.size (n1 (.slice (some ad344) t341.length co20)) (.slice (some ad340) t337.length co14) t337) := ⟨rf HO_26 BK347⟩
          have n1_ : Aside0 (Kd.R (Kd.int .i64) 3 ((((w35.setCell ⟨gb347, 0, none⟩ (.int .i64 ((rd_T89 l0 t345).f0))).setCell ⟨gb347, 1, none⟩ (.int .i64 ((rd_T89 l0 t345).f1))).setCell ⟨gb347, 2, none⟩ (.int .i64 ((rd_T89 l0 t345).f2))).setCell ⟨gb347, 3, none⟩ (.int .i64 ((rd_T89 l0 t345).f3))) w.heap.size (n1 (.slice (some ad340) t337.length co14)) (.slice (some ad344) t341.length co20) t341) := ⟨rf HO_34 BK347⟩
          have n2_ : Aside0 (((((w35.setCell ⟨gb347, 0, none⟩ (.int .i64 ((rd_T89 l0 t345).f0))).setCell ⟨gb347, 1, none⟩ (.int .i64 ((rd_T89 l0 t345).f1))).setCell ⟨gb347, 2, none⟩ (.int .i64 ((rd_T89 l0 t345).f2))).setCell ⟨gb347, 3, none⟩ (.int .i64 ((rd_T89 l0 t345).f3))).heap[gb347]? = some (.cells #[.int .i64 ((rd_T89 l0 t345).f0), .int .i64 ((rd_T89 l0 t345).f1), .int .i64 ((rd_T89 l0 t345).f2), .int .i64 ((rd_T89 l0 t345).f3)] 89 (0, 0))) := ⟨kp BK347⟩
          have n3_ : Aside0 (Below w.heap.size w ((((w35.setCell ⟨gb347, 0, none⟩ (.int .i64 ((rd_T89 l0 t345).f0))).setCell ⟨gb347, 1, none⟩ (.int .i64 ((rd_T89 l0 t345).f1))).setCell ⟨gb347, 2, none⟩ (.int .i64 ((rd_T89 l0 t345).f2))).setCell ⟨gb347, 3, none⟩ (.int .i64 ((rd_T89 l0 t345).f3)))) := ⟨bG⟩
          (try clear HO_26)
          (try clear HO_34)
          (try clear BK347)
          (try clear HB)
          generalize ((((w35.setCell ⟨gb347, 0, none⟩ (.int .i64 ((rd_T89 l0 t345).f0))).setCell ⟨gb347, 1, none⟩ (.int .i64 ((rd_T89 l0 t345).f1))).setCell ⟨gb347, 2, none⟩ (.int .i64 ((rd_T89 l0 t345).f2))).setCell ⟨gb347, 3, none⟩ (.int .i64 ((rd_T89 l0 t345).f3))) = w37 at n0_ n1_ n2_ n3_ ⊢
          have HO_26 := n0_
          have HO_34 := n1_
          have BK347 := n2_
          have HB := n3_
          clear n0_ n1_ n2_ n3_
          replace HO_26 := dr HO_26
          replace HO_34 := dr HO_34
          replace BK347 := dk BK347
          have HBo := HB
          replace HB := db HB
          obtain ⟨p349, q349⟩ : 0 ≤ (t348 : Int) ∧ t348 < (l0.length : Int) := ⟨dA, dA⟩
          obtain ⟨ad349, e349, hx349_0, hx349_1, hx349_2, hx349_3⟩ := at_T89 HR0.out t348 p349 q349
          have hw349_3 := hx349_3
          have hw349_2 := hx349_2
          have hw349_1 := hx349_1
          have hw349_0 := hx349_0
          obtain rfl : ad346 = ad349 := (by injection e349)
          replace hx349_0 := hC HB hx349_0
          replace hx349_1 := hC HB hx349_1
          replace hx349_2 := hC HB hx349_2
          replace hx349_3 := hC HB hx349_3
          obtain ⟨p349, q349⟩ := eT p349 q349
          refine start_ (n := 8) (S := fun w' => w'.cell? ⟨gb347, 0, none⟩ = some (.int .i64 ((rd_T89 l0 t345).f0)) ∧ w'.cell? ⟨gb347, 1, none⟩ = some (.int .i64 ((rd_T89 l0 t345).f1)) ∧ w'.cell? ⟨gb347, 2, none⟩ = some (.int .i64 ((rd_T89 l0 t345).f2)) ∧ w'.cell? ⟨gb347, 3, none⟩ = some (.int .i64 ((rd_T89 l0 t345).f3)) ∧ w'.cell? (ad346.add ((t348).toNat * 4)) = some (.int .i64 ((rd_T89 l0 t348).f0)) ∧ w'.cell? ⟨(ad346.add ((t348).toNat * 4)).block, (ad346.add ((t348).toNat * 4)).off + 1, none⟩ = some (.int .i64 ((rd_T89 l0 t348).f1)) ∧ w'.cell? ⟨(ad346.add ((t348).toNat * 4)).block, (ad346.add ((t348).toNat * 4)).off + 2, none⟩ = some (.int .i64 ((rd_T89 l0 t348).f2)) ∧ w'.cell? ⟨(ad346.add ((t348).toNat * 4)).block, (ad346.add ((t348).toNat * 4)).off + 3, none⟩ = some (.int .i64 ((rd_T89 l0 t348).f3))) (ds := []) (mb 8 0) (by kernel_rfl) rfl rfl (cm4 BK347 ⟨(hC HB hw349_0), (hC HB hw349_1), (hC HB hw349_2), (hC HB hw349_3)⟩) (fun hHeld => ?_); refine with_tabW impl_ClearBetween.tab11 impl_ClearBetween.bits11 (fun HT_ HW_ => ?_)
          generalize w37.drew = w38 at HO_26 HO_34 BK347 HB hx349_0 hx349_1 hx349_2 hx349_3 hHeld ⊢
          refine pa 1 47 (mb 8 2) HT_ ?_
          refine pa 2 48 (mb 8 6) HT_ ?_
          refine pa 3 49 (mb 8 14) HT_ ?_
          refine ta8 0 46 (mb 8 15) HT_ HW_ hHeld ?_
          refine oa 4 50 (mb 8 31) HT_ (fun K hK => ?_)
          refine gA Try.func119 #[.slice (some ad346) l0.length c0, .int .i64 (rd t341 x36_3)] ?_
          with_reducible refine (impl_FindPath.calls _ _ l0 (rd t341 x36_3) t348 _ ?side1 ?side2 A27.out).mono ?_
          (case side1 => exact cB HR0)
          (case side2 => exact HC0.out)
          rintro e w39 ⟨rfl, hb⟩
          refine ⟨_, rfl, ?_⟩
          replace HO_26 := rb HO_26 hb
          replace HO_34 := rb HO_34 hb
          replace BK347 := kb BK347 hb
          replace HB := bs HB hb
          (try clear hb)
          (try clear hb2)
          (try clear hk)
          (try clear hi)
          refine hK.out _ _ (cm4 BK347 ⟨(hC HB hw349_0), (hC HB hw349_1), (hC HB hw349_2), (hC HB hw349_3)⟩) (fun hHeld => ?_)
          clear hK K
          refine nB ?_
          refine pa 5 51 (mb 8 63) HT_ ?_
          refine ta8 6 52 (mb 8 127) HT_ HW_ hHeld ?_
          refine oa 7 53 (mb 8 255) HT_ (fun K hK => ?_)
          refine gA Try.func133 #[.agg #[.int .i64 ((rd_T89 l0 t345).f0), .int .i64 ((rd_T89 l0 t345).f1), .int .i64 ((rd_T89 l0 t345).f2), .int .i64 ((rd_T89 l0 t345).f3)], .agg #[.int .i64 ((rd_T89 l0 t348).f0), .int .i64 ((rd_T89 l0 t348).f1), .int .i64 ((rd_T89 l0 t348).f2), .int .i64 ((rd_T89 l0 t348).f3)]] ?_
          with_reducible refine (impl_Conflict.calls k3 ((rd_T89 l0 t345).f0) ((rd_T89 l0 t345).f1) ((rd_T89 l0 t345).f2) ((rd_T89 l0 t345).f3) ((rd_T89 l0 t348).f0) ((rd_T89 l0 t348).f1) ((rd_T89 l0 t348).f2) ((rd_T89 l0 t348).f3) true _ A30.out).mono ?_
          rintro e w40 ⟨rfl, hb⟩
          refine ⟨_, rfl, ?_⟩
          replace HO_26 := rb HO_26 hb
          replace HO_34 := rb HO_34 hb
          replace BK347 := kb BK347 hb
          replace HB := bs HB hb
          (try clear hb)
          (try clear hb2)
          (try clear hk)
          (try clear hi)
          refine hK.out _ _ (cm4 BK347 ⟨(hC HB hw349_0), (hC HB hw349_1), (hC HB hw349_2), (hC HB hw349_3)⟩) (fun hHeld => ?_)
          clear hK K
          refine nB ?_
          refine eA HT_ ?_
          obtain ⟨_, _, _, _, _, _, _, _⟩ := blkc4 BK347
          try go_wp2_with (first | ((with_reducible refine gate_callee (f := 135) rfl ?_); refine gL (some 56) Try.func135 #[.agg #[.int .i64 ((rd_T89 l0 t345).f0), .int .i64 ((rd_T89 l0 t345).f1), .int .i64 ((rd_T89 l0 t345).f2), .int .i64 ((rd_T89 l0 t345).f3)]] ?_; (with_reducible refine (impl_ClearOf.calls ((rd_T89 l0 t345).f0) ((rd_T89 l0 t345).f1) ((rd_T89 l0 t345).f2) ((rd_T89 l0 t345).f3) t351 _ A32.out).mono ?_); rintro e w42 ⟨rfl, hb⟩; refine ⟨_, rfl, ?_⟩; replace HO_26 := rb HO_26 hb; replace HO_34 := rb HO_34 hb; replace BK347 := kb BK347 hb; replace HB := bs HB hb; (try clear hb)))
          go_roundg k3
          case measure => have := HJ3.out; have := HK2.out; have := HK3.out; omega
          case rel => exact ⟨(ji33), (wrap64 (x36_3 + 1)), (by first | rfl | (simp; done) | (simp only [← hji33] <;> (first | rfl | simp)) | (simp [*]; done)), rS, H', ⟨by have := HJ3.out; have := HK2.out; have := HK3.out; omega⟩, ⟨rK HO_26⟩, ⟨rK HO_34⟩, ⟨bG⟩⟩
         replace c31 := Bool.eq_false_iff.mpr c31
         subst c31
         have H1 : (impl_ClearBetween.l1 k3 l0 l1 l2 x7_3 (rd t337 x28_2) t337 (t337.length : Int) x28_2 t341 (t341.length : Int) (wrap64 (x36_3 + 1))) = some r := by rw [if_neg (show ¬ (false = true) by decide)] at H; exact H
         clear H
         have H := H1
         clear H1
         have H' := Aside0.mk H
         clear H
         obtain ⟨p344, q344⟩ : 0 ≤ (x36_3 : Int) ∧ x36_3 < (t341.length : Int) := ⟨dA, dA⟩
         obtain ⟨ad344, e344, hx344_0⟩ := Kd.at_int (Kd.R_reads' HO_34.out).2.2 x36_3 p344 q344
         cases e344
         obtain ⟨p344, q344⟩ := eT p344 q344
         try go_wp2_with (first | ((with_reducible refine gate_callee (f := 119) rfl ?_); refine gL (some 43) Try.func119 #[.slice A0 l0.length c0, .int .i64 (rd t337 x28_2)] ?_; (with_reducible refine (impl_FindPath.calls _ _ l0 (rd t337 x28_2) t345 _ ?_ ?_ A24.out).mono ?_); exact cB HR0; exact HC0.out; rintro e w43 ⟨rfl, hb⟩; refine ⟨_, rfl, ?_⟩; replace HO_26 := rb HO_26 hb; replace HO_34 := rb HO_34 hb; replace HB := bs HB hb; (try clear hb); have p346 : 0 ≤ (t345 : Int) := dA; have q346 : t345 < (l0.length : Int) := dA; obtain ⟨ad346, e346, hx346_0, hx346_1, hx346_2, hx346_3⟩ := at_T89 HR0.out t345 p346 q346; cases e346; replace hx346_0 := hC HB hx346_0; replace hx346_1 := hC HB hx346_1; replace hx346_2 := hC HB hx346_2; replace hx346_3 := hC HB hx346_3; replace p346 := eq_true p346; replace q346 := eq_true q346) | ((with_reducible refine gate_dst (N := 12) rfl ?_); refine bE (N := 12) (cs := #[.int .i64 0, .int .i64 0, .int .i64 0, .int .i64 0]) (t := 89) ?_; intro gb347 hg w44 hbox hb; replace HO_26 := rb HO_26 hb; replace HO_34 := rb HO_34 hb; have BK347 := Aside0.mk (hbox); have GW347 := gw w hg; have GE347 := gw w hg; replace HB := bs HB hb; clear hb hbox hg; obtain ⟨_, _, _, _, _, _, _, _⟩ := blkc4 BK347))
         have n0_ : Aside0 (Kd.R (Kd.int .i64) 3 ((((w44.setCell ⟨gb347, 0, none⟩ (.int .i64 ((rd_T89 l0 t345).f0))).setCell ⟨gb347, 1, none⟩ (.int .i64 ((rd_T89 l0 t345).f1))).setCell ⟨gb347, 2, none⟩ (.int .i64 ((rd_T89 l0 t345).f2))).setCell ⟨gb347, 3, none⟩ (.int .i64 ((rd_T89 l0 t345).f3))) w.heap.size (n1 (.slice (some ad344) t341.length co20)) (.slice (some ad340) t337.length co14) t337) := ⟨rf HO_26 BK347⟩
         have n1_ : Aside0 (Kd.R (Kd.int .i64) 3 ((((w44.setCell ⟨gb347, 0, none⟩ (.int .i64 ((rd_T89 l0 t345).f0))).setCell ⟨gb347, 1, none⟩ (.int .i64 ((rd_T89 l0 t345).f1))).setCell ⟨gb347, 2, none⟩ (.int .i64 ((rd_T89 l0 t345).f2))).setCell ⟨gb347, 3, none⟩ (.int .i64 ((rd_T89 l0 t345).f3))) w.heap.size (n1 (.slice (some ad340) t337.length co14)) (.slice (some ad344) t341.length co20) t341) := ⟨rf HO_34 BK347⟩
         have n2_ : Aside0 (((((w44.setCell ⟨gb347, 0, none⟩ (.int .i64 ((rd_T89 l0 t345).f0))).setCell ⟨gb347, 1, none⟩ (.int .i64 ((rd_T89 l0 t345).f1))).setCell ⟨gb347, 2, none⟩ (.int .i64 ((rd_T89 l0 t345).f2))).setCell ⟨gb347, 3, none⟩ (.int .i64 ((rd_T89 l0 t345).f3))).heap[gb347]? = some (.cells #[.int .i64 ((rd_T89 l0 t345).f0), .int .i64 ((rd_T89 l0 t345).f1), .int .i64 ((rd_T89 l0 t345).f2), .int .i64 ((rd_T89 l0 t345).f3)] 89 (0, 0))) := ⟨kp BK347⟩
         have n3_ : Aside0 (Below w.heap.size w ((((w44.setCell ⟨gb347, 0, none⟩ (.int .i64 ((rd_T89 l0 t345).f0))).setCell ⟨gb347, 1, none⟩ (.int .i64 ((rd_T89 l0 t345).f1))).setCell ⟨gb347, 2, none⟩ (.int .i64 ((rd_T89 l0 t345).f2))).setCell ⟨gb347, 3, none⟩ (.int .i64 ((rd_T89 l0 t345).f3)))) := ⟨bG⟩
         (try clear HO_26)
         (try clear HO_34)
         (try clear BK347)
         (try clear HB)
         generalize ((((w44.setCell ⟨gb347, 0, none⟩ (.int .i64 ((rd_T89 l0 t345).f0))).setCell ⟨gb347, 1, none⟩ (.int .i64 ((rd_T89 l0 t345).f1))).setCell ⟨gb347, 2, none⟩ (.int .i64 ((rd_T89 l0 t345).f2))).setCell ⟨gb347, 3, none⟩ (.int .i64 ((rd_T89 l0 t345).f3))) = w46 at n0_ n1_ n2_ n3_ ⊢
         have HO_26 := n0_
         have HO_34 := n1_
         have BK347 := n2_
         have HB := n3_
         clear n0_ n1_ n2_ n3_
         replace HO_26 := dr HO_26
         replace HO_34 := dr HO_34
         replace BK347 := dk BK347
         have HBo := HB
         replace HB := db HB
         obtain ⟨p349, q349⟩ : 0 ≤ (t348 : Int) ∧ t348 < (l0.length : Int) := ⟨dA, dA⟩
         obtain ⟨ad349, e349, hx349_0, hx349_1, hx349_2, hx349_3⟩ := at_T89 HR0.out t348 p349 q349
         have hw349_3 := hx349_3
         have hw349_2 := hx349_2
         have hw349_1 := hx349_1
         have hw349_0 := hx349_0
         obtain rfl : ad346 = ad349 := (by injection e349)
         replace hx349_0 := hC HB hx349_0
         replace hx349_1 := hC HB hx349_1
         replace hx349_2 := hC HB hx349_2
         replace hx349_3 := hC HB hx349_3
         obtain ⟨p349, q349⟩ := eT p349 q349
         refine start_ (n := 8) (S := fun w' => w'.cell? ⟨gb347, 0, none⟩ = some (.int .i64 ((rd_T89 l0 t345).f0)) ∧ w'.cell? ⟨gb347, 1, none⟩ = some (.int .i64 ((rd_T89 l0 t345).f1)) ∧ w'.cell? ⟨gb347, 2, none⟩ = some (.int .i64 ((rd_T89 l0 t345).f2)) ∧ w'.cell? ⟨gb347, 3, none⟩ = some (.int .i64 ((rd_T89 l0 t345).f3)) ∧ w'.cell? (ad346.add ((t348).toNat * 4)) = some (.int .i64 ((rd_T89 l0 t348).f0)) ∧ w'.cell? ⟨(ad346.add ((t348).toNat * 4)).block, (ad346.add ((t348).toNat * 4)).off + 1, none⟩ = some (.int .i64 ((rd_T89 l0 t348).f1)) ∧ w'.cell? ⟨(ad346.add ((t348).toNat * 4)).block, (ad346.add ((t348).toNat * 4)).off + 2, none⟩ = some (.int .i64 ((rd_T89 l0 t348).f2)) ∧ w'.cell? ⟨(ad346.add ((t348).toNat * 4)).block, (ad346.add ((t348).toNat * 4)).off + 3, none⟩ = some (.int .i64 ((rd_T89 l0 t348).f3))) (ds := []) (mb 8 0) (by kernel_rfl) rfl rfl (cm4 BK347 ⟨(hC HB hw349_0), (hC HB hw349_1), (hC HB hw349_2), (hC HB hw349_3)⟩) (fun hHeld => ?_); refine with_tabW impl_ClearBetween.tab11 impl_ClearBetween.bits11 (fun HT_ HW_ => ?_)
         generalize w46.drew = w47 at HO_26 HO_34 BK347 HB hx349_0 hx349_1 hx349_2 hx349_3 hHeld ⊢
         refine pa 1 47 (mb 8 2) HT_ ?_
         refine pa 2 48 (mb 8 6) HT_ ?_
         refine pa 3 49 (mb 8 14) HT_ ?_
         refine ta8 0 46 (mb 8 15) HT_ HW_ hHeld ?_
         refine oa 4 50 (mb 8 31) HT_ (fun K hK => ?_)
         refine gA Try.func119 #[.slice (some ad346) l0.length c0, .int .i64 (rd t341 x36_3)] ?_
         with_reducible refine (impl_FindPath.calls _ _ l0 (rd t341 x36_3) t348 _ ?side1 ?side2 A27.out).mono ?_
         (case side1 => exact cB HR0)
         (case side2 => exact HC0.out)
         rintro e w48 ⟨rfl, hb⟩
         refine ⟨_, rfl, ?_⟩
         replace HO_26 := rb HO_26 hb
         replace HO_34 := rb HO_34 hb
         replace BK347 := kb BK347 hb
         replace HB := bs HB hb
         (try clear hb)
         (try clear hb2)
         (try clear hk)
         (try clear hi)
         refine hK.out _ _ (cm4 BK347 ⟨(hC HB hw349_0), (hC HB hw349_1), (hC HB hw349_2), (hC HB hw349_3)⟩) (fun hHeld => ?_)
         clear hK K
         refine nB ?_
         refine pa 5 51 (mb 8 63) HT_ ?_
         refine ta8 6 52 (mb 8 127) HT_ HW_ hHeld ?_
         refine oa 7 53 (mb 8 255) HT_ (fun K hK => ?_)
         refine gA Try.func133 #[.agg #[.int .i64 ((rd_T89 l0 t345).f0), .int .i64 ((rd_T89 l0 t345).f1), .int .i64 ((rd_T89 l0 t345).f2), .int .i64 ((rd_T89 l0 t345).f3)], .agg #[.int .i64 ((rd_T89 l0 t348).f0), .int .i64 ((rd_T89 l0 t348).f1), .int .i64 ((rd_T89 l0 t348).f2), .int .i64 ((rd_T89 l0 t348).f3)]] ?_
         with_reducible refine (impl_Conflict.calls k3 ((rd_T89 l0 t345).f0) ((rd_T89 l0 t345).f1) ((rd_T89 l0 t345).f2) ((rd_T89 l0 t345).f3) ((rd_T89 l0 t348).f0) ((rd_T89 l0 t348).f1) ((rd_T89 l0 t348).f2) ((rd_T89 l0 t348).f3) false _ A30.out).mono ?_
         rintro e w49 ⟨rfl, hb⟩
         refine ⟨_, rfl, ?_⟩
         replace HO_26 := rb HO_26 hb
         replace HO_34 := rb HO_34 hb
         replace BK347 := kb BK347 hb
         replace HB := bs HB hb
         (try clear hb)
         (try clear hb2)
         (try clear hk)
         (try clear hi)
         refine hK.out _ _ (cm4 BK347 ⟨(hC HB hw349_0), (hC HB hw349_1), (hC HB hw349_2), (hC HB hw349_3)⟩) (fun hHeld => ?_)
         clear hK K
         refine nB ?_
         refine eA HT_ ?_
         try go_wp2
         go_roundg k3
         case measure => have := HJ3.out; have := HK2.out; have := HK3.out; omega
         case rel => exact ⟨(x7_3), (wrap64 (x36_3 + 1)), rS, rS, H', ⟨by have := HJ3.out; have := HK2.out; have := HK3.out; omega⟩, ⟨rK HO_26⟩, ⟨rK HO_34⟩, ⟨bG⟩⟩
        rw [if_neg c21] at H
        have c21b0 := decide_eq_false c21
        clear c21
        have H' := Aside0.mk H
        clear H
        go_wp2
        go_roundg k3
        case measure => have := HJ3.out; have := HK2.out; have := HK3.out; omega
        case rel => exact ⟨(x7_3), (wrap64 (x28_2 + 1)), rS, rS, H', ⟨by have := HJ3.out; have := HK2.out; have := HK3.out; omega⟩, ⟨rm HO_26 (fun _ hk => trivial)⟩, ⟨bA⟩⟩
     rw [if_neg c15] at H
     have c15b0 := decide_eq_false c15
     clear c15
     obtain rfl := Option.some.inj H
     go_wp2
     go_ret
     exact ⟨rA, bA⟩

/-! ### impl_IsControl: function 97 -/
def impl_IsControl.j0 : Nat → List (S89) → Bool → List Int → Int → List Int → Int → Option (Bool)
 | 0, _, _, _, _, _, _ => none
 | k + 1, x0, x28, x353000, x353001, x353002, x353003 => if x28 = true then (some false) else (if (x353002.length : Int) = 0 then (some (x353003 == 0)) else ((impl_ClearBetween.f k x0 x353000 x353002).bind fun t356 => ((impl_InRange.f x353003 1 t356).bind fun t357 => (some t357))))
def impl_IsControl.f (k : Nat) (l0 : List (S89)) (l1_0 : List Int) (a1_1 : Int) (l1_2 : List Int) (a1_3 : Int) : Option (Bool) := (impl_IsTogether.f k l0 l1_0).bind fun t353 => (if t353 = true then ((impl_IsTogether.f k l0 l1_2).bind fun t354 => (if t354 = true then (if (l1_0.length : Int) = 0 then (impl_IsControl.j0 k l0 true l1_0 a1_1 l1_2 a1_3) else ((impl_InRange.f a1_1 0 1000000).bind fun t355 => (impl_IsControl.j0 k l0 (!t355) l1_0 a1_1 l1_2 a1_3))) else (impl_IsControl.j0 k l0 true l1_0 a1_1 l1_2 a1_3))) else (impl_IsControl.j0 k l0 true l1_0 a1_1 l1_2 a1_3))
theorem impl_IsControl.mono_l : ∀ k, (∀ y0 y1 y2 y3 y4 y5, LeO (impl_IsControl.j0 k y0 y1 y2 y3 y4 y5) (impl_IsControl.j0 (k + 1) y0 y1 y2 y3 y4 y5))
 | 0 => fun _ _ _ _ _ _ r h => by simp [impl_IsControl.j0] at h
 | k + 1 => by
  have ih0 := impl_IsControl.mono_l k
  ·
   intro y0 y1 y2 y3 y4 y5
   unfold impl_IsControl.j0
   exact mz3 ih0 impl_ClearBetween.mono impl_IsTogether.mono
theorem impl_IsControl.mono : ∀ a0 a1 a2 a3 a4 k, LeO (impl_IsControl.f k a0 a1 a2 a3 a4) (impl_IsControl.f (k + 1) a0 a1 a2 a3 a4) := by
 intro a0 a1 a2 a3 a4 k
 have ih0 := impl_IsControl.mono_l k
 unfold impl_IsControl.f
 exact mz3 ih0 impl_ClearBetween.mono impl_IsTogether.mono
def impl_IsControl.T5 : Bool × List (List Nat × List Nat) := (true, [([], []), ([0], [0]), ([], []), ([], []), ([3], [3]), ([], []), ([5], [5]), ([2, 4, 6], [2, 4, 6]), ([1, 7, 7], [1, 7]), ([8, 8, 0, 1, 2, 3, 4, 5, 6, 7, 8], [8])])
def impl_IsControl.B5 : List Nat := [0, 1, 0, 0, 8, 0, 32, 124, 255, 511]
theorem impl_IsControl.tab5 : rtab .any (opsOf Try.f97 5) = impl_IsControl.T5 := by kernel_rfl
theorem impl_IsControl.bits5 : waitsOk impl_IsControl.T5.2 impl_IsControl.B5 = true := by kernel_rfl
set_option maxHeartbeats 8000000 in
set_option maxRecDepth 100000 in
theorem impl_IsControl.calls (k : Nat) (A0 : Option Addr) (c0 : Nat) (l0 : List (S89)) (A1_0 : Option Addr) (c1_0 : Nat) (l1_0 : List Int) (a1_1 : Int) (A1_2 : Option Addr) (c1_2 : Nat) (l1_2 : List Int) (a1_3 : Int) (r : Bool) (w : World) (hr0 : Kd.C k89 w A0 l0.length l0) (hc0 : l0.length ≤ c0) (hr1_0 : Kd.C (Kd.int .i64) w A1_0 l1_0.length l1_0) (hc1_0 : l1_0.length ≤ c1_0) (hr1_2 : Kd.C (Kd.int .i64) w A1_2 l1_2.length l1_2) (hc1_2 : l1_2.length ≤ c1_2) (h : impl_IsControl.f k l0 l1_0 a1_1 l1_2 a1_3 = some r) :
  Calls Try.prog 97 #[.slice A0 l0.length c0, .agg #[.slice A1_0 l1_0.length c1_0, .int .i64 a1_1, .slice A1_2 l1_2.length c1_2, .int .i64 a1_3]] w fun e w' => e = .returned (.bool r) ∧ Below w.heap.size w w' := by
 have hu57 := Try.underlying57
 have HR0 := Aside0.mk hr0
 have HC0 := Aside0.mk hc0
 clear hr0 hc0
 have HR1_0 := Aside0.mk hr1_0
 have HC1_0 := Aside0.mk hc1_0
 clear hr1_0 hc1_0
 have HR1_2 := Aside0.mk hr1_2
 have HC1_2 := Aside0.mk hc1_2
 clear hr1_2 hc1_2
 have HB := Aside0.mk (Below.refl w.heap.size w)
 have H : ((impl_IsTogether.f k l0 l1_0).bind fun t353 => (if t353 = true then ((impl_IsTogether.f k l0 l1_2).bind fun t354 => (if t354 = true then (if (l1_0.length : Int) = 0 then (impl_IsControl.j0 k l0 true l1_0 a1_1 l1_2 a1_3) else ((impl_InRange.f a1_1 0 1000000).bind fun t355 => (impl_IsControl.j0 k l0 (!t355) l1_0 a1_1 l1_2 a1_3))) else (impl_IsControl.j0 k l0 true l1_0 a1_1 l1_2 a1_3))) else (impl_IsControl.j0 k l0 true l1_0 a1_1 l1_2 a1_3))) = some r := h
 clear h
 have HC3 := Aside0.mk H
 clear H
 go_enter Try.func97, Try.ntmps97
 go_upto_region 1 with (first | ((with_reducible refine gate_dst (N := 3) rfl ?_); (try (refine gate_guard (by rfl) ?_; dsimp only)); refine bE (N := 3) (cs := #[.slice A1_0 l1_0.length c1_0, .int .i64 a1_1, .slice A1_2 l1_2.length c1_2, .int .i64 a1_3]) (t := 57) ?_; intro gb352 hg w4 hbox hb; have BK352 := Aside0.mk (hbox); have GW352 := gw w hg; have GE352 := gw w hg; replace HB := bs HB hb; clear hb hbox hg))
 (try simp only [Act.put, List.setIfInBounds_toArray, List.set_cons_zero, List.set_cons_succ])
 go_cut [28] (fun v28 wc => ∃ (kq : Nat) (x28_2 : Bool), v28 = .bool x28_2 ∧ Aside0 (impl_IsControl.j0 kq l0 x28_2 l1_0 a1_1 l1_2 a1_3 = some r) ∧ Aside0 (kq ≤ k) ∧ Aside0 (wc.heap[gb352]? = some (.cells #[(.slice A1_0 l1_0.length c1_0), .int .i64 a1_1, (.slice A1_2 l1_2.length c1_2), .int .i64 a1_3] 57 (0, 0))) ∧ Aside0 (Below w.heap.size w wc))
 case first =>
  have H := HC3.out
  clear HC3
  obtain ⟨t353, A5, H⟩ := bindE H
  try dsimp only at H
  by_cases c6 : t353 = true
  ·
   subst c6
   have H1 : ((impl_IsTogether.f k l0 l1_2).bind fun t354 => (if t354 = true then (if (l1_0.length : Int) = 0 then (impl_IsControl.j0 k l0 true l1_0 a1_1 l1_2 a1_3) else ((impl_InRange.f a1_1 0 1000000).bind fun t355 => (impl_IsControl.j0 k l0 (!t355) l1_0 a1_1 l1_2 a1_3))) else (impl_IsControl.j0 k l0 true l1_0 a1_1 l1_2 a1_3))) = some r := by rw [if_pos rfl] at H; exact H
   clear H
   have H := H1
   clear H1
   obtain ⟨t354, A7, H⟩ := bindE H
   try dsimp only at H
   by_cases c8 : t354 = true
   ·
    subst c8
    have H1 : (if (l1_0.length : Int) = 0 then (impl_IsControl.j0 k l0 true l1_0 a1_1 l1_2 a1_3) else ((impl_InRange.f a1_1 0 1000000).bind fun t355 => (impl_IsControl.j0 k l0 (!t355) l1_0 a1_1 l1_2 a1_3))) = some r := by rw [if_pos rfl] at H; exact H
    clear H
    have H := H1
    clear H1
    by_cases c9 : (l1_0.length : Int) = 0
    ·
     rw [if_pos c9] at H
     have c9b0 : ((l1_0.length : Int) == 0) = true := beq_iff_eq.mpr c9
     have c9b1 : ((l1_0.length : Int) != 0) = false := bne_eq_false_iff_eq.mpr c9
     clear c9
     (first | rw [c9b0] | (simp only [i64_w, i32_w]; rw [c9b0]) | skip)
     have H' := Aside0.mk H
     clear H
     obtain ⟨_, _, _, _, _, _, _, _⟩ := blkc4 BK352
     go_wp2_with (first | ((with_reducible refine gate_callee (f := 87) rfl ?_); refine gL (some 8) Try.func87 #[.slice A0 l0.length c0, .slice A1_0 l1_0.length c1_0] ?_; (with_reducible refine (impl_IsTogether.calls k _ _ l0 _ _ l1_0 true _ ?_ ?_ ?_ ?_ A5.out).mono ?_); exact cB HR0; exact HC0.out; exact cB HR1_0; exact HC1_0.out; rintro e w11 ⟨rfl, hb⟩; refine ⟨_, rfl, ?_⟩; replace BK352 := kb BK352 hb; replace HB := bs HB hb; (try clear hb); have hcz12_0 : w11.cell? ⟨gb352, 0, none⟩ = some (.slice A1_0 l1_0.length c1_0) := bC BK352 0; have hcz12_1 : w11.cell? ⟨gb352, 1, none⟩ = some (.int .i64 a1_1) := bC BK352 1; have hcz12_2 : w11.cell? ⟨gb352, 2, none⟩ = some (.slice A1_2 l1_2.length c1_2) := bC BK352 2; have hcz12_3 : w11.cell? ⟨gb352, 3, none⟩ = some (.int .i64 a1_3) := bC BK352 3; have hfz12_0 := blk_frozen BK352.out 0; have hfz12_1 := blk_frozen BK352.out 1; have hfz12_2 := blk_frozen BK352.out 2; have hfz12_3 := blk_frozen BK352.out 3) | (go_at_call 87; (with_reducible refine (impl_IsTogether.calls k _ _ l0 _ _ l1_2 true _ ?_ ?_ ?_ ?_ A7.out).mono ?_); exact cB HR0; exact HC0.out; exact cB HR1_2; exact HC1_2.out; rintro e w13 ⟨rfl, hb⟩; replace BK352 := kb BK352 hb; replace HB := bs HB hb; (try clear hb); obtain ⟨_, _, _, _, _, _, _, _⟩ := blkc4 BK352))
     go_meet
     case rel => exact ⟨_, (true), rS, H', ⟨oL⟩, ⟨bK BK352⟩, ⟨bG⟩⟩
    rw [if_neg c9] at H
    have c9b0 : ((l1_0.length : Int) == 0) = false := beq_eq_false_iff_ne.mpr c9
    have c9b1 : ((l1_0.length : Int) != 0) = true := bne_iff_ne.mpr c9
    have c9b2 : ¬ (l1_0 = []) := fun h_ => c9 (by rw [h_]; rfl)
    (first | rw [c9b0] | (simp only [i64_w, i32_w]; rw [c9b0]) | skip)
    obtain ⟨t355, A15, H⟩ := bindE H
    try dsimp only at H
    have H' := Aside0.mk H
    clear H
    obtain ⟨_, _, _, _, _, _, _, _⟩ := blkc4 BK352
    go_wp2_with (first | ((with_reducible refine gate_callee (f := 87) rfl ?_); refine gL (some 8) Try.func87 #[.slice A0 l0.length c0, .slice A1_0 l1_0.length c1_0] ?_; (with_reducible refine (impl_IsTogether.calls k _ _ l0 _ _ l1_0 true _ ?_ ?_ ?_ ?_ A5.out).mono ?_); exact cB HR0; exact HC0.out; exact cB HR1_0; exact HC1_0.out; rintro e w17 ⟨rfl, hb⟩; refine ⟨_, rfl, ?_⟩; replace BK352 := kb BK352 hb; replace HB := bs HB hb; (try clear hb); have hcz18_0 : w17.cell? ⟨gb352, 0, none⟩ = some (.slice A1_0 l1_0.length c1_0) := bC BK352 0; have hcz18_1 : w17.cell? ⟨gb352, 1, none⟩ = some (.int .i64 a1_1) := bC BK352 1; have hcz18_2 : w17.cell? ⟨gb352, 2, none⟩ = some (.slice A1_2 l1_2.length c1_2) := bC BK352 2; have hcz18_3 : w17.cell? ⟨gb352, 3, none⟩ = some (.int .i64 a1_3) := bC BK352 3; have hfz18_0 := blk_frozen BK352.out 0; have hfz18_1 := blk_frozen BK352.out 1; have hfz18_2 := blk_frozen BK352.out 2; have hfz18_3 := blk_frozen BK352.out 3) | (go_at_call 87; (with_reducible refine (impl_IsTogether.calls k _ _ l0 _ _ l1_2 true _ ?_ ?_ ?_ ?_ A7.out).mono ?_); exact cB HR0; exact HC0.out; exact cB HR1_2; exact HC1_2.out; rintro e w19 ⟨rfl, hb⟩; replace BK352 := kb BK352 hb; replace HB := bs HB hb; (try clear hb); have hcz20_0 : w19.cell? ⟨gb352, 0, none⟩ = some (.slice A1_0 l1_0.length c1_0) := bC BK352 0; have hcz20_1 : w19.cell? ⟨gb352, 1, none⟩ = some (.int .i64 a1_1) := bC BK352 1; have hcz20_2 : w19.cell? ⟨gb352, 2, none⟩ = some (.slice A1_2 l1_2.length c1_2) := bC BK352 2; have hcz20_3 : w19.cell? ⟨gb352, 3, none⟩ = some (.int .i64 a1_3) := bC BK352 3; have hfz20_0 := blk_frozen BK352.out 0; have hfz20_1 := blk_frozen BK352.out 1; have hfz20_2 := blk_frozen BK352.out 2; have hfz20_3 := blk_frozen BK352.out 3) | (go_at_call 66; (with_reducible refine (impl_InRange.calls a1_1 0 1000000 t355 _ A15.out).mono ?_); rintro e w' ⟨rfl, ⟨nd, rfl⟩⟩))
    go_meet
    case rel => exact ⟨_, (!t355), rS, H', ⟨oL⟩, ⟨bK BK352⟩, ⟨bG⟩⟩
   replace c8 := Bool.eq_false_iff.mpr c8
   subst c8
   have H1 : (impl_IsControl.j0 k l0 true l1_0 a1_1 l1_2 a1_3) = some r := by rw [if_neg (show ¬ (false = true) by decide)] at H; exact H
   clear H
   have H := H1
   clear H1
   have H' := Aside0.mk H
   clear H
   obtain ⟨_, _, _, _, _, _, _, _⟩ := blkc4 BK352
   go_wp2_with (first | ((with_reducible refine gate_callee (f := 87) rfl ?_); refine gL (some 8) Try.func87 #[.slice A0 l0.length c0, .slice A1_0 l1_0.length c1_0] ?_; (with_reducible refine (impl_IsTogether.calls k _ _ l0 _ _ l1_0 true _ ?_ ?_ ?_ ?_ A5.out).mono ?_); exact cB HR0; exact HC0.out; exact cB HR1_0; exact HC1_0.out; rintro e w22 ⟨rfl, hb⟩; refine ⟨_, rfl, ?_⟩; replace BK352 := kb BK352 hb; replace HB := bs HB hb; (try clear hb); have hcz23_0 : w22.cell? ⟨gb352, 0, none⟩ = some (.slice A1_0 l1_0.length c1_0) := bC BK352 0; have hcz23_1 : w22.cell? ⟨gb352, 1, none⟩ = some (.int .i64 a1_1) := bC BK352 1; have hcz23_2 : w22.cell? ⟨gb352, 2, none⟩ = some (.slice A1_2 l1_2.length c1_2) := bC BK352 2; have hcz23_3 : w22.cell? ⟨gb352, 3, none⟩ = some (.int .i64 a1_3) := bC BK352 3; have hfz23_0 := blk_frozen BK352.out 0; have hfz23_1 := blk_frozen BK352.out 1; have hfz23_2 := blk_frozen BK352.out 2; have hfz23_3 := blk_frozen BK352.out 3) | (go_at_call 87; (with_reducible refine (impl_IsTogether.calls k _ _ l0 _ _ l1_2 false _ ?_ ?_ ?_ ?_ A7.out).mono ?_); exact cB HR0; exact HC0.out; exact cB HR1_2; exact HC1_2.out; rintro e w24 ⟨rfl, hb⟩; replace BK352 := kb BK352 hb; replace HB := bs HB hb; (try clear hb)))
   go_meet
   case rel => exact ⟨_, (true), rS, H', ⟨oL⟩, ⟨bK BK352⟩, ⟨bG⟩⟩
  replace c6 := Bool.eq_false_iff.mpr c6
  subst c6
  have H1 : (impl_IsControl.j0 k l0 true l1_0 a1_1 l1_2 a1_3) = some r := by rw [if_neg (show ¬ (false = true) by decide)] at H; exact H
  clear H
  have H := H1
  clear H1
  have H' := Aside0.mk H
  clear H
  obtain ⟨_, _, _, _, _, _, _, _⟩ := blkc4 BK352
  go_wp2_with (first | ((with_reducible refine gate_callee (f := 87) rfl ?_); refine gL (some 8) Try.func87 #[.slice A0 l0.length c0, .slice A1_0 l1_0.length c1_0] ?_; (with_reducible refine (impl_IsTogether.calls k _ _ l0 _ _ l1_0 false _ ?_ ?_ ?_ ?_ A5.out).mono ?_); exact cB HR0; exact HC0.out; exact cB HR1_0; exact HC1_0.out; rintro e w26 ⟨rfl, hb⟩; refine ⟨_, rfl, ?_⟩; replace BK352 := kb BK352 hb; replace HB := bs HB hb; (try clear hb)))
  go_meet
  case rel => exact ⟨_, (true), rS, H', ⟨oL⟩, ⟨bK BK352⟩, ⟨bG⟩⟩
 case rest =>
  clear HC3
  obtain ⟨kq, x28_2, rfl, HA, HJ2, BK352, HB⟩ := hcut
  cases kq with
  | zero => exact absurd HA.out (by simp [impl_IsControl.j0])
  | succ kj2 =>
   have H := HA.out
   clear HA
   simp only [impl_IsControl.j0] at H
   by_cases c27 : x28_2 = true
   ·
    subst c27
    have H1 : (some false) = some r := by rw [if_pos rfl] at H; exact H
    clear H
    have H := H1
    clear H1
    obtain rfl := Option.some.inj H
    go_wp2
    go_ret
    exact ⟨rA, bG⟩
   replace c27 := Bool.eq_false_iff.mpr c27
   subst c27
   have H1 : (if (l1_2.length : Int) = 0 then (some (a1_3 == 0)) else ((impl_ClearBetween.f kj2 l0 l1_0 l1_2).bind fun t356 => ((impl_InRange.f a1_3 1 t356).bind fun t357 => (some t357)))) = some r := by rw [if_neg (show ¬ (false = true) by decide)] at H; exact H
   clear H
   have H := H1
   clear H1
   by_cases c28 : (l1_2.length : Int) = 0
   ·
    rw [if_pos c28] at H
    have c28b0 : ((l1_2.length : Int) == 0) = true := beq_iff_eq.mpr c28
    have c28b1 : ((l1_2.length : Int) != 0) = false := bne_eq_false_iff_eq.mpr c28
    clear c28
    obtain rfl := Option.some.inj H
    obtain ⟨_, _, _, _, _, _, _, _⟩ := blkc4 BK352
    go_wp2
    go_ret
    exact ⟨rA, bG⟩
   rw [if_neg c28] at H
   have c28b0 : ((l1_2.length : Int) == 0) = false := beq_eq_false_iff_ne.mpr c28
   have c28b1 : ((l1_2.length : Int) != 0) = true := bne_iff_ne.mpr c28
   have c28b2 : ¬ (l1_2 = []) := fun h_ => c28 (by rw [h_]; rfl)
   obtain ⟨t356, A30, H⟩ := bindE H
   try dsimp only at H
   obtain ⟨t357, A31, H⟩ := bindE H
   try dsimp only at H
   obtain rfl := Option.some.inj H
   obtain ⟨_, _, _, _, _, _, _, _⟩ := blkc4 BK352
   try go_wp2
   replace BK352 := dk BK352
   have HBo := HB
   replace HB := db HB
   refine start_ (n := 10) (S := fun w' => w'.cell? ⟨gb352, 0, none⟩ = some (.slice A1_0 l1_0.length c1_0) ∧ w'.cell? ⟨gb352, 1, none⟩ = some (.int .i64 a1_1) ∧ w'.cell? ⟨gb352, 2, none⟩ = some (.slice A1_2 l1_2.length c1_2) ∧ w'.cell? ⟨gb352, 3, none⟩ = some (.int .i64 a1_3)) (ds := []) (mb 10 0) (by kernel_rfl) rfl rfl (cn4 BK352) (fun hHeld => ?_); refine with_tabW impl_IsControl.tab5 impl_IsControl.bits5 (fun HT_ HW_ => ?_)
   generalize wc.drew = w33 at BK352 HB hHeld ⊢
   refine pa 0 36 (mb 10 1) HT_ ?_
   refine pa 2 38 (mb 10 5) HT_ ?_
   refine pa 3 39 (mb 10 13) HT_ ?_
   refine pa 5 41 (mb 10 45) HT_ ?_
   refine ta4 1 37 (mb 10 47) HT_ HW_ hHeld ?_
   refine ta4 4 40 (mb 10 63) HT_ HW_ hHeld ?_
   refine ta4 6 42 (mb 10 127) HT_ HW_ hHeld ?_
   refine oa 7 43 (mb 10 255) HT_ (fun K hK => ?_)
   refine gA Try.func89 #[.slice A0 l0.length c0, .slice A1_0 l1_0.length c1_0, .slice A1_2 l1_2.length c1_2] ?_
   with_reducible refine (impl_ClearBetween.calls kj2 _ _ l0 _ _ l1_0 _ _ l1_2 t356 _ ?side1 ?side2 ?side3 ?side4 ?side5 ?side6 A30.out).mono ?_
   (case side1 => exact cB HR0)
   (case side2 => exact HC0.out)
   (case side3 => exact cB HR1_0)
   (case side4 => exact HC1_0.out)
   (case side5 => exact cB HR1_2)
   (case side6 => exact HC1_2.out)
   rintro e w34 ⟨rfl, hb⟩
   refine ⟨_, rfl, ?_⟩
   replace BK352 := kb BK352 hb
   replace HB := bs HB hb
   (try clear hb)
   (try clear hb2)
   (try clear hk)
   (try clear hi)
   refine hK.out _ _ (cn4 BK352) (fun hHeld => ?_)
   clear hK K
   refine nB ?_
   refine oa 8 44 (mb 10 511) HT_ (fun K hK => ?_)
   refine gA Try.func66 #[.int .i64 a1_3, .int .i64 1, .int .i64 t356] ?_
   with_reducible refine (impl_InRange.calls a1_3 1 t356 t357 _ A31.out).mono ?_
   rintro e w' ⟨rfl, ⟨nd, rfl⟩⟩
   refine ⟨_, rfl, ?_⟩
   refine hK.out _ _ (cn4 BK352) (fun hHeld => ?_)
   clear hK K
   refine nB ?_
   refine pa 9 4 (mb 10 1023) HT_ ?_
   refine eA HT_ ?_
   try go_wp2
   go_ret
   exact ⟨rA, bG⟩

/-! ### impl_CanEnd: function 86 -/
def impl_CanEnd.f (k : Nat) (l0 : List (S89)) (l1_0 : List Int) (a1_1 : Int) (l1_2 : List Int) (a1_3 : Int) : Option (Bool) := (impl_IsControl.f k l0 l1_0 a1_1 l1_2 a1_3).bind fun t359 => (if t359 = true then (if (l1_2.length : Int) = 0 then ((impl_LeastGreen.f k l0 l1_0).bind fun t360 => (some (decide (a1_1 ≥ t360)))) else (some false)) else (some false))
theorem impl_CanEnd.mono : ∀ a0 a1 a2 a3 a4 k, LeO (impl_CanEnd.f k a0 a1 a2 a3 a4) (impl_CanEnd.f (k + 1) a0 a1 a2 a3 a4) := by
 intro a0 a1 a2 a3 a4 k
 unfold impl_CanEnd.f
 exact mz2 impl_IsControl.mono impl_LeastGreen.mono
def impl_CanEnd.T1 : Bool × List (List Nat × List Nat) := (true, [([], []), ([], []), ([0, 1], [0, 1]), ([2, 2], [2]), ([3], [3]), ([4, 3], [3, 4]), ([5, 3], [3, 5]), ([6, 3], [3, 6]), ([3, 7], [3, 7]), ([8, 3], [8]), ([9], [9]), ([10, 9], [9, 10]), ([9], [9]), ([9], [9]), ([13, 9], [9, 13]), ([12, 14, 9, 9], [9, 12, 14]), ([11, 15, 9], [9, 11, 15]), ([9, 16], [9, 16]), ([17, 15, 0, 1, 2, 3, 4, 5, 6, 7, 8, 9, 10, 11, 12, 13, 14, 15, 16, 17], [17])])
def impl_CanEnd.B1 : List Nat := [0, 0, 3, 7, 15, 31, 63, 127, 255, 511, 1023, 2047, 1023, 1023, 9215, 29695, 65535, 131071, 262143]
theorem impl_CanEnd.tab1 : rtab .any (opsOf Try.f86 1) = impl_CanEnd.T1 := by kernel_rfl
theorem impl_CanEnd.bits1 : waitsOk impl_CanEnd.T1.2 impl_CanEnd.B1 = true := by kernel_rfl
set_option maxHeartbeats 8000000 in
set_option maxRecDepth 100000 in
theorem impl_CanEnd.calls (k : Nat) (A0 : Option Addr) (c0 : Nat) (l0 : List (S89)) (A1_0 : Option Addr) (c1_0 : Nat) (l1_0 : List Int) (a1_1 : Int) (A1_2 : Option Addr) (c1_2 : Nat) (l1_2 : List Int) (a1_3 : Int) (r : Bool) (w : World) (hr0 : Kd.C k89 w A0 l0.length l0) (hc0 : l0.length ≤ c0) (hr1_0 : Kd.C (Kd.int .i64) w A1_0 l1_0.length l1_0) (hc1_0 : l1_0.length ≤ c1_0) (hr1_2 : Kd.C (Kd.int .i64) w A1_2 l1_2.length l1_2) (hc1_2 : l1_2.length ≤ c1_2) (h : impl_CanEnd.f k l0 l1_0 a1_1 l1_2 a1_3 = some r) :
  Calls Try.prog 86 #[.slice A0 l0.length c0, .agg #[.slice A1_0 l1_0.length c1_0, .int .i64 a1_1, .slice A1_2 l1_2.length c1_2, .int .i64 a1_3]] w fun e w' => e = .returned (.bool r) ∧ Below w.heap.size w w' := by
 have hu57 := Try.underlying57
 have HR0 := Aside0.mk hr0
 have HC0 := Aside0.mk hc0
 clear hr0 hc0
 have HR1_0 := Aside0.mk hr1_0
 have HC1_0 := Aside0.mk hc1_0
 clear hr1_0 hc1_0
 have HR1_2 := Aside0.mk hr1_2
 have HC1_2 := Aside0.mk hc1_2
 clear hr1_2 hc1_2
 have HB := Aside0.mk (Below.refl w.heap.size w)
 have H : ((impl_IsControl.f k l0 l1_0 a1_1 l1_2 a1_3).bind fun t359 => (if t359 = true then (if (l1_2.length : Int) = 0 then ((impl_LeastGreen.f k l0 l1_0).bind fun t360 => (some (decide (a1_1 ≥ t360)))) else (some false)) else (some false))) = some r := h
 clear h
 obtain ⟨t359, A3, H⟩ := bindE H
 try dsimp only at H
 by_cases c4 : t359 = true
 ·
  subst c4
  have H1 : (if (l1_2.length : Int) = 0 then ((impl_LeastGreen.f k l0 l1_0).bind fun t360 => (some (decide (a1_1 ≥ t360)))) else (some false)) = some r := by rw [if_pos rfl] at H; exact H
  clear H
  have H := H1
  clear H1
  by_cases c5 : (l1_2.length : Int) = 0
  ·
   rw [if_pos c5] at H
   have c5b0 : ((l1_2.length : Int) == 0) = true := beq_iff_eq.mpr c5
   have c5b1 : ((l1_2.length : Int) != 0) = false := bne_eq_false_iff_eq.mpr c5
   clear c5
   obtain ⟨t360, A6, H⟩ := bindE H
   try dsimp only at H
   obtain rfl := Option.some.inj H
   go_enter Try.func86, Try.ntmps86
   try go_wp2_with (first | ((with_reducible refine gate_dst (N := 3) rfl ?_); (try (refine gate_guard (by rfl) ?_; dsimp only)); refine bE (N := 3) (cs := #[.slice A1_0 l1_0.length c1_0, .int .i64 a1_1, .slice A1_2 l1_2.length c1_2, .int .i64 a1_3]) (t := 57) ?_; intro gb358 hg w7 hbox hb; have BK358 := Aside0.mk (hbox); have GW358 := gw w hg; have GE358 := gw w hg; replace HB := bs HB hb; clear hb hbox hg))
   replace BK358 := dk BK358
   have HBo := HB
   replace HB := db HB
   refine start_ (n := 19) (S := fun w' => w'.cell? ⟨gb358, 0, none⟩ = some (.slice A1_0 l1_0.length c1_0) ∧ w'.cell? ⟨gb358, 1, none⟩ = some (.int .i64 a1_1) ∧ w'.cell? ⟨gb358, 2, none⟩ = some (.slice A1_2 l1_2.length c1_2) ∧ w'.cell? ⟨gb358, 3, none⟩ = some (.int .i64 a1_3)) (ds := []) (mb 19 0) (by kernel_rfl) rfl rfl (cn4 BK358) (fun hHeld => ?_); refine with_tabW impl_CanEnd.tab1 impl_CanEnd.bits1 (fun HT_ HW_ => ?_)
   generalize w7.drew = w8 at BK358 HB hHeld ⊢
   refine pa 0 5 (mb 19 1) HT_ ?_
   refine ta4 1 6 (mb 19 3) HT_ HW_ hHeld ?_
   refine oa 2 7 (mb 19 7) HT_ (fun K hK => ?_)
   refine gA Try.func97 #[.slice A0 l0.length c0, .agg #[.slice A1_0 l1_0.length c1_0, .int .i64 a1_1, .slice A1_2 l1_2.length c1_2, .int .i64 a1_3]] ?_
   with_reducible refine (impl_IsControl.calls k _ _ l0 _ _ l1_0 a1_1 _ _ l1_2 a1_3 true _ ?side1 ?side2 ?side3 ?side4 ?side5 ?side6 A3.out).mono ?_
   (case side1 => exact cB HR0)
   (case side2 => exact HC0.out)
   (case side3 => exact cB HR1_0)
   (case side4 => exact HC1_0.out)
   (case side5 => exact cB HR1_2)
   (case side6 => exact HC1_2.out)
   rintro e w9 ⟨rfl, hb⟩
   refine ⟨_, rfl, ?_⟩
   replace BK358 := kb BK358 hb
   replace HB := bs HB hb
   (try clear hb)
   (try clear hb2)
   (try clear hk)
   (try clear hi)
   refine hK.out _ _ (cn4 BK358) (fun hHeld => ?_)
   clear hK K
   refine nB ?_
   refine pa 3 8 (mb 19 15) HT_ ?_
   refine pa 4 9 (mb 19 31) HT_ ?_
   refine ta4 5 10 (mb 19 63) HT_ HW_ hHeld ?_
   refine pa 6 11 (mb 19 127) HT_ ?_
   refine pa 7 12 (mb 19 255) HT_ ?_
   refine pa 8 13 (mb 19 511) HT_ ?_
   refine pa 9 14 (mb 19 1023) HT_ ?_
   refine pa 10 15 (mb 19 2047) HT_ ?_
   refine pa 12 17 (mb 19 6143) HT_ ?_
   refine pa 13 18 (mb 19 14335) HT_ ?_
   refine ta4 11 16 (mb 19 16383) HT_ HW_ hHeld ?_
   refine ta4 14 19 (mb 19 32767) HT_ HW_ hHeld ?_
   refine oa 15 20 (mb 19 65535) HT_ (fun K hK => ?_)
   refine gA Try.func77 #[.slice A0 l0.length c0, .slice A1_0 l1_0.length c1_0] ?_
   with_reducible refine (impl_LeastGreen.calls k _ _ l0 _ _ l1_0 t360 _ ?side1 ?side2 ?side3 ?side4 A6.out).mono ?_
   (case side1 => exact cB HR0)
   (case side2 => exact HC0.out)
   (case side3 => exact cB HR1_0)
   (case side4 => exact HC1_0.out)
   rintro e w10 ⟨rfl, hb⟩
   refine ⟨_, rfl, ?_⟩
   replace BK358 := kb BK358 hb
   replace HB := bs HB hb
   (try clear hb)
   (try clear hb2)
   (try clear hk)
   (try clear hi)
   refine hK.out _ _ (cn4 BK358) (fun hHeld => ?_)
   clear hK K
   refine nB ?_
   refine pa 16 21 (mb 19 131071) HT_ ?_
   refine pa 17 22 (mb 19 262143) HT_ ?_
   refine pa 18 4 (mb 19 524287) HT_ ?_
   refine eA HT_ ?_
   try go_wp2
   go_ret
   exact ⟨rA, bG⟩
  rw [if_neg c5] at H
  have c5b0 : ((l1_2.length : Int) == 0) = false := beq_eq_false_iff_ne.mpr c5
  have c5b1 : ((l1_2.length : Int) != 0) = true := bne_iff_ne.mpr c5
  have c5b2 : ¬ (l1_2 = []) := fun h_ => c5 (by rw [h_]; rfl)
  obtain rfl := Option.some.inj H
  go_enter Try.func86, Try.ntmps86
  try go_wp2_with (first | ((with_reducible refine gate_dst (N := 3) rfl ?_); (try (refine gate_guard (by rfl) ?_; dsimp only)); refine bE (N := 3) (cs := #[.slice A1_0 l1_0.length c1_0, .int .i64 a1_1, .slice A1_2 l1_2.length c1_2, .int .i64 a1_3]) (t := 57) ?_; intro gb358 hg w11 hbox hb; have BK358 := Aside0.mk (hbox); have GW358 := gw w hg; have GE358 := gw w hg; replace HB := bs HB hb; clear hb hbox hg))
  replace BK358 := dk BK358
  have HBo := HB
  replace HB := db HB
  refine start_ (n := 19) (S := fun w' => w'.cell? ⟨gb358, 0, none⟩ = some (.slice A1_0 l1_0.length c1_0) ∧ w'.cell? ⟨gb358, 1, none⟩ = some (.int .i64 a1_1) ∧ w'.cell? ⟨gb358, 2, none⟩ = some (.slice A1_2 l1_2.length c1_2) ∧ w'.cell? ⟨gb358, 3, none⟩ = some (.int .i64 a1_3)) (ds := []) (mb 19 0) (by kernel_rfl) rfl rfl (cn4 BK358) (fun hHeld => ?_); refine with_tabW impl_CanEnd.tab1 impl_CanEnd.bits1 (fun HT_ HW_ => ?_)
  generalize w11.drew = w12 at BK358 HB hHeld ⊢
  refine pa 0 5 (mb 19 1) HT_ ?_
  refine ta4 1 6 (mb 19 3) HT_ HW_ hHeld ?_
  refine oa 2 7 (mb 19 7) HT_ (fun K hK => ?_)
  refine gA Try.func97 #[.slice A0 l0.length c0, .agg #[.slice A1_0 l1_0.length c1_0, .int .i64 a1_1, .slice A1_2 l1_2.length c1_2, .int .i64 a1_3]] ?_
  with_reducible refine (impl_IsControl.calls k _ _ l0 _ _ l1_0 a1_1 _ _ l1_2 a1_3 true _ ?side1 ?side2 ?side3 ?side4 ?side5 ?side6 A3.out).mono ?_
  (case side1 => exact cB HR0)
  (case side2 => exact HC0.out)
  (case side3 => exact cB HR1_0)
  (case side4 => exact HC1_0.out)
  (case side5 => exact cB HR1_2)
  (case side6 => exact HC1_2.out)
  rintro e w13 ⟨rfl, hb⟩
  refine ⟨_, rfl, ?_⟩
  replace BK358 := kb BK358 hb
  replace HB := bs HB hb
  (try clear hb)
  (try clear hb2)
  (try clear hk)
  (try clear hi)
  refine hK.out _ _ (cn4 BK358) (fun hHeld => ?_)
  clear hK K
  refine nB ?_
  refine pa 3 8 (mb 19 15) HT_ ?_
  refine pa 4 9 (mb 19 31) HT_ ?_
  refine ta4 5 10 (mb 19 63) HT_ HW_ hHeld ?_
  refine pa 6 11 (mb 19 127) HT_ ?_
  refine pa 7 12 (mb 19 255) HT_ ?_
  refine pa 8 13 (mb 19 511) HT_ ?_
  refine pa 9 14 (mb 19 1023) HT_ ?_
  refine pu 10 15 (mb 19 2047) HT_ ?_
  refine pu 11 16 (mb 19 4095) HT_ ?_
  refine pu 12 17 (mb 19 8191) HT_ ?_
  refine pu 13 18 (mb 19 16383) HT_ ?_
  refine pu 14 19 (mb 19 32767) HT_ ?_
  refine pu 15 20 (mb 19 65535) HT_ ?_
  refine pu 16 21 (mb 19 131071) HT_ ?_
  refine pa 17 22 (mb 19 262143) HT_ ?_
  refine pa 18 4 (mb 19 524287) HT_ ?_
  refine eA HT_ ?_
  try go_wp2
  go_ret
  exact ⟨rA, bG⟩
 replace c4 := Bool.eq_false_iff.mpr c4
 subst c4
 have H1 : (some false) = some r := by rw [if_neg (show ¬ (false = true) by decide)] at H; exact H
 clear H
 have H := H1
 clear H1
 obtain rfl := Option.some.inj H
 go_enter Try.func86, Try.ntmps86
 try go_wp2_with (first | ((with_reducible refine gate_dst (N := 3) rfl ?_); (try (refine gate_guard (by rfl) ?_; dsimp only)); refine bE (N := 3) (cs := #[.slice A1_0 l1_0.length c1_0, .int .i64 a1_1, .slice A1_2 l1_2.length c1_2, .int .i64 a1_3]) (t := 57) ?_; intro gb358 hg w14 hbox hb; have BK358 := Aside0.mk (hbox); have GW358 := gw w hg; have GE358 := gw w hg; replace HB := bs HB hb; clear hb hbox hg))
 replace BK358 := dk BK358
 have HBo := HB
 replace HB := db HB
 refine start_ (n := 19) (S := fun w' => w'.cell? ⟨gb358, 0, none⟩ = some (.slice A1_0 l1_0.length c1_0) ∧ w'.cell? ⟨gb358, 1, none⟩ = some (.int .i64 a1_1) ∧ w'.cell? ⟨gb358, 2, none⟩ = some (.slice A1_2 l1_2.length c1_2) ∧ w'.cell? ⟨gb358, 3, none⟩ = some (.int .i64 a1_3)) (ds := []) (mb 19 0) (by kernel_rfl) rfl rfl (cn4 BK358) (fun hHeld => ?_); refine with_tabW impl_CanEnd.tab1 impl_CanEnd.bits1 (fun HT_ HW_ => ?_)
 generalize w14.drew = w15 at BK358 HB hHeld ⊢
 refine pa 0 5 (mb 19 1) HT_ ?_
 refine ta4 1 6 (mb 19 3) HT_ HW_ hHeld ?_
 refine oa 2 7 (mb 19 7) HT_ (fun K hK => ?_)
 refine gA Try.func97 #[.slice A0 l0.length c0, .agg #[.slice A1_0 l1_0.length c1_0, .int .i64 a1_1, .slice A1_2 l1_2.length c1_2, .int .i64 a1_3]] ?_
 with_reducible refine (impl_IsControl.calls k _ _ l0 _ _ l1_0 a1_1 _ _ l1_2 a1_3 false _ ?side1 ?side2 ?side3 ?side4 ?side5 ?side6 A3.out).mono ?_
 (case side1 => exact cB HR0)
 (case side2 => exact HC0.out)
 (case side3 => exact cB HR1_0)
 (case side4 => exact HC1_0.out)
 (case side5 => exact cB HR1_2)
 (case side6 => exact HC1_2.out)
 rintro e w16 ⟨rfl, hb⟩
 refine ⟨_, rfl, ?_⟩
 replace BK358 := kb BK358 hb
 replace HB := bs HB hb
 (try clear hb)
 (try clear hb2)
 (try clear hk)
 (try clear hi)
 refine hK.out _ _ (cn4 BK358) (fun hHeld => ?_)
 clear hK K
 refine nB ?_
 refine pa 3 8 (mb 19 15) HT_ ?_
 refine pu 4 9 (mb 19 31) HT_ ?_
 refine pu 5 10 (mb 19 63) HT_ ?_
 refine pu 6 11 (mb 19 127) HT_ ?_
 refine pu 7 12 (mb 19 255) HT_ ?_
 refine pa 8 13 (mb 19 511) HT_ ?_
 refine pa 9 14 (mb 19 1023) HT_ ?_
 refine pu 10 15 (mb 19 2047) HT_ ?_
 refine pu 11 16 (mb 19 4095) HT_ ?_
 refine pu 12 17 (mb 19 8191) HT_ ?_
 refine pu 13 18 (mb 19 16383) HT_ ?_
 refine pu 14 19 (mb 19 32767) HT_ ?_
 refine pu 15 20 (mb 19 65535) HT_ ?_
 refine pu 16 21 (mb 19 131071) HT_ ?_
 refine pa 17 22 (mb 19 262143) HT_ ?_
 refine pa 18 4 (mb 19 524287) HT_ ?_
 refine eA HT_ ?_
 try go_wp2
 go_ret
 exact ⟨rA, bG⟩

/-! ### slices_Equal_int_int: function 88 -/
def slices_Equal_int_int.l0 : Nat → List Int → List Int → Int → Int → Option (Bool)
 | 0, _, _, _, _ => none
 | k + 1, x0, x1, x12, x13 => if x13 < x12 then (if 0 ≤ x13 then (if x13 < (x0.length : Int) then (if x13 < (x1.length : Int) then (if (rd x0 x13) = (rd x1 x13) then (slices_Equal_int_int.l0 k x0 x1 x12 (wrap64 (x13 + 1))) else (some false)) else (none)) else (none)) else (none)) else (some true)
def slices_Equal_int_int.f (k : Nat) (l0 : List Int) (l1 : List Int) : Option (Bool) := if (l0.length : Int) = (l1.length : Int) then (slices_Equal_int_int.l0 k l0 l1 (l0.length : Int) 0) else (some false)
theorem slices_Equal_int_int.mono_l : ∀ k, (∀ y0 y1 y2 y3, LeO (slices_Equal_int_int.l0 k y0 y1 y2 y3) (slices_Equal_int_int.l0 (k + 1) y0 y1 y2 y3))
 | 0 => fun _ _ _ _ r h => by simp [slices_Equal_int_int.l0] at h
 | k + 1 => by
  have ih0 := slices_Equal_int_int.mono_l k
  ·
   intro y0 y1 y2 y3
   unfold slices_Equal_int_int.l0
   exact mz1 ih0
theorem slices_Equal_int_int.mono : ∀ a0 a1 k, LeO (slices_Equal_int_int.f k a0 a1) (slices_Equal_int_int.f (k + 1) a0 a1) := by
 intro a0 a1 k
 have ih0 := slices_Equal_int_int.mono_l k
 unfold slices_Equal_int_int.f
 exact mz1 ih0
set_option maxHeartbeats 8000000 in
set_option maxRecDepth 100000 in
theorem slices_Equal_int_int.calls (k : Nat) (A0 : Option Addr) (c0 : Nat) (l0 : List Int) (A1 : Option Addr) (c1 : Nat) (l1 : List Int) (r : Bool) (w : World) (hr0 : Kd.C (Kd.int .i64) w A0 l0.length l0) (hc0 : l0.length ≤ c0) (hr1 : Kd.C (Kd.int .i64) w A1 l1.length l1) (hc1 : l1.length ≤ c1) (h : slices_Equal_int_int.f k l0 l1 = some r) :
  Calls Try.prog 88 #[.slice A0 l0.length c0, .slice A1 l1.length c1] w fun e w' => e = .returned (.bool r) ∧ Drawn0 w w' := by
 have HR0 := Aside0.mk hr0
 have HC0 := Aside0.mk hc0
 clear hr0 hc0
 have HR1 := Aside0.mk hr1
 have HC1 := Aside0.mk hc1
 clear hr1 hc1
 have H : (if (l0.length : Int) = (l1.length : Int) then (slices_Equal_int_int.l0 k l0 l1 (l0.length : Int) 0) else (some false)) = some r := h
 clear h
 by_cases c3 : (l0.length : Int) = (l1.length : Int)
 ·
  rw [if_pos c3] at H
  have c3b0 : ((l0.length : Int) == (l1.length : Int)) = true := beq_iff_eq.mpr c3
  have c3b1 : ((l0.length : Int) != (l1.length : Int)) = false := bne_eq_false_iff_eq.mpr c3
  have c3b2 : (l0.length == l1.length) = true := by first | simpa using c3 | (simp at c3 ⊢; omega)
  clear c3
  have H' := Aside0.mk H
  clear H
  go_enter Try.func88, Try.ntmps88
  go_wp2
  repeat (go_quiet (fail); try go_wp2)
  go_loopg [13] k (fun kq v13 w' => ∃ (x13_1 : Int), v13 = .int .i64 x13_1 ∧ Aside0 (slices_Equal_int_int.l0 kq l0 l1 (l0.length : Int) x13_1 = some r) ∧ Aside0 (kq ≤ k) ∧ Drawn0 w w')
  case atStart => exact ⟨(0), rS, H', ⟨Nat.le_refl _⟩, by repeat (first | exact Drawn0.refl _ | apply Drawn0.step)⟩
  case round =>
   clear H'
   obtain ⟨x13_1, rfl, HA, HK1, ⟨m1, rfl⟩⟩ := hrel
   cases gk with
   | zero => exact absurd HA.out (by simp [slices_Equal_int_int.l0])
   | succ k1 =>
    have H := HA.out
    clear HA
    simp only [slices_Equal_int_int.l0] at H
    by_cases c4 : x13_1 < (l0.length : Int)
    ·
     rw [if_pos c4] at H
     have c4b0 := decide_eq_true c4
     clear c4
     have c5 : 0 ≤ x13_1 := ifN H
     replace H := ifT H
     have c5b0 := decide_eq_true c5
     clear c5
     have c6 : x13_1 < (l0.length : Int) := ifN H
     replace H := ifT H
     have c6b0 := decide_eq_true c6
     clear c6
     have c7 : x13_1 < (l1.length : Int) := ifN H
     replace H := ifT H
     have c7b0 := decide_eq_true c7
     clear c7
     by_cases c8 : (rd l0 x13_1) = (rd l1 x13_1)
     ·
      rw [if_pos c8] at H
      have c8b0 : ((rd l0 x13_1) == (rd l1 x13_1)) = true := beq_iff_eq.mpr c8
      have c8b1 : ((rd l0 x13_1) != (rd l1 x13_1)) = false := bne_eq_false_iff_eq.mpr c8
      clear c8
      have H' := Aside0.mk H
      clear H
      obtain ⟨p361, q361⟩ : 0 ≤ (x13_1 : Int) ∧ x13_1 < (l0.length : Int) := ⟨dA, dA⟩
      obtain ⟨ad361, e361, hx361_0⟩ := Kd.at_int HR0.out x13_1 p361 q361
      cases e361
      obtain ⟨p361, q361⟩ := eT p361 q361
      obtain ⟨p362, q362⟩ : 0 ≤ (x13_1 : Int) ∧ x13_1 < (l1.length : Int) := ⟨dA, dA⟩
      obtain ⟨ad362, e362, hx362_0⟩ := Kd.at_int HR1.out x13_1 p362 q362
      cases e362
      obtain ⟨p362, q362⟩ := eT p362 q362
      go_wp2
      repeat (go_quiet (fail); try go_wp2)
      go_roundg k1
      case measure => have := HK1.out; omega
      case rel => exact ⟨(wrap64 (x13_1 + 1)), rS, H', ⟨by have := HK1.out; omega⟩, by repeat (first | exact Drawn0.refl _ | apply Drawn0.step)⟩
     rw [if_neg c8] at H
     have c8b0 : ((rd l0 x13_1) == (rd l1 x13_1)) = false := beq_eq_false_iff_ne.mpr c8
     have c8b1 : ((rd l0 x13_1) != (rd l1 x13_1)) = true := bne_iff_ne.mpr c8
     obtain rfl := Option.some.inj H
     obtain ⟨p361, q361⟩ : 0 ≤ (x13_1 : Int) ∧ x13_1 < (l0.length : Int) := ⟨dA, dA⟩
     obtain ⟨ad361, e361, hx361_0⟩ := Kd.at_int HR0.out x13_1 p361 q361
     cases e361
     obtain ⟨p361, q361⟩ := eT p361 q361
     obtain ⟨p362, q362⟩ : 0 ≤ (x13_1 : Int) ∧ x13_1 < (l1.length : Int) := ⟨dA, dA⟩
     obtain ⟨ad362, e362, hx362_0⟩ := Kd.at_int HR1.out x13_1 p362 q362
     cases e362
     obtain ⟨p362, q362⟩ := eT p362 q362
     go_wp2
     repeat (go_quiet (fail); try go_wp2)
     go_ret
     exact ⟨rS, dD⟩
    rw [if_neg c4] at H
    have c4b0 := decide_eq_false c4
    clear c4
    obtain rfl := Option.some.inj H
    go_wp2
    repeat (go_quiet (fail); try go_wp2)
    go_ret
    exact ⟨rS, dD⟩
 rw [if_neg c3] at H
 have c3b0 : ((l0.length : Int) == (l1.length : Int)) = false := beq_eq_false_iff_ne.mpr c3
 have c3b1 : ((l0.length : Int) != (l1.length : Int)) = true := bne_iff_ne.mpr c3
 have c3b2 : (l0.length == l1.length) = false := by first | simpa using c3 | (simp at c3 ⊢; omega)
 obtain rfl := Option.some.inj H
 go_enter Try.func88, Try.ntmps88
 go_wp2
 repeat (go_quiet (fail); try go_wp2)
 go_ret
 exact ⟨rS, dD⟩

/-! ### impl_AskStage: function 42 -/
def impl_AskStage.j0 : Nat → List (S89) → List Int → Bool → List Int → Int → List Int → Int → List Int → Int → List Int → Int → Option (List Int × Int × List Int × Int × Bool)
 | 0, _, _, _, _, _, _, _, _, _, _, _ => none
 | k + 1, x0, x2, x32, x364000, x364001, x364002, x364003, x374000, x374001, x374002, x374003 => if x32 = true then (some (x374000, x374001, x374002, x374003, false)) else ((impl_ClearBetween.f k x0 x364000 x2).bind fun t377 => (if t377 > 0 then ((slices_Clone_int_int.f x2).bind fun t378 => (some (x374000, x374001, t378, t377, true))) else ((slices_Clone_int_int.f x2).bind fun t381 => (some (t381, 0, ([] : List Int), 0, true)))))
def impl_AskStage.f (k : Nat) (l0 : List (S89)) (l1_0 : List Int) (a1_1 : Int) (l1_2 : List Int) (a1_3 : Int) (l2 : List Int) : Option (List Int × Int × List Int × Int × Bool) := (impl_cloneControl.f l1_0 a1_1 l1_2 a1_3).bind fun bt365 => ((impl_CanEnd.f k l0 l1_0 a1_1 l1_2 a1_3).bind fun t374 => (if t374 = true then (if (l2.length : Int) = 0 then (impl_AskStage.j0 k l0 l2 true l1_0 a1_1 l1_2 a1_3 bt365.1 bt365.2.1 bt365.2.2.1 bt365.2.2.2) else ((impl_IsTogether.f k l0 l2).bind fun t375 => (if t375 = true then ((slices_Equal_int_int.f k l2 l1_0).bind fun t376 => (impl_AskStage.j0 k l0 l2 t376 l1_0 a1_1 l1_2 a1_3 bt365.1 bt365.2.1 bt365.2.2.1 bt365.2.2.2)) else (impl_AskStage.j0 k l0 l2 true l1_0 a1_1 l1_2 a1_3 bt365.1 bt365.2.1 bt365.2.2.1 bt365.2.2.2)))) else (impl_AskStage.j0 k l0 l2 true l1_0 a1_1 l1_2 a1_3 bt365.1 bt365.2.1 bt365.2.2.1 bt365.2.2.2)))
theorem impl_AskStage.mono_l : ∀ k, (∀ y0 y1 y2 y3 y4 y5 y6 y7 y8 y9 y10, LeO (impl_AskStage.j0 k y0 y1 y2 y3 y4 y5 y6 y7 y8 y9 y10) (impl_AskStage.j0 (k + 1) y0 y1 y2 y3 y4 y5 y6 y7 y8 y9 y10))
 | 0 => fun _ _ _ _ _ _ _ _ _ _ _ r h => by simp [impl_AskStage.j0] at h
 | k + 1 => by
  have ih0 := impl_AskStage.mono_l k
  ·
   intro y0 y1 y2 y3 y4 y5 y6 y7 y8 y9 y10
   unfold impl_AskStage.j0
   exact mz5 ih0 impl_CanEnd.mono impl_ClearBetween.mono impl_IsTogether.mono slices_Equal_int_int.mono
theorem impl_AskStage.mono : ∀ a0 a1 a2 a3 a4 a5 k, LeO (impl_AskStage.f k a0 a1 a2 a3 a4 a5) (impl_AskStage.f (k + 1) a0 a1 a2 a3 a4 a5) := by
 intro a0 a1 a2 a3 a4 a5 k
 have ih0 := impl_AskStage.mono_l k
 unfold impl_AskStage.f
 exact mz5 ih0 impl_CanEnd.mono impl_ClearBetween.mono impl_IsTogether.mono slices_Equal_int_int.mono
set_option maxHeartbeats 8000000 in
set_option maxRecDepth 100000 in
theorem impl_AskStage.calls (k : Nat) (A0 : Option Addr) (c0 : Nat) (l0 : List (S89)) (A1_0 : Option Addr) (c1_0 : Nat) (l1_0 : List Int) (a1_1 : Int) (A1_2 : Option Addr) (c1_2 : Nat) (l1_2 : List Int) (a1_3 : Int) (A2 : Option Addr) (c2 : Nat) (l2 : List Int) (r1 : List Int) (r2 : Int) (r3 : List Int) (r4 : Int) (r5 : Bool) (w : World) (hr0 : Kd.C k89 w A0 l0.length l0) (hc0 : l0.length ≤ c0) (hr1_0 : Kd.C (Kd.int .i64) w A1_0 l1_0.length l1_0) (hc1_0 : l1_0.length ≤ c1_0) (hr1_2 : Kd.C (Kd.int .i64) w A1_2 l1_2.length l1_2) (hc1_2 : l1_2.length ≤ c1_2) (hr2 : Kd.C (Kd.int .i64) w A2 l2.length l2) (hc2 : l2.length ≤ c2) (h : impl_AskStage.f k l0 l1_0 a1_1 l1_2 a1_3 l2 = some (r1, r2, r3, r4, r5)) :
  Calls Try.prog 42 #[.slice A0 l0.length c0, .agg #[.slice A1_0 l1_0.length c1_0, .int .i64 a1_1, .slice A1_2 l1_2.length c1_2, .int .i64 a1_3], .slice A2 l2.length c2] w fun e w' => ∃ v0_ v2_ : Value, e = .returned (.tuple #[.agg #[v0_, .int .i64 r2, v2_, .int .i64 r4], .bool r5]) ∧ Kd.R (Kd.int .i64) 3 w' w.heap.size (n1 v2_) v0_ r1 ∧ Kd.R (Kd.int .i64) 3 w' w.heap.size (n1 v0_) v2_ r3 ∧ Below w.heap.size w w' := by
 have hu57 := Try.underlying57
 have HR0 := Aside0.mk hr0
 have HC0 := Aside0.mk hc0
 clear hr0 hc0
 have HR1_0 := Aside0.mk hr1_0
 have HC1_0 := Aside0.mk hc1_0
 clear hr1_0 hc1_0
 have HR1_2 := Aside0.mk hr1_2
 have HC1_2 := Aside0.mk hc1_2
 clear hr1_2 hc1_2
 have HR2 := Aside0.mk hr2
 have HC2 := Aside0.mk hc2
 clear hr2 hc2
 have HB := Aside0.mk (Below.refl w.heap.size w)
 have H : ((impl_cloneControl.f l1_0 a1_1 l1_2 a1_3).bind fun bt365 => ((impl_CanEnd.f k l0 l1_0 a1_1 l1_2 a1_3).bind fun t374 => (if t374 = true then (if (l2.length : Int) = 0 then (impl_AskStage.j0 k l0 l2 true l1_0 a1_1 l1_2 a1_3 bt365.1 bt365.2.1 bt365.2.2.1 bt365.2.2.2) else ((impl_IsTogether.f k l0 l2).bind fun t375 => (if t375 = true then ((slices_Equal_int_int.f k l2 l1_0).bind fun t376 => (impl_AskStage.j0 k l0 l2 t376 l1_0 a1_1 l1_2 a1_3 bt365.1 bt365.2.1 bt365.2.2.1 bt365.2.2.2)) else (impl_AskStage.j0 k l0 l2 true l1_0 a1_1 l1_2 a1_3 bt365.1 bt365.2.1 bt365.2.2.1 bt365.2.2.2)))) else (impl_AskStage.j0 k l0 l2 true l1_0 a1_1 l1_2 a1_3 bt365.1 bt365.2.1 bt365.2.2.1 bt365.2.2.2)))) = some (r1, r2, r3, r4, r5) := h
 clear h
 obtain ⟨⟨t365, t368, t369, t372⟩, A4, H⟩ := bindE H
 try dsimp only at H
 have HC5 := Aside0.mk H
 clear H
 go_enter Try.func42, Try.ntmps42
 go_upto_region 2 with (first | ((with_reducible refine gate_dst (N := 4) rfl ?_); (try (refine gate_guard (by rfl) ?_; dsimp only)); refine bE (N := 4) (cs := #[.slice A1_0 l1_0.length c1_0, .int .i64 a1_1, .slice A1_2 l1_2.length c1_2, .int .i64 a1_3]) (t := 57) ?_; intro gb363 hg w6 hbox hb; have BK363 := Aside0.mk (hbox); have GW363 := gw w hg; have GE363 := gw w hg; replace HB := bs HB hb; clear hb hbox hg) | ((with_reducible refine gate_dst (N := 6) rfl ?_); (try (refine gate_guard (by rfl) ?_; dsimp only)); refine bE (N := 6) (cs := #[.slice none 0 0, .int .i64 0, .slice none 0 0, .int .i64 0]) (t := 57) ?_; intro gb364 hg w7 hbox hb; have BK364 := Aside0.mk (hbox); have GW364 := gw w hg; have GE364 := gw w hg; replace HB := bs HB hb; have NB363_364 := nl BK363 hg; have NB364_363 := nr BK363 hg; replace BK363 := kb BK363 hb; clear hb hbox hg; have hnb8 := NB363_364.out; have hnc8 := NB364_363.out; have hcz9_0 : w7.cell? ⟨gb363, 0, none⟩ = some (.slice A1_0 l1_0.length c1_0) := bC BK363 0; have hcz9_1 : w7.cell? ⟨gb363, 1, none⟩ = some (.int .i64 a1_1) := bC BK363 1; have hcz9_2 : w7.cell? ⟨gb363, 2, none⟩ = some (.slice A1_2 l1_2.length c1_2) := bC BK363 2; have hcz9_3 : w7.cell? ⟨gb363, 3, none⟩ = some (.int .i64 a1_3) := bC BK363 3; have hfz9_0 := blk_frozen BK363.out 0; have hfz9_1 := blk_frozen BK363.out 1; have hfz9_2 := blk_frozen BK363.out 2; have hfz9_3 := blk_frozen BK363.out 3) | ((with_reducible refine gate_callee (f := 85) rfl ?_); refine gL (some 11) Try.func85 #[.agg #[.slice A1_0 l1_0.length c1_0, .int .i64 a1_1, .slice A1_2 l1_2.length c1_2, .int .i64 a1_3]] ?_; (with_reducible refine (impl_cloneControl.calls _ _ l1_0 a1_1 _ _ l1_2 a1_3 t365 t368 t369 t372 _ ?_ ?_ ?_ ?_ A4.out).mono ?_); exact cB HR1_0; exact HC1_0.out; exact cB HR1_2; exact HC1_2.out; rintro e w10 ⟨v366, v370, rfl, ho0, ho1, hb⟩; refine ⟨_, rfl, ?_⟩; have HO367 := rl w ho0; have HO371 := rl w ho1; replace BK363 := kb BK363 hb; replace BK364 := kb BK364 hb; replace HB := bs HB hb; (try clear hb); (try clear ho0); (try clear ho1)) | ((with_reducible refine gate_dst (N := 8) rfl ?_); (try (refine gate_guard (by rfl) ?_; dsimp only)); refine bE (N := 8) (cs := #[.slice none 0 0, .int .i64 0, .slice none 0 0, .int .i64 0]) (t := 57) ?_; intro gb373 hg w11 hbox hb; replace HO367 := rb HO367 hb; replace HO371 := rb HO371 hb; have BK373 := Aside0.mk (hbox); have GW373 := gw w hg; have GE373 := gw w hg; replace HB := bs HB hb; have NB363_373 := nl BK363 hg; have NB373_363 := nr BK363 hg; replace BK363 := kb BK363 hb; have NB364_373 := nl BK364 hg; have NB373_364 := nr BK364 hg; replace BK364 := kb BK364 hb; clear hb hbox hg; obtain ⟨Ao12, co12, eo12⟩ := Kd.R_slice HO367.out; subst eo12; have hnb13 := NB373_363.out; have hnc13 := NB363_373.out; have hnb14 := NB373_364.out; have hnc14 := NB364_373.out; obtain ⟨_, _, _, _, _, _, _, _⟩ := blkc4 BK373; obtain ⟨Ao16, co16, eo16⟩ := Kd.R_slice HO371.out; subst eo16))
 (try simp only [Act.put, List.setIfInBounds_toArray, List.set_cons_zero, List.set_cons_succ])
 go_cut [32] (fun v32 wc => ∃ (kq : Nat) (x32_4 : Bool), v32 = .bool x32_4 ∧ Aside0 (impl_AskStage.j0 kq l0 l2 x32_4 l1_0 a1_1 l1_2 a1_3 t365 t368 t369 t372 = some (r1, r2, r3, r4, r5)) ∧ Aside0 (kq ≤ k) ∧ Aside0 (Kd.R (Kd.int .i64) 3 wc w.heap.size (n1 (.slice Ao16 t369.length co16)) (.slice Ao12 t365.length co12) t365) ∧ Aside0 (Kd.R (Kd.int .i64) 3 wc w.heap.size (n1 (.slice Ao12 t365.length co12)) (.slice Ao16 t369.length co16) t369) ∧ Aside0 (wc.heap[gb363]? = some (.cells #[(.slice A1_0 l1_0.length c1_0), .int .i64 a1_1, (.slice A1_2 l1_2.length c1_2), .int .i64 a1_3] 57 (0, 0))) ∧ Aside0 (wc.heap[gb364]? = some (.cells #[(.slice none 0 0), .int .i64 0, (.slice none 0 0), .int .i64 0] 57 (0, 0))) ∧ Aside0 (wc.heap[gb373]? = some (.cells #[(.slice Ao12 t365.length co12), .int .i64 t368, (.slice Ao16 t369.length co16), .int .i64 t372] 57 (0, 0))) ∧ Aside0 (Below w.heap.size w wc))
 case first =>
  have H := HC5.out
  clear HC5
  obtain ⟨t374, A17, H⟩ := bindE H
  try dsimp only at H
  by_cases c18 : t374 = true
  ·
   subst c18
   have H1 : (if (l2.length : Int) = 0 then (impl_AskStage.j0 k l0 l2 true l1_0 a1_1 l1_2 a1_3 t365 t368 t369 t372) else ((impl_IsTogether.f k l0 l2).bind fun t375 => (if t375 = true then ((slices_Equal_int_int.f k l2 l1_0).bind fun t376 => (impl_AskStage.j0 k l0 l2 t376 l1_0 a1_1 l1_2 a1_3 t365 t368 t369 t372)) else (impl_AskStage.j0 k l0 l2 true l1_0 a1_1 l1_2 a1_3 t365 t368 t369 t372)))) = some (r1, r2, r3, r4, r5) := by rw [if_pos rfl] at H; exact H
   clear H
   have H := H1
   clear H1
   by_cases c19 : (l2.length : Int) = 0
   ·
    rw [if_pos c19] at H
    have c19b0 : ((l2.length : Int) == 0) = true := beq_iff_eq.mpr c19
    have c19b1 : ((l2.length : Int) != 0) = false := bne_eq_false_iff_eq.mpr c19
    clear c19
    (first | rw [c19b0] | (simp only [i64_w, i32_w]; rw [c19b0]) | skip)
    have H' := Aside0.mk H
    clear H
    have hnb20 := NB363_364.out
    have hnc20 := NB364_363.out
    have hnb21 := NB363_373.out
    have hnc21 := NB373_363.out
    obtain ⟨_, _, _, _, _, _, _, _⟩ := blkc4 BK363
    go_wp2_with (first | ((with_reducible refine gate_callee (f := 86) rfl ?_); refine gL (some 14) Try.func86 #[.slice A0 l0.length c0, .agg #[.slice A1_0 l1_0.length c1_0, .int .i64 a1_1, .slice A1_2 l1_2.length c1_2, .int .i64 a1_3]] ?_; (with_reducible refine (impl_CanEnd.calls k _ _ l0 _ _ l1_0 a1_1 _ _ l1_2 a1_3 true _ ?_ ?_ ?_ ?_ ?_ ?_ A17.out).mono ?_); exact Kd.C_below HR0.out bG; exact HC0.out; exact Kd.C_below HR1_0.out bG; exact HC1_0.out; exact Kd.C_below HR1_2.out bG; exact HC1_2.out; rintro e w23 ⟨rfl, hb⟩; refine ⟨_, rfl, ?_⟩; replace HO367 := Aside0.mk (Kd.R_below (rf HO367 BK373) hb); replace HO371 := Aside0.mk (Kd.R_below (rf HO371 BK373) hb); replace BK363 := kc (kf BK363 NB363_373) hb; replace BK364 := kc (kf BK364 NB364_373) hb; replace BK373 := kc (o := .cells #[.slice Ao12 t365.length co12, .int .i64 t368, .slice Ao16 t369.length co16, .int .i64 t372] 57 (0, 0)) (kp BK373) hb; replace HB := bs HB hb; (try clear hb)))
    go_meet
    case rel => exact ⟨_, (true), rS, H', ⟨oL⟩, ⟨rK HO367⟩, ⟨rK HO371⟩, ⟨bK BK363⟩, ⟨bK BK364⟩, ⟨bK BK373⟩, ⟨bG⟩⟩
   rw [if_neg c19] at H
   have c19b0 : ((l2.length : Int) == 0) = false := beq_eq_false_iff_ne.mpr c19
   have c19b1 : ((l2.length : Int) != 0) = true := bne_iff_ne.mpr c19
   have c19b2 : ¬ (l2 = []) := fun h_ => c19 (by rw [h_]; rfl)
   (first | rw [c19b0] | (simp only [i64_w, i32_w]; rw [c19b0]) | skip)
   obtain ⟨t375, A24, H⟩ := bindE H
   try dsimp only at H
   by_cases c25 : t375 = true
   ·
    subst c25
    have H1 : ((slices_Equal_int_int.f k l2 l1_0).bind fun t376 => (impl_AskStage.j0 k l0 l2 t376 l1_0 a1_1 l1_2 a1_3 t365 t368 t369 t372)) = some (r1, r2, r3, r4, r5) := by rw [if_pos rfl] at H; exact H
    clear H
    have H := H1
    clear H1
    obtain ⟨t376, A26, H⟩ := bindE H
    try dsimp only at H
    have H' := Aside0.mk H
    clear H
    have hnb27 := NB363_364.out
    have hnc27 := NB364_363.out
    have hnb28 := NB363_373.out
    have hnc28 := NB373_363.out
    obtain ⟨_, _, _, _, _, _, _, _⟩ := blkc4 BK363
    go_wp2_with (first | ((with_reducible refine gate_callee (f := 86) rfl ?_); refine gL (some 14) Try.func86 #[.slice A0 l0.length c0, .agg #[.slice A1_0 l1_0.length c1_0, .int .i64 a1_1, .slice A1_2 l1_2.length c1_2, .int .i64 a1_3]] ?_; (with_reducible refine (impl_CanEnd.calls k _ _ l0 _ _ l1_0 a1_1 _ _ l1_2 a1_3 true _ ?_ ?_ ?_ ?_ ?_ ?_ A17.out).mono ?_); exact Kd.C_below HR0.out bG; exact HC0.out; exact Kd.C_below HR1_0.out bG; exact HC1_0.out; exact Kd.C_below HR1_2.out bG; exact HC1_2.out; rintro e w30 ⟨rfl, hb⟩; refine ⟨_, rfl, ?_⟩; replace HO367 := Aside0.mk (Kd.R_below (rf HO367 BK373) hb); replace HO371 := Aside0.mk (Kd.R_below (rf HO371 BK373) hb); replace BK363 := kc (kf BK363 NB363_373) hb; replace BK364 := kc (kf BK364 NB364_373) hb; replace BK373 := kc (o := .cells #[.slice Ao12 t365.length co12, .int .i64 t368, .slice Ao16 t369.length co16, .int .i64 t372] 57 (0, 0)) (kp BK373) hb; replace HB := bs HB hb; (try clear hb)) | (go_at_call 87; (with_reducible refine (impl_IsTogether.calls k _ _ l0 _ _ l2 true _ ?_ ?_ ?_ ?_ A24.out).mono ?_); exact cB HR0; exact HC0.out; exact cB HR2; exact HC2.out; rintro e w31 ⟨rfl, hb⟩; replace HO367 := rb HO367 hb; replace HO371 := rb HO371 hb; replace BK363 := kb BK363 hb; replace BK364 := kb BK364 hb; replace BK373 := kb BK373 hb; replace HB := bs HB hb; (try clear hb); have hcz32_0 : w31.cell? ⟨gb363, 0, none⟩ = some (.slice A1_0 l1_0.length c1_0) := bC BK363 0; have hcz32_1 : w31.cell? ⟨gb363, 1, none⟩ = some (.int .i64 a1_1) := bC BK363 1; have hcz32_2 : w31.cell? ⟨gb363, 2, none⟩ = some (.slice A1_2 l1_2.length c1_2) := bC BK363 2; have hcz32_3 : w31.cell? ⟨gb363, 3, none⟩ = some (.int .i64 a1_3) := bC BK363 3; have hfz32_0 := blk_frozen BK363.out 0; have hfz32_1 := blk_frozen BK363.out 1; have hfz32_2 := blk_frozen BK363.out 2; have hfz32_3 := blk_frozen BK363.out 3) | (go_at_call 88; (with_reducible refine (slices_Equal_int_int.calls k _ _ l2 _ _ l1_0 t376 _ ?_ ?_ ?_ ?_ A26.out).mono ?_); exact cB HR2; exact HC2.out; exact cB HR1_0; exact HC1_0.out; rintro e w' ⟨rfl, ⟨nd, rfl⟩⟩))
    go_meet
    case rel => exact ⟨_, (t376), rS, H', ⟨oL⟩, ⟨rK HO367⟩, ⟨rK HO371⟩, ⟨bK BK363⟩, ⟨bK BK364⟩, ⟨bK BK373⟩, ⟨bG⟩⟩
   replace c25 := Bool.eq_false_iff.mpr c25
   subst c25
   have H1 : (impl_AskStage.j0 k l0 l2 true l1_0 a1_1 l1_2 a1_3 t365 t368 t369 t372) = some (r1, r2, r3, r4, r5) := by rw [if_neg (show ¬ (false = true) by decide)] at H; exact H
   clear H
   have H := H1
   clear H1
   have H' := Aside0.mk H
   clear H
   have hnb33 := NB363_364.out
   have hnc33 := NB364_363.out
   have hnb34 := NB363_373.out
   have hnc34 := NB373_363.out
   obtain ⟨_, _, _, _, _, _, _, _⟩ := blkc4 BK363
   go_wp2_with (first | ((with_reducible refine gate_callee (f := 86) rfl ?_); refine gL (some 14) Try.func86 #[.slice A0 l0.length c0, .agg #[.slice A1_0 l1_0.length c1_0, .int .i64 a1_1, .slice A1_2 l1_2.length c1_2, .int .i64 a1_3]] ?_; (with_reducible refine (impl_CanEnd.calls k _ _ l0 _ _ l1_0 a1_1 _ _ l1_2 a1_3 true _ ?_ ?_ ?_ ?_ ?_ ?_ A17.out).mono ?_); exact Kd.C_below HR0.out bG; exact HC0.out; exact Kd.C_below HR1_0.out bG; exact HC1_0.out; exact Kd.C_below HR1_2.out bG; exact HC1_2.out; rintro e w36 ⟨rfl, hb⟩; refine ⟨_, rfl, ?_⟩; replace HO367 := Aside0.mk (Kd.R_below (rf HO367 BK373) hb); replace HO371 := Aside0.mk (Kd.R_below (rf HO371 BK373) hb); replace BK363 := kc (kf BK363 NB363_373) hb; replace BK364 := kc (kf BK364 NB364_373) hb; replace BK373 := kc (o := .cells #[.slice Ao12 t365.length co12, .int .i64 t368, .slice Ao16 t369.length co16, .int .i64 t372] 57 (0, 0)) (kp BK373) hb; replace HB := bs HB hb; (try clear hb)) | (go_at_call 87; (with_reducible refine (impl_IsTogether.calls k _ _ l0 _ _ l2 false _ ?_ ?_ ?_ ?_ A24.out).mono ?_); exact cB HR0; exact HC0.out; exact cB HR2; exact HC2.out; rintro e w37 ⟨rfl, hb⟩; replace HO367 := rb HO367 hb; replace HO371 := rb HO371 hb; replace BK363 := kb BK363 hb; replace BK364 := kb BK364 hb; replace BK373 := kb BK373 hb; replace HB := bs HB hb; (try clear hb)))
   go_meet
   case rel => exact ⟨_, (true), rS, H', ⟨oL⟩, ⟨rK HO367⟩, ⟨rK HO371⟩, ⟨bK BK363⟩, ⟨bK BK364⟩, ⟨bK BK373⟩, ⟨bG⟩⟩
  replace c18 := Bool.eq_false_iff.mpr c18
  subst c18
  have H1 : (impl_AskStage.j0 k l0 l2 true l1_0 a1_1 l1_2 a1_3 t365 t368 t369 t372) = some (r1, r2, r3, r4, r5) := by rw [if_neg (show ¬ (false = true) by decide)] at H; exact H
  clear H
  have H := H1
  clear H1
  have H' := Aside0.mk H
  clear H
  have hnb38 := NB363_364.out
  have hnc38 := NB364_363.out
  have hnb39 := NB363_373.out
  have hnc39 := NB373_363.out
  obtain ⟨_, _, _, _, _, _, _, _⟩ := blkc4 BK363
  go_wp2_with (first | ((with_reducible refine gate_callee (f := 86) rfl ?_); refine gL (some 14) Try.func86 #[.slice A0 l0.length c0, .agg #[.slice A1_0 l1_0.length c1_0, .int .i64 a1_1, .slice A1_2 l1_2.length c1_2, .int .i64 a1_3]] ?_; (with_reducible refine (impl_CanEnd.calls k _ _ l0 _ _ l1_0 a1_1 _ _ l1_2 a1_3 false _ ?_ ?_ ?_ ?_ ?_ ?_ A17.out).mono ?_); exact Kd.C_below HR0.out bG; exact HC0.out; exact Kd.C_below HR1_0.out bG; exact HC1_0.out; exact Kd.C_below HR1_2.out bG; exact HC1_2.out; rintro e w41 ⟨rfl, hb⟩; refine ⟨_, rfl, ?_⟩; replace HO367 := Aside0.mk (Kd.R_below (rf HO367 BK373) hb); replace HO371 := Aside0.mk (Kd.R_below (rf HO371 BK373) hb); replace BK363 := kc (kf BK363 NB363_373) hb; replace BK364 := kc (kf BK364 NB364_373) hb; replace BK373 := kc (o := .cells #[.slice Ao12 t365.length co12, .int .i64 t368, .slice Ao16 t369.length co16, .int .i64 t372] 57 (0, 0)) (kp BK373) hb; replace HB := bs HB hb; (try clear hb)))
  go_meet
  case rel => exact ⟨_, (true), rS, H', ⟨oL⟩, ⟨rK HO367⟩, ⟨rK HO371⟩, ⟨bK BK363⟩, ⟨bK BK364⟩, ⟨bK BK373⟩, ⟨bG⟩⟩
 case rest =>
  clear HC5
  obtain ⟨kq, x32_4, rfl, HA, HJ4, HO_374000, HO_374002, BK363, BK364, BK373, HB⟩ := hcut
  cases kq with
  | zero => exact absurd HA.out (by simp [impl_AskStage.j0])
  | succ kj4 =>
   have H := HA.out
   clear HA
   simp only [impl_AskStage.j0] at H
   by_cases c42 : x32_4 = true
   ·
    subst c42
    have H1 : (some (t365, t368, t369, t372, false)) = some (r1, r2, r3, r4, r5) := by rw [if_pos rfl] at H; exact H
    clear H
    have H := H1
    clear H1
    simp only [Option.some.injEq, Prod.mk.injEq] at H
    obtain ⟨rfl, rfl, rfl, rfl, rfl⟩ := H
    have hnb43 := NB373_363.out
    have hnc43 := NB363_373.out
    have hnb44 := NB373_364.out
    have hnc44 := NB364_373.out
    obtain ⟨_, _, _, _, _, _, _, _⟩ := blkc4 BK373
    have hnb46 := NB364_363.out
    have hnc46 := NB363_364.out
    obtain ⟨_, _, _, _, _, _, _, _⟩ := blkc4 BK364
    go_wp2
    refine bodyPost_ret (results_ct rfl _ _ gb364 57 #[.slice Ao12 t365.length co12, .int .i64 t368, .slice Ao16 t369.length co16, .int .i64 t372] (0, 0) _ rfl (kp BK364) Try.underlying57 rfl (by kernel_rfl)) rfl ?_
    exact ⟨_, _, rA, rf HO_374000 BK364, rf HO_374002 BK364, bG⟩
   replace c42 := Bool.eq_false_iff.mpr c42
   subst c42
   have H1 : ((impl_ClearBetween.f kj4 l0 l1_0 l2).bind fun t377 => (if t377 > 0 then ((slices_Clone_int_int.f l2).bind fun t378 => (some (t365, t368, t378, t377, true))) else ((slices_Clone_int_int.f l2).bind fun t381 => (some (t381, 0, ([] : List Int), 0, true))))) = some (r1, r2, r3, r4, r5) := by rw [if_neg (show ¬ (false = true) by decide)] at H; exact H
   clear H
   have H := H1
   clear H1
   obtain ⟨t377, A48, H⟩ := bindE H
   try dsimp only at H
   by_cases c49 : t377 > 0
   ·
    rw [if_pos c49] at H
    have c49b0 := decide_eq_true c49
    clear c49
    obtain ⟨t378, A50, H⟩ := bindE H
    try dsimp only at H
    simp only [Option.some.injEq, Prod.mk.injEq] at H
    obtain ⟨rfl, rfl, rfl, rfl, rfl⟩ := H
    have hnb51 := NB363_364.out
    have hnc51 := NB364_363.out
    have hnb52 := NB363_373.out
    have hnc52 := NB373_363.out
    obtain ⟨_, _, _, _, _, _, _, _⟩ := blkc4 BK363
    go_wp2_with (first | ((with_reducible refine gate_callee (f := 89) rfl ?_); refine gL (some 38) Try.func89 #[.slice A0 l0.length c0, .slice A1_0 l1_0.length c1_0, .slice A2 l2.length c2] ?_; (with_reducible refine (impl_ClearBetween.calls kj4 _ _ l0 _ _ l1_0 _ _ l2 t377 _ ?_ ?_ ?_ ?_ ?_ ?_ A48.out).mono ?_); exact cB HR0; exact HC0.out; exact cB HR1_0; exact HC1_0.out; exact cB HR2; exact HC2.out; rintro e w54 ⟨rfl, hb⟩; refine ⟨_, rfl, ?_⟩; replace HO_374000 := rb HO_374000 hb; replace HO_374002 := rb HO_374002 hb; replace BK363 := kb BK363 hb; replace BK364 := kb BK364 hb; replace BK373 := kb BK373 hb; replace HB := bs HB hb; (try clear hb)) | ((with_reducible refine gate_callee (f := 90) rfl ?_); refine gL (some 42) Try.func90 #[.slice A2 l2.length c2] ?_; (with_reducible refine (slices_Clone_int_int.calls _ _ l2 t378 _ ?_ ?_ A50.out).mono ?_); exact cB HR2; exact HC2.out; rintro e w55 ⟨v379, rfl, ho0, hb⟩; refine ⟨_, rfl, ?_⟩; have HO380 := rl w (rn (rn ho0 HO_374000) HO_374002); replace HO_374000 := re HO_374000 ho0 hb; replace HO_374002 := re HO_374002 ho0 hb; replace BK363 := kb BK363 hb; replace BK364 := kb BK364 hb; replace BK373 := kb BK373 hb; replace HB := bs HB hb; (try clear hb); (try clear ho0); obtain ⟨Ao56, co56, eo56⟩ := Kd.R_slice HO380.out; subst eo56; have hnb57 := NB373_364.out; have hnc57 := NB364_373.out; obtain ⟨_, _, _, _, _, _, _, _⟩ := blkc4 BK373; obtain ⟨_, _, _, _, _, _, _, _⟩ := blkc4 BK364))
    refine bodyPost_ret (results_ct rfl _ _ gb364 57 #[.slice Ao12 t365.length co12, .int .i64 t368, .slice Ao56 t378.length co56, .int .i64 t377] (0, 0) _ rfl (kP BK364 NB364_373) Try.underlying57 rfl (by kernel_rfl)) rfl ?_
    exact ⟨_, _, rA, by (with_reducible repeat (first | apply Kd.R_alloc | apply Kd.R_drewN | apply Kd.R_drew)); exact Kd.R_mono (Kd.R_far (p := ⟨gb364, 3, none⟩) (Kd.R_far (p := ⟨gb364, 2, none⟩) (Kd.R_far (p := ⟨gb364, 1, none⟩) (Kd.R_far (p := ⟨gb364, 0, none⟩) (Kd.R_far (p := ⟨gb373, 3, none⟩) (Kd.R_far (p := ⟨gb373, 2, none⟩) (Kd.R_types (Kd.R_types HO_374000.out BK373.out (by decide)) BK364.out (by decide)) (fun _ hk => hk.1.2) (.slice Ao56 t378.length co56)) (fun _ hk => hk.1.2) (.int .i64 t377)) (fun _ hk => hk.2) (.slice Ao12 t365.length co12)) (fun _ hk => hk.2) (.int .i64 t368)) (fun _ hk => hk.2) (.slice Ao56 t378.length co56)) (fun _ hk => hk.2) (.int .i64 t377)) (fun _ hk => hk.1.1.2), by (with_reducible repeat (first | apply Kd.R_alloc | apply Kd.R_drewN | apply Kd.R_drew)); exact Kd.R_mono (Kd.R_far (p := ⟨gb364, 3, none⟩) (Kd.R_far (p := ⟨gb364, 2, none⟩) (Kd.R_far (p := ⟨gb364, 1, none⟩) (Kd.R_far (p := ⟨gb364, 0, none⟩) (Kd.R_far (p := ⟨gb373, 3, none⟩) (Kd.R_far (p := ⟨gb373, 2, none⟩) (Kd.R_types (Kd.R_types HO380.out BK373.out (by decide)) BK364.out (by decide)) (fun _ hk => hk.1.2) (.slice Ao56 t378.length co56)) (fun _ hk => hk.1.2) (.int .i64 t377)) (fun _ hk => hk.2) (.slice Ao12 t365.length co12)) (fun _ hk => hk.2) (.int .i64 t368)) (fun _ hk => hk.2) (.slice Ao56 t378.length co56)) (fun _ hk => hk.2) (.int .i64 t377)) (fun _ hk => hk.1.1.1.2), bG⟩
   rw [if_neg c49] at H
   have c49b0 := decide_eq_false c49
   clear c49
   obtain ⟨t381, A60, H⟩ := bindE H
   try dsimp only at H
   simp only [Option.some.injEq, Prod.mk.injEq] at H
   obtain ⟨rfl, rfl, rfl, rfl, rfl⟩ := H
   have hnb61 := NB363_364.out
   have hnc61 := NB364_363.out
   have hnb62 := NB363_373.out
   have hnc62 := NB373_363.out
   obtain ⟨_, _, _, _, _, _, _, _⟩ := blkc4 BK363
   go_wp2_with (first | ((with_reducible refine gate_callee (f := 89) rfl ?_); refine gL (some 38) Try.func89 #[.slice A0 l0.length c0, .slice A1_0 l1_0.length c1_0, .slice A2 l2.length c2] ?_; (with_reducible refine (impl_ClearBetween.calls kj4 _ _ l0 _ _ l1_0 _ _ l2 t377 _ ?_ ?_ ?_ ?_ ?_ ?_ A48.out).mono ?_); exact cB HR0; exact HC0.out; exact cB HR1_0; exact HC1_0.out; exact cB HR2; exact HC2.out; rintro e w64 ⟨rfl, hb⟩; refine ⟨_, rfl, ?_⟩; replace HO_374000 := rb HO_374000 hb; replace HO_374002 := rb HO_374002 hb; replace BK363 := kb BK363 hb; replace BK364 := kb BK364 hb; replace BK373 := kb BK373 hb; replace HB := bs HB hb; (try clear hb)) | ((with_reducible refine gate_callee (f := 90) rfl ?_); refine gL (some 48) Try.func90 #[.slice A2 l2.length c2] ?_; (with_reducible refine (slices_Clone_int_int.calls _ _ l2 t381 _ ?_ ?_ A60.out).mono ?_); exact cB HR2; exact HC2.out; rintro e w65 ⟨v382, rfl, ho0, hb⟩; refine ⟨_, rfl, ?_⟩; have HO383 := rl w (rn (rn ho0 HO_374000) HO_374002); replace HO_374000 := re HO_374000 ho0 hb; replace HO_374002 := re HO_374002 ho0 hb; replace BK363 := kb BK363 hb; replace BK364 := kb BK364 hb; replace BK373 := kb BK373 hb; replace HB := bs HB hb; (try clear hb); (try clear ho0); obtain ⟨Ao66, co66, eo66⟩ := Kd.R_slice HO383.out; subst eo66; have hnb67 := NB364_373.out; have hnc67 := NB373_364.out; obtain ⟨_, _, _, _, _, _, _, _⟩ := blkc4 BK364))
   refine bodyPost_ret (results_ct rfl _ _ gb364 57 #[.slice Ao66 t381.length co66, .int .i64 0, .slice none 0 0, .int .i64 0] (0, 0) _ rfl (kp BK364) Try.underlying57 rfl (by kernel_rfl)) rfl ?_
   exact ⟨_, _, rA, Kd.R_mono (rf HO383 BK364) (fun _ hk => (by simp [Value.ownBlock])), by first | exact Kd.R_nil _ _ _ _ _ | exact Kd.N_nil _ _ _ _ _ | exact Kd.V_nil _ _ _ _ _ | exact Kd.Q_nil _ _ _ _ _ | exact Kd.S_nil _ _ _ _ _, bG⟩

/-! ### laws_eqControl: function 43 -/
def laws_eqControl.f (k : Nat) (l0_0 : List Int) (a0_1 : Int) (l0_2 : List Int) (a0_3 : Int) (l1_0 : List Int) (a1_1 : Int) (l1_2 : List Int) (a1_3 : Int) : Option (Bool) := (laws_eqIntS.f k l0_0 l1_0).bind fun t386 => (if t386 = true then (if a0_1 = a1_1 then ((laws_eqIntS.f k l0_2 l1_2).bind fun t387 => (if t387 = true then (if a0_3 = a1_3 then (some true) else (some false)) else (some false))) else (some false)) else (some false))
theorem laws_eqControl.mono : ∀ a0 a1 a2 a3 a4 a5 a6 a7 k, LeO (laws_eqControl.f k a0 a1 a2 a3 a4 a5 a6 a7) (laws_eqControl.f (k + 1) a0 a1 a2 a3 a4 a5 a6 a7) := by
 intro a0 a1 a2 a3 a4 a5 a6 a7 k
 unfold laws_eqControl.f
 exact mz1 laws_eqIntS.mono
set_option maxHeartbeats 8000000 in
set_option maxRecDepth 100000 in
theorem laws_eqControl.calls (k : Nat) (A0_0 : Option Addr) (c0_0 : Nat) (l0_0 : List Int) (a0_1 : Int) (A0_2 : Option Addr) (c0_2 : Nat) (l0_2 : List Int) (a0_3 : Int) (A1_0 : Option Addr) (c1_0 : Nat) (l1_0 : List Int) (a1_1 : Int) (A1_2 : Option Addr) (c1_2 : Nat) (l1_2 : List Int) (a1_3 : Int) (r : Bool) (w : World) (hr0_0 : Kd.C (Kd.int .i64) w A0_0 l0_0.length l0_0) (hc0_0 : l0_0.length ≤ c0_0) (hr0_2 : Kd.C (Kd.int .i64) w A0_2 l0_2.length l0_2) (hc0_2 : l0_2.length ≤ c0_2) (hr1_0 : Kd.C (Kd.int .i64) w A1_0 l1_0.length l1_0) (hc1_0 : l1_0.length ≤ c1_0) (hr1_2 : Kd.C (Kd.int .i64) w A1_2 l1_2.length l1_2) (hc1_2 : l1_2.length ≤ c1_2) (h : laws_eqControl.f k l0_0 a0_1 l0_2 a0_3 l1_0 a1_1 l1_2 a1_3 = some r) :
  Calls Try.prog 43 #[.agg #[.slice A0_0 l0_0.length c0_0, .int .i64 a0_1, .slice A0_2 l0_2.length c0_2, .int .i64 a0_3], .agg #[.slice A1_0 l1_0.length c1_0, .int .i64 a1_1, .slice A1_2 l1_2.length c1_2, .int .i64 a1_3]] w fun e w' => e = .returned (.bool r) ∧ Below w.heap.size w w' := by
 have hu57 := Try.underlying57
 have HR0_0 := Aside0.mk hr0_0
 have HC0_0 := Aside0.mk hc0_0
 clear hr0_0 hc0_0
 have HR0_2 := Aside0.mk hr0_2
 have HC0_2 := Aside0.mk hc0_2
 clear hr0_2 hc0_2
 have HR1_0 := Aside0.mk hr1_0
 have HC1_0 := Aside0.mk hc1_0
 clear hr1_0 hc1_0
 have HR1_2 := Aside0.mk hr1_2
 have HC1_2 := Aside0.mk hc1_2
 clear hr1_2 hc1_2
 have HB := Aside0.mk (Below.refl w.heap.size w)
 have H : ((laws_eqIntS.f k l0_0 l1_0).bind fun t386 => (if t386 = true then (if a0_1 = a1_1 then ((laws_eqIntS.f k l0_2 l1_2).bind fun t387 => (if t387 = true then (if a0_3 = a1_3 then (some true) else (some false)) else (some false))) else (some false)) else (some false))) = some r := h
 clear h
 obtain ⟨t386, A3, H⟩ := bindE H
 try dsimp only at H
 by_cases c4 : t386 = true
 ·
  subst c4
  have H1 : (if a0_1 = a1_1 then ((laws_eqIntS.f k l0_2 l1_2).bind fun t387 => (if t387 = true then (if a0_3 = a1_3 then (some true) else (some false)) else (some false))) else (some false)) = some r := by rw [if_pos rfl] at H; exact H
  clear H
  have H := H1
  clear H1
  by_cases c5 : a0_1 = a1_1
  ·
   rw [if_pos c5] at H
   have c5b0 : (a0_1 == a1_1) = true := beq_iff_eq.mpr c5
   have c5b1 : (a0_1 != a1_1) = false := bne_eq_false_iff_eq.mpr c5
   clear c5
   obtain ⟨t387, A6, H⟩ := bindE H
   try dsimp only at H
   by_cases c7 : t387 = true
   ·
    subst c7
    have H1 : (if a0_3 = a1_3 then (some true) else (some false)) = some r := by rw [if_pos rfl] at H; exact H
    clear H
    have H := H1
    clear H1
    by_cases c8 : a0_3 = a1_3
    ·
     rw [if_pos c8] at H
     have c8b0 : (a0_3 == a1_3) = true := beq_iff_eq.mpr c8
     have c8b1 : (a0_3 != a1_3) = false := bne_eq_false_iff_eq.mpr c8
     clear c8
     obtain rfl := Option.some.inj H
     go_enter Try.func43, Try.ntmps43
     go_wp2_with (first | ((with_reducible refine gate_dst (N := 2) rfl ?_); refine bE (N := 2) (cs := #[.slice A0_0 l0_0.length c0_0, .int .i64 a0_1, .slice A0_2 l0_2.length c0_2, .int .i64 a0_3]) (t := 57) ?_; intro gb384 hg w9 hbox hb; have BK384 := Aside0.mk (hbox); have GW384 := gw w hg; have GE384 := gw w hg; replace HB := bs HB hb; clear hb hbox hg) | ((with_reducible refine gate_dst (N := 3) rfl ?_); refine bE (N := 3) (cs := #[.slice A1_0 l1_0.length c1_0, .int .i64 a1_1, .slice A1_2 l1_2.length c1_2, .int .i64 a1_3]) (t := 57) ?_; intro gb385 hg w10 hbox hb; have BK385 := Aside0.mk (hbox); have GW385 := gw w hg; have GE385 := gw w hg; replace HB := bs HB hb; have NB384_385 := nl BK384 hg; have NB385_384 := nr BK384 hg; replace BK384 := kb BK384 hb; clear hb hbox hg; have hnb11 := NB384_385.out; have hnc11 := NB385_384.out; obtain ⟨_, _, _, _, _, _, _, _⟩ := blkc4 BK384; have hcz13_0 : w10.cell? ⟨gb385, 0, none⟩ = some (.slice A1_0 l1_0.length c1_0) := bC BK385 0; have hcz13_1 : w10.cell? ⟨gb385, 1, none⟩ = some (.int .i64 a1_1) := bC BK385 1; have hcz13_2 : w10.cell? ⟨gb385, 2, none⟩ = some (.slice A1_2 l1_2.length c1_2) := bC BK385 2; have hcz13_3 : w10.cell? ⟨gb385, 3, none⟩ = some (.int .i64 a1_3) := bC BK385 3; have hfz13_0 := blk_frozen BK385.out 0; have hfz13_1 := blk_frozen BK385.out 1; have hfz13_2 := blk_frozen BK385.out 2; have hfz13_3 := blk_frozen BK385.out 3) | ((with_reducible refine gate_callee (f := 28) rfl ?_); refine gL (some 9) Try.func28 #[.slice A0_0 l0_0.length c0_0, .slice A1_0 l1_0.length c1_0] ?_; (with_reducible refine (laws_eqIntS.calls k _ _ l0_0 _ _ l1_0 true _ ?_ ?_ ?_ ?_ A3.out).mono ?_); exact cB HR0_0; exact HC0_0.out; exact cB HR1_0; exact HC1_0.out; rintro e w' ⟨rfl, ⟨nd, rfl⟩⟩; refine ⟨_, rfl, ?_⟩) | ((with_reducible refine gate_callee (f := 28) rfl ?_); refine gL (some 20) Try.func28 #[.slice A0_2 l0_2.length c0_2, .slice A1_2 l1_2.length c1_2] ?_; (with_reducible refine (laws_eqIntS.calls k _ _ l0_2 _ _ l1_2 true _ ?_ ?_ ?_ ?_ A6.out).mono ?_); exact cG HR0_2; exact HC0_2.out; exact cG HR1_2; exact HC1_2.out; rintro e w' ⟨rfl, ⟨nd, rfl⟩⟩; refine ⟨_, rfl, ?_⟩))
     go_ret
     exact ⟨rA, bG⟩
    rw [if_neg c8] at H
    have c8b0 : (a0_3 == a1_3) = false := beq_eq_false_iff_ne.mpr c8
    have c8b1 : (a0_3 != a1_3) = true := bne_iff_ne.mpr c8
    obtain rfl := Option.some.inj H
    go_enter Try.func43, Try.ntmps43
    go_wp2_with (first | ((with_reducible refine gate_dst (N := 2) rfl ?_); refine bE (N := 2) (cs := #[.slice A0_0 l0_0.length c0_0, .int .i64 a0_1, .slice A0_2 l0_2.length c0_2, .int .i64 a0_3]) (t := 57) ?_; intro gb384 hg w14 hbox hb; have BK384 := Aside0.mk (hbox); have GW384 := gw w hg; have GE384 := gw w hg; replace HB := bs HB hb; clear hb hbox hg) | ((with_reducible refine gate_dst (N := 3) rfl ?_); refine bE (N := 3) (cs := #[.slice A1_0 l1_0.length c1_0, .int .i64 a1_1, .slice A1_2 l1_2.length c1_2, .int .i64 a1_3]) (t := 57) ?_; intro gb385 hg w15 hbox hb; have BK385 := Aside0.mk (hbox); have GW385 := gw w hg; have GE385 := gw w hg; replace HB := bs HB hb; have NB384_385 := nl BK384 hg; have NB385_384 := nr BK384 hg; replace BK384 := kb BK384 hb; clear hb hbox hg; have hnb16 := NB384_385.out; have hnc16 := NB385_384.out; obtain ⟨_, _, _, _, _, _, _, _⟩ := blkc4 BK384; have hcz18_0 : w15.cell? ⟨gb385, 0, none⟩ = some (.slice A1_0 l1_0.length c1_0) := bC BK385 0; have hcz18_1 : w15.cell? ⟨gb385, 1, none⟩ = some (.int .i64 a1_1) := bC BK385 1; have hcz18_2 : w15.cell? ⟨gb385, 2, none⟩ = some (.slice A1_2 l1_2.length c1_2) := bC BK385 2; have hcz18_3 : w15.cell? ⟨gb385, 3, none⟩ = some (.int .i64 a1_3) := bC BK385 3; have hfz18_0 := blk_frozen BK385.out 0; have hfz18_1 := blk_frozen BK385.out 1; have hfz18_2 := blk_frozen BK385.out 2; have hfz18_3 := blk_frozen BK385.out 3) | ((with_reducible refine gate_callee (f := 28) rfl ?_); refine gL (some 9) Try.func28 #[.slice A0_0 l0_0.length c0_0, .slice A1_0 l1_0.length c1_0] ?_; (with_reducible refine (laws_eqIntS.calls k _ _ l0_0 _ _ l1_0 true _ ?_ ?_ ?_ ?_ A3.out).mono ?_); exact cB HR0_0; exact HC0_0.out; exact cB HR1_0; exact HC1_0.out; rintro e w' ⟨rfl, ⟨nd, rfl⟩⟩; refine ⟨_, rfl, ?_⟩) | ((with_reducible refine gate_callee (f := 28) rfl ?_); refine gL (some 20) Try.func28 #[.slice A0_2 l0_2.length c0_2, .slice A1_2 l1_2.length c1_2] ?_; (with_reducible refine (laws_eqIntS.calls k _ _ l0_2 _ _ l1_2 true _ ?_ ?_ ?_ ?_ A6.out).mono ?_); exact cG HR0_2; exact HC0_2.out; exact cG HR1_2; exact HC1_2.out; rintro e w' ⟨rfl, ⟨nd, rfl⟩⟩; refine ⟨_, rfl, ?_⟩))
    go_ret
    exact ⟨rA, bG⟩
   replace c7 := Bool.eq_false_iff.mpr c7
   subst c7
   have H1 : (some false) = some r := by rw [if_neg (show ¬ (false = true) by decide)] at H; exact H
   clear H
   have H := H1
   clear H1
   obtain rfl := Option.some.inj H
   go_enter Try.func43, Try.ntmps43
   go_wp2_with (first | ((with_reducible refine gate_dst (N := 2) rfl ?_); refine bE (N := 2) (cs := #[.slice A0_0 l0_0.length c0_0, .int .i64 a0_1, .slice A0_2 l0_2.length c0_2, .int .i64 a0_3]) (t := 57) ?_; intro gb384 hg w19 hbox hb; have BK384 := Aside0.mk (hbox); have GW384 := gw w hg; have GE384 := gw w hg; replace HB := bs HB hb; clear hb hbox hg) | ((with_reducible refine gate_dst (N := 3) rfl ?_); refine bE (N := 3) (cs := #[.slice A1_0 l1_0.length c1_0, .int .i64 a1_1, .slice A1_2 l1_2.length c1_2, .int .i64 a1_3]) (t := 57) ?_; intro gb385 hg w20 hbox hb; have BK385 := Aside0.mk (hbox); have GW385 := gw w hg; have GE385 := gw w hg; replace HB := bs HB hb; have NB384_385 := nl BK384 hg; have NB385_384 := nr BK384 hg; replace BK384 := kb BK384 hb; clear hb hbox hg; have hnb21 := NB384_385.out; have hnc21 := NB385_384.out; obtain ⟨_, _, _, _, _, _, _, _⟩ := blkc4 BK384; have hcz23_0 : w20.cell? ⟨gb385, 0, none⟩ = some (.slice A1_0 l1_0.length c1_0) := bC BK385 0; have hcz23_1 : w20.cell? ⟨gb385, 1, none⟩ = some (.int .i64 a1_1) := bC BK385 1; have hcz23_2 : w20.cell? ⟨gb385, 2, none⟩ = some (.slice A1_2 l1_2.length c1_2) := bC BK385 2; have hcz23_3 : w20.cell? ⟨gb385, 3, none⟩ = some (.int .i64 a1_3) := bC BK385 3; have hfz23_0 := blk_frozen BK385.out 0; have hfz23_1 := blk_frozen BK385.out 1; have hfz23_2 := blk_frozen BK385.out 2; have hfz23_3 := blk_frozen BK385.out 3) | ((with_reducible refine gate_callee (f := 28) rfl ?_); refine gL (some 9) Try.func28 #[.slice A0_0 l0_0.length c0_0, .slice A1_0 l1_0.length c1_0] ?_; (with_reducible refine (laws_eqIntS.calls k _ _ l0_0 _ _ l1_0 true _ ?_ ?_ ?_ ?_ A3.out).mono ?_); exact cB HR0_0; exact HC0_0.out; exact cB HR1_0; exact HC1_0.out; rintro e w' ⟨rfl, ⟨nd, rfl⟩⟩; refine ⟨_, rfl, ?_⟩) | ((with_reducible refine gate_callee (f := 28) rfl ?_); refine gL (some 20) Try.func28 #[.slice A0_2 l0_2.length c0_2, .slice A1_2 l1_2.length c1_2] ?_; (with_reducible refine (laws_eqIntS.calls k _ _ l0_2 _ _ l1_2 false _ ?_ ?_ ?_ ?_ A6.out).mono ?_); exact cG HR0_2; exact HC0_2.out; exact cG HR1_2; exact HC1_2.out; rintro e w' ⟨rfl, ⟨nd, rfl⟩⟩; refine ⟨_, rfl, ?_⟩))
   go_ret
   exact ⟨rA, bG⟩
  rw [if_neg c5] at H
  have c5b0 : (a0_1 == a1_1) = false := beq_eq_false_iff_ne.mpr c5
  have c5b1 : (a0_1 != a1_1) = true := bne_iff_ne.mpr c5
  obtain rfl := Option.some.inj H
  go_enter Try.func43, Try.ntmps43
  go_wp2_with (first | ((with_reducible refine gate_dst (N := 2) rfl ?_); refine bE (N := 2) (cs := #[.slice A0_0 l0_0.length c0_0, .int .i64 a0_1, .slice A0_2 l0_2.length c0_2, .int .i64 a0_3]) (t := 57) ?_; intro gb384 hg w24 hbox hb; have BK384 := Aside0.mk (hbox); have GW384 := gw w hg; have GE384 := gw w hg; replace HB := bs HB hb; clear hb hbox hg) | ((with_reducible refine gate_dst (N := 3) rfl ?_); refine bE (N := 3) (cs := #[.slice A1_0 l1_0.length c1_0, .int .i64 a1_1, .slice A1_2 l1_2.length c1_2, .int .i64 a1_3]) (t := 57) ?_; intro gb385 hg w25 hbox hb; have BK385 := Aside0.mk (hbox); have GW385 := gw w hg; have GE385 := gw w hg; replace HB := bs HB hb; have NB384_385 := nl BK384 hg; have NB385_384 := nr BK384 hg; replace BK384 := kb BK384 hb; clear hb hbox hg; have hnb26 := NB384_385.out; have hnc26 := NB385_384.out; obtain ⟨_, _, _, _, _, _, _, _⟩ := blkc4 BK384; have hcz28_0 : w25.cell? ⟨gb385, 0, none⟩ = some (.slice A1_0 l1_0.length c1_0) := bC BK385 0; have hcz28_1 : w25.cell? ⟨gb385, 1, none⟩ = some (.int .i64 a1_1) := bC BK385 1; have hcz28_2 : w25.cell? ⟨gb385, 2, none⟩ = some (.slice A1_2 l1_2.length c1_2) := bC BK385 2; have hcz28_3 : w25.cell? ⟨gb385, 3, none⟩ = some (.int .i64 a1_3) := bC BK385 3; have hfz28_0 := blk_frozen BK385.out 0; have hfz28_1 := blk_frozen BK385.out 1; have hfz28_2 := blk_frozen BK385.out 2; have hfz28_3 := blk_frozen BK385.out 3) | ((with_reducible refine gate_callee (f := 28) rfl ?_); refine gL (some 9) Try.func28 #[.slice A0_0 l0_0.length c0_0, .slice A1_0 l1_0.length c1_0] ?_; (with_reducible refine (laws_eqIntS.calls k _ _ l0_0 _ _ l1_0 true _ ?_ ?_ ?_ ?_ A3.out).mono ?_); exact cB HR0_0; exact HC0_0.out; exact cB HR1_0; exact HC1_0.out; rintro e w' ⟨rfl, ⟨nd, rfl⟩⟩; refine ⟨_, rfl, ?_⟩))
  go_ret
  exact ⟨rA, bG⟩
 replace c4 := Bool.eq_false_iff.mpr c4
 subst c4
 have H1 : (some false) = some r := by rw [if_neg (show ¬ (false = true) by decide)] at H; exact H
 clear H
 have H := H1
 clear H1
 obtain rfl := Option.some.inj H
 go_enter Try.func43, Try.ntmps43
 go_wp2_with (first | ((with_reducible refine gate_dst (N := 2) rfl ?_); refine bE (N := 2) (cs := #[.slice A0_0 l0_0.length c0_0, .int .i64 a0_1, .slice A0_2 l0_2.length c0_2, .int .i64 a0_3]) (t := 57) ?_; intro gb384 hg w29 hbox hb; have BK384 := Aside0.mk (hbox); have GW384 := gw w hg; have GE384 := gw w hg; replace HB := bs HB hb; clear hb hbox hg) | ((with_reducible refine gate_dst (N := 3) rfl ?_); refine bE (N := 3) (cs := #[.slice A1_0 l1_0.length c1_0, .int .i64 a1_1, .slice A1_2 l1_2.length c1_2, .int .i64 a1_3]) (t := 57) ?_; intro gb385 hg w30 hbox hb; have BK385 := Aside0.mk (hbox); have GW385 := gw w hg; have GE385 := gw w hg; replace HB := bs HB hb; have NB384_385 := nl BK384 hg; have NB385_384 := nr BK384 hg; replace BK384 := kb BK384 hb; clear hb hbox hg; have hnb31 := NB384_385.out; have hnc31 := NB385_384.out; obtain ⟨_, _, _, _, _, _, _, _⟩ := blkc4 BK384; have hcz33_0 : w30.cell? ⟨gb385, 0, none⟩ = some (.slice A1_0 l1_0.length c1_0) := bC BK385 0; have hcz33_1 : w30.cell? ⟨gb385, 1, none⟩ = some (.int .i64 a1_1) := bC BK385 1; have hcz33_2 : w30.cell? ⟨gb385, 2, none⟩ = some (.slice A1_2 l1_2.length c1_2) := bC BK385 2; have hcz33_3 : w30.cell? ⟨gb385, 3, none⟩ = some (.int .i64 a1_3) := bC BK385 3; have hfz33_0 := blk_frozen BK385.out 0; have hfz33_1 := blk_frozen BK385.out 1; have hfz33_2 := blk_frozen BK385.out 2; have hfz33_3 := blk_frozen BK385.out 3) | ((with_reducible refine gate_callee (f := 28) rfl ?_); refine gL (some 9) Try.func28 #[.slice A0_0 l0_0.length c0_0, .slice A1_0 l1_0.length c1_0] ?_; (with_reducible refine (laws_eqIntS.calls k _ _ l0_0 _ _ l1_0 false _ ?_ ?_ ?_ ?_ A3.out).mono ?_); exact cB HR0_0; exact HC0_0.out; exact cB HR1_0; exact HC1_0.out; rintro e w' ⟨rfl, ⟨nd, rfl⟩⟩; refine ⟨_, rfl, ?_⟩))
 go_ret
 exact ⟨rA, bG⟩

/-! ### laws_markControl: function 44 -/
def laws_markControl.f (k : Nat) (l0_0 : List Int) (a0_1 : Int) (l0_2 : List Int) (a0_3 : Int) (a1 : Int) : Option (Int × List Int × List Int) := (laws_markIntS.f k l0_0 a1).bind fun bt389 => ((laws_markIntS.f k l0_2 bt389.1).bind fun bt391 => (some (bt391.1, bt389.2, bt391.2)))
theorem laws_markControl.mono : ∀ a0 a1 a2 a3 a4 k, LeO (laws_markControl.f k a0 a1 a2 a3 a4) (laws_markControl.f (k + 1) a0 a1 a2 a3 a4) := by
 intro a0 a1 a2 a3 a4 k
 unfold laws_markControl.f
 exact mz1 laws_markIntS.mono
set_option maxHeartbeats 8000000 in
set_option maxRecDepth 100000 in
theorem laws_markControl.calls (k : Nat) (P0_0_ : Nat → Prop) (u9000_ : Value) (l0_0 : List Int) (a0_1 : Int) (P0_2_ : Nat → Prop) (u9001_ : Value) (l0_2 : List Int) (a0_3 : Int) (a1 : Int) (r1 : Int) (r2 : List Int) (r3 : List Int) (w0 w : World) (hB : Below w0.heap.size w0 w) (ho0_0 : Kd.R (Kd.int .i64) 3 w w0.heap.size P0_0_ u9000_ l0_0) (hp0_0_0_2 : ∀ k_, P0_0_ k_ → ¬ P0_2_ k_) (ho0_2 : Kd.R (Kd.int .i64) 3 w w0.heap.size P0_2_ u9001_ l0_2) (hp0_2_0_0 : ∀ k_, P0_2_ k_ → ¬ P0_0_ k_) (h : laws_markControl.f k l0_0 a0_1 l0_2 a0_3 a1 = some (r1, r2, r3)) :
  Calls Try.prog 44 #[.agg #[u9000_, .int .i64 a0_1, u9001_, .int .i64 a0_3], .int .i64 a1] w fun e w' => e = .returned (.int .i64 r1) ∧ Kd.R (Kd.int .i64) 3 w' w0.heap.size (fun k_ => ((P0_0_ k_ ∨ P0_2_ k_) ∨ w.heap.size ≤ k_)) u9000_ r2 ∧ Kd.R (Kd.int .i64) 3 w' w0.heap.size (fun k_ => ((P0_0_ k_ ∨ P0_2_ k_) ∨ w.heap.size ≤ k_)) u9001_ r3 ∧ Below w0.heap.size w0 w' ∧ Kept w w' (fun k_ => P0_0_ k_ ∨ P0_2_ k_) := by
 have hu57 := Try.underlying57
 have HO0_0 := Aside0.mk (show Kd.R (Kd.int .i64) 3 w w0.heap.size (fun k_ => ((P0_0_ k_ ∨ P0_2_ k_) ∨ w.heap.size ≤ k_) ∧ some k_ ≠ (u9001_ : Value).ownBlock) u9000_ l0_0 from Kd.R_mono ho0_0 (fun k_ hk => ⟨(.inl (.inl hk)), fun e_ => hp0_0_0_2 k_ hk (ho0_2.1 k_ e_.symm)⟩))
 have HO0_2 := Aside0.mk (show Kd.R (Kd.int .i64) 3 w w0.heap.size (fun k_ => ((P0_0_ k_ ∨ P0_2_ k_) ∨ w.heap.size ≤ k_) ∧ some k_ ≠ (u9000_ : Value).ownBlock) u9001_ l0_2 from Kd.R_mono ho0_2 (fun k_ hk => ⟨(.inl (.inr hk)), fun e_ => hp0_2_0_0 k_ hk (ho0_0.1 k_ e_.symm)⟩))
 have HK := Aside0.mk (Kept.refl w (fun k_ => P0_0_ k_ ∨ P0_2_ k_))
 have HW0 := Aside0.mk hB.size
 have HB := Aside0.mk hB
 clear hB
 have H : ((laws_markIntS.f k l0_0 a1).bind fun bt389 => ((laws_markIntS.f k l0_2 bt389.1).bind fun bt391 => (some (bt391.1, bt389.2, bt391.2)))) = some (r1, r2, r3) := h
 clear h
 obtain ⟨⟨t389, t390⟩, A3, H⟩ := bindE H
 try dsimp only at H
 obtain ⟨⟨t391, t392⟩, A4, H⟩ := bindE H
 try dsimp only at H
 simp only [Option.some.injEq, Prod.mk.injEq] at H
 obtain ⟨rfl, rfl, rfl⟩ := H
 obtain ⟨Ao5, co5, eo5⟩ := Kd.R_slice HO0_0.out
 subst eo5
 obtain ⟨Ao6, co6, eo6⟩ := Kd.R_slice HO0_2.out
 subst eo6
 go_enter Try.func44, Try.ntmps44
 go_wp2_with (first | ((with_reducible refine gate_dst (N := 2) rfl ?_); refine bE (N := 2) (cs := #[.slice Ao5 l0_0.length co5, .int .i64 a0_1, .slice Ao6 l0_2.length co6, .int .i64 a0_3]) (t := 57) ?_; intro gb388 hg w7 hbox hb; have n0_ := rb HO0_0 hb; have n1_ := rb HO0_2 hb; have n2_ := Aside0.mk (Kept.below (S := (fun k_ => P0_0_ k_ ∨ P0_2_ k_)) (by repeat (first | (with_reducible first | exact HK.out | apply Kept.alloc | apply Kept.drewN | apply Kept.drew) | exact HK.out)) hb); have n3_ := bs HB hb; have n4_ := Aside0.mk (hbox); have n5_ := Aside0.mk ((by rw [hg]; exact (by first | exact HK.out.1 | exact (show Kept w _ (fun k_ => P0_0_ k_ ∨ P0_2_ k_) from by repeat (first | (with_reducible first | exact HK.out | apply Kept.alloc | apply Kept.drewN | apply Kept.drew) | exact HK.out)).1) : w.heap.size ≤ gb388)); have n6_ := gw w0 hg; clear HO0_0; clear HO0_2; clear HK; clear HB; have HO0_0 := n0_; have HO0_2 := n1_; have HK := n2_; have HB := n3_; have BK388 := n4_; have GW388 := n5_; have GE388 := n6_; clear n0_ n1_ n2_ n3_ n4_ n5_ n6_; clear hb hbox hg; have hcz8_0 : w7.cell? ⟨gb388, 0, none⟩ = some (.slice Ao5 l0_0.length co5) := bC BK388 0; have hcz8_1 : w7.cell? ⟨gb388, 1, none⟩ = some (.int .i64 a0_1) := bC BK388 1; have hcz8_2 : w7.cell? ⟨gb388, 2, none⟩ = some (.slice Ao6 l0_2.length co6) := bC BK388 2; have hcz8_3 : w7.cell? ⟨gb388, 3, none⟩ = some (.int .i64 a0_3) := bC BK388 3; have hfz8_0 := blk_frozen BK388.out 0; have hfz8_1 := blk_frozen BK388.out 1; have hfz8_2 := blk_frozen BK388.out 2; have hfz8_3 := blk_frozen BK388.out 3) | ((with_reducible refine gate_callee (f := 31) rfl ?_); refine gL (some 8) Try.func31 #[.slice Ao5 l0_0.length co5, .int .i64 a1] ?_; (with_reducible refine (laws_markIntS.calls k (fun k_ => some k_ = (.slice Ao5 l0_0.length co5 : Value).ownBlock) (.slice Ao5 l0_0.length co5) l0_0 a1 t389 t390 w0 _ ?_ ?_ A3.out).mono ?_); (focus repeat (first | (with_reducible first | exact HB.out | apply below_alloc | apply pw_below_drewN | apply below_drew1 | refine below_set ?_ GE388.out) | exact HB.out)); exact Kd.R_tight rfl HO0_0.out; rintro e w9 ⟨rfl, hy0, hb, hkp⟩; refine ⟨_, rfl, ?_⟩; replace HO0_2 := Aside0.mk (Kd.R_kept HO0_2.out hkp (fun k_ hk_ hs_ => (hk_.2) hs_)); replace BK388 := kk BK388 hkp (Kd.R_ne HO0_0.out BK388.out (by decide)); replace HK := Aside0.mk (Kept.then_ (S := (fun k_ => P0_0_ k_ ∨ P0_2_ k_)) (by repeat (first | (with_reducible first | exact HK.out | apply Kept.alloc | apply Kept.drewN | apply Kept.drew | refine Kept.setCell ?_ (.inr GW388.out) _) | exact HK.out)) hkp (fun k_ hs_ => (fun e_ => (HO0_0.out.1 k_ e_.symm).1) hs_)); replace HO0_0 := Aside0.mk (Kd.R_reok rfl hy0 (fun k_ e_ => HO0_0.out.1 k_ e_)); replace HB := Aside0.mk (hb); (try clear hb); (try clear hkp); (try clear hy0); have hcz10_0 : w9.cell? ⟨gb388, 0, none⟩ = some (.slice Ao5 l0_0.length co5) := bC BK388 0; have hcz10_1 : w9.cell? ⟨gb388, 1, none⟩ = some (.int .i64 a0_1) := bC BK388 1; have hcz10_2 : w9.cell? ⟨gb388, 2, none⟩ = some (.slice Ao6 l0_2.length co6) := bC BK388 2; have hcz10_3 : w9.cell? ⟨gb388, 3, none⟩ = some (.int .i64 a0_3) := bC BK388 3; have hfz10_0 := blk_frozen BK388.out 0; have hfz10_1 := blk_frozen BK388.out 1; have hfz10_2 := blk_frozen BK388.out 2; have hfz10_3 := blk_frozen BK388.out 3) | ((with_reducible refine gate_callee (f := 31) rfl ?_); refine gL (some 12) Try.func31 #[.slice Ao6 l0_2.length co6, .int .i64 t389] ?_; (with_reducible refine (laws_markIntS.calls k (fun k_ => some k_ = (.slice Ao6 l0_2.length co6 : Value).ownBlock) (.slice Ao6 l0_2.length co6) l0_2 t389 t391 t392 w0 _ ?_ ?_ A4.out).mono ?_); (focus repeat (first | (with_reducible first | exact HB.out | apply below_alloc | apply pw_below_drewN | apply below_drew1 | refine below_set ?_ GE388.out) | exact HB.out)); exact Kd.R_tight rfl HO0_2.out; rintro e w11 ⟨rfl, hy0, hb, hkp⟩; refine ⟨_, rfl, ?_⟩; replace HO0_0 := Aside0.mk (Kd.R_kept HO0_0.out hkp (fun k_ hk_ hs_ => (hk_.2) hs_)); replace BK388 := kk BK388 hkp (Kd.R_ne HO0_2.out BK388.out (by decide)); replace HK := Aside0.mk (Kept.then_ (S := (fun k_ => P0_0_ k_ ∨ P0_2_ k_)) (by repeat (first | (with_reducible first | exact HK.out | apply Kept.alloc | apply Kept.drewN | apply Kept.drew | refine Kept.setCell ?_ (.inr GW388.out) _) | exact HK.out)) hkp (fun k_ hs_ => (fun e_ => (HO0_2.out.1 k_ e_.symm).1) hs_)); replace HO0_2 := Aside0.mk (Kd.R_reok rfl hy0 (fun k_ e_ => HO0_2.out.1 k_ e_)); replace HB := Aside0.mk (hb); (try clear hb); (try clear hkp); (try clear hy0)))
 go_ret
 exact ⟨rA, rm HO0_0 (fun _ hk => hk.1), rm HO0_2 (fun _ hk => hk.1), bG, by repeat (first | (with_reducible first | exact HK.out | apply Kept.alloc | apply Kept.drewN | apply Kept.drew | refine Kept.setCell ?_ (.inr GW388.out) _) | exact HK.out)⟩

/-! ### laws_heldIntS: function 32 -/
def laws_heldIntS.l0 : Nat → List Int → Int → Int → Option (Int)
 | 0, _, _, _ => none
 | k + 1, x0, x1, x5 => if x5 < (x0.length : Int) then (if 0 ≤ x5 then (if (rd x0 x5) = x1 then (laws_heldIntS.l0 k x0 (wrap64 (x1 + 1)) (wrap64 (x5 + 1))) else (some (-1))) else (none)) else (some x1)
def laws_heldIntS.f (k : Nat) (l0 : List Int) (a1 : Int) : Option (Int) := laws_heldIntS.l0 k l0 a1 0
theorem laws_heldIntS.mono_l : ∀ k, (∀ y0 y1 y2, LeO (laws_heldIntS.l0 k y0 y1 y2) (laws_heldIntS.l0 (k + 1) y0 y1 y2))
 | 0 => fun _ _ _ r h => by simp [laws_heldIntS.l0] at h
 | k + 1 => by
  have ih0 := laws_heldIntS.mono_l k
  ·
   intro y0 y1 y2
   unfold laws_heldIntS.l0
   exact mz1 ih0
theorem laws_heldIntS.mono : ∀ a0 a1 k, LeO (laws_heldIntS.f k a0 a1) (laws_heldIntS.f (k + 1) a0 a1) := by
 intro a0 a1 k
 have ih0 := laws_heldIntS.mono_l k
 unfold laws_heldIntS.f
 exact mz1 ih0
set_option maxHeartbeats 8000000 in
set_option maxRecDepth 100000 in
theorem laws_heldIntS.calls (k : Nat) (A0 : Option Addr) (c0 : Nat) (l0 : List Int) (a1 : Int) (r : Int) (w : World) (hr0 : Kd.C (Kd.int .i64) w A0 l0.length l0) (hc0 : l0.length ≤ c0) (h : laws_heldIntS.f k l0 a1 = some r) :
  Calls Try.prog 32 #[.slice A0 l0.length c0, .int .i64 a1] w fun e w' => e = .returned (.int .i64 r) ∧ Drawn0 w w' := by
 have HR0 := Aside0.mk hr0
 have HC0 := Aside0.mk hc0
 clear hr0 hc0
 have H : (laws_heldIntS.l0 k l0 a1 0) = some r := h
 clear h
 have H' := Aside0.mk H
 clear H
 go_enter Try.func32, Try.ntmps32
 go_wp2
 go_loopg [1, 5] k (fun kq v1 v5 w' => ∃ (x1_1 : Int) (x5_1 : Int), v1 = .int .i64 x1_1 ∧ v5 = .int .i64 x5_1 ∧ Aside0 (laws_heldIntS.l0 kq l0 x1_1 x5_1 = some r) ∧ Aside0 (kq ≤ k) ∧ Drawn0 w w')
 case atStart => exact ⟨(a1), (0), rS, rS, H', ⟨Nat.le_refl _⟩, by repeat (first | exact Drawn0.refl _ | apply Drawn0.step)⟩
 case round =>
  clear H'
  obtain ⟨x1_1, x5_1, rfl, rfl, HA, HK1, ⟨m1, rfl⟩⟩ := hrel
  cases gk with
  | zero => exact absurd HA.out (by simp [laws_heldIntS.l0])
  | succ k1 =>
   have H := HA.out
   clear HA
   simp only [laws_heldIntS.l0] at H
   by_cases c3 : x5_1 < (l0.length : Int)
   ·
    rw [if_pos c3] at H
    have c3b0 := decide_eq_true c3
    clear c3
    have c4 : 0 ≤ x5_1 := ifN H
    replace H := ifT H
    have c4b0 := decide_eq_true c4
    clear c4
    by_cases c5 : (rd l0 x5_1) = x1_1
    ·
     rw [if_pos c5] at H
     have c5b0 : ((rd l0 x5_1) == x1_1) = true := beq_iff_eq.mpr c5
     have c5b1 : ((rd l0 x5_1) != x1_1) = false := bne_eq_false_iff_eq.mpr c5
     clear c5
     have H' := Aside0.mk H
     clear H
     obtain ⟨p393, q393⟩ : 0 ≤ (x5_1 : Int) ∧ x5_1 < (l0.length : Int) := ⟨dA, dA⟩
     obtain ⟨ad393, e393, hx393_0⟩ := Kd.at_int HR0.out x5_1 p393 q393
     cases e393
     obtain ⟨p393, q393⟩ := eT p393 q393
     go_wp2
     go_roundg k1
     case measure => have := HK1.out; omega
     case rel => exact ⟨(wrap64 (x1_1 + 1)), (wrap64 (x5_1 + 1)), rS, rS, H', ⟨by have := HK1.out; omega⟩, by repeat (first | exact Drawn0.refl _ | apply Drawn0.step)⟩
    rw [if_neg c5] at H
    have c5b0 : ((rd l0 x5_1) == x1_1) = false := beq_eq_false_iff_ne.mpr c5
    have c5b1 : ((rd l0 x5_1) != x1_1) = true := bne_iff_ne.mpr c5
    obtain rfl := Option.some.inj H
    obtain ⟨p393, q393⟩ : 0 ≤ (x5_1 : Int) ∧ x5_1 < (l0.length : Int) := ⟨dA, dA⟩
    obtain ⟨ad393, e393, hx393_0⟩ := Kd.at_int HR0.out x5_1 p393 q393
    cases e393
    obtain ⟨p393, q393⟩ := eT p393 q393
    go_wp2
    go_ret
    exact ⟨rS, dD⟩
   rw [if_neg c3] at H
   have c3b0 := decide_eq_false c3
   clear c3
   obtain rfl := Option.some.inj H
   go_wp2
   go_ret
   exact ⟨rS, dD⟩

/-! ### laws_heldControl: function 45 -/
def laws_heldControl.f (k : Nat) (l0_0 : List Int) (a0_1 : Int) (l0_2 : List Int) (a0_3 : Int) (a1 : Int) : Option (Int) := (laws_heldIntS.f k l0_0 a1).bind fun t395 => (if t395 < 0 then (some (-1)) else ((laws_heldIntS.f k l0_2 t395).bind fun t396 => (if t396 < 0 then (some (-1)) else (some t396))))
theorem laws_heldControl.mono : ∀ a0 a1 a2 a3 a4 k, LeO (laws_heldControl.f k a0 a1 a2 a3 a4) (laws_heldControl.f (k + 1) a0 a1 a2 a3 a4) := by
 intro a0 a1 a2 a3 a4 k
 unfold laws_heldControl.f
 exact mz1 laws_heldIntS.mono
set_option maxHeartbeats 8000000 in
set_option maxRecDepth 100000 in
theorem laws_heldControl.calls (k : Nat) (A0_0 : Option Addr) (c0_0 : Nat) (l0_0 : List Int) (a0_1 : Int) (A0_2 : Option Addr) (c0_2 : Nat) (l0_2 : List Int) (a0_3 : Int) (a1 : Int) (r : Int) (w : World) (hr0_0 : Kd.C (Kd.int .i64) w A0_0 l0_0.length l0_0) (hc0_0 : l0_0.length ≤ c0_0) (hr0_2 : Kd.C (Kd.int .i64) w A0_2 l0_2.length l0_2) (hc0_2 : l0_2.length ≤ c0_2) (h : laws_heldControl.f k l0_0 a0_1 l0_2 a0_3 a1 = some r) :
  Calls Try.prog 45 #[.agg #[.slice A0_0 l0_0.length c0_0, .int .i64 a0_1, .slice A0_2 l0_2.length c0_2, .int .i64 a0_3], .int .i64 a1] w fun e w' => e = .returned (.int .i64 r) ∧ Below w.heap.size w w' := by
 have hu57 := Try.underlying57
 have HR0_0 := Aside0.mk hr0_0
 have HC0_0 := Aside0.mk hc0_0
 clear hr0_0 hc0_0
 have HR0_2 := Aside0.mk hr0_2
 have HC0_2 := Aside0.mk hc0_2
 clear hr0_2 hc0_2
 have HB := Aside0.mk (Below.refl w.heap.size w)
 have H : ((laws_heldIntS.f k l0_0 a1).bind fun t395 => (if t395 < 0 then (some (-1)) else ((laws_heldIntS.f k l0_2 t395).bind fun t396 => (if t396 < 0 then (some (-1)) else (some t396))))) = some r := h
 clear h
 obtain ⟨t395, A3, H⟩ := bindE H
 try dsimp only at H
 by_cases c4 : t395 < 0
 ·
  rw [if_pos c4] at H
  have c4b0 := decide_eq_true c4
  clear c4
  obtain rfl := Option.some.inj H
  go_enter Try.func45, Try.ntmps45
  go_wp2_with (first | ((with_reducible refine gate_dst (N := 2) rfl ?_); refine bE (N := 2) (cs := #[.slice A0_0 l0_0.length c0_0, .int .i64 a0_1, .slice A0_2 l0_2.length c0_2, .int .i64 a0_3]) (t := 57) ?_; intro gb394 hg w5 hbox hb; have BK394 := Aside0.mk (hbox); have GW394 := gw w hg; have GE394 := gw w hg; replace HB := bs HB hb; clear hb hbox hg; have hcz6_0 : w5.cell? ⟨gb394, 0, none⟩ = some (.slice A0_0 l0_0.length c0_0) := bC BK394 0; have hcz6_1 : w5.cell? ⟨gb394, 1, none⟩ = some (.int .i64 a0_1) := bC BK394 1; have hcz6_2 : w5.cell? ⟨gb394, 2, none⟩ = some (.slice A0_2 l0_2.length c0_2) := bC BK394 2; have hcz6_3 : w5.cell? ⟨gb394, 3, none⟩ = some (.int .i64 a0_3) := bC BK394 3; have hfz6_0 := blk_frozen BK394.out 0; have hfz6_1 := blk_frozen BK394.out 1; have hfz6_2 := blk_frozen BK394.out 2; have hfz6_3 := blk_frozen BK394.out 3) | ((with_reducible refine gate_callee (f := 32) rfl ?_); refine gL (some 8) Try.func32 #[.slice A0_0 l0_0.length c0_0, .int .i64 a1] ?_; (with_reducible refine (laws_heldIntS.calls k _ _ l0_0 a1 t395 _ ?_ ?_ A3.out).mono ?_); exact cB HR0_0; exact HC0_0.out; rintro e w' ⟨rfl, ⟨nd, rfl⟩⟩; refine ⟨_, rfl, ?_⟩))
  go_ret
  exact ⟨rA, bG⟩
 rw [if_neg c4] at H
 have c4b0 := decide_eq_false c4
 clear c4
 obtain ⟨t396, A7, H⟩ := bindE H
 try dsimp only at H
 by_cases c8 : t396 < 0
 ·
  rw [if_pos c8] at H
  have c8b0 := decide_eq_true c8
  clear c8
  obtain rfl := Option.some.inj H
  go_enter Try.func45, Try.ntmps45
  go_wp2_with (first | ((with_reducible refine gate_dst (N := 2) rfl ?_); refine bE (N := 2) (cs := #[.slice A0_0 l0_0.length c0_0, .int .i64 a0_1, .slice A0_2 l0_2.length c0_2, .int .i64 a0_3]) (t := 57) ?_; intro gb394 hg w9 hbox hb; have BK394 := Aside0.mk (hbox); have GW394 := gw w hg; have GE394 := gw w hg; replace HB := bs HB hb; clear hb hbox hg; have hcz10_0 : w9.cell? ⟨gb394, 0, none⟩ = some (.slice A0_0 l0_0.length c0_0) := bC BK394 0; have hcz10_1 : w9.cell? ⟨gb394, 1, none⟩ = some (.int .i64 a0_1) := bC BK394 1; have hcz10_2 : w9.cell? ⟨gb394, 2, none⟩ = some (.slice A0_2 l0_2.length c0_2) := bC BK394 2; have hcz10_3 : w9.cell? ⟨gb394, 3, none⟩ = some (.int .i64 a0_3) := bC BK394 3; have hfz10_0 := blk_frozen BK394.out 0; have hfz10_1 := blk_frozen BK394.out 1; have hfz10_2 := blk_frozen BK394.out 2; have hfz10_3 := blk_frozen BK394.out 3) | ((with_reducible refine gate_callee (f := 32) rfl ?_); refine gL (some 8) Try.func32 #[.slice A0_0 l0_0.length c0_0, .int .i64 a1] ?_; (with_reducible refine (laws_heldIntS.calls k _ _ l0_0 a1 t395 _ ?_ ?_ A3.out).mono ?_); exact cB HR0_0; exact HC0_0.out; rintro e w' ⟨rfl, ⟨nd, rfl⟩⟩; refine ⟨_, rfl, ?_⟩) | ((with_reducible refine gate_callee (f := 32) rfl ?_); refine gL (some 14) Try.func32 #[.slice A0_2 l0_2.length c0_2, .int .i64 t395] ?_; (with_reducible refine (laws_heldIntS.calls k _ _ l0_2 t395 t396 _ ?_ ?_ A7.out).mono ?_); exact cG HR0_2; exact HC0_2.out; rintro e w' ⟨rfl, ⟨nd, rfl⟩⟩; refine ⟨_, rfl, ?_⟩))
  go_ret
  exact ⟨rA, bG⟩
 rw [if_neg c8] at H
 have c8b0 := decide_eq_false c8
 clear c8
 obtain rfl := Option.some.inj H
 go_enter Try.func45, Try.ntmps45
 go_wp2_with (first | ((with_reducible refine gate_dst (N := 2) rfl ?_); refine bE (N := 2) (cs := #[.slice A0_0 l0_0.length c0_0, .int .i64 a0_1, .slice A0_2 l0_2.length c0_2, .int .i64 a0_3]) (t := 57) ?_; intro gb394 hg w11 hbox hb; have BK394 := Aside0.mk (hbox); have GW394 := gw w hg; have GE394 := gw w hg; replace HB := bs HB hb; clear hb hbox hg; have hcz12_0 : w11.cell? ⟨gb394, 0, none⟩ = some (.slice A0_0 l0_0.length c0_0) := bC BK394 0; have hcz12_1 : w11.cell? ⟨gb394, 1, none⟩ = some (.int .i64 a0_1) := bC BK394 1; have hcz12_2 : w11.cell? ⟨gb394, 2, none⟩ = some (.slice A0_2 l0_2.length c0_2) := bC BK394 2; have hcz12_3 : w11.cell? ⟨gb394, 3, none⟩ = some (.int .i64 a0_3) := bC BK394 3; have hfz12_0 := blk_frozen BK394.out 0; have hfz12_1 := blk_frozen BK394.out 1; have hfz12_2 := blk_frozen BK394.out 2; have hfz12_3 := blk_frozen BK394.out 3) | ((with_reducible refine gate_callee (f := 32) rfl ?_); refine gL (some 8) Try.func32 #[.slice A0_0 l0_0.length c0_0, .int .i64 a1] ?_; (with_reducible refine (laws_heldIntS.calls k _ _ l0_0 a1 t395 _ ?_ ?_ A3.out).mono ?_); exact cB HR0_0; exact HC0_0.out; rintro e w' ⟨rfl, ⟨nd, rfl⟩⟩; refine ⟨_, rfl, ?_⟩) | ((with_reducible refine gate_callee (f := 32) rfl ?_); refine gL (some 14) Try.func32 #[.slice A0_2 l0_2.length c0_2, .int .i64 t395] ?_; (with_reducible refine (laws_heldIntS.calls k _ _ l0_2 t395 t396 _ ?_ ?_ A7.out).mono ?_); exact cG HR0_2; exact HC0_2.out; rintro e w' ⟨rfl, ⟨nd, rfl⟩⟩; refine ⟨_, rfl, ?_⟩))
 go_ret
 exact ⟨rA, bG⟩

end Go.Proofs.Ytdkmmefmhfbgkaa.P
