/- Printed by myprint.py (wip/tools) over the kit's print: what Go's functions compute, and that they do. Lean checks it. -/
import Derived.Test.YtjgonpcajedkjaaF0
import Derived.Test.YtjgonpcajedkjaaFX00
namespace Go.Proofs.Ytjgonpcajedkjaa.P
open Go.RowKit Go.Proofs.YtjgonpcajedkjaaW.PrintWords Go.Proofs.YtjgonpcajedkjaaW.PrintLast Go.Proofs.YtjgonpcajedkjaaW.PrintMore Go.Proofs.Ytjgonpcajedkjaa.Sq
attribute [local go_sem] max2_int min2_int max_two min_two max_three min_three max_four min_four
set_option linter.unusedVariables false
set_option linter.unusedSimpArgs false

/-! ### impl_sieve: function 166 -/
def impl_sieve.l0 : Nat → List Int → Bool → List Int → List Int → Int → Int → Option (List Int)
 | 0, _, _, _, _, _, _ => none
 | k + 1, x1, x2, x7, x11, x12, x13 => if x13 < x12 then (if 0 ≤ x13 then (if x13 < (x11.length : Int) then ((slices_Contains_int_int.f k x1 (rd x11 x13)).bind fun t171 => (if (t171 == x2) = true then (if x7.length < 17592186044416 then (impl_sieve.l0 k x1 x2 (x7 ++ [rd x11 x13]) x11 x12 (wrap64 (x13 + 1))) else (none)) else (impl_sieve.l0 k x1 x2 x7 x11 x12 (wrap64 (x13 + 1))))) else (none)) else (none)) else (some x7)
def impl_sieve.f (k : Nat) (l0 : List Int) (l1 : List Int) (a2 : Bool) : Option (List Int) := impl_sieve.l0 k l1 a2 (([] : List Int)) l0 (l0.length : Int) 0
theorem impl_sieve.mono_l : ∀ k, (∀ y0 y1 y2 y3 y4 y5, LeO (impl_sieve.l0 k y0 y1 y2 y3 y4 y5) (impl_sieve.l0 (k + 1) y0 y1 y2 y3 y4 y5))
 | 0 => fun _ _ _ _ _ _ r h => by simp [impl_sieve.l0] at h
 | k + 1 => by
  have ih0 := impl_sieve.mono_l k
  ·
   intro y0 y1 y2 y3 y4 y5
   unfold impl_sieve.l0
   repeat' first | (with_reducible first | exact LeO.refl _ | exact LeO.none _ | refine LeO.ite ?_ ?_ | refine LeO.bind ?_ (fun _ => ?_) | exact ih0 _ _ _ _ _ _ | exact slices_Contains_int_int.mono _ _ _)
theorem impl_sieve.mono : ∀ a0 a1 a2 k, LeO (impl_sieve.f k a0 a1 a2) (impl_sieve.f (k + 1) a0 a1 a2) := by
 intro a0 a1 a2 k
 have ih0 := impl_sieve.mono_l k
 unfold impl_sieve.f
 repeat' first | (with_reducible first | exact LeO.refl _ | exact LeO.none _ | refine LeO.ite ?_ ?_ | refine LeO.bind ?_ (fun _ => ?_) | exact ih0 _ _ _ _ _ _ | exact slices_Contains_int_int.mono _ _ _)
set_option maxHeartbeats 8000000 in
set_option maxRecDepth 100000 in
theorem impl_sieve.calls (k : Nat) (A0 : Option Addr) (c0 : Nat) (l0 : List Int) (A1 : Option Addr) (c1 : Nat) (l1 : List Int) (a2 : Bool) (r : List Int) (w : World) (hr0 : Kd.C (Kd.int .i64) w A0 l0.length l0) (hc0 : l0.length ≤ c0) (hr1 : Kd.C (Kd.int .i64) w A1 l1.length l1) (hc1 : l1.length ≤ c1) (h : impl_sieve.f k l0 l1 a2 = some r) :
  Calls Try.prog 166 #[.slice A0 l0.length c0, .slice A1 l1.length c1, .bool a2] w fun e w' => ∃ v0_ : Value, e = .returned (v0_) ∧ Kd.R (Kd.int .i64) 3 w' w.heap.size (fun _ => True) v0_ r ∧ Below w.heap.size w w' := by
 have HR0 := Aside0.mk hr0
 have HC0 := Aside0.mk hc0
 clear hr0 hc0
 have HR1 := Aside0.mk hr1
 have HC1 := Aside0.mk hc1
 clear hr1 hc1
 have HB := Aside0.mk (Below.refl w.heap.size w)
 have H : (impl_sieve.l0 k l1 a2 (([] : List Int)) l0 (l0.length : Int) 0) = some r := h
 clear h
 obtain ⟨y167, hy167⟩ : ∃ y_ : List Int, y_ = (([] : List Int)) := ⟨_, rfl⟩
 replace H : (impl_sieve.l0 k l1 a2 y167 l0 (l0.length : Int) 0) = some r := rH H hy167
 have Ny167 := Aside0.mk hy167
 clear hy167
 have H' := Aside0.mk H
 clear H
 go_enter Try.func166, Try.ntmps166
 go_wp2_with (first | ((with_reducible refine gate_dst (N := 10) rfl ?_); refine Kd.R_lit (Kd.int .i64) _ 3 ?hg (N := 10) ?hd (xs := ([] : List Int)) (inner := []) (ok := fun _ => True) (okp := fun _ => True) ?hr ?hp (fun _ hk => hk) trivial (Below.refl _ _) (Nat.le_refl _) (by simp) ?_; (case hd => rfl); (case hg => rfl); (case hr => first | (go_simp; done) | (go_simp; rfl)); (case hp => exact (Reps.none _ _)); intro v168 w4 ho5 hb hg_ hnew_; clear hg_ hnew_; (first | rw [← Ny167.out] at ho5 | (simp only [Int.reduceToNat] at ho5; rw [← Ny167.out] at ho5)); have HO169 := Aside0.mk (Kd.R_lower ho5 (below_size bA)); replace HB := Aside0.mk (below_step bA hb); clear hb ho5))
 go_loopg [7, 13] k (fun kq v7 v13 w' => ∃ (x7_1 : List Int) (x13_1 : Int), v13 = .int .i64 x13_1 ∧ Aside0 (impl_sieve.l0 kq l1 a2 x7_1 l0 (l0.length : Int) x13_1 = some r) ∧ Aside0 (kq ≤ k) ∧ Aside0 (Kd.R (Kd.int .i64) 3 w' w.heap.size (fun _ => True) v7 x7_1) ∧ Aside0 (Below w.heap.size w w'))
 case atStart => exact ⟨(y167), (0), rS, H', ⟨Nat.le_refl _⟩, ⟨rK HO169⟩, ⟨bA⟩⟩
 case round =>
  clear H'
  try clear c1
  try clear p2
  obtain ⟨x7_1, x13_1, rfl, HA, HK1, HO_7, HB⟩ := hrel
  cases gk with
  | zero => exact absurd HA.out (by simp [impl_sieve.l0])
  | succ k1 =>
   have H := HA.out
   clear HA
   simp only [impl_sieve.l0] at H
   by_cases c6 : x13_1 < (l0.length : Int)
   ·
    rw [if_pos c6] at H
    have c6b0 := decide_eq_true c6
    clear c6
    have c7 : 0 ≤ x13_1 := ifN H
    replace H := ifT H
    have c7b0 := decide_eq_true c7
    clear c7
    have c8 : x13_1 < (l0.length : Int) := ifN H
    replace H := ifT H
    have c8b0 := decide_eq_true c8
    clear c8
    obtain ⟨t171, A9, H⟩ := bindE H
    try dsimp only at H
    by_cases c10 : (t171 == a2) = true
    ·
     rw [if_pos c10] at H
     have c10b0 : (t171 == a2) = true := c10
     (try (have c10b1 : decide (t171 = a2) = true := by simpa using c10))
     (try (have c10b2 : (t171 == a2) = true := by simpa using c10))
     clear c10
     have c11 : x7_1.length < 17592186044416 := ifN H
     replace H := ifT H
     have LMc11 := Aside0.mk c11
     clear c11
     obtain ⟨y172, hy172⟩ : ∃ y_ : List Int, y_ = (x7_1 ++ [rd l0 x13_1]) := ⟨_, rfl⟩
     replace H : (impl_sieve.l0 k1 l1 a2 y172 l0 (l0.length : Int) (wrap64 (x13_1 + 1))) = some r := rH H hy172
     have Ny172 := Aside0.mk hy172
     clear hy172
     have H' := Aside0.mk H
     clear H
     have p170 : 0 ≤ (x13_1 : Int) := dA
     have q170 : x13_1 < (l0.length : Int) := dA
     obtain ⟨ad170, e170, hx170_0⟩ := Kd.at_int HR0.out x13_1 p170 q170
     cases e170
     replace hx170_0 := hC HB hx170_0
     replace p170 := eq_true p170
     replace q170 := eq_true q170
     go_wp2_with (first | ((with_reducible refine gate_callee (f := 102) rfl ?_); refine gL (some 19) Try.func102 #[.slice A1 l1.length c1, .int .i64 (rd l0 x13_1)] ?_; (with_reducible refine (slices_Contains_int_int.calls k1 _ _ l1 (rd l0 x13_1) t171 _ ?side1 ?side2 A9.out).mono ?_); (case side1 => exact cB HR1); (case side2 => exact HC1.out); rintro e w' ⟨rfl, ⟨nd, rfl⟩⟩; refine ⟨_, rfl, ?_⟩) | ((with_reducible refine gate_builtin (b := .append) (xs := #[.tmp 22, .tmp 24]) rfl ?_); at_builtin; refine Kd.R_append (Kd.int .i64) (w0 := w) w.heap.size rfl (.tmp 22) (.tmp 24) 35 3 (.int .i64 0) 8 rfl Try.underlying35 info3 rfl (by decide) (by omega) u7 x7_1 (rd l0 x13_1) [.int .i64 (rd l0 x13_1)] (fun _ => True) (fun _ => False) rfl rfl ?aP (fun _ hk => hk.elim) ?aF ?aO ?aB ?aS ?aL ?_; (case aP => exact rfl); (case aB => exact bA); (case aF => exact (fun _ _ => trivial)); (case aO => exact (rK HO_7)); (case aS => exact (below_size bA)); (case aL => have := LMc11.out; omega); intro v173 w12 ho hb hg hat; rw [← Ny172.out] at ho; have n0_ := Aside0.mk (hb); have n1_ := Aside0.mk (ho); clear HB; clear HO_7; have HB := n0_; have HO174 := n1_; clear n0_ n1_; clear ho hb hg hat))
     go_roundg k1
     case measure => have := HK1.out; omega
     case rel => exact ⟨(y172), (wrap64 (x13_1 + 1)), rS, H', ⟨by have := HK1.out; omega⟩, ⟨rK HO174⟩, ⟨bA⟩⟩
    ·
     rw [if_neg c10] at H
     have c10b0 : (t171 == a2) = false := by simpa using c10
     (try (have c10b1 : decide (t171 = a2) = false := by simpa using c10))
     (try (have c10b2 : (t171 == a2) = false := by simpa using c10))
     (try (have c10b3 : ¬ (t171 = a2) := by simpa using c10))
     clear c10
     have H' := Aside0.mk H
     clear H
     have p170 : 0 ≤ (x13_1 : Int) := dA
     have q170 : x13_1 < (l0.length : Int) := dA
     obtain ⟨ad170, e170, hx170_0⟩ := Kd.at_int HR0.out x13_1 p170 q170
     cases e170
     replace hx170_0 := hC HB hx170_0
     replace p170 := eq_true p170
     replace q170 := eq_true q170
     go_wp2_with (first | ((with_reducible refine gate_callee (f := 102) rfl ?_); refine gL (some 19) Try.func102 #[.slice A1 l1.length c1, .int .i64 (rd l0 x13_1)] ?_; (with_reducible refine (slices_Contains_int_int.calls k1 _ _ l1 (rd l0 x13_1) t171 _ ?side1 ?side2 A9.out).mono ?_); (case side1 => exact cB HR1); (case side2 => exact HC1.out); rintro e w' ⟨rfl, ⟨nd, rfl⟩⟩; refine ⟨_, rfl, ?_⟩))
     go_roundg k1
     case measure => have := HK1.out; omega
     case rel => exact ⟨(x7_1), (wrap64 (x13_1 + 1)), rS, H', ⟨by have := HK1.out; omega⟩, ⟨rK HO_7⟩, ⟨bA⟩⟩
   ·
    rw [if_neg c6] at H
    have c6b0 := decide_eq_false c6
    clear c6
    obtain rfl := Option.some.inj H
    go_wp2
    go_ret
    exact ⟨_, by first | rfl | (simp [errW_none, errW_some] <;> rfl) | (simp [*, errW_none, errW_some] <;> rfl), by (with_reducible repeat (first | apply Kd.R_alloc | apply Kd.R_drewN | apply Kd.R_drew)); exact HO_7.out, bA⟩

/-! ### impl_Closes: function 138 -/
def impl_Closes.f (k : Nat) (l0 : List Int) (l1 : List Int) : Option (List Int) := (impl_sieve.f k l0 l1 false).bind fun t175 => (some t175)
theorem impl_Closes.mono : ∀ a0 a1 k, LeO (impl_Closes.f k a0 a1) (impl_Closes.f (k + 1) a0 a1) := by
 intro a0 a1 k
 unfold impl_Closes.f
 repeat' first | (with_reducible first | exact LeO.refl _ | exact LeO.none _ | refine LeO.ite ?_ ?_ | refine LeO.bind ?_ (fun _ => ?_) | exact impl_sieve.mono _ _ _ _)
set_option maxHeartbeats 8000000 in
set_option maxRecDepth 100000 in
theorem impl_Closes.calls (k : Nat) (A0 : Option Addr) (c0 : Nat) (l0 : List Int) (A1 : Option Addr) (c1 : Nat) (l1 : List Int) (r : List Int) (w : World) (hr0 : Kd.C (Kd.int .i64) w A0 l0.length l0) (hc0 : l0.length ≤ c0) (hr1 : Kd.C (Kd.int .i64) w A1 l1.length l1) (hc1 : l1.length ≤ c1) (h : impl_Closes.f k l0 l1 = some r) :
  Calls Try.prog 138 #[.slice A0 l0.length c0, .slice A1 l1.length c1] w fun e w' => ∃ v0_ : Value, e = .returned (v0_) ∧ Kd.R (Kd.int .i64) 3 w' w.heap.size (fun _ => True) v0_ r ∧ Below w.heap.size w w' := by
 have HR0 := Aside0.mk hr0
 have HC0 := Aside0.mk hc0
 clear hr0 hc0
 have HR1 := Aside0.mk hr1
 have HC1 := Aside0.mk hc1
 clear hr1 hc1
 have HB := Aside0.mk (Below.refl w.heap.size w)
 have H : ((impl_sieve.f k l0 l1 false).bind fun t175 => (some t175)) = some r := h
 clear h
 obtain ⟨t175, A3, H⟩ := bindE H
 try dsimp only at H
 obtain rfl := Option.some.inj H
 go_enter Try.func138, Try.ntmps138
 go_wp2_with (first | ((with_reducible refine gate_callee (f := 166) rfl ?_); refine gL (some 7) Try.func166 #[.slice A0 l0.length c0, .slice A1 l1.length c1, .bool false] ?_; (with_reducible refine (impl_sieve.calls k _ _ l0 _ _ l1 false t175 _ ?side1 ?side2 ?side3 ?side4 A3.out).mono ?_); (case side1 => exact cO HR0); (case side2 => exact HC0.out); (case side3 => exact cO HR1); (case side4 => exact HC1.out); rintro e w4 ⟨v176, rfl, ho0, hb⟩; refine ⟨_, rfl, ?_⟩; have HO177 := Aside0.mk (Kd.R_lower ho0 (below_size bA)); replace HB := Aside0.mk (below_step bA hb); (try clear hb); (try clear ho0)))
 go_ret
 exact ⟨_, by first | rfl | (simp [errW_none, errW_some] <;> rfl) | (simp [*, errW_none, errW_some] <;> rfl), by (with_reducible repeat (first | apply Kd.R_alloc | apply Kd.R_drewN | apply Kd.R_drew)); exact HO177.out, bA⟩

/-! ### impl_ClearBetween: function 99 -/
mutual
def impl_ClearBetween.j0 : Nat → List (S50) → List Int → List Int → Int → Bool → Option (Int)
 | 0, _, _, _, _, _ => none
 | k + 1, x0, x1, x2, x7, x22 => if x22 = true then (some x7) else ((impl_Closes.f k x1 x2).bind fun t180 => (impl_ClearBetween.l0 k x0 x1 x2 x7 t180 (t180.length : Int) 0))
def impl_ClearBetween.l0 : Nat → List (S50) → List Int → List Int → Int → List Int → Int → Int → Option (Int)
 | 0, _, _, _, _, _, _, _ => none
 | k + 1, x0, x1, x2, x7, x26, x27, x28 => if x28 < x27 then (if 0 ≤ x28 then (if x28 < (x26.length : Int) then ((impl_Closes.f k x2 x1).bind fun t184 => (impl_ClearBetween.l1 k x0 x1 x2 x7 (rd x26 x28) x26 x27 x28 t184 (t184.length : Int) 0)) else (none)) else (none)) else (some x7)
def impl_ClearBetween.l1 : Nat → List (S50) → List Int → List Int → Int → Int → List Int → Int → Int → List Int → Int → Int → Option (Int)
 | 0, _, _, _, _, _, _, _, _, _, _, _ => none
 | k + 1, x0, x1, x2, x7, x9, x26, x27, x28, x34, x35, x36 => if x36 < x35 then (if 0 ≤ x36 then (if x36 < (x34.length : Int) then ((impl_FindPath.f x0 x9).bind fun t188 => (if 0 ≤ t188 then (if t188 < (x0.length : Int) then ((impl_FindPath.f x0 (rd x34 x36)).bind fun t191 => (if 0 ≤ t191 then (if t191 < (x0.length : Int) then ((impl_Conflict.f k ((rd_T50 x0 t188).f0) ((rd_T50 x0 t188).f1) ((rd_T50 x0 t188).f2) ((rd_T50 x0 t188).f3) ((rd_T50 x0 t191).f0) ((rd_T50 x0 t191).f1) ((rd_T50 x0 t191).f2) ((rd_T50 x0 t191).f3)).bind fun t193 => (if t193 = true then ((impl_ClearOf.f ((rd_T50 x0 t188).f0) ((rd_T50 x0 t188).f1) ((rd_T50 x0 t188).f2) ((rd_T50 x0 t188).f3)).bind fun t194 => (impl_ClearBetween.l1 k x0 x1 x2 (mx x7 t194) x9 x26 x27 x28 x34 x35 (wrap64 (x36 + 1)))) else (impl_ClearBetween.l1 k x0 x1 x2 x7 x9 x26 x27 x28 x34 x35 (wrap64 (x36 + 1))))) else (none)) else (none))) else (none)) else (none))) else (none)) else (none)) else (impl_ClearBetween.l0 k x0 x1 x2 x7 x26 x27 (wrap64 (x28 + 1)))
end
def impl_ClearBetween.f (k : Nat) (l0 : List (S50)) (l1 : List Int) (l2 : List Int) : Option (Int) := (impl_IsTogether.f k l0 l1).bind fun t178 => (if t178 = true then ((impl_IsTogether.f k l0 l2).bind fun t179 => (impl_ClearBetween.j0 k l0 l1 l2 0 (!t179))) else (impl_ClearBetween.j0 k l0 l1 l2 0 true))
theorem impl_ClearBetween.mono_l : ∀ k, (∀ y0 y1 y2 y3 y4, LeO (impl_ClearBetween.j0 k y0 y1 y2 y3 y4) (impl_ClearBetween.j0 (k + 1) y0 y1 y2 y3 y4)) ∧ (∀ y0 y1 y2 y3 y4 y5 y6, LeO (impl_ClearBetween.l0 k y0 y1 y2 y3 y4 y5 y6) (impl_ClearBetween.l0 (k + 1) y0 y1 y2 y3 y4 y5 y6)) ∧ (∀ y0 y1 y2 y3 y4 y5 y6 y7 y8 y9 y10, LeO (impl_ClearBetween.l1 k y0 y1 y2 y3 y4 y5 y6 y7 y8 y9 y10) (impl_ClearBetween.l1 (k + 1) y0 y1 y2 y3 y4 y5 y6 y7 y8 y9 y10))
 | 0 => ⟨fun _ _ _ _ _ r h => by simp [impl_ClearBetween.j0] at h, fun _ _ _ _ _ _ _ r h => by simp [impl_ClearBetween.l0] at h, fun _ _ _ _ _ _ _ _ _ _ _ r h => by simp [impl_ClearBetween.l1] at h⟩
 | k + 1 => by
  obtain ⟨ih0, ih1, ih2⟩ := impl_ClearBetween.mono_l k
  refine ⟨?_, ?_, ?_⟩
  ·
   intro y0 y1 y2 y3 y4
   unfold impl_ClearBetween.j0
   repeat' first | (with_reducible first | exact LeO.refl _ | exact LeO.none _ | refine LeO.ite ?_ ?_ | refine LeO.bind ?_ (fun _ => ?_) | exact ih0 _ _ _ _ _ | exact ih1 _ _ _ _ _ _ _ | exact ih2 _ _ _ _ _ _ _ _ _ _ _ | exact impl_Closes.mono _ _ _ | exact impl_Conflict.mono _ _ _ _ _ _ _ _ _ | exact impl_IsTogether.mono _ _ _)
  ·
   intro y0 y1 y2 y3 y4 y5 y6
   unfold impl_ClearBetween.l0
   repeat' first | (with_reducible first | exact LeO.refl _ | exact LeO.none _ | refine LeO.ite ?_ ?_ | refine LeO.bind ?_ (fun _ => ?_) | exact ih0 _ _ _ _ _ | exact ih1 _ _ _ _ _ _ _ | exact ih2 _ _ _ _ _ _ _ _ _ _ _ | exact impl_Closes.mono _ _ _ | exact impl_Conflict.mono _ _ _ _ _ _ _ _ _ | exact impl_IsTogether.mono _ _ _)
  ·
   intro y0 y1 y2 y3 y4 y5 y6 y7 y8 y9 y10
   unfold impl_ClearBetween.l1
   repeat' first | (with_reducible first | exact LeO.refl _ | exact LeO.none _ | refine LeO.ite ?_ ?_ | refine LeO.bind ?_ (fun _ => ?_) | exact ih0 _ _ _ _ _ | exact ih1 _ _ _ _ _ _ _ | exact ih2 _ _ _ _ _ _ _ _ _ _ _ | exact impl_Closes.mono _ _ _ | exact impl_Conflict.mono _ _ _ _ _ _ _ _ _ | exact impl_IsTogether.mono _ _ _)
theorem impl_ClearBetween.mono : ∀ a0 a1 a2 k, LeO (impl_ClearBetween.f k a0 a1 a2) (impl_ClearBetween.f (k + 1) a0 a1 a2) := by
 intro a0 a1 a2 k
 obtain ⟨ih0, ih1, ih2⟩ := impl_ClearBetween.mono_l k
 unfold impl_ClearBetween.f
 repeat' first | (with_reducible first | exact LeO.refl _ | exact LeO.none _ | refine LeO.ite ?_ ?_ | refine LeO.bind ?_ (fun _ => ?_) | exact ih0 _ _ _ _ _ | exact ih1 _ _ _ _ _ _ _ | exact ih2 _ _ _ _ _ _ _ _ _ _ _ | exact impl_Closes.mono _ _ _ | exact impl_Conflict.mono _ _ _ _ _ _ _ _ _ | exact impl_IsTogether.mono _ _ _)
def impl_ClearBetween.T11 : Bool × List (List Nat × List Nat) := (true, [([], []), ([], []), ([], []), ([], []), ([2, 3], [2, 3]), ([1, 4], [1, 4]), ([5], [5]), ([0, 6, 4], [0, 6])])
def impl_ClearBetween.B11 : List Nat := [0, 0, 0, 0, 12, 30, 62, 127]
theorem impl_ClearBetween.tab11 : rtab .any (opsOf Try.f99 11) = impl_ClearBetween.T11 := by kernel_rfl
theorem impl_ClearBetween.bits11 : waitsOk impl_ClearBetween.T11.2 impl_ClearBetween.B11 = true := by kernel_rfl
set_option maxHeartbeats 8000000 in
set_option maxRecDepth 100000 in
theorem impl_ClearBetween.calls (k : Nat) (A0 : Option Addr) (c0 : Nat) (l0 : List (S50)) (A1 : Option Addr) (c1 : Nat) (l1 : List Int) (A2 : Option Addr) (c2 : Nat) (l2 : List Int) (r : Int) (w : World) (hr0 : Kd.C k50 w A0 l0.length l0) (hc0 : l0.length ≤ c0) (hr1 : Kd.C (Kd.int .i64) w A1 l1.length l1) (hc1 : l1.length ≤ c1) (hr2 : Kd.C (Kd.int .i64) w A2 l2.length l2) (hc2 : l2.length ≤ c2) (h : impl_ClearBetween.f k l0 l1 l2 = some r) :
  Calls Try.prog 99 #[.slice A0 l0.length c0, .slice A1 l1.length c1, .slice A2 l2.length c2] w fun e w' => e = .returned (.int .i64 r) ∧ Below w.heap.size w w' := by
 have hu50 := Try.underlying50
 have HR0 := Aside0.mk hr0
 have HC0 := Aside0.mk hc0
 clear hr0 hc0
 have HR1 := Aside0.mk hr1
 have HC1 := Aside0.mk hc1
 clear hr1 hc1
 have HR2 := Aside0.mk hr2
 have HC2 := Aside0.mk hc2
 clear hr2 hc2
 have HB := Aside0.mk (Below.refl w.heap.size w)
 have H : ((impl_IsTogether.f k l0 l1).bind fun t178 => (if t178 = true then ((impl_IsTogether.f k l0 l2).bind fun t179 => (impl_ClearBetween.j0 k l0 l1 l2 0 (!t179))) else (impl_ClearBetween.j0 k l0 l1 l2 0 true))) = some r := h
 clear h
 have HC4 := Aside0.mk H
 clear H
 go_enter Try.func99, Try.ntmps99
 go_upto_region 2 with (fail)
 go_cut [22] (fun v22 wc => ∃ (kq : Nat) (x22_3 : Bool), v22 = .bool x22_3 ∧ Aside0 (impl_ClearBetween.j0 kq l0 l1 l2 0 x22_3 = some r) ∧ Aside0 (kq ≤ k) ∧ Aside0 (Below w.heap.size w wc))
 case first =>
  have H := HC4.out
  clear HC4
  obtain ⟨t178, A5, H⟩ := bindE H
  try dsimp only at H
  by_cases c6 : t178 = true
  ·
   subst c6
   have H1 : ((impl_IsTogether.f k l0 l2).bind fun t179 => (impl_ClearBetween.j0 k l0 l1 l2 0 (!t179))) = some r := by rw [if_pos rfl] at H; exact H
   clear H
   have H := H1
   clear H1
   obtain ⟨t179, A7, H⟩ := bindE H
   try dsimp only at H
   have H' := Aside0.mk H
   clear H
   go_wp2_with (first | ((with_reducible refine gate_callee (f := 68) rfl ?_); refine gL (some 15) Try.func68 #[.slice A0 l0.length c0, .slice A1 l1.length c1] ?_; (with_reducible refine (impl_IsTogether.calls k _ _ l0 _ _ l1 true _ ?side1 ?side2 ?side3 ?side4 A5.out).mono ?_); (case side1 => exact cB HR0); (case side2 => exact HC0.out); (case side3 => exact cB HR1); (case side4 => exact HC1.out); rintro e w8 ⟨rfl, hb⟩; refine ⟨_, rfl, ?_⟩; replace HB := Aside0.mk (below_step bA hb); (try clear hb)) | (go_at_call 68; (with_reducible refine (impl_IsTogether.calls k _ _ l0 _ _ l2 t179 _ ?side1 ?side2 ?side3 ?side4 A7.out).mono ?_); (case side1 => exact cB HR0); (case side2 => exact HC0.out); (case side3 => exact cB HR2); (case side4 => exact HC2.out); rintro e w9 ⟨rfl, hb⟩; replace HB := Aside0.mk (below_step bA hb); (try clear hb)))
   go_meet
   case rel => exact ⟨_, (!t179), rS, H', ⟨by first | omega | exact Nat.le_refl _⟩, ⟨bA⟩⟩
  ·
   replace c6 := Bool.eq_false_iff.mpr c6
   subst c6
   have H1 : (impl_ClearBetween.j0 k l0 l1 l2 0 true) = some r := by rw [if_neg (show ¬ (false = true) by decide)] at H; exact H
   clear H
   have H := H1
   clear H1
   have H' := Aside0.mk H
   clear H
   go_wp2_with (first | ((with_reducible refine gate_callee (f := 68) rfl ?_); refine gL (some 15) Try.func68 #[.slice A0 l0.length c0, .slice A1 l1.length c1] ?_; (with_reducible refine (impl_IsTogether.calls k _ _ l0 _ _ l1 false _ ?side1 ?side2 ?side3 ?side4 A5.out).mono ?_); (case side1 => exact cB HR0); (case side2 => exact HC0.out); (case side3 => exact cB HR1); (case side4 => exact HC1.out); rintro e w10 ⟨rfl, hb⟩; refine ⟨_, rfl, ?_⟩; replace HB := Aside0.mk (below_step bA hb); (try clear hb)))
   go_meet
   case rel => exact ⟨_, (true), rS, H', ⟨by first | omega | exact Nat.le_refl _⟩, ⟨bA⟩⟩
 case rest =>
  clear HC4
  try clear c1
  try clear c2
  try clear p2
  try clear c6
  try clear c9
  obtain ⟨kq, x22_3, rfl, HA, HJ3, HB⟩ := hcut
  cases kq with
  | zero => exact absurd HA.out (by simp [impl_ClearBetween.j0])
  | succ kj3 =>
   have H := HA.out
   clear HA
   simp only [impl_ClearBetween.j0] at H
   by_cases c11 : x22_3 = true
   ·
    subst c11
    have H1 : (some 0) = some r := by rw [if_pos rfl] at H; exact H
    clear H
    have H := H1
    clear H1
    obtain rfl := Option.some.inj H
    go_wp2
    go_ret
    exact ⟨rA, bA⟩
   ·
    replace c11 := Bool.eq_false_iff.mpr c11
    subst c11
    have H1 : ((impl_Closes.f kj3 l1 l2).bind fun t180 => (impl_ClearBetween.l0 kj3 l0 l1 l2 0 t180 (t180.length : Int) 0)) = some r := by rw [if_neg (show ¬ (false = true) by decide)] at H; exact H
    clear H
    have H := H1
    clear H1
    obtain ⟨t180, A12, H⟩ := bindE H
    try dsimp only at H
    have H' := Aside0.mk H
    clear H
    go_wp2_with (first | ((with_reducible refine gate_callee (f := 138) rfl ?_); refine gL (some 26) Try.func138 #[.slice A1 l1.length c1, .slice A2 l2.length c2] ?_; (with_reducible refine (impl_Closes.calls kj3 _ _ l1 _ _ l2 t180 _ ?side1 ?side2 ?side3 ?side4 A12.out).mono ?_); (case side1 => exact cB HR1); (case side2 => exact HC1.out); (case side3 => exact cB HR2); (case side4 => exact HC2.out); rintro e w13 ⟨v181, rfl, ho0, hb⟩; refine ⟨_, rfl, ?_⟩; have HO182 := Aside0.mk (Kd.R_lower ho0 (below_size bA)); replace HB := Aside0.mk (below_step bA hb); (try clear hb); (try clear ho0); obtain ⟨Ao14, co14, eo14⟩ := Kd.R_slice HO182.out; subst eo14))
    go_loopg [7, 28] kj3 (fun kq v7 v28 w' => ∃ (x7_2 : Int) (x28_2 : Int), v7 = .int .i64 x7_2 ∧ v28 = .int .i64 x28_2 ∧ Aside0 (impl_ClearBetween.l0 kq l0 l1 l2 x7_2 t180 (t180.length : Int) x28_2 = some r) ∧ Aside0 (kq ≤ kj3) ∧ Aside0 (Kd.R (Kd.int .i64) 3 w' w.heap.size (fun _ => True) (.slice Ao14 t180.length co14) t180) ∧ Aside0 (Below w.heap.size w w'))
    case atStart => exact ⟨(0), (0), rS, rS, H', ⟨Nat.le_refl _⟩, ⟨rK HO182⟩, ⟨bA⟩⟩
    case round =>
     clear H'
     try clear c1
     try clear c2
     try clear p2
     try clear c6
     try clear c9
     try clear c11
     try clear c13
     try clear p2
     obtain ⟨x7_2, x28_2, rfl, rfl, HA, HK2, HO_26, HB⟩ := hrel
     cases gk with
     | zero => exact absurd HA.out (by simp [impl_ClearBetween.l0])
     | succ k2 =>
      have H := HA.out
      clear HA
      simp only [impl_ClearBetween.l0] at H
      by_cases c15 : x28_2 < (t180.length : Int)
      ·
       rw [if_pos c15] at H
       have c15b0 := decide_eq_true c15
       clear c15
       have c16 : 0 ≤ x28_2 := ifN H
       replace H := ifT H
       have c16b0 := decide_eq_true c16
       clear c16
       have c17 : x28_2 < (t180.length : Int) := ifN H
       replace H := ifT H
       have c17b0 := decide_eq_true c17
       clear c17
       obtain ⟨t184, A18, H⟩ := bindE H
       try dsimp only at H
       have H' := Aside0.mk H
       clear H
       have p183 : 0 ≤ (x28_2 : Int) := dA
       have q183 : x28_2 < (t180.length : Int) := dA
       obtain ⟨ad183, e183, hx183_0⟩ := Kd.at_int (Kd.R_reads' HO_26.out).2.2 x28_2 p183 q183
       cases e183
       replace p183 := eq_true p183
       replace q183 := eq_true q183
       go_wp2_with (first | ((with_reducible refine gate_callee (f := 138) rfl ?_); refine gL (some 34) Try.func138 #[.slice A2 l2.length c2, .slice A1 l1.length c1] ?_; (with_reducible refine (impl_Closes.calls k2 _ _ l2 _ _ l1 t184 _ ?side1 ?side2 ?side3 ?side4 A18.out).mono ?_); (case side1 => exact cB HR2); (case side2 => exact HC2.out); (case side3 => exact cB HR1); (case side4 => exact HC1.out); rintro e w19 ⟨v185, rfl, ho0, hb⟩; refine ⟨_, rfl, ?_⟩; have HO186 := Aside0.mk (Kd.R_lower (Kd.R_new' ho0 (Kd.R_lt (rK HO_26))) (below_size bA)); replace HO_26 := Aside0.mk (Kd.R_elder' (rK HO_26) (Kd.R_base ho0) hb); replace HB := Aside0.mk (below_step bA hb); (try clear hb); (try clear ho0); obtain ⟨Ao20, co20, eo20⟩ := Kd.R_slice HO186.out; subst eo20))
       go_loopg [7, 36] k2 (fun kq v7 v36 w' => ∃ (x7_3 : Int) (x36_3 : Int), v7 = .int .i64 x7_3 ∧ v36 = .int .i64 x36_3 ∧ Aside0 (impl_ClearBetween.l1 kq l0 l1 l2 x7_3 (rd t180 x28_2) t180 (t180.length : Int) x28_2 t184 (t184.length : Int) x36_3 = some r) ∧ Aside0 (kq ≤ k2) ∧ Aside0 (Kd.R (Kd.int .i64) 3 w' w.heap.size (fun k_ => some k_ ≠ ((.slice Ao20 t184.length co20) : Value).ownBlock) (.slice (some ad183) t180.length co14) t180) ∧ Aside0 (Kd.R (Kd.int .i64) 3 w' w.heap.size (fun k_ => some k_ ≠ ((.slice (some ad183) t180.length co14) : Value).ownBlock) (.slice Ao20 t184.length co20) t184) ∧ Aside0 (Below w.heap.size w w'))
       case atStart => exact ⟨(x7_2), (0), rS, rS, H', ⟨Nat.le_refl _⟩, ⟨by (with_reducible repeat (first | apply Kd.R_alloc | apply Kd.R_drewN | apply Kd.R_drew)); exact Kd.R_mono HO_26.out (fun _ hk => hk.2)⟩, ⟨by (with_reducible repeat (first | apply Kd.R_alloc | apply Kd.R_drewN | apply Kd.R_drew)); exact Kd.R_mono HO186.out (fun _ hk => hk.2)⟩, ⟨bA⟩⟩
       case round =>
        clear H'
        try clear c1
        try clear p1
        try clear q1
        try clear hx1
        try clear c2
        try clear p2
        try clear c6
        try clear c9
        try clear c11
        try clear c13
        try clear c15
        try clear c15b0
        try clear c16
        try clear c16b0
        try clear c17
        try clear c17b0
        try clear p18
        try clear q18
        try clear hx18
        try clear hx183_0
        try clear p183
        try clear p2
        try clear q183
        obtain ⟨x7_3, x36_3, rfl, rfl, HA, HK3, HO_26, HO_34, HB⟩ := hrel
        cases gk with
        | zero => exact absurd HA.out (by simp [impl_ClearBetween.l1])
        | succ k3 =>
         have H := HA.out
         clear HA
         simp only [impl_ClearBetween.l1] at H
         by_cases c21 : x36_3 < (t184.length : Int)
         ·
          rw [if_pos c21] at H
          have c21b0 := decide_eq_true c21
          clear c21
          have c22 : 0 ≤ x36_3 := ifN H
          replace H := ifT H
          have c22b0 := decide_eq_true c22
          clear c22
          have c23 : x36_3 < (t184.length : Int) := ifN H
          replace H := ifT H
          have c23b0 := decide_eq_true c23
          clear c23
          obtain ⟨t188, A24, H⟩ := bindE H
          try dsimp only at H
          have c25 : 0 ≤ t188 := ifN H
          replace H := ifT H
          have c25b0 := decide_eq_true c25
          clear c25
          have c26 : t188 < (l0.length : Int) := ifN H
          replace H := ifT H
          have c26b0 := decide_eq_true c26
          clear c26
          obtain ⟨t191, A27, H⟩ := bindE H
          try dsimp only at H
          have c28 : 0 ≤ t191 := ifN H
          replace H := ifT H
          have c28b0 := decide_eq_true c28
          clear c28
          have c29 : t191 < (l0.length : Int) := ifN H
          replace H := ifT H
          have c29b0 := decide_eq_true c29
          clear c29
          obtain ⟨t193, A30, H⟩ := bindE H
          try dsimp only at H
          by_cases c31 : t193 = true
          ·
           subst c31
           have H1 : ((impl_ClearOf.f ((rd_T50 l0 t188).f0) ((rd_T50 l0 t188).f1) ((rd_T50 l0 t188).f2) ((rd_T50 l0 t188).f3)).bind fun t194 => (impl_ClearBetween.l1 k3 l0 l1 l2 (mx x7_3 t194) (rd t180 x28_2) t180 (t180.length : Int) x28_2 t184 (t184.length : Int) (wrap64 (x36_3 + 1)))) = some r := by rw [if_pos rfl] at H; exact H
           clear H
           have H := H1
           clear H1
           obtain ⟨t194, A32, H⟩ := bindE H
           try dsimp only at H
           obtain ⟨ji33, hji33⟩ : ∃ j_ : Int, (mx x7_3 t194) = j_ := ⟨_, rfl⟩
           replace H : (impl_ClearBetween.l1 k3 l0 l1 l2 ji33 (rd t180 x28_2) t180 (t180.length : Int) x28_2 t184 (t184.length : Int) (wrap64 (x36_3 + 1))) = some r := by first | (rw [hji33] at H; exact H) | (simp only [hji33] at H ⊢; exact H)
           (try rw [hji33] at A24)
           (try rw [hji33] at A27)
           (try rw [hji33] at A30)
           (try rw [hji33] at A32)
           have hji33_ : (if x7_3 < t194 then t194 else x7_3) = ji33 := hji33
           have H' := Aside0.mk H
           clear H
           have p187 : 0 ≤ (x36_3 : Int) := dA
           have q187 : x36_3 < (t184.length : Int) := dA
           obtain ⟨ad187, e187, hx187_0⟩ := Kd.at_int (Kd.R_reads' HO_34.out).2.2 x36_3 p187 q187
           cases e187
           replace p187 := eq_true p187
           replace q187 := eq_true q187
           try go_wp2_with (first | ((with_reducible refine gate_callee (f := 16) rfl ?_); refine gL (some 43) Try.func16 #[.slice A0 l0.length c0, .int .i64 (rd t180 x28_2)] ?_; (with_reducible refine (impl_FindPath.calls _ _ l0 (rd t180 x28_2) t188 _ ?side1 ?side2 A24.out).mono ?_); (case side1 => exact cB HR0); (case side2 => exact HC0.out); rintro e w34 ⟨rfl, hb⟩; refine ⟨_, rfl, ?_⟩; replace HO_26 := Aside0.mk (Kd.R_below (rK HO_26) hb); replace HO_34 := Aside0.mk (Kd.R_below (rK HO_34) hb); replace HB := Aside0.mk (below_step bA hb); (try clear hb); have p189 : 0 ≤ (t188 : Int) := dA; have q189 : t188 < (l0.length : Int) := dA; obtain ⟨ad189, e189, hx189_0, hx189_1, hx189_2, hx189_3⟩ := at_T50 HR0.out t188 p189 q189; cases e189; replace hx189_0 := hC HB hx189_0; replace hx189_1 := hC HB hx189_1; replace hx189_2 := hC HB hx189_2; replace hx189_3 := hC HB hx189_3; replace p189 := eq_true p189; replace q189 := eq_true q189) | ((with_reducible refine gate_dst (N := 12) rfl ?_); refine bE (N := 12) (cs := #[.int .i64 0, .int .i64 0, .int .i64 0, .int .i64 0]) (t := 50) ?_; intro gb190 hg w35 hbox hb; have n0_ := Aside0.mk (Kd.R_below (rK HO_26) hb); have n1_ := Aside0.mk (Kd.R_below (rK HO_34) hb); have n2_ := Aside0.mk (below_step bA hb); have n3_ := Aside0.mk (hbox); have n4_ := Aside0.mk ((by rw [hg]; exact (below_size bA) : w.heap.size ≤ gb190)); have n5_ := Aside0.mk ((by rw [hg]; exact (below_size bA) : w.heap.size ≤ gb190)); clear HO_26; clear HO_34; clear HB; have HO_26 := n0_; have HO_34 := n1_; have HB := n2_; have BK190 := n3_; have GW190 := n4_; have GE190 := n5_; clear n0_ n1_ n2_ n3_ n4_ n5_; clear hb hbox hg; obtain ⟨hcz36_0, hcz36_1, hcz36_2, hcz36_3, hfz36_0, hfz36_1, hfz36_2, hfz36_3⟩ := blkc4 BK190))
           have n0_ : Aside0 (Kd.R (Kd.int .i64) 3 ((((w35.setCell ⟨gb190, 0, none⟩ (.int .i64 ((rd_T50 l0 t188).f0))).setCell ⟨gb190, 1, none⟩ (.int .i64 ((rd_T50 l0 t188).f1))).setCell ⟨gb190, 2, none⟩ (.int .i64 ((rd_T50 l0 t188).f2))).setCell ⟨gb190, 3, none⟩ (.int .i64 ((rd_T50 l0 t188).f3))) w.heap.size (fun k_ => some k_ ≠ (.slice (some ad187) t184.length co20 : Value).ownBlock) (.slice (some ad183) t180.length co14) t180) := ⟨by (with_reducible repeat (first | apply Kd.R_alloc | apply Kd.R_drewN | apply Kd.R_drew)); exact Kd.R_mono (Kd.R_far (p := ⟨gb190, 3, none⟩) (Kd.R_far (p := ⟨gb190, 2, none⟩) (Kd.R_far (p := ⟨gb190, 1, none⟩) (Kd.R_far (p := ⟨gb190, 0, none⟩) (Kd.R_types HO_26.out BK190.out (by decide)) (fun _ hk => hk.2) (.int .i64 ((rd_T50 l0 t188).f0))) (fun _ hk => hk.2) (.int .i64 ((rd_T50 l0 t188).f1))) (fun _ hk => hk.2) (.int .i64 ((rd_T50 l0 t188).f2))) (fun _ hk => hk.2) (.int .i64 ((rd_T50 l0 t188).f3))) (fun _ hk => hk.1)⟩
           have n1_ : Aside0 (Kd.R (Kd.int .i64) 3 ((((w35.setCell ⟨gb190, 0, none⟩ (.int .i64 ((rd_T50 l0 t188).f0))).setCell ⟨gb190, 1, none⟩ (.int .i64 ((rd_T50 l0 t188).f1))).setCell ⟨gb190, 2, none⟩ (.int .i64 ((rd_T50 l0 t188).f2))).setCell ⟨gb190, 3, none⟩ (.int .i64 ((rd_T50 l0 t188).f3))) w.heap.size (fun k_ => some k_ ≠ (.slice (some ad183) t180.length co14 : Value).ownBlock) (.slice (some ad187) t184.length co20) t184) := ⟨by (with_reducible repeat (first | apply Kd.R_alloc | apply Kd.R_drewN | apply Kd.R_drew)); exact Kd.R_mono (Kd.R_far (p := ⟨gb190, 3, none⟩) (Kd.R_far (p := ⟨gb190, 2, none⟩) (Kd.R_far (p := ⟨gb190, 1, none⟩) (Kd.R_far (p := ⟨gb190, 0, none⟩) (Kd.R_types HO_34.out BK190.out (by decide)) (fun _ hk => hk.2) (.int .i64 ((rd_T50 l0 t188).f0))) (fun _ hk => hk.2) (.int .i64 ((rd_T50 l0 t188).f1))) (fun _ hk => hk.2) (.int .i64 ((rd_T50 l0 t188).f2))) (fun _ hk => hk.2) (.int .i64 ((rd_T50 l0 t188).f3))) (fun _ hk => hk.1)⟩
           have n2_ : Aside0 (((((w35.setCell ⟨gb190, 0, none⟩ (.int .i64 ((rd_T50 l0 t188).f0))).setCell ⟨gb190, 1, none⟩ (.int .i64 ((rd_T50 l0 t188).f1))).setCell ⟨gb190, 2, none⟩ (.int .i64 ((rd_T50 l0 t188).f2))).setCell ⟨gb190, 3, none⟩ (.int .i64 ((rd_T50 l0 t188).f3))).heap[gb190]? = some (.cells #[.int .i64 ((rd_T50 l0 t188).f0), .int .i64 ((rd_T50 l0 t188).f1), .int .i64 ((rd_T50 l0 t188).f2), .int .i64 ((rd_T50 l0 t188).f3)] 50 (0, 0))) := ⟨by (with_reducible repeat (first | refine blk_drewN ?_ _ | refine blk_drew ?_ | refine blk_alloc ?_ _)); refine blk_put (cs := #[.int .i64 ((rd_T50 l0 t188).f0), .int .i64 ((rd_T50 l0 t188).f1), .int .i64 ((rd_T50 l0 t188).f2), .int .i64 0]) ?_ 3 _ rfl; (with_reducible repeat (first | refine blk_drewN ?_ _ | refine blk_drew ?_ | refine blk_alloc ?_ _)); refine blk_put (cs := #[.int .i64 ((rd_T50 l0 t188).f0), .int .i64 ((rd_T50 l0 t188).f1), .int .i64 0, .int .i64 0]) ?_ 2 _ rfl; (with_reducible repeat (first | refine blk_drewN ?_ _ | refine blk_drew ?_ | refine blk_alloc ?_ _)); refine blk_put (cs := #[.int .i64 ((rd_T50 l0 t188).f0), .int .i64 0, .int .i64 0, .int .i64 0]) ?_ 1 _ rfl; (with_reducible repeat (first | refine blk_drewN ?_ _ | refine blk_drew ?_ | refine blk_alloc ?_ _)); refine blk_put (cs := #[.int .i64 0, .int .i64 0, .int .i64 0, .int .i64 0]) ?_ 0 _ rfl; (with_reducible repeat (first | refine blk_drewN ?_ _ | refine blk_drew ?_ | refine blk_alloc ?_ _)); exact BK190.out⟩
           have n3_ : Aside0 (Below w.heap.size w ((((w35.setCell ⟨gb190, 0, none⟩ (.int .i64 ((rd_T50 l0 t188).f0))).setCell ⟨gb190, 1, none⟩ (.int .i64 ((rd_T50 l0 t188).f1))).setCell ⟨gb190, 2, none⟩ (.int .i64 ((rd_T50 l0 t188).f2))).setCell ⟨gb190, 3, none⟩ (.int .i64 ((rd_T50 l0 t188).f3)))) := ⟨bG⟩
           (try clear HO_26)
           (try clear HO_34)
           (try clear BK190)
           (try clear HB)
           generalize ((((w35.setCell ⟨gb190, 0, none⟩ (.int .i64 ((rd_T50 l0 t188).f0))).setCell ⟨gb190, 1, none⟩ (.int .i64 ((rd_T50 l0 t188).f1))).setCell ⟨gb190, 2, none⟩ (.int .i64 ((rd_T50 l0 t188).f2))).setCell ⟨gb190, 3, none⟩ (.int .i64 ((rd_T50 l0 t188).f3))) = w37 at n0_ n1_ n2_ n3_ ⊢
           have HO_26 := n0_
           have HO_34 := n1_
           have BK190 := n2_
           have HB := n3_
           clear n0_ n1_ n2_ n3_
           replace HO_26 := Aside0.mk (Kd.R_drew HO_26.out)
           replace HO_34 := Aside0.mk (Kd.R_drew HO_34.out)
           replace BK190 := Aside0.mk (blk_drew BK190.out)
           have HBo := HB
           replace HB := Aside0.mk (below_drew1 HB.out)
           have p192 : 0 ≤ (t191 : Int) := dA
           have q192 : t191 < (l0.length : Int) := dA
           obtain ⟨ad192, e192, hx192_0, hx192_1, hx192_2, hx192_3⟩ := at_T50 HR0.out t191 p192 q192
           have hw192_3 := hx192_3
           have hw192_2 := hx192_2
           have hw192_1 := hx192_1
           have hw192_0 := hx192_0
           obtain rfl : ad189 = ad192 := (by injection e192)
           replace hx192_0 := hC HB hx192_0
           replace hx192_1 := hC HB hx192_1
           replace hx192_2 := hC HB hx192_2
           replace hx192_3 := hC HB hx192_3
           replace p192 := eq_true p192
           replace q192 := eq_true q192
           refine start_ (n := 8) (S := fun w' => w'.cell? ⟨gb190, 0, none⟩ = some (.int .i64 ((rd_T50 l0 t188).f0)) ∧ w'.cell? ⟨gb190, 1, none⟩ = some (.int .i64 ((rd_T50 l0 t188).f1)) ∧ w'.cell? ⟨gb190, 2, none⟩ = some (.int .i64 ((rd_T50 l0 t188).f2)) ∧ w'.cell? ⟨gb190, 3, none⟩ = some (.int .i64 ((rd_T50 l0 t188).f3)) ∧ w'.cell? (ad189.add ((t191).toNat * 4)) = some (.int .i64 ((rd_T50 l0 t191).f0)) ∧ w'.cell? ⟨(ad189.add ((t191).toNat * 4)).block, (ad189.add ((t191).toNat * 4)).off + 1, none⟩ = some (.int .i64 ((rd_T50 l0 t191).f1)) ∧ w'.cell? ⟨(ad189.add ((t191).toNat * 4)).block, (ad189.add ((t191).toNat * 4)).off + 2, none⟩ = some (.int .i64 ((rd_T50 l0 t191).f2)) ∧ w'.cell? ⟨(ad189.add ((t191).toNat * 4)).block, (ad189.add ((t191).toNat * 4)).off + 3, none⟩ = some (.int .i64 ((rd_T50 l0 t191).f3))) (ds := []) (mb 8 0) (by kernel_rfl) rfl rfl ⟨bC BK190 0, bC BK190 1, bC BK190 2, bC BK190 3, (hC HB hw192_0), (hC HB hw192_1), (hC HB hw192_2), (hC HB hw192_3)⟩ (fun hHeld => ?_); refine with_tabW impl_ClearBetween.tab11 impl_ClearBetween.bits11 (fun HT_ HW_ => ?_)
           generalize w37.drew = w38 at HO_26 HO_34 BK190 HB hx192_0 hx192_1 hx192_2 hx192_3 hHeld ⊢
           refine pa 1 47 (mb 8 2) HT_ ?_
           refine pa 2 48 (mb 8 6) HT_ ?_
           refine pa 3 49 (mb 8 14) HT_ ?_
           refine ta8 0 46 (mb 8 15) HT_ HW_ hHeld ?_
           refine oa 4 50 (mb 8 31) HT_ (fun K hK => ?_)
           refine gA Try.func16 #[.slice (some ad189) l0.length c0, .int .i64 (rd t184 x36_3)] ?_
           with_reducible refine (impl_FindPath.calls _ _ l0 (rd t184 x36_3) t191 _ ?side1 ?side2 A27.out).mono ?_
           (case side1 => exact cB HR0)
           (case side2 => exact HC0.out)
           rintro e w39 ⟨rfl, hb⟩
           refine ⟨_, rfl, ?_⟩
           replace HO_26 := Aside0.mk (Kd.R_below (rK HO_26) hb)
           replace HO_34 := Aside0.mk (Kd.R_below (rK HO_34) hb)
           replace BK190 := Aside0.mk (blk_below (g := gb190) (bK BK190) hb)
           replace HB := Aside0.mk (below_step bG hb)
           (try clear hb)
           (try clear hb2)
           (try clear hk)
           (try clear hi)
           refine hK.out _ _ ⟨bC BK190 0, bC BK190 1, bC BK190 2, bC BK190 3, (hC HB hw192_0), (hC HB hw192_1), (hC HB hw192_2), (hC HB hw192_3)⟩ (fun hHeld => ?_)
           clear hK K
           refine nB ?_
           refine pa 5 51 (mb 8 63) HT_ ?_
           refine ta8 6 52 (mb 8 127) HT_ HW_ hHeld ?_
           refine oa 7 53 (mb 8 255) HT_ (fun K hK => ?_)
           refine gA Try.func101 #[.agg #[.int .i64 ((rd_T50 l0 t188).f0), .int .i64 ((rd_T50 l0 t188).f1), .int .i64 ((rd_T50 l0 t188).f2), .int .i64 ((rd_T50 l0 t188).f3)], .agg #[.int .i64 ((rd_T50 l0 t191).f0), .int .i64 ((rd_T50 l0 t191).f1), .int .i64 ((rd_T50 l0 t191).f2), .int .i64 ((rd_T50 l0 t191).f3)]] ?_
           with_reducible refine (impl_Conflict.calls k3 ((rd_T50 l0 t188).f0) ((rd_T50 l0 t188).f1) ((rd_T50 l0 t188).f2) ((rd_T50 l0 t188).f3) ((rd_T50 l0 t191).f0) ((rd_T50 l0 t191).f1) ((rd_T50 l0 t191).f2) ((rd_T50 l0 t191).f3) true _ A30.out).mono ?_
           rintro e w40 ⟨rfl, hb⟩
           refine ⟨_, rfl, ?_⟩
           replace HO_26 := Aside0.mk (Kd.R_below (rK HO_26) hb)
           replace HO_34 := Aside0.mk (Kd.R_below (rK HO_34) hb)
           replace BK190 := Aside0.mk (blk_below (g := gb190) (bK BK190) hb)
           replace HB := Aside0.mk (below_step bG hb)
           (try clear hb)
           (try clear hb2)
           (try clear hk)
           (try clear hi)
           refine hK.out _ _ ⟨bC BK190 0, bC BK190 1, bC BK190 2, bC BK190 3, (hC HB hw192_0), (hC HB hw192_1), (hC HB hw192_2), (hC HB hw192_3)⟩ (fun hHeld => ?_)
           clear hK K
           refine nB ?_
           refine eA HT_ ?_
           obtain ⟨hcz41_0, hcz41_1, hcz41_2, hcz41_3, hfz41_0, hfz41_1, hfz41_2, hfz41_3⟩ := blkc4 BK190
           try go_wp2_with (first | ((with_reducible refine gate_callee (f := 120) rfl ?_); refine gL (some 56) Try.func120 #[.agg #[.int .i64 ((rd_T50 l0 t188).f0), .int .i64 ((rd_T50 l0 t188).f1), .int .i64 ((rd_T50 l0 t188).f2), .int .i64 ((rd_T50 l0 t188).f3)]] ?_; (with_reducible refine (impl_ClearOf.calls ((rd_T50 l0 t188).f0) ((rd_T50 l0 t188).f1) ((rd_T50 l0 t188).f2) ((rd_T50 l0 t188).f3) t194 _ A32.out).mono ?_); rintro e w42 ⟨rfl, hb⟩; refine ⟨_, rfl, ?_⟩; replace HO_26 := Aside0.mk (Kd.R_below (rK HO_26) hb); replace HO_34 := Aside0.mk (Kd.R_below (rK HO_34) hb); replace BK190 := Aside0.mk (blk_below (g := gb190) (bK BK190) hb); replace HB := Aside0.mk (below_step bG hb); (try clear hb)))
           go_roundg k3
           case measure => have := HJ3.out; have := HK2.out; have := HK3.out; omega
           case rel => exact ⟨(ji33), (wrap64 (x36_3 + 1)), (by first | rfl | (simp; done) | (simp only [← hji33] <;> (first | rfl | simp)) | (simp [*]; done)), rS, H', ⟨by have := HJ3.out; have := HK2.out; have := HK3.out; omega⟩, ⟨rK HO_26⟩, ⟨rK HO_34⟩, ⟨bG⟩⟩
          ·
           replace c31 := Bool.eq_false_iff.mpr c31
           subst c31
           have H1 : (impl_ClearBetween.l1 k3 l0 l1 l2 x7_3 (rd t180 x28_2) t180 (t180.length : Int) x28_2 t184 (t184.length : Int) (wrap64 (x36_3 + 1))) = some r := by rw [if_neg (show ¬ (false = true) by decide)] at H; exact H
           clear H
           have H := H1
           clear H1
           have H' := Aside0.mk H
           clear H
           have p187 : 0 ≤ (x36_3 : Int) := dA
           have q187 : x36_3 < (t184.length : Int) := dA
           obtain ⟨ad187, e187, hx187_0⟩ := Kd.at_int (Kd.R_reads' HO_34.out).2.2 x36_3 p187 q187
           cases e187
           replace p187 := eq_true p187
           replace q187 := eq_true q187
           try go_wp2_with (first | ((with_reducible refine gate_callee (f := 16) rfl ?_); refine gL (some 43) Try.func16 #[.slice A0 l0.length c0, .int .i64 (rd t180 x28_2)] ?_; (with_reducible refine (impl_FindPath.calls _ _ l0 (rd t180 x28_2) t188 _ ?side1 ?side2 A24.out).mono ?_); (case side1 => exact cB HR0); (case side2 => exact HC0.out); rintro e w43 ⟨rfl, hb⟩; refine ⟨_, rfl, ?_⟩; replace HO_26 := Aside0.mk (Kd.R_below (rK HO_26) hb); replace HO_34 := Aside0.mk (Kd.R_below (rK HO_34) hb); replace HB := Aside0.mk (below_step bA hb); (try clear hb); have p189 : 0 ≤ (t188 : Int) := dA; have q189 : t188 < (l0.length : Int) := dA; obtain ⟨ad189, e189, hx189_0, hx189_1, hx189_2, hx189_3⟩ := at_T50 HR0.out t188 p189 q189; cases e189; replace hx189_0 := hC HB hx189_0; replace hx189_1 := hC HB hx189_1; replace hx189_2 := hC HB hx189_2; replace hx189_3 := hC HB hx189_3; replace p189 := eq_true p189; replace q189 := eq_true q189) | ((with_reducible refine gate_dst (N := 12) rfl ?_); refine bE (N := 12) (cs := #[.int .i64 0, .int .i64 0, .int .i64 0, .int .i64 0]) (t := 50) ?_; intro gb190 hg w44 hbox hb; have n0_ := Aside0.mk (Kd.R_below (rK HO_26) hb); have n1_ := Aside0.mk (Kd.R_below (rK HO_34) hb); have n2_ := Aside0.mk (below_step bA hb); have n3_ := Aside0.mk (hbox); have n4_ := Aside0.mk ((by rw [hg]; exact (below_size bA) : w.heap.size ≤ gb190)); have n5_ := Aside0.mk ((by rw [hg]; exact (below_size bA) : w.heap.size ≤ gb190)); clear HO_26; clear HO_34; clear HB; have HO_26 := n0_; have HO_34 := n1_; have HB := n2_; have BK190 := n3_; have GW190 := n4_; have GE190 := n5_; clear n0_ n1_ n2_ n3_ n4_ n5_; clear hb hbox hg; obtain ⟨hcz45_0, hcz45_1, hcz45_2, hcz45_3, hfz45_0, hfz45_1, hfz45_2, hfz45_3⟩ := blkc4 BK190))
           have n0_ : Aside0 (Kd.R (Kd.int .i64) 3 ((((w44.setCell ⟨gb190, 0, none⟩ (.int .i64 ((rd_T50 l0 t188).f0))).setCell ⟨gb190, 1, none⟩ (.int .i64 ((rd_T50 l0 t188).f1))).setCell ⟨gb190, 2, none⟩ (.int .i64 ((rd_T50 l0 t188).f2))).setCell ⟨gb190, 3, none⟩ (.int .i64 ((rd_T50 l0 t188).f3))) w.heap.size (fun k_ => some k_ ≠ (.slice (some ad187) t184.length co20 : Value).ownBlock) (.slice (some ad183) t180.length co14) t180) := ⟨by (with_reducible repeat (first | apply Kd.R_alloc | apply Kd.R_drewN | apply Kd.R_drew)); exact Kd.R_mono (Kd.R_far (p := ⟨gb190, 3, none⟩) (Kd.R_far (p := ⟨gb190, 2, none⟩) (Kd.R_far (p := ⟨gb190, 1, none⟩) (Kd.R_far (p := ⟨gb190, 0, none⟩) (Kd.R_types HO_26.out BK190.out (by decide)) (fun _ hk => hk.2) (.int .i64 ((rd_T50 l0 t188).f0))) (fun _ hk => hk.2) (.int .i64 ((rd_T50 l0 t188).f1))) (fun _ hk => hk.2) (.int .i64 ((rd_T50 l0 t188).f2))) (fun _ hk => hk.2) (.int .i64 ((rd_T50 l0 t188).f3))) (fun _ hk => hk.1)⟩
           have n1_ : Aside0 (Kd.R (Kd.int .i64) 3 ((((w44.setCell ⟨gb190, 0, none⟩ (.int .i64 ((rd_T50 l0 t188).f0))).setCell ⟨gb190, 1, none⟩ (.int .i64 ((rd_T50 l0 t188).f1))).setCell ⟨gb190, 2, none⟩ (.int .i64 ((rd_T50 l0 t188).f2))).setCell ⟨gb190, 3, none⟩ (.int .i64 ((rd_T50 l0 t188).f3))) w.heap.size (fun k_ => some k_ ≠ (.slice (some ad183) t180.length co14 : Value).ownBlock) (.slice (some ad187) t184.length co20) t184) := ⟨by (with_reducible repeat (first | apply Kd.R_alloc | apply Kd.R_drewN | apply Kd.R_drew)); exact Kd.R_mono (Kd.R_far (p := ⟨gb190, 3, none⟩) (Kd.R_far (p := ⟨gb190, 2, none⟩) (Kd.R_far (p := ⟨gb190, 1, none⟩) (Kd.R_far (p := ⟨gb190, 0, none⟩) (Kd.R_types HO_34.out BK190.out (by decide)) (fun _ hk => hk.2) (.int .i64 ((rd_T50 l0 t188).f0))) (fun _ hk => hk.2) (.int .i64 ((rd_T50 l0 t188).f1))) (fun _ hk => hk.2) (.int .i64 ((rd_T50 l0 t188).f2))) (fun _ hk => hk.2) (.int .i64 ((rd_T50 l0 t188).f3))) (fun _ hk => hk.1)⟩
           have n2_ : Aside0 (((((w44.setCell ⟨gb190, 0, none⟩ (.int .i64 ((rd_T50 l0 t188).f0))).setCell ⟨gb190, 1, none⟩ (.int .i64 ((rd_T50 l0 t188).f1))).setCell ⟨gb190, 2, none⟩ (.int .i64 ((rd_T50 l0 t188).f2))).setCell ⟨gb190, 3, none⟩ (.int .i64 ((rd_T50 l0 t188).f3))).heap[gb190]? = some (.cells #[.int .i64 ((rd_T50 l0 t188).f0), .int .i64 ((rd_T50 l0 t188).f1), .int .i64 ((rd_T50 l0 t188).f2), .int .i64 ((rd_T50 l0 t188).f3)] 50 (0, 0))) := ⟨by (with_reducible repeat (first | refine blk_drewN ?_ _ | refine blk_drew ?_ | refine blk_alloc ?_ _)); refine blk_put (cs := #[.int .i64 ((rd_T50 l0 t188).f0), .int .i64 ((rd_T50 l0 t188).f1), .int .i64 ((rd_T50 l0 t188).f2), .int .i64 0]) ?_ 3 _ rfl; (with_reducible repeat (first | refine blk_drewN ?_ _ | refine blk_drew ?_ | refine blk_alloc ?_ _)); refine blk_put (cs := #[.int .i64 ((rd_T50 l0 t188).f0), .int .i64 ((rd_T50 l0 t188).f1), .int .i64 0, .int .i64 0]) ?_ 2 _ rfl; (with_reducible repeat (first | refine blk_drewN ?_ _ | refine blk_drew ?_ | refine blk_alloc ?_ _)); refine blk_put (cs := #[.int .i64 ((rd_T50 l0 t188).f0), .int .i64 0, .int .i64 0, .int .i64 0]) ?_ 1 _ rfl; (with_reducible repeat (first | refine blk_drewN ?_ _ | refine blk_drew ?_ | refine blk_alloc ?_ _)); refine blk_put (cs := #[.int .i64 0, .int .i64 0, .int .i64 0, .int .i64 0]) ?_ 0 _ rfl; (with_reducible repeat (first | refine blk_drewN ?_ _ | refine blk_drew ?_ | refine blk_alloc ?_ _)); exact BK190.out⟩
           have n3_ : Aside0 (Below w.heap.size w ((((w44.setCell ⟨gb190, 0, none⟩ (.int .i64 ((rd_T50 l0 t188).f0))).setCell ⟨gb190, 1, none⟩ (.int .i64 ((rd_T50 l0 t188).f1))).setCell ⟨gb190, 2, none⟩ (.int .i64 ((rd_T50 l0 t188).f2))).setCell ⟨gb190, 3, none⟩ (.int .i64 ((rd_T50 l0 t188).f3)))) := ⟨bG⟩
           (try clear HO_26)
           (try clear HO_34)
           (try clear BK190)
           (try clear HB)
           generalize ((((w44.setCell ⟨gb190, 0, none⟩ (.int .i64 ((rd_T50 l0 t188).f0))).setCell ⟨gb190, 1, none⟩ (.int .i64 ((rd_T50 l0 t188).f1))).setCell ⟨gb190, 2, none⟩ (.int .i64 ((rd_T50 l0 t188).f2))).setCell ⟨gb190, 3, none⟩ (.int .i64 ((rd_T50 l0 t188).f3))) = w46 at n0_ n1_ n2_ n3_ ⊢
           have HO_26 := n0_
           have HO_34 := n1_
           have BK190 := n2_
           have HB := n3_
           clear n0_ n1_ n2_ n3_
           replace HO_26 := Aside0.mk (Kd.R_drew HO_26.out)
           replace HO_34 := Aside0.mk (Kd.R_drew HO_34.out)
           replace BK190 := Aside0.mk (blk_drew BK190.out)
           have HBo := HB
           replace HB := Aside0.mk (below_drew1 HB.out)
           have p192 : 0 ≤ (t191 : Int) := dA
           have q192 : t191 < (l0.length : Int) := dA
           obtain ⟨ad192, e192, hx192_0, hx192_1, hx192_2, hx192_3⟩ := at_T50 HR0.out t191 p192 q192
           have hw192_3 := hx192_3
           have hw192_2 := hx192_2
           have hw192_1 := hx192_1
           have hw192_0 := hx192_0
           obtain rfl : ad189 = ad192 := (by injection e192)
           replace hx192_0 := hC HB hx192_0
           replace hx192_1 := hC HB hx192_1
           replace hx192_2 := hC HB hx192_2
           replace hx192_3 := hC HB hx192_3
           replace p192 := eq_true p192
           replace q192 := eq_true q192
           refine start_ (n := 8) (S := fun w' => w'.cell? ⟨gb190, 0, none⟩ = some (.int .i64 ((rd_T50 l0 t188).f0)) ∧ w'.cell? ⟨gb190, 1, none⟩ = some (.int .i64 ((rd_T50 l0 t188).f1)) ∧ w'.cell? ⟨gb190, 2, none⟩ = some (.int .i64 ((rd_T50 l0 t188).f2)) ∧ w'.cell? ⟨gb190, 3, none⟩ = some (.int .i64 ((rd_T50 l0 t188).f3)) ∧ w'.cell? (ad189.add ((t191).toNat * 4)) = some (.int .i64 ((rd_T50 l0 t191).f0)) ∧ w'.cell? ⟨(ad189.add ((t191).toNat * 4)).block, (ad189.add ((t191).toNat * 4)).off + 1, none⟩ = some (.int .i64 ((rd_T50 l0 t191).f1)) ∧ w'.cell? ⟨(ad189.add ((t191).toNat * 4)).block, (ad189.add ((t191).toNat * 4)).off + 2, none⟩ = some (.int .i64 ((rd_T50 l0 t191).f2)) ∧ w'.cell? ⟨(ad189.add ((t191).toNat * 4)).block, (ad189.add ((t191).toNat * 4)).off + 3, none⟩ = some (.int .i64 ((rd_T50 l0 t191).f3))) (ds := []) (mb 8 0) (by kernel_rfl) rfl rfl ⟨bC BK190 0, bC BK190 1, bC BK190 2, bC BK190 3, (hC HB hw192_0), (hC HB hw192_1), (hC HB hw192_2), (hC HB hw192_3)⟩ (fun hHeld => ?_); refine with_tabW impl_ClearBetween.tab11 impl_ClearBetween.bits11 (fun HT_ HW_ => ?_)
           generalize w46.drew = w47 at HO_26 HO_34 BK190 HB hx192_0 hx192_1 hx192_2 hx192_3 hHeld ⊢
           refine pa 1 47 (mb 8 2) HT_ ?_
           refine pa 2 48 (mb 8 6) HT_ ?_
           refine pa 3 49 (mb 8 14) HT_ ?_
           refine ta8 0 46 (mb 8 15) HT_ HW_ hHeld ?_
           refine oa 4 50 (mb 8 31) HT_ (fun K hK => ?_)
           refine gA Try.func16 #[.slice (some ad189) l0.length c0, .int .i64 (rd t184 x36_3)] ?_
           with_reducible refine (impl_FindPath.calls _ _ l0 (rd t184 x36_3) t191 _ ?side1 ?side2 A27.out).mono ?_
           (case side1 => exact cB HR0)
           (case side2 => exact HC0.out)
           rintro e w48 ⟨rfl, hb⟩
           refine ⟨_, rfl, ?_⟩
           replace HO_26 := Aside0.mk (Kd.R_below (rK HO_26) hb)
           replace HO_34 := Aside0.mk (Kd.R_below (rK HO_34) hb)
           replace BK190 := Aside0.mk (blk_below (g := gb190) (bK BK190) hb)
           replace HB := Aside0.mk (below_step bG hb)
           (try clear hb)
           (try clear hb2)
           (try clear hk)
           (try clear hi)
           refine hK.out _ _ ⟨bC BK190 0, bC BK190 1, bC BK190 2, bC BK190 3, (hC HB hw192_0), (hC HB hw192_1), (hC HB hw192_2), (hC HB hw192_3)⟩ (fun hHeld => ?_)
           clear hK K
           refine nB ?_
           refine pa 5 51 (mb 8 63) HT_ ?_
           refine ta8 6 52 (mb 8 127) HT_ HW_ hHeld ?_
           refine oa 7 53 (mb 8 255) HT_ (fun K hK => ?_)
           refine gA Try.func101 #[.agg #[.int .i64 ((rd_T50 l0 t188).f0), .int .i64 ((rd_T50 l0 t188).f1), .int .i64 ((rd_T50 l0 t188).f2), .int .i64 ((rd_T50 l0 t188).f3)], .agg #[.int .i64 ((rd_T50 l0 t191).f0), .int .i64 ((rd_T50 l0 t191).f1), .int .i64 ((rd_T50 l0 t191).f2), .int .i64 ((rd_T50 l0 t191).f3)]] ?_
           with_reducible refine (impl_Conflict.calls k3 ((rd_T50 l0 t188).f0) ((rd_T50 l0 t188).f1) ((rd_T50 l0 t188).f2) ((rd_T50 l0 t188).f3) ((rd_T50 l0 t191).f0) ((rd_T50 l0 t191).f1) ((rd_T50 l0 t191).f2) ((rd_T50 l0 t191).f3) false _ A30.out).mono ?_
           rintro e w49 ⟨rfl, hb⟩
           refine ⟨_, rfl, ?_⟩
           replace HO_26 := Aside0.mk (Kd.R_below (rK HO_26) hb)
           replace HO_34 := Aside0.mk (Kd.R_below (rK HO_34) hb)
           replace BK190 := Aside0.mk (blk_below (g := gb190) (bK BK190) hb)
           replace HB := Aside0.mk (below_step bG hb)
           (try clear hb)
           (try clear hb2)
           (try clear hk)
           (try clear hi)
           refine hK.out _ _ ⟨bC BK190 0, bC BK190 1, bC BK190 2, bC BK190 3, (hC HB hw192_0), (hC HB hw192_1), (hC HB hw192_2), (hC HB hw192_3)⟩ (fun hHeld => ?_)
           clear hK K
           refine nB ?_
           refine eA HT_ ?_
           try go_wp2
           go_roundg k3
           case measure => have := HJ3.out; have := HK2.out; have := HK3.out; omega
           case rel => exact ⟨(x7_3), (wrap64 (x36_3 + 1)), rS, rS, H', ⟨by have := HJ3.out; have := HK2.out; have := HK3.out; omega⟩, ⟨rK HO_26⟩, ⟨rK HO_34⟩, ⟨bG⟩⟩
         ·
          rw [if_neg c21] at H
          have c21b0 := decide_eq_false c21
          clear c21
          have H' := Aside0.mk H
          clear H
          go_wp2
          go_roundg k3
          case measure => have := HJ3.out; have := HK2.out; have := HK3.out; omega
          case rel => exact ⟨(x7_3), (wrap64 (x28_2 + 1)), rS, rS, H', ⟨by have := HJ3.out; have := HK2.out; have := HK3.out; omega⟩, ⟨by (with_reducible repeat (first | apply Kd.R_alloc | apply Kd.R_drewN | apply Kd.R_drew)); exact Kd.R_mono HO_26.out (fun _ hk => trivial)⟩, ⟨bA⟩⟩
      ·
       rw [if_neg c15] at H
       have c15b0 := decide_eq_false c15
       clear c15
       obtain rfl := Option.some.inj H
       go_wp2
       go_ret
       exact ⟨rA, bA⟩

/-! ### impl_nextStage: function 122 -/
def impl_nextStage.f (l0 : List (S85)) (a1 : Int) : Option (List Int) := if (l0.length : Int) = 0 then (none) else (if 0 ≤ (Int.tmod (wrap64 (a1 + 1)) (l0.length : Int)) then (if (Int.tmod (wrap64 (a1 + 1)) (l0.length : Int)) < (l0.length : Int) then (some ((rd_T85 l0 (Int.tmod (wrap64 (a1 + 1)) (l0.length : Int))).f0)) else (none)) else (none))
set_option maxHeartbeats 8000000 in
set_option maxRecDepth 100000 in
theorem impl_nextStage.calls (P0_ : Nat → Prop) (A0 : Option Addr) (c0 : Nat) (l0 : List (S85)) (a1 : Int) (r : List Int) (w : World) (hs0 : Kd.V k85 85 w w.heap.size (fun k_ => P0_ k_) (.slice A0 l0.length c0) l0) (h : impl_nextStage.f l0 a1 = some r) :
  Calls Try.prog 122 #[.slice A0 l0.length c0, .int .i64 a1] w fun e w' => ∃ v0_ : Value, e = .returned (v0_) ∧ Kd.V (Kd.int .i64) 3 w' w.heap.size (fun k_ => (P0_ k_ ∨ w.heap.size ≤ k_)) v0_ r ∧ Below w.heap.size w w' := by
 have HO0 := Aside0.mk (show Kd.V k85 85 w w.heap.size (fun k_ => (P0_ k_ ∨ w.heap.size ≤ k_)) (.slice A0 l0.length c0) l0 from Kd.V_mono hs0 (fun k_ hk => .inl hk))
 have HB := Aside0.mk (Below.refl w.heap.size w)
 have H : (if (l0.length : Int) = 0 then (none) else (if 0 ≤ (Int.tmod (wrap64 (a1 + 1)) (l0.length : Int)) then (if (Int.tmod (wrap64 (a1 + 1)) (l0.length : Int)) < (l0.length : Int) then (some ((rd_T85 l0 (Int.tmod (wrap64 (a1 + 1)) (l0.length : Int))).f0)) else (none)) else (none))) = some r := h
 clear h
 have c3 : ¬ ((l0.length : Int) = 0) := ifN' H
 replace H := ifT' H
 have c3b0 : ((l0.length : Int) == 0) = false := beq_eq_false_iff_ne.mpr c3
 have c3b1 : ((l0.length : Int) != 0) = true := bne_iff_ne.mpr c3
 have c3b2 : ¬ (l0 = []) := fun h_ => c3 (by rw [h_]; rfl)
 obtain ⟨ji4, hji4⟩ : ∃ j_ : Int, (Int.tmod (wrap64 (a1 + 1)) (l0.length : Int)) = j_ := ⟨_, rfl⟩
 replace H : (if 0 ≤ (ji4) then (if (ji4) < (l0.length : Int) then (some ((rd_T85 l0 (ji4)).f0)) else (none)) else (none)) = some r := by first | (rw [hji4] at H; exact H) | (simp only [hji4] at H ⊢; exact H)
 have c5 : 0 ≤ (ji4) := ifN H
 replace H := ifT H
 have c5b0 := decide_eq_true c5
 clear c5
 have c6 : (ji4) < (l0.length : Int) := ifN H
 replace H := ifT H
 have c6b0 := decide_eq_true c6
 clear c6
 obtain rfl := Option.some.inj H
 have p195 : 0 ≤ ((ji4) : Int) := dA
 have q195 : (ji4) < (l0.length : Int) := dA
 obtain ⟨ad195, A195_0, c195_0, e195, hx195_0, hx195_1, hl195_0, hi195_0⟩ := at_T85 (Kd.V_reads' HO0.out).2.2 (ji4) p195 q195
 cases e195
 obtain ⟨ce195, hce195, hMe195, hcc195⟩ := Kd.V_get HO0.out z85 (ji4) p195 (by first | exact q195 | exact dA | (have e_ := (Kd.V_reads' HO0.out).1; omega))
 obtain ⟨ua195_0, uc195_0, rfl, ul195_0, ge195_0⟩ := k85_openF hMe195
 have hv195_0 := hcc195 0 _ rfl
 rw [Nat.add_zero] at hv195_0
 replace hv195_0 := Option.some.inj (hv195_0.symm.trans hx195_0)
 injection hv195_0 with hva_ hvn_ hvc_
 rw [hva_] at ge195_0
 rw [hvc_] at ul195_0
 have HL195_0 := Aside0.mk (show Kd.V (Kd.int .i64) 3 _ w.heap.size _ _ ((rd_T85 l0 (ji4)).f0) from Kd.V_mk ul195_0 ge195_0)
 clear hva_ hvn_ hvc_ ge195_0 ul195_0
 clear hcc195 hce195
 have HR195_0 := Aside0.mk hi195_0
 have HC195_0 := Aside0.mk hl195_0
 clear hi195_0 hl195_0
 replace p195 := eq_true p195
 replace q195 := eq_true q195
 go_enter Try.func122, Try.ntmps122
 go_wp2
 go_ret
 exact ⟨_, by first | rfl | (simp [errW_none, errW_some] <;> rfl) | (simp only [← hji4]; first | rfl | (simp [errW_none, errW_some] <;> rfl)) | (simp [*, errW_none, errW_some] <;> rfl), by (with_reducible repeat (first | apply Kd.V_alloc | apply Kd.V_drewN | apply Kd.V_drew)); exact HL195_0.out, bA⟩

/-! ### impl_longOf: function 108 -/
def impl_longOf.f (k : Nat) (l0 : List (S50)) (l1 : List (S85)) (a2 : Int) : Option (Int) := if 0 ≤ a2 then (if a2 < (l1.length : Int) then ((impl_nextStage.f l1 a2).bind fun t198 => ((impl_ClearBetween.f k l0 ((rd_T85 l1 a2).f0) t198).bind fun t201 => (some (wrap64 (((rd_T85 l1 a2).f1) + t201))))) else (none)) else (none)
theorem impl_longOf.mono : ∀ a0 a1 a2 k, LeO (impl_longOf.f k a0 a1 a2) (impl_longOf.f (k + 1) a0 a1 a2) := by
 intro a0 a1 a2 k
 unfold impl_longOf.f
 repeat' first | (with_reducible first | exact LeO.refl _ | exact LeO.none _ | refine LeO.ite ?_ ?_ | refine LeO.bind ?_ (fun _ => ?_) | exact impl_ClearBetween.mono _ _ _ _)
def impl_longOf.T1 : Bool × List (List Nat × List Nat) := (true, [([], []), ([], []), ([0, 1], [0, 1]), ([2], [2]), ([3], [3]), ([], []), ([], []), ([], []), ([6, 7], [6, 7]), ([8], [8]), ([9], [9]), ([], []), ([], []), ([11, 12], [11, 12]), ([5, 10, 13, 13], [5, 10, 13]), ([4, 14], [4, 14]), ([15, 14, 0, 1, 2, 3, 4, 5, 6, 7, 8, 9, 10, 11, 12, 13, 14, 15], [15])])
def impl_longOf.B1 : List Nat := [0, 0, 3, 7, 15, 0, 0, 0, 192, 448, 960, 0, 0, 6144, 16352, 32767, 65535]
theorem impl_longOf.tab1 : rtab .any (opsOf Try.f108 1) = impl_longOf.T1 := by kernel_rfl
theorem impl_longOf.bits1 : waitsOk impl_longOf.T1.2 impl_longOf.B1 = true := by kernel_rfl
set_option maxHeartbeats 8000000 in
set_option maxRecDepth 100000 in
theorem impl_longOf.calls (k : Nat) (A0 : Option Addr) (c0 : Nat) (l0 : List (S50)) (A1 : Option Addr) (c1 : Nat) (l1 : List (S85)) (a2 : Int) (r : Int) (w : World) (hr0 : Kd.C k50 w A0 l0.length l0) (hc0 : l0.length ≤ c0) (hr1 : Kd.C k85 w A1 l1.length l1) (hc1 : l1.length ≤ c1) (h : impl_longOf.f k l0 l1 a2 = some r) :
  Calls Try.prog 108 #[.slice A0 l0.length c0, .slice A1 l1.length c1, .int .i64 a2] w fun e w' => e = .returned (.int .i64 r) ∧ Below w.heap.size w w' := by
 have HR0 := Aside0.mk hr0
 have HC0 := Aside0.mk hc0
 clear hr0 hc0
 have HR1 := Aside0.mk hr1
 have HC1 := Aside0.mk hc1
 clear hr1 hc1
 have HB := Aside0.mk (Below.refl w.heap.size w)
 have H : (if 0 ≤ a2 then (if a2 < (l1.length : Int) then ((impl_nextStage.f l1 a2).bind fun t198 => ((impl_ClearBetween.f k l0 ((rd_T85 l1 a2).f0) t198).bind fun t201 => (some (wrap64 (((rd_T85 l1 a2).f1) + t201))))) else (none)) else (none)) = some r := h
 clear h
 have c4 : 0 ≤ a2 := ifN H
 replace H := ifT H
 have c4b0 := decide_eq_true c4
 clear c4
 have c5 : a2 < (l1.length : Int) := ifN H
 replace H := ifT H
 have c5b0 := decide_eq_true c5
 clear c5
 obtain ⟨t198, A6, H⟩ := bindE H
 try dsimp only at H
 obtain ⟨t201, A7, H⟩ := bindE H
 try dsimp only at H
 obtain rfl := Option.some.inj H
 go_enter Try.func108, Try.ntmps108
 try go_wp2
 have HBo := HB
 replace HB := Aside0.mk (below_drew1 HB.out)
 have p196 : 0 ≤ (a2 : Int) := dA
 have q196 : a2 < (l1.length : Int) := dA
 obtain ⟨ad196, A196_0, c196_0, e196, hx196_0, hx196_1, hl196_0, hi196_0⟩ := at_T85 HR1.out a2 p196 q196
 have hw196_1 := hx196_1
 have hw196_0 := hx196_0
 cases e196
 replace hx196_0 := hC HB hx196_0
 replace hx196_1 := hC HB hx196_1
 have HR196_0 := Aside0.mk hi196_0
 have HC196_0 := Aside0.mk hl196_0
 clear hi196_0 hl196_0
 replace p196 := eq_true p196
 replace q196 := eq_true q196
 have p197 : 0 ≤ (a2 : Int) := dA
 have q197 : a2 < (l1.length : Int) := dA
 obtain ⟨ad197, A197_0, c197_0, e197, hx197_0, hx197_1, hl197_0, hi197_0⟩ := at_T85 HR1.out a2 p197 q197
 have hw197_1 := hx197_1
 have hw197_0 := hx197_0
 obtain rfl : ad196 = ad197 := (by injection e197)
 replace hx197_0 := hC HB hx197_0
 replace hx197_1 := hC HB hx197_1
 have HR197_0 := Aside0.mk hi197_0
 have HC197_0 := Aside0.mk hl197_0
 clear hi197_0 hl197_0
 replace p197 := eq_true p197
 replace q197 := eq_true q197
 have ea_ := Option.some.inj (hx196_0.symm.trans hx197_0)
 injection ea_ with ea_ en_ ec_
 subst ea_
 subst ec_
 clear en_
 refine start_ (n := 17) (S := fun w' => w'.cell? (ad196.add ((a2).toNat * 2)) = some (.slice A196_0 ((rd_T85 l1 a2).f0).length c196_0) ∧ w'.cell? ⟨(ad196.add ((a2).toNat * 2)).block, (ad196.add ((a2).toNat * 2)).off + 1, none⟩ = some (.int .i64 ((rd_T85 l1 a2).f1)) ∧ w'.cell? (ad196.add ((a2).toNat * 2)) = some (.slice A196_0 ((rd_T85 l1 a2).f0).length c196_0) ∧ w'.cell? ⟨(ad196.add ((a2).toNat * 2)).block, (ad196.add ((a2).toNat * 2)).off + 1, none⟩ = some (.int .i64 ((rd_T85 l1 a2).f1))) (ds := []) (mb 17 0) (by kernel_rfl) rfl rfl ⟨(hC HB hw196_0), (hC HB hw196_1), (hC HB hw197_0), (hC HB hw197_1)⟩ (fun hHeld => ?_); refine with_tabW impl_longOf.tab1 impl_longOf.bits1 (fun HT_ HW_ => ?_)
 generalize w.drew = w8 at HB HR196_0 HR197_0 hx196_0 hx196_1 hx197_0 hx197_1 hHeld ⊢
 refine pa 0 7 (mb 17 1) HT_ ?_
 refine pa 1 8 (mb 17 3) HT_ ?_
 refine pa 2 9 (mb 17 7) HT_ ?_
 refine pa 3 10 (mb 17 15) HT_ ?_
 refine pa 5 12 (mb 17 47) HT_ ?_
 refine pa 6 13 (mb 17 111) HT_ ?_
 refine pa 7 14 (mb 17 239) HT_ ?_
 refine pa 8 15 (mb 17 495) HT_ ?_
 refine pa 9 16 (mb 17 1007) HT_ ?_
 refine pa 11 18 (mb 17 3055) HT_ ?_
 refine pa 12 19 (mb 17 7151) HT_ ?_
 refine ta4 4 11 (mb 17 7167) HT_ HW_ hHeld ?_
 refine ta4 10 17 (mb 17 8191) HT_ HW_ hHeld ?_
 refine oa 13 20 (mb 17 16383) HT_ (fun K hK => ?_)
 refine gA Try.func122 #[.slice (some ad196) l1.length c1, .int .i64 a2] ?_
 with_reducible refine (impl_nextStage.calls (fun k_ => k_ < w.heap.size) _ _ l1 a2 t198 _ ?side1 A6.out).mono ?_
 (case side1 => exact Kd.V_mk HC1.out (Kd.F_below (Kd.C_F k85_heap HR1.out) bA))
 rintro e w9 ⟨v199, rfl, ho0, hb⟩
 refine ⟨_, rfl, ?_⟩
 have HO200 := Aside0.mk (Kd.V_lower (Kd.V_mono (ok' := fun k_ => True) ho0 (fun k_ hk_ => trivial)) (below_size bA))
 replace HB := Aside0.mk (below_step bA hb)
 (try clear hb)
 (try clear hb2)
 (try clear hk)
 (try clear hi)
 (try clear ho0)
 obtain ⟨Ao10, co10, eo10⟩ := Kd.V_slice HO200.out
 (first | subst eo10 | (injection eo10 with f1_ f2_ f3_; have f4_ := f1_.symm; have f5_ := f3_.symm; clear f1_ f2_ f3_; subst f4_; subst f5_))
 refine hK.out _ _ ⟨(hC HB hw196_0), (hC HB hw196_1), (hC HB hw197_0), (hC HB hw197_1)⟩ (fun hHeld => ?_)
 clear hK K
 refine nB ?_
 refine oa 14 21 (mb 17 32767) HT_ (fun K hK => ?_)
 refine gA Try.func99 #[.slice A0 l0.length c0, .slice A196_0 ((rd_T85 l1 a2).f0).length c196_0, .slice Ao10 t198.length co10] ?_
 with_reducible refine (impl_ClearBetween.calls k _ _ l0 _ _ ((rd_T85 l1 a2).f0) _ _ t198 t201 _ ?side1 ?side2 ?side3 ?side4 ?side5 ?side6 A7.out).mono ?_
 (case side1 => exact cB HR0)
 (case side2 => exact HC0.out)
 (case side3 => exact cB HR197_0)
 (case side4 => exact HC197_0.out)
 (case side5 => repeat (first | exact (Kd.V_reads' HO200.out).2.2 | (with_reducible refine Kd.C_alloc ?_ _) | (with_reducible refine Kd.C_drewN ?_ _) | (with_reducible refine Kd.C_drew ?_)))
 (case side6 => exact (Kd.V_reads' HO200.out).2.1)
 rintro e w11 ⟨rfl, hb⟩
 refine ⟨_, rfl, ?_⟩
 replace HO200 := Aside0.mk (Kd.V_below (by (with_reducible repeat (first | apply Kd.V_alloc | apply Kd.V_drewN | apply Kd.V_drew)); exact HO200.out) hb)
 replace HB := Aside0.mk (below_step bA hb)
 (try clear hb)
 (try clear hb2)
 (try clear hk)
 (try clear hi)
 refine hK.out _ _ ⟨(hC HB hw196_0), (hC HB hw196_1), (hC HB hw197_0), (hC HB hw197_1)⟩ (fun hHeld => ?_)
 clear hK K
 refine nB ?_
 refine pa 15 22 (mb 17 65535) HT_ ?_
 refine pa 16 6 (mb 17 131071) HT_ ?_
 refine eA HT_ ?_
 try go_wp2
 go_ret
 exact ⟨rA, bA⟩

/-! ### impl_Cycle: function 56 -/
def impl_Cycle.l0 : Nat → List (S50) → List (S85) → Int → Int → Int → Option (Int)
 | 0, _, _, _, _, _ => none
 | k + 1, x0, x1, x5, x12, x13 => if x13 < x12 then ((impl_longOf.f k x0 x1 x13).bind fun t203 => (impl_Cycle.l0 k x0 x1 (wrap64 (x5 + t203)) x12 (wrap64 (x13 + 1)))) else (some x5)
def impl_Cycle.f (k : Nat) (l0 : List (S50)) (l1 : List (S85)) : Option (Int) := (impl_IsPlan.f k l0 l1).bind fun t202 => (if t202 = true then (impl_Cycle.l0 k l0 l1 0 (l1.length : Int) 0) else (some 0))
theorem impl_Cycle.mono_l : ∀ k, (∀ y0 y1 y2 y3 y4, LeO (impl_Cycle.l0 k y0 y1 y2 y3 y4) (impl_Cycle.l0 (k + 1) y0 y1 y2 y3 y4))
 | 0 => fun _ _ _ _ _ r h => by simp [impl_Cycle.l0] at h
 | k + 1 => by
  have ih0 := impl_Cycle.mono_l k
  ·
   intro y0 y1 y2 y3 y4
   unfold impl_Cycle.l0
   repeat' first | (with_reducible first | exact LeO.refl _ | exact LeO.none _ | refine LeO.ite ?_ ?_ | refine LeO.bind ?_ (fun _ => ?_) | exact ih0 _ _ _ _ _ | exact impl_IsPlan.mono _ _ _ | exact impl_longOf.mono _ _ _ _)
theorem impl_Cycle.mono : ∀ a0 a1 k, LeO (impl_Cycle.f k a0 a1) (impl_Cycle.f (k + 1) a0 a1) := by
 intro a0 a1 k
 have ih0 := impl_Cycle.mono_l k
 unfold impl_Cycle.f
 repeat' first | (with_reducible first | exact LeO.refl _ | exact LeO.none _ | refine LeO.ite ?_ ?_ | refine LeO.bind ?_ (fun _ => ?_) | exact ih0 _ _ _ _ _ | exact impl_IsPlan.mono _ _ _ | exact impl_longOf.mono _ _ _ _)
set_option maxHeartbeats 8000000 in
set_option maxRecDepth 100000 in
theorem impl_Cycle.calls (k : Nat) (A0 : Option Addr) (c0 : Nat) (l0 : List (S50)) (A1 : Option Addr) (c1 : Nat) (l1 : List (S85)) (r : Int) (w : World) (hr0 : Kd.C k50 w A0 l0.length l0) (hc0 : l0.length ≤ c0) (hr1 : Kd.C k85 w A1 l1.length l1) (hc1 : l1.length ≤ c1) (h : impl_Cycle.f k l0 l1 = some r) :
  Calls Try.prog 56 #[.slice A0 l0.length c0, .slice A1 l1.length c1] w fun e w' => e = .returned (.int .i64 r) ∧ Below w.heap.size w w' := by
 have HR0 := Aside0.mk hr0
 have HC0 := Aside0.mk hc0
 clear hr0 hc0
 have HR1 := Aside0.mk hr1
 have HC1 := Aside0.mk hc1
 clear hr1 hc1
 have HB := Aside0.mk (Below.refl w.heap.size w)
 have H : ((impl_IsPlan.f k l0 l1).bind fun t202 => (if t202 = true then (impl_Cycle.l0 k l0 l1 0 (l1.length : Int) 0) else (some 0))) = some r := h
 clear h
 obtain ⟨t202, A3, H⟩ := bindE H
 try dsimp only at H
 by_cases c4 : t202 = true
 ·
  subst c4
  have H1 : (impl_Cycle.l0 k l0 l1 0 (l1.length : Int) 0) = some r := by rw [if_pos rfl] at H; exact H
  clear H
  have H := H1
  clear H1
  have H' := Aside0.mk H
  clear H
  go_enter Try.func56, Try.ntmps56
  go_wp2_with (first | ((with_reducible refine gate_callee (f := 15) rfl ?_); refine gL (some 9) Try.func15 #[.slice A0 l0.length c0, .slice A1 l1.length c1] ?_; (with_reducible refine (impl_IsPlan.calls k _ _ l0 (fun k_ => k_ < w.heap.size) _ _ l1 true _ ?side1 ?side2 ?side3 A3.out).mono ?_); (case side1 => exact cO HR0); (case side2 => exact HC0.out); (case side3 => exact Kd.V_mk HC1.out (Kd.F_below (Kd.C_F k85_heap HR1.out) bA)); rintro e w5 ⟨rfl, hb⟩; refine ⟨_, rfl, ?_⟩; replace HB := Aside0.mk (below_step bA hb); (try clear hb)))
  go_loopg [5, 13] k (fun kq v5 v13 w' => ∃ (x5_1 : Int) (x13_1 : Int), v5 = .int .i64 x5_1 ∧ v13 = .int .i64 x13_1 ∧ Aside0 (impl_Cycle.l0 kq l0 l1 x5_1 (l1.length : Int) x13_1 = some r) ∧ Aside0 (kq ≤ k) ∧ Aside0 (Below w.heap.size w w'))
  case atStart => exact ⟨(0), (0), rS, rS, H', ⟨Nat.le_refl _⟩, ⟨bA⟩⟩
  case round =>
   clear H'
   try clear c1
   try clear p2
   try clear c4
   try clear c5
   obtain ⟨x5_1, x13_1, rfl, rfl, HA, HK1, HB⟩ := hrel
   cases gk with
   | zero => exact absurd HA.out (by simp [impl_Cycle.l0])
   | succ k1 =>
    have H := HA.out
    clear HA
    simp only [impl_Cycle.l0] at H
    by_cases c6 : x13_1 < (l1.length : Int)
    ·
     rw [if_pos c6] at H
     have c6b0 := decide_eq_true c6
     clear c6
     obtain ⟨t203, A7, H⟩ := bindE H
     try dsimp only at H
     have H' := Aside0.mk H
     clear H
     go_wp2_with (first | ((with_reducible refine gate_callee (f := 108) rfl ?_); refine gL (some 20) Try.func108 #[.slice A0 l0.length c0, .slice A1 l1.length c1, .int .i64 x13_1] ?_; (with_reducible refine (impl_longOf.calls k1 _ _ l0 _ _ l1 x13_1 t203 _ ?side1 ?side2 ?side3 ?side4 A7.out).mono ?_); (case side1 => exact cB HR0); (case side2 => exact HC0.out); (case side3 => exact cB HR1); (case side4 => exact HC1.out); rintro e w8 ⟨rfl, hb⟩; refine ⟨_, rfl, ?_⟩; replace HB := Aside0.mk (below_step bA hb); (try clear hb)))
     go_roundg k1
     case measure => have := HK1.out; omega
     case rel => exact ⟨(wrap64 (x5_1 + t203)), (wrap64 (x13_1 + 1)), rS, rS, H', ⟨by have := HK1.out; omega⟩, ⟨bA⟩⟩
    ·
     rw [if_neg c6] at H
     have c6b0 := decide_eq_false c6
     clear c6
     obtain rfl := Option.some.inj H
     go_wp2
     go_ret
     exact ⟨rA, bA⟩
 ·
  replace c4 := Bool.eq_false_iff.mpr c4
  subst c4
  have H1 : (some 0) = some r := by rw [if_neg (show ¬ (false = true) by decide)] at H; exact H
  clear H
  have H := H1
  clear H1
  obtain rfl := Option.some.inj H
  go_enter Try.func56, Try.ntmps56
  go_wp2_with (first | ((with_reducible refine gate_callee (f := 15) rfl ?_); refine gL (some 9) Try.func15 #[.slice A0 l0.length c0, .slice A1 l1.length c1] ?_; (with_reducible refine (impl_IsPlan.calls k _ _ l0 (fun k_ => k_ < w.heap.size) _ _ l1 false _ ?side1 ?side2 ?side3 A3.out).mono ?_); (case side1 => exact cO HR0); (case side2 => exact HC0.out); (case side3 => exact Kd.V_mk HC1.out (Kd.F_below (Kd.C_F k85_heap HR1.out) bA)); rintro e w9 ⟨rfl, hb⟩; refine ⟨_, rfl, ?_⟩; replace HB := Aside0.mk (below_step bA hb); (try clear hb)))
  go_ret
  exact ⟨rA, bA⟩

/-! ### impl_PartAt: function 62 -/
mutual
def impl_PartAt.j0 : Nat → List (S50) → List (S85) → Int → Int → Bool → Option (Int × Int)
 | 0, _, _, _, _, _ => none
 | k + 1, x0, x1, x2, x8, x20 => if x20 = true then (some ((-1), 0)) else (if x8 = 0 then (none) else (impl_PartAt.l0 k x0 x1 (Int.tmod x2 x8) 0))
def impl_PartAt.l0 : Nat → List (S50) → List (S85) → Int → Int → Option (Int × Int)
 | 0, _, _, _, _ => none
 | k + 1, x0, x1, x9, x10 => (impl_longOf.f k x0 x1 x10).bind fun t206 => (if x9 ≥ t206 then ((impl_longOf.f k x0 x1 x10).bind fun t207 => (impl_PartAt.l0 k x0 x1 (wrap64 (x9 - t207)) (wrap64 (x10 + 1)))) else (some (x10, x9)))
end
def impl_PartAt.f (k : Nat) (l0 : List (S50)) (l1 : List (S85)) (a2 : Int) : Option (Int × Int) := (impl_Cycle.f k l0 l1).bind fun t204 => (if t204 = 0 then (impl_PartAt.j0 k l0 l1 a2 t204 true) else ((impl_InRange.f a2 0 1000000).bind fun t205 => (impl_PartAt.j0 k l0 l1 a2 t204 (!t205))))
theorem impl_PartAt.mono_l : ∀ k, (∀ y0 y1 y2 y3 y4, LeO (impl_PartAt.j0 k y0 y1 y2 y3 y4) (impl_PartAt.j0 (k + 1) y0 y1 y2 y3 y4)) ∧ (∀ y0 y1 y2 y3, LeO (impl_PartAt.l0 k y0 y1 y2 y3) (impl_PartAt.l0 (k + 1) y0 y1 y2 y3))
 | 0 => ⟨fun _ _ _ _ _ r h => by simp [impl_PartAt.j0] at h, fun _ _ _ _ r h => by simp [impl_PartAt.l0] at h⟩
 | k + 1 => by
  obtain ⟨ih0, ih1⟩ := impl_PartAt.mono_l k
  refine ⟨?_, ?_⟩
  ·
   intro y0 y1 y2 y3 y4
   unfold impl_PartAt.j0
   repeat' first | (with_reducible first | exact LeO.refl _ | exact LeO.none _ | refine LeO.ite ?_ ?_ | refine LeO.bind ?_ (fun _ => ?_) | exact ih0 _ _ _ _ _ | exact ih1 _ _ _ _ | exact impl_Cycle.mono _ _ _ | exact impl_longOf.mono _ _ _ _)
  ·
   intro y0 y1 y2 y3
   unfold impl_PartAt.l0
   repeat' first | (with_reducible first | exact LeO.refl _ | exact LeO.none _ | refine LeO.ite ?_ ?_ | refine LeO.bind ?_ (fun _ => ?_) | exact ih0 _ _ _ _ _ | exact ih1 _ _ _ _ | exact impl_Cycle.mono _ _ _ | exact impl_longOf.mono _ _ _ _)
theorem impl_PartAt.mono : ∀ a0 a1 a2 k, LeO (impl_PartAt.f k a0 a1 a2) (impl_PartAt.f (k + 1) a0 a1 a2) := by
 intro a0 a1 a2 k
 obtain ⟨ih0, ih1⟩ := impl_PartAt.mono_l k
 unfold impl_PartAt.f
 repeat' first | (with_reducible first | exact LeO.refl _ | exact LeO.none _ | refine LeO.ite ?_ ?_ | refine LeO.bind ?_ (fun _ => ?_) | exact ih0 _ _ _ _ _ | exact ih1 _ _ _ _ | exact impl_Cycle.mono _ _ _ | exact impl_longOf.mono _ _ _ _)
set_option maxHeartbeats 8000000 in
set_option maxRecDepth 100000 in
theorem impl_PartAt.calls (k : Nat) (A0 : Option Addr) (c0 : Nat) (l0 : List (S50)) (A1 : Option Addr) (c1 : Nat) (l1 : List (S85)) (a2 : Int) (r1 : Int) (r2 : Int) (w : World) (hr0 : Kd.C k50 w A0 l0.length l0) (hc0 : l0.length ≤ c0) (hr1 : Kd.C k85 w A1 l1.length l1) (hc1 : l1.length ≤ c1) (h : impl_PartAt.f k l0 l1 a2 = some (r1, r2)) :
  Calls Try.prog 62 #[.slice A0 l0.length c0, .slice A1 l1.length c1, .int .i64 a2] w fun e w' => e = .returned (.tuple #[.int .i64 r1, .int .i64 r2]) ∧ Below w.heap.size w w' := by
 have HR0 := Aside0.mk hr0
 have HC0 := Aside0.mk hc0
 clear hr0 hc0
 have HR1 := Aside0.mk hr1
 have HC1 := Aside0.mk hc1
 clear hr1 hc1
 have HB := Aside0.mk (Below.refl w.heap.size w)
 have H : ((impl_Cycle.f k l0 l1).bind fun t204 => (if t204 = 0 then (impl_PartAt.j0 k l0 l1 a2 t204 true) else ((impl_InRange.f a2 0 1000000).bind fun t205 => (impl_PartAt.j0 k l0 l1 a2 t204 (!t205))))) = some (r1, r2) := h
 clear h
 obtain ⟨t204, A4, H⟩ := bindE H
 try dsimp only at H
 have HC5 := Aside0.mk H
 clear H
 go_enter Try.func62, Try.ntmps62
 go_upto_region 2 with (first | ((with_reducible refine gate_callee (f := 56) rfl ?_); refine gL (some 13) Try.func56 #[.slice A0 l0.length c0, .slice A1 l1.length c1] ?_; (with_reducible refine (impl_Cycle.calls k _ _ l0 _ _ l1 t204 _ ?side1 ?side2 ?side3 ?side4 A4.out).mono ?_); (case side1 => exact cO HR0); (case side2 => exact HC0.out); (case side3 => exact cO HR1); (case side4 => exact HC1.out); rintro e w6 ⟨rfl, hb⟩; refine ⟨_, rfl, ?_⟩; replace HB := Aside0.mk (below_step bA hb); (try clear hb)))
 (try simp only [Act.put, List.setIfInBounds_toArray, List.set_cons_zero, List.set_cons_succ])
 go_cut [20] (fun v20 wc => ∃ (kq : Nat) (x20_4 : Bool), v20 = .bool x20_4 ∧ Aside0 (impl_PartAt.j0 kq l0 l1 a2 t204 x20_4 = some (r1, r2)) ∧ Aside0 (kq ≤ k) ∧ Aside0 (Below w.heap.size w wc))
 case first =>
  have H := HC5.out
  clear HC5
  by_cases c7 : t204 = 0
  ·
   rw [if_pos c7] at H
   have c7b0 : (t204 == 0) = true := beq_iff_eq.mpr c7
   have c7b1 : (t204 != 0) = false := bne_eq_false_iff_eq.mpr c7
   clear c7
   (first | rw [c7b0] | (simp only [i64_w, i32_w]; rw [c7b0]) | skip)
   have H' := Aside0.mk H
   clear H
   go_wp2
   go_meet
   case rel => exact ⟨_, (true), rS, H', ⟨by first | omega | exact Nat.le_refl _⟩, ⟨bA⟩⟩
  ·
   rw [if_neg c7] at H
   have c7b0 : (t204 == 0) = false := beq_eq_false_iff_ne.mpr c7
   have c7b1 : (t204 != 0) = true := bne_iff_ne.mpr c7
   (first | rw [c7b0] | (simp only [i64_w, i32_w]; rw [c7b0]) | skip)
   obtain ⟨t205, A8, H⟩ := bindE H
   try dsimp only at H
   have H' := Aside0.mk H
   clear H
   go_wp2_with (first | (go_at_call 75; (with_reducible refine (impl_InRange.calls a2 0 1000000 t205 _ A8.out).mono ?_); rintro e w' ⟨rfl, ⟨nd, rfl⟩⟩))
   go_meet
   case rel => exact ⟨_, (!t205), rS, H', ⟨by first | omega | exact Nat.le_refl _⟩, ⟨bA⟩⟩
 case rest =>
  clear HC5
  try clear c1
  try clear p2
  try clear c5
  try clear c6
  try clear c7
  try clear c7b0
  try clear c7b1
  obtain ⟨kq, x20_4, rfl, HA, HJ4, HB⟩ := hcut
  cases kq with
  | zero => exact absurd HA.out (by simp [impl_PartAt.j0])
  | succ kj4 =>
   have H := HA.out
   clear HA
   simp only [impl_PartAt.j0] at H
   by_cases c9 : x20_4 = true
   ·
    subst c9
    have H1 : (some ((-1), 0)) = some (r1, r2) := by rw [if_pos rfl] at H; exact H
    clear H
    have H := H1
    clear H1
    simp only [Option.some.injEq, Prod.mk.injEq] at H
    obtain ⟨rfl, rfl⟩ := H
    go_wp2
    go_ret2
    exact ⟨rA, bA⟩
   ·
    replace c9 := Bool.eq_false_iff.mpr c9
    subst c9
    have H1 : (if t204 = 0 then (none) else (impl_PartAt.l0 kj4 l0 l1 (Int.tmod a2 t204) 0)) = some (r1, r2) := by rw [if_neg (show ¬ (false = true) by decide)] at H; exact H
    clear H
    have H := H1
    clear H1
    have c10 : ¬ (t204 = 0) := ifN' H
    replace H := ifT' H
    have c10b0 : (t204 == 0) = false := beq_eq_false_iff_ne.mpr c10
    have c10b1 : (t204 != 0) = true := bne_iff_ne.mpr c10
    have H' := Aside0.mk H
    clear H
    go_wp2
    go_loopg [9, 10] kj4 (fun kq v9 v10 w' => ∃ (x9_2 : Int) (x10_2 : Int), v9 = .int .i64 x9_2 ∧ v10 = .int .i64 x10_2 ∧ Aside0 (impl_PartAt.l0 kq l0 l1 x9_2 x10_2 = some (r1, r2)) ∧ Aside0 (kq ≤ kj4) ∧ Aside0 (Below w.heap.size w w'))
    case atStart => exact ⟨(Int.tmod a2 t204), (0), rS, rS, H', ⟨Nat.le_refl _⟩, ⟨bA⟩⟩
    case round =>
     clear H'
     try clear c1
     try clear p2
     try clear c5
     try clear c6
     try clear c7
     try clear c7b0
     try clear c7b1
     try clear c9
     try clear c10
     try clear c10b0
     try clear c10b1
     try clear p2
     obtain ⟨x9_2, x10_2, rfl, rfl, HA, HK2, HB⟩ := hrel
     cases gk with
     | zero => exact absurd HA.out (by simp [impl_PartAt.l0])
     | succ k2 =>
      have H := HA.out
      clear HA
      simp only [impl_PartAt.l0] at H
      obtain ⟨t206, A11, H⟩ := bindE H
      try dsimp only at H
      by_cases c12 : x9_2 ≥ t206
      ·
       rw [if_pos c12] at H
       have c12b0 := decide_eq_true c12
       clear c12
       obtain ⟨t207, A13, H⟩ := bindE H
       try dsimp only at H
       have H' := Aside0.mk H
       clear H
       go_wp2_with (first | ((with_reducible refine gate_callee (f := 108) rfl ?_); refine gL (some 28) Try.func108 #[.slice A0 l0.length c0, .slice A1 l1.length c1, .int .i64 x10_2] ?_; (with_reducible refine (impl_longOf.calls k2 _ _ l0 _ _ l1 x10_2 t206 _ ?side1 ?side2 ?side3 ?side4 A11.out).mono ?_); (case side1 => exact cB HR0); (case side2 => exact HC0.out); (case side3 => exact cB HR1); (case side4 => exact HC1.out); rintro e w14 ⟨rfl, hb⟩; refine ⟨_, rfl, ?_⟩; replace HB := Aside0.mk (below_step bA hb); (try clear hb)) | ((with_reducible refine gate_callee (f := 108) rfl ?_); refine gL (some 34) Try.func108 #[.slice A0 l0.length c0, .slice A1 l1.length c1, .int .i64 x10_2] ?_; (with_reducible refine (impl_longOf.calls k2 _ _ l0 _ _ l1 x10_2 t207 _ ?side1 ?side2 ?side3 ?side4 A13.out).mono ?_); (case side1 => exact cB HR0); (case side2 => exact HC0.out); (case side3 => exact cB HR1); (case side4 => exact HC1.out); rintro e w15 ⟨rfl, hb⟩; refine ⟨_, rfl, ?_⟩; replace HB := Aside0.mk (below_step bA hb); (try clear hb)))
       go_roundg k2
       case measure => have := HJ4.out; have := HK2.out; omega
       case rel => exact ⟨(wrap64 (x9_2 - t207)), (wrap64 (x10_2 + 1)), rS, rS, H', ⟨by have := HJ4.out; have := HK2.out; omega⟩, ⟨bA⟩⟩
      ·
       rw [if_neg c12] at H
       have c12b0 := decide_eq_false c12
       clear c12
       simp only [Option.some.injEq, Prod.mk.injEq] at H
       obtain ⟨rfl, rfl⟩ := H
       go_wp2_with (first | ((with_reducible refine gate_callee (f := 108) rfl ?_); refine gL (some 28) Try.func108 #[.slice A0 l0.length c0, .slice A1 l1.length c1, .int .i64 x10_2] ?_; (with_reducible refine (impl_longOf.calls k2 _ _ l0 _ _ l1 x10_2 t206 _ ?side1 ?side2 ?side3 ?side4 A11.out).mono ?_); (case side1 => exact cB HR0); (case side2 => exact HC0.out); (case side3 => exact cB HR1); (case side4 => exact HC1.out); rintro e w16 ⟨rfl, hb⟩; refine ⟨_, rfl, ?_⟩; replace HB := Aside0.mk (below_step bA hb); (try clear hb)))
       go_ret2
       exact ⟨rA, bA⟩

/-! ### impl_shown: function 76 -/
mutual
def impl_shown.j0 : Nat → List (S85) → Int → Int → Bool → Int → Int → Int → Int → Option (Int)
 | 0, _, _, _, _, _, _, _, _ => none
 | k + 1, x1, x9, x10, x30, x209000, x209001, x209002, x209003 => if x30 = true then (some 0) else (if 0 ≤ x9 then (if x9 < (x1.length : Int) then (if x10 < ((rd_T85 x1 x9).f1) then (impl_shown.j1 k x1 x9 x10 true x209000 x209001 x209002 x209003) else ((impl_nextStage.f x1 x9).bind fun t214 => ((slices_Contains_int_int.f k t214 x209000).bind fun t217 => (impl_shown.j1 k x1 x9 x10 t217 x209000 x209001 x209002 x209003)))) else (none)) else (none))
def impl_shown.j1 : Nat → List (S85) → Int → Int → Bool → Int → Int → Int → Int → Option (Int)
 | 0, _, _, _, _, _, _, _, _ => none
 | k + 1, x1, x9, x10, x31, x209000, x209001, x209002, x209003 => if x31 = true then (some 1) else (if 0 ≤ x9 then (if x9 < (x1.length : Int) then ((impl_ClearOf.f x209000 x209001 x209002 x209003).bind fun t219 => (if x10 < (wrap64 (((rd_T85 x1 x9).f1) + t219)) then (some 2) else (some 0))) else (none)) else (none))
end
def impl_shown.f (k : Nat) (l0 : List (S50)) (l1 : List (S85)) (a2 : Int) (a3_0 : Int) (a3_1 : Int) (a3_2 : Int) (a3_3 : Int) : Option (Int) := (impl_PartAt.f k l0 l1 a2).bind fun bt209 => (if bt209.1 < 0 then (impl_shown.j0 k l1 bt209.1 bt209.2 true a3_0 a3_1 a3_2 a3_3) else (if 0 ≤ bt209.1 then (if bt209.1 < (l1.length : Int) then ((slices_Contains_int_int.f k ((rd_T85 l1 bt209.1).f0) a3_0).bind fun t212 => (impl_shown.j0 k l1 bt209.1 bt209.2 (!t212) a3_0 a3_1 a3_2 a3_3)) else (none)) else (none)))
theorem impl_shown.mono_l : ∀ k, (∀ y0 y1 y2 y3 y4 y5 y6 y7, LeO (impl_shown.j0 k y0 y1 y2 y3 y4 y5 y6 y7) (impl_shown.j0 (k + 1) y0 y1 y2 y3 y4 y5 y6 y7)) ∧ (∀ y0 y1 y2 y3 y4 y5 y6 y7, LeO (impl_shown.j1 k y0 y1 y2 y3 y4 y5 y6 y7) (impl_shown.j1 (k + 1) y0 y1 y2 y3 y4 y5 y6 y7))
 | 0 => ⟨fun _ _ _ _ _ _ _ _ r h => by simp [impl_shown.j0] at h, fun _ _ _ _ _ _ _ _ r h => by simp [impl_shown.j1] at h⟩
 | k + 1 => by
  obtain ⟨ih0, ih1⟩ := impl_shown.mono_l k
  refine ⟨?_, ?_⟩
  ·
   intro y0 y1 y2 y3 y4 y5 y6 y7
   unfold impl_shown.j0
   repeat' first | (with_reducible first | exact LeO.refl _ | exact LeO.none _ | refine LeO.ite ?_ ?_ | refine LeO.bind ?_ (fun _ => ?_) | exact ih0 _ _ _ _ _ _ _ _ | exact ih1 _ _ _ _ _ _ _ _ | exact impl_PartAt.mono _ _ _ _ | exact slices_Contains_int_int.mono _ _ _)
  ·
   intro y0 y1 y2 y3 y4 y5 y6 y7
   unfold impl_shown.j1
   repeat' first | (with_reducible first | exact LeO.refl _ | exact LeO.none _ | refine LeO.ite ?_ ?_ | refine LeO.bind ?_ (fun _ => ?_) | exact ih0 _ _ _ _ _ _ _ _ | exact ih1 _ _ _ _ _ _ _ _ | exact impl_PartAt.mono _ _ _ _ | exact slices_Contains_int_int.mono _ _ _)
theorem impl_shown.mono : ∀ a0 a1 a2 a3 a4 a5 a6 k, LeO (impl_shown.f k a0 a1 a2 a3 a4 a5 a6) (impl_shown.f (k + 1) a0 a1 a2 a3 a4 a5 a6) := by
 intro a0 a1 a2 a3 a4 a5 a6 k
 obtain ⟨ih0, ih1⟩ := impl_shown.mono_l k
 unfold impl_shown.f
 repeat' first | (with_reducible first | exact LeO.refl _ | exact LeO.none _ | refine LeO.ite ?_ ?_ | refine LeO.bind ?_ (fun _ => ?_) | exact ih0 _ _ _ _ _ _ _ _ | exact ih1 _ _ _ _ _ _ _ _ | exact impl_PartAt.mono _ _ _ _ | exact slices_Contains_int_int.mono _ _ _)
def impl_shown.T2 : Bool × List (List Nat × List Nat) := (true, [([], []), ([0], [0]), ([1], [1]), ([2], [2]), ([2], [2]), ([3, 4, 2], [2, 3, 4]), ([5, 2], [2, 5]), ([6, 2], [2, 6]), ([2], [2]), ([8, 2], [2, 8]), ([7, 9, 2, 2], [2, 7, 9]), ([10, 2], [2, 10]), ([2, 11], [2, 11])])
def impl_shown.B2 : List Nat := [0, 1, 3, 7, 7, 31, 63, 127, 7, 263, 1023, 2047, 4095]
theorem impl_shown.tab2 : rtab .any (opsOf Try.f76 2) = impl_shown.T2 := by kernel_rfl
theorem impl_shown.bits2 : waitsOk impl_shown.T2.2 impl_shown.B2 = true := by kernel_rfl
def impl_shown.T4 : Bool × List (List Nat × List Nat) := (true, [([], []), ([], []), ([], []), ([1, 2], [1, 2]), ([3], [3]), ([4], [4]), ([0, 5], [0, 5]), ([6], [6]), ([7], [7]), ([7], [7]), ([8, 9, 7, 7], [7, 8, 9]), ([7], [7]), ([11, 7], [7, 11]), ([10, 12, 10, 7], [7, 10, 12]), ([7, 13], [7, 13]), ([14, 13], [14])])
def impl_shown.B4 : List Nat := [0, 0, 0, 6, 14, 30, 63, 127, 255, 255, 1023, 255, 2303, 8191, 16383, 32767]
theorem impl_shown.tab4 : rtab .any (opsOf Try.f76 4) = impl_shown.T4 := by kernel_rfl
theorem impl_shown.bits4 : waitsOk impl_shown.T4.2 impl_shown.B4 = true := by kernel_rfl
def impl_shown.T6 : Bool × List (List Nat × List Nat) := (true, [([], []), ([], []), ([], []), ([1, 2], [1, 2]), ([3], [3]), ([4], [4]), ([], []), ([6], [6]), ([5, 7], [5, 7]), ([0, 8], [0, 8]), ([9, 7], [9])])
def impl_shown.B6 : List Nat := [0, 0, 0, 6, 14, 30, 0, 64, 254, 511, 1023]
theorem impl_shown.tab6 : rtab .any (opsOf Try.f76 6) = impl_shown.T6 := by kernel_rfl
theorem impl_shown.bits6 : waitsOk impl_shown.T6.2 impl_shown.B6 = true := by kernel_rfl
set_option maxHeartbeats 8000000 in
set_option maxRecDepth 100000 in
theorem impl_shown.calls (k : Nat) (A0 : Option Addr) (c0 : Nat) (l0 : List (S50)) (A1 : Option Addr) (c1 : Nat) (l1 : List (S85)) (a2 : Int) (a3_0 : Int) (a3_1 : Int) (a3_2 : Int) (a3_3 : Int) (r : Int) (w : World) (hr0 : Kd.C k50 w A0 l0.length l0) (hc0 : l0.length ≤ c0) (hr1 : Kd.C k85 w A1 l1.length l1) (hc1 : l1.length ≤ c1) (h : impl_shown.f k l0 l1 a2 a3_0 a3_1 a3_2 a3_3 = some r) :
  Calls Try.prog 76 #[.slice A0 l0.length c0, .slice A1 l1.length c1, .int .i64 a2, .agg #[.int .i64 a3_0, .int .i64 a3_1, .int .i64 a3_2, .int .i64 a3_3]] w fun e w' => e = .returned (.int .i64 r) ∧ Below w.heap.size w w' := by
 have hu50 := Try.underlying50
 have HR0 := Aside0.mk hr0
 have HC0 := Aside0.mk hc0
 clear hr0 hc0
 have HR1 := Aside0.mk hr1
 have HC1 := Aside0.mk hc1
 clear hr1 hc1
 have HB := Aside0.mk (Below.refl w.heap.size w)
 have H : ((impl_PartAt.f k l0 l1 a2).bind fun bt209 => (if bt209.1 < 0 then (impl_shown.j0 k l1 bt209.1 bt209.2 true a3_0 a3_1 a3_2 a3_3) else (if 0 ≤ bt209.1 then (if bt209.1 < (l1.length : Int) then ((slices_Contains_int_int.f k ((rd_T85 l1 bt209.1).f0) a3_0).bind fun t212 => (impl_shown.j0 k l1 bt209.1 bt209.2 (!t212) a3_0 a3_1 a3_2 a3_3)) else (none)) else (none)))) = some r := h
 clear h
 obtain ⟨⟨t209, t210⟩, A5, H⟩ := bindE H
 try dsimp only at H
 have HC6 := Aside0.mk H
 clear H
 go_enter Try.func76, Try.ntmps76
 go_upto_region 2 with (first | ((with_reducible refine gate_dst (N := 7) rfl ?_); refine bE (N := 7) (cs := #[.int .i64 a3_0, .int .i64 a3_1, .int .i64 a3_2, .int .i64 a3_3]) (t := 50) ?_; intro gb208 hg w7 hbox hb; have n0_ := Aside0.mk (below_step bA hb); have n1_ := Aside0.mk (hbox); have n2_ := Aside0.mk ((by rw [hg]; exact (below_size bA) : w.heap.size ≤ gb208)); have n3_ := Aside0.mk ((by rw [hg]; exact (below_size bA) : w.heap.size ≤ gb208)); clear HB; have HB := n0_; have BK208 := n1_; have GW208 := n2_; have GE208 := n3_; clear n0_ n1_ n2_ n3_; clear hb hbox hg) | ((with_reducible refine gate_callee (f := 62) rfl ?_); refine gL (some 15) Try.func62 #[.slice A0 l0.length c0, .slice A1 l1.length c1, .int .i64 a2] ?_; (with_reducible refine (impl_PartAt.calls k _ _ l0 _ _ l1 a2 t209 t210 _ ?side1 ?side2 ?side3 ?side4 A5.out).mono ?_); (case side1 => exact cB HR0); (case side2 => exact HC0.out); (case side3 => exact cB HR1); (case side4 => exact HC1.out); rintro e w8 ⟨rfl, hb⟩; refine ⟨_, rfl, ?_⟩; replace BK208 := Aside0.mk (blk_below (g := gb208) (bK BK208) hb); replace HB := Aside0.mk (below_step bG hb); (try clear hb)))
 (try simp only [Act.put, List.setIfInBounds_toArray, List.set_cons_zero, List.set_cons_succ])
 go_cut [30] (fun v30 wc => ∃ (kq : Nat) (x30_5 : Bool), v30 = .bool x30_5 ∧ Aside0 (impl_shown.j0 kq l1 t209 t210 x30_5 a3_0 a3_1 a3_2 a3_3 = some r) ∧ Aside0 (kq ≤ k) ∧ Aside0 (wc.heap[gb208]? = some (.cells #[.int .i64 a3_0, .int .i64 a3_1, .int .i64 a3_2, .int .i64 a3_3] 50 (0, 0))) ∧ Aside0 (Below w.heap.size w wc))
 case first =>
  have H := HC6.out
  clear HC6
  by_cases c9 : t209 < 0
  ·
   rw [if_pos c9] at H
   have c9b0 := decide_eq_true c9
   clear c9
   (first | rw [c9b0] | (simp only [i64_w, i32_w]; rw [c9b0]) | skip)
   have H' := Aside0.mk H
   clear H
   try go_wp2
   replace BK208 := Aside0.mk (blk_drew BK208.out)
   have HBo := HB
   replace HB := Aside0.mk (below_drew1 HB.out)
   refine start_ (n := 13) (S := fun w' => True) (ds := []) (mb 13 0) (by kernel_rfl) rfl rfl trivial (fun hHeld => ?_); refine with_tabW impl_shown.tab2 impl_shown.bits2 (fun HT_ HW_ => ?_)
   generalize w8.drew = w10 at BK208 HB hHeld ⊢
   refine pa 0 18 (mb 13 1) HT_ ?_
   refine pa 1 19 (mb 13 3) HT_ ?_
   refine pa 2 20 (mb 13 7) HT_ ?_
   refine pu 3 21 (mb 13 15) HT_ ?_
   refine pu 4 22 (mb 13 31) HT_ ?_
   refine pu 5 23 (mb 13 63) HT_ ?_
   refine pu 6 24 (mb 13 127) HT_ ?_
   refine pu 7 25 (mb 13 255) HT_ ?_
   refine pu 8 26 (mb 13 511) HT_ ?_
   refine pu 9 27 (mb 13 1023) HT_ ?_
   refine pu 10 28 (mb 13 2047) HT_ ?_
   refine pu 11 29 (mb 13 4095) HT_ ?_
   refine pa 12 30 (mb 13 8191) HT_ ?_
   refine eA HT_ ?_
   try go_wp2
   go_meet
   case rel => exact ⟨_, (true), rS, H', ⟨by first | omega | exact Nat.le_refl _⟩, ⟨bK BK208⟩, ⟨bG⟩⟩
  ·
   rw [if_neg c9] at H
   have c9b0 := decide_eq_false c9
   clear c9
   (first | rw [c9b0] | (simp only [i64_w, i32_w]; rw [c9b0]) | skip)
   have c11 : 0 ≤ t209 := ifN H
   replace H := ifT H
   have c11b0 := decide_eq_true c11
   clear c11
   have c12 : t209 < (l1.length : Int) := ifN H
   replace H := ifT H
   have c12b0 := decide_eq_true c12
   clear c12
   obtain ⟨t212, A13, H⟩ := bindE H
   try dsimp only at H
   have H' := Aside0.mk H
   clear H
   try go_wp2
   replace BK208 := Aside0.mk (blk_drew BK208.out)
   have HBo := HB
   replace HB := Aside0.mk (below_drew1 HB.out)
   have p211 : 0 ≤ (t209 : Int) := dA
   have q211 : t209 < (l1.length : Int) := dA
   obtain ⟨ad211, A211_0, c211_0, e211, hx211_0, hx211_1, hl211_0, hi211_0⟩ := at_T85 HR1.out t209 p211 q211
   have hw211_1 := hx211_1
   have hw211_0 := hx211_0
   cases e211
   replace hx211_0 := hC HB hx211_0
   replace hx211_1 := hC HB hx211_1
   have HR211_0 := Aside0.mk hi211_0
   have HC211_0 := Aside0.mk hl211_0
   clear hi211_0 hl211_0
   replace p211 := eq_true p211
   replace q211 := eq_true q211
   refine start_ (n := 13) (S := fun w' => w'.cell? ⟨gb208, 0, none⟩ = some (.int .i64 a3_0) ∧ w'.cell? ⟨gb208, 1, none⟩ = some (.int .i64 a3_1) ∧ w'.cell? ⟨gb208, 2, none⟩ = some (.int .i64 a3_2) ∧ w'.cell? ⟨gb208, 3, none⟩ = some (.int .i64 a3_3) ∧ w'.cell? (ad211.add ((t209).toNat * 2)) = some (.slice A211_0 ((rd_T85 l1 t209).f0).length c211_0) ∧ w'.cell? ⟨(ad211.add ((t209).toNat * 2)).block, (ad211.add ((t209).toNat * 2)).off + 1, none⟩ = some (.int .i64 ((rd_T85 l1 t209).f1))) (ds := []) (mb 13 0) (by kernel_rfl) rfl rfl ⟨bC BK208 0, bC BK208 1, bC BK208 2, bC BK208 3, (hC HB hw211_0), (hC HB hw211_1)⟩ (fun hHeld => ?_); refine with_tabW impl_shown.tab2 impl_shown.bits2 (fun HT_ HW_ => ?_)
   generalize w8.drew = w14 at BK208 HB HR211_0 hx211_0 hx211_1 hHeld ⊢
   refine pa 0 18 (mb 13 1) HT_ ?_
   refine pa 1 19 (mb 13 3) HT_ ?_
   refine pa 2 20 (mb 13 7) HT_ ?_
   refine pa 3 21 (mb 13 15) HT_ ?_
   refine pa 4 22 (mb 13 31) HT_ ?_
   refine pa 5 23 (mb 13 63) HT_ ?_
   refine pa 6 24 (mb 13 127) HT_ ?_
   refine pa 8 26 (mb 13 383) HT_ ?_
   refine ta6 7 25 (mb 13 511) HT_ HW_ hHeld ?_
   refine ta6 9 27 (mb 13 1023) HT_ HW_ hHeld ?_
   refine oa 10 28 (mb 13 2047) HT_ (fun K hK => ?_)
   refine gA Try.func102 #[.slice A211_0 ((rd_T85 l1 t209).f0).length c211_0, .int .i64 a3_0] ?_
   with_reducible refine (slices_Contains_int_int.calls k _ _ ((rd_T85 l1 t209).f0) a3_0 t212 _ ?side1 ?side2 A13.out).mono ?_
   (case side1 => exact cB HR211_0)
   (case side2 => exact HC211_0.out)
   rintro e w' ⟨rfl, ⟨nd, rfl⟩⟩
   refine ⟨_, rfl, ?_⟩
   refine hK.out _ _ ⟨bC BK208 0, bC BK208 1, bC BK208 2, bC BK208 3, (hC HB hw211_0), (hC HB hw211_1)⟩ (fun hHeld => ?_)
   clear hK K
   refine nB ?_
   refine pa 11 29 (mb 13 4095) HT_ ?_
   refine pa 12 30 (mb 13 8191) HT_ ?_
   refine eA HT_ ?_
   try go_wp2
   go_meet
   case rel => exact ⟨_, (!t212), rS, H', ⟨by first | omega | exact Nat.le_refl _⟩, ⟨bK BK208⟩, ⟨bG⟩⟩
 case rest =>
  clear HC6
  try clear c1
  try clear c2
  try clear p2
  try clear q2
  try clear hx2
  try clear c6
  try clear c7
  try clear c9
  try clear c9b0
  try clear c10
  try clear c11
  try clear c11b0
  try clear c12
  try clear c12b0
  try clear hx211_0
  try clear hx211_1
  try clear p211
  try clear q211
  obtain ⟨kq, x30_5, rfl, HA, HJ5, BK208, HB⟩ := hcut
  cases kq with
  | zero => exact absurd HA.out (by simp [impl_shown.j0])
  | succ kj5 =>
   have H := HA.out
   clear HA
   simp only [impl_shown.j0] at H
   by_cases c15 : x30_5 = true
   ·
    subst c15
    have H1 : (some 0) = some r := by rw [if_pos rfl] at H; exact H
    clear H
    have H := H1
    clear H1
    obtain rfl := Option.some.inj H
    go_wp2
    go_ret
    exact ⟨rA, bG⟩
   ·
    replace c15 := Bool.eq_false_iff.mpr c15
    subst c15
    have H1 : (if 0 ≤ t209 then (if t209 < (l1.length : Int) then (if t210 < ((rd_T85 l1 t209).f1) then (impl_shown.j1 kj5 l1 t209 t210 true a3_0 a3_1 a3_2 a3_3) else ((impl_nextStage.f l1 t209).bind fun t214 => ((slices_Contains_int_int.f kj5 t214 a3_0).bind fun t217 => (impl_shown.j1 kj5 l1 t209 t210 t217 a3_0 a3_1 a3_2 a3_3)))) else (none)) else (none)) = some r := by rw [if_neg (show ¬ (false = true) by decide)] at H; exact H
    clear H
    have H := H1
    clear H1
    have HC16 := Aside0.mk H
    clear H
    go_upto_region 4 with (fail)
    go_cut [31] (fun v31 wc => ∃ (kq : Nat) (x31_15 : Bool), v31 = .bool x31_15 ∧ Aside0 (impl_shown.j1 kq l1 t209 t210 x31_15 a3_0 a3_1 a3_2 a3_3 = some r) ∧ Aside0 (kq ≤ kj5) ∧ Aside0 (wc.heap[gb208]? = some (.cells #[.int .i64 a3_0, .int .i64 a3_1, .int .i64 a3_2, .int .i64 a3_3] 50 (0, 0))) ∧ Aside0 (Below w.heap.size w wc))
    case first =>
     have H := HC16.out
     clear HC16
     have c17 : 0 ≤ t209 := ifN H
     replace H := ifT H
     have c17b0 := decide_eq_true c17
     clear c17
     (first | rw [c17b0] | (simp only [i64_w, i32_w]; rw [c17b0]) | skip)
     have c18 : t209 < (l1.length : Int) := ifN H
     replace H := ifT H
     have c18b0 := decide_eq_true c18
     clear c18
     by_cases c19 : t210 < ((rd_T85 l1 t209).f1)
     ·
      rw [if_pos c19] at H
      have c19b0 := decide_eq_true c19
      clear c19
      have H' := Aside0.mk H
      clear H
      try go_wp2
      replace BK208 := Aside0.mk (blk_drew BK208.out)
      have HBo := HB
      replace HB := Aside0.mk (below_drew1 HB.out)
      have p213 : 0 ≤ (t209 : Int) := dA
      have q213 : t209 < (l1.length : Int) := dA
      obtain ⟨ad213, A213_0, c213_0, e213, hx213_0, hx213_1, hl213_0, hi213_0⟩ := at_T85 HR1.out t209 p213 q213
      have hw213_1 := hx213_1
      have hw213_0 := hx213_0
      cases e213
      replace hx213_0 := hC HB hx213_0
      replace hx213_1 := hC HB hx213_1
      have HR213_0 := Aside0.mk hi213_0
      have HC213_0 := Aside0.mk hl213_0
      clear hi213_0 hl213_0
      replace p213 := eq_true p213
      replace q213 := eq_true q213
      refine start_ (n := 16) (S := fun w' => w'.cell? (ad213.add ((t209).toNat * 2)) = some (.slice A213_0 ((rd_T85 l1 t209).f0).length c213_0) ∧ w'.cell? ⟨(ad213.add ((t209).toNat * 2)).block, (ad213.add ((t209).toNat * 2)).off + 1, none⟩ = some (.int .i64 ((rd_T85 l1 t209).f1))) (ds := []) (mb 16 0) (by kernel_rfl) rfl rfl ⟨(hC HB hw213_0), (hC HB hw213_1)⟩ (fun hHeld => ?_); refine with_tabW impl_shown.tab4 impl_shown.bits4 (fun HT_ HW_ => ?_)
      generalize wc.drew = w20 at BK208 HB HR213_0 hx213_0 hx213_1 hHeld ⊢
      refine pa 0 32 (mb 16 1) HT_ ?_
      refine pa 1 33 (mb 16 3) HT_ ?_
      refine pa 2 34 (mb 16 7) HT_ ?_
      refine pa 3 35 (mb 16 15) HT_ ?_
      refine pa 4 36 (mb 16 31) HT_ ?_
      refine ta2 5 37 (mb 16 63) HT_ HW_ hHeld ?_
      refine pa 6 38 (mb 16 127) HT_ ?_
      refine pa 7 39 (mb 16 255) HT_ ?_
      refine pu 8 40 (mb 16 511) HT_ ?_
      refine pu 9 41 (mb 16 1023) HT_ ?_
      refine pu 10 42 (mb 16 2047) HT_ ?_
      refine pu 11 43 (mb 16 4095) HT_ ?_
      refine pu 12 44 (mb 16 8191) HT_ ?_
      refine pu 13 45 (mb 16 16383) HT_ ?_
      refine pa 14 46 (mb 16 32767) HT_ ?_
      refine pa 15 31 (mb 16 65535) HT_ ?_
      refine eA HT_ ?_
      try go_wp2
      go_meet
      case rel => exact ⟨_, (true), rS, H', ⟨by have := HJ5.out; first | omega | exact Nat.le_refl _⟩, ⟨bK BK208⟩, ⟨bG⟩⟩
     ·
      rw [if_neg c19] at H
      have c19b0 := decide_eq_false c19
      clear c19
      obtain ⟨t214, A21, H⟩ := bindE H
      try dsimp only at H
      obtain ⟨t217, A22, H⟩ := bindE H
      try dsimp only at H
      have H' := Aside0.mk H
      clear H
      try go_wp2
      replace BK208 := Aside0.mk (blk_drew BK208.out)
      have HBo := HB
      replace HB := Aside0.mk (below_drew1 HB.out)
      have p213 : 0 ≤ (t209 : Int) := dA
      have q213 : t209 < (l1.length : Int) := dA
      obtain ⟨ad213, A213_0, c213_0, e213, hx213_0, hx213_1, hl213_0, hi213_0⟩ := at_T85 HR1.out t209 p213 q213
      have hw213_1 := hx213_1
      have hw213_0 := hx213_0
      cases e213
      replace hx213_0 := hC HB hx213_0
      replace hx213_1 := hC HB hx213_1
      have HR213_0 := Aside0.mk hi213_0
      have HC213_0 := Aside0.mk hl213_0
      clear hi213_0 hl213_0
      replace p213 := eq_true p213
      replace q213 := eq_true q213
      refine start_ (n := 16) (S := fun w' => w'.cell? ⟨gb208, 0, none⟩ = some (.int .i64 a3_0) ∧ w'.cell? ⟨gb208, 1, none⟩ = some (.int .i64 a3_1) ∧ w'.cell? ⟨gb208, 2, none⟩ = some (.int .i64 a3_2) ∧ w'.cell? ⟨gb208, 3, none⟩ = some (.int .i64 a3_3) ∧ w'.cell? (ad213.add ((t209).toNat * 2)) = some (.slice A213_0 ((rd_T85 l1 t209).f0).length c213_0) ∧ w'.cell? ⟨(ad213.add ((t209).toNat * 2)).block, (ad213.add ((t209).toNat * 2)).off + 1, none⟩ = some (.int .i64 ((rd_T85 l1 t209).f1))) (ds := []) (mb 16 0) (by kernel_rfl) rfl rfl ⟨bC BK208 0, bC BK208 1, bC BK208 2, bC BK208 3, (hC HB hw213_0), (hC HB hw213_1)⟩ (fun hHeld => ?_); refine with_tabW impl_shown.tab4 impl_shown.bits4 (fun HT_ HW_ => ?_)
      generalize wc.drew = w23 at BK208 HB HR213_0 hx213_0 hx213_1 hHeld ⊢
      refine pa 0 32 (mb 16 1) HT_ ?_
      refine pa 1 33 (mb 16 3) HT_ ?_
      refine pa 2 34 (mb 16 7) HT_ ?_
      refine pa 3 35 (mb 16 15) HT_ ?_
      refine pa 4 36 (mb 16 31) HT_ ?_
      refine ta6 5 37 (mb 16 63) HT_ HW_ hHeld ?_
      refine pa 6 38 (mb 16 127) HT_ ?_
      refine pa 7 39 (mb 16 255) HT_ ?_
      refine pa 8 40 (mb 16 511) HT_ ?_
      refine pa 9 41 (mb 16 1023) HT_ ?_
      refine pa 11 43 (mb 16 3071) HT_ ?_
      refine ta6 12 44 (mb 16 7167) HT_ HW_ hHeld ?_
      refine oa 10 42 (mb 16 8191) HT_ (fun K hK => ?_)
      refine gA Try.func122 #[.slice (some ad213) l1.length c1, .int .i64 t209] ?_
      with_reducible refine (impl_nextStage.calls (fun k_ => k_ < w.heap.size) _ _ l1 t209 t214 _ ?side1 A21.out).mono ?_
      (case side1 => exact Kd.V_mk HC1.out (Kd.F_below (Kd.C_F k85_heap HR1.out) bG))
      rintro e w24 ⟨v215, rfl, ho0, hb⟩
      refine ⟨_, rfl, ?_⟩
      have HO216 := Aside0.mk (Kd.V_lower (Kd.V_mono (ok' := fun k_ => k_ ≠ gb208) ho0 (fun k_ hk_ => Or.elim hk_ (fun hs_ => fun e_ => Nat.not_le.2 hs_ (by rw [e_]; exact GW208.out)) (fun hn_ => (Kd.freshB (g := gb208) (o := .cells #[.int .i64 a3_0, .int .i64 a3_1, .int .i64 a3_2, .int .i64 a3_3] 50 (0, 0)) (bK BK208) k_ hn_)))) (below_size bG))
      replace BK208 := Aside0.mk (blk_below (g := gb208) (bK BK208) hb)
      replace HB := Aside0.mk (below_step bG hb)
      (try clear hb)
      (try clear hb2)
      (try clear hk)
      (try clear hi)
      (try clear ho0)
      obtain ⟨Ao25, co25, eo25⟩ := Kd.V_slice HO216.out
      (first | subst eo25 | (injection eo25 with f1_ f2_ f3_; have f4_ := f1_.symm; have f5_ := f3_.symm; clear f1_ f2_ f3_; subst f4_; subst f5_))
      refine hK.out _ _ ⟨bC BK208 0, bC BK208 1, bC BK208 2, bC BK208 3, (hC HB hw213_0), (hC HB hw213_1)⟩ (fun hHeld => ?_)
      clear hK K
      refine nB ?_
      refine oa 13 45 (mb 16 16383) HT_ (fun K hK => ?_)
      refine gA Try.func102 #[.slice Ao25 t214.length co25, .int .i64 a3_0] ?_
      with_reducible refine (slices_Contains_int_int.calls kj5 _ _ t214 a3_0 t217 _ ?side1 ?side2 A22.out).mono ?_
      (case side1 => repeat (first | exact (Kd.V_reads' HO216.out).2.2 | (with_reducible refine Kd.C_alloc ?_ _) | (with_reducible refine Kd.C_drewN ?_ _) | (with_reducible refine Kd.C_drew ?_)))
      (case side2 => exact (Kd.V_reads' HO216.out).2.1)
      rintro e w' ⟨rfl, ⟨nd, rfl⟩⟩
      refine ⟨_, rfl, ?_⟩
      refine hK.out _ _ ⟨bC BK208 0, bC BK208 1, bC BK208 2, bC BK208 3, (hC HB hw213_0), (hC HB hw213_1)⟩ (fun hHeld => ?_)
      clear hK K
      refine nB ?_
      refine pa 14 46 (mb 16 32767) HT_ ?_
      refine pa 15 31 (mb 16 65535) HT_ ?_
      refine eA HT_ ?_
      try go_wp2
      go_meet
      case rel => exact ⟨_, (t217), rS, H', ⟨by have := HJ5.out; first | omega | exact Nat.le_refl _⟩, ⟨bK BK208⟩, ⟨bG⟩⟩
    case rest =>
     clear HC16
     try clear c1
     try clear c2
     try clear p2
     try clear q2
     try clear hx2
     try clear c6
     try clear c7
     try clear c9
     try clear c9b0
     try clear c10
     try clear c11
     try clear c11b0
     try clear c12
     try clear c12b0
     try clear c15
     try clear c17
     try clear c17b0
     try clear c18
     try clear c18b0
     try clear c19
     try clear c19b0
     try clear c21
     try clear p21
     try clear q21
     try clear hx21
     try clear hx211_0
     try clear hx211_1
     try clear hx213_0
     try clear hx213_1
     try clear p2
     try clear p211
     try clear p213
     try clear q2
     try clear q211
     try clear q213
     obtain ⟨kq, x31_15, rfl, HA, HJ15, BK208, HB⟩ := hcut
     cases kq with
     | zero => exact absurd HA.out (by simp [impl_shown.j1])
     | succ kj15 =>
      have H := HA.out
      clear HA
      simp only [impl_shown.j1] at H
      by_cases c26 : x31_15 = true
      ·
       subst c26
       have H1 : (some 1) = some r := by rw [if_pos rfl] at H; exact H
       clear H
       have H := H1
       clear H1
       obtain rfl := Option.some.inj H
       go_wp2
       go_ret
       exact ⟨rA, bG⟩
      ·
       replace c26 := Bool.eq_false_iff.mpr c26
       subst c26
       have H1 : (if 0 ≤ t209 then (if t209 < (l1.length : Int) then ((impl_ClearOf.f a3_0 a3_1 a3_2 a3_3).bind fun t219 => (if t210 < (wrap64 (((rd_T85 l1 t209).f1) + t219)) then (some 2) else (some 0))) else (none)) else (none)) = some r := by rw [if_neg (show ¬ (false = true) by decide)] at H; exact H
       clear H
       have H := H1
       clear H1
       have c27 : 0 ≤ t209 := ifN H
       replace H := ifT H
       have c27b0 := decide_eq_true c27
       clear c27
       have c28 : t209 < (l1.length : Int) := ifN H
       replace H := ifT H
       have c28b0 := decide_eq_true c28
       clear c28
       obtain ⟨t219, A29, H⟩ := bindE H
       try dsimp only at H
       by_cases c30 : t210 < (wrap64 (((rd_T85 l1 t209).f1) + t219))
       ·
        rw [if_pos c30] at H
        have c30b0 := decide_eq_true c30
        clear c30
        obtain rfl := Option.some.inj H
        try go_wp2
        replace BK208 := Aside0.mk (blk_drew BK208.out)
        have HBo := HB
        replace HB := Aside0.mk (below_drew1 HB.out)
        have p218 : 0 ≤ (t209 : Int) := dA
        have q218 : t209 < (l1.length : Int) := dA
        obtain ⟨ad218, A218_0, c218_0, e218, hx218_0, hx218_1, hl218_0, hi218_0⟩ := at_T85 HR1.out t209 p218 q218
        have hw218_1 := hx218_1
        have hw218_0 := hx218_0
        cases e218
        replace hx218_0 := hC HB hx218_0
        replace hx218_1 := hC HB hx218_1
        have HR218_0 := Aside0.mk hi218_0
        have HC218_0 := Aside0.mk hl218_0
        clear hi218_0 hl218_0
        replace p218 := eq_true p218
        replace q218 := eq_true q218
        refine start_ (n := 11) (S := fun w' => w'.cell? ⟨gb208, 0, none⟩ = some (.int .i64 a3_0) ∧ w'.cell? ⟨gb208, 1, none⟩ = some (.int .i64 a3_1) ∧ w'.cell? ⟨gb208, 2, none⟩ = some (.int .i64 a3_2) ∧ w'.cell? ⟨gb208, 3, none⟩ = some (.int .i64 a3_3) ∧ w'.cell? (ad218.add ((t209).toNat * 2)) = some (.slice A218_0 ((rd_T85 l1 t209).f0).length c218_0) ∧ w'.cell? ⟨(ad218.add ((t209).toNat * 2)).block, (ad218.add ((t209).toNat * 2)).off + 1, none⟩ = some (.int .i64 ((rd_T85 l1 t209).f1))) (ds := []) (mb 11 0) (by kernel_rfl) rfl rfl ⟨bC BK208 0, bC BK208 1, bC BK208 2, bC BK208 3, (hC HB hw218_0), (hC HB hw218_1)⟩ (fun hHeld => ?_); refine with_tabW impl_shown.tab6 impl_shown.bits6 (fun HT_ HW_ => ?_)
        generalize wc.drew = w31 at BK208 HB HR218_0 hx218_0 hx218_1 hHeld ⊢
        refine pa 0 48 (mb 11 1) HT_ ?_
        refine pa 1 49 (mb 11 3) HT_ ?_
        refine pa 2 50 (mb 11 7) HT_ ?_
        refine pa 3 51 (mb 11 15) HT_ ?_
        refine pa 4 52 (mb 11 31) HT_ ?_
        refine ta6 5 53 (mb 11 63) HT_ HW_ hHeld ?_
        refine ta6 6 54 (mb 11 127) HT_ HW_ hHeld ?_
        refine oa 7 55 (mb 11 255) HT_ (fun K hK => ?_)
        refine gA Try.func120 #[.agg #[.int .i64 a3_0, .int .i64 a3_1, .int .i64 a3_2, .int .i64 a3_3]] ?_
        with_reducible refine (impl_ClearOf.calls a3_0 a3_1 a3_2 a3_3 t219 _ A29.out).mono ?_
        rintro e w32 ⟨rfl, hb⟩
        refine ⟨_, rfl, ?_⟩
        replace BK208 := Aside0.mk (blk_below (g := gb208) (bK BK208) hb)
        replace HB := Aside0.mk (below_step bG hb)
        (try clear hb)
        (try clear hb2)
        (try clear hk)
        (try clear hi)
        refine hK.out _ _ ⟨bC BK208 0, bC BK208 1, bC BK208 2, bC BK208 3, (hC HB hw218_0), (hC HB hw218_1)⟩ (fun hHeld => ?_)
        clear hK K
        refine nB ?_
        refine pa 8 56 (mb 11 511) HT_ ?_
        refine pa 9 57 (mb 11 1023) HT_ ?_
        refine pa 10 47 (mb 11 2047) HT_ ?_
        refine eA HT_ ?_
        try go_wp2
        go_ret
        exact ⟨rA, bG⟩
       ·
        rw [if_neg c30] at H
        have c30b0 := decide_eq_false c30
        clear c30
        obtain rfl := Option.some.inj H
        try go_wp2
        replace BK208 := Aside0.mk (blk_drew BK208.out)
        have HBo := HB
        replace HB := Aside0.mk (below_drew1 HB.out)
        have p218 : 0 ≤ (t209 : Int) := dA
        have q218 : t209 < (l1.length : Int) := dA
        obtain ⟨ad218, A218_0, c218_0, e218, hx218_0, hx218_1, hl218_0, hi218_0⟩ := at_T85 HR1.out t209 p218 q218
        have hw218_1 := hx218_1
        have hw218_0 := hx218_0
        cases e218
        replace hx218_0 := hC HB hx218_0
        replace hx218_1 := hC HB hx218_1
        have HR218_0 := Aside0.mk hi218_0
        have HC218_0 := Aside0.mk hl218_0
        clear hi218_0 hl218_0
        replace p218 := eq_true p218
        replace q218 := eq_true q218
        refine start_ (n := 11) (S := fun w' => w'.cell? ⟨gb208, 0, none⟩ = some (.int .i64 a3_0) ∧ w'.cell? ⟨gb208, 1, none⟩ = some (.int .i64 a3_1) ∧ w'.cell? ⟨gb208, 2, none⟩ = some (.int .i64 a3_2) ∧ w'.cell? ⟨gb208, 3, none⟩ = some (.int .i64 a3_3) ∧ w'.cell? (ad218.add ((t209).toNat * 2)) = some (.slice A218_0 ((rd_T85 l1 t209).f0).length c218_0) ∧ w'.cell? ⟨(ad218.add ((t209).toNat * 2)).block, (ad218.add ((t209).toNat * 2)).off + 1, none⟩ = some (.int .i64 ((rd_T85 l1 t209).f1))) (ds := []) (mb 11 0) (by kernel_rfl) rfl rfl ⟨bC BK208 0, bC BK208 1, bC BK208 2, bC BK208 3, (hC HB hw218_0), (hC HB hw218_1)⟩ (fun hHeld => ?_); refine with_tabW impl_shown.tab6 impl_shown.bits6 (fun HT_ HW_ => ?_)
        generalize wc.drew = w33 at BK208 HB HR218_0 hx218_0 hx218_1 hHeld ⊢
        refine pa 0 48 (mb 11 1) HT_ ?_
        refine pa 1 49 (mb 11 3) HT_ ?_
        refine pa 2 50 (mb 11 7) HT_ ?_
        refine pa 3 51 (mb 11 15) HT_ ?_
        refine pa 4 52 (mb 11 31) HT_ ?_
        refine ta6 5 53 (mb 11 63) HT_ HW_ hHeld ?_
        refine ta6 6 54 (mb 11 127) HT_ HW_ hHeld ?_
        refine oa 7 55 (mb 11 255) HT_ (fun K hK => ?_)
        refine gA Try.func120 #[.agg #[.int .i64 a3_0, .int .i64 a3_1, .int .i64 a3_2, .int .i64 a3_3]] ?_
        with_reducible refine (impl_ClearOf.calls a3_0 a3_1 a3_2 a3_3 t219 _ A29.out).mono ?_
        rintro e w34 ⟨rfl, hb⟩
        refine ⟨_, rfl, ?_⟩
        replace BK208 := Aside0.mk (blk_below (g := gb208) (bK BK208) hb)
        replace HB := Aside0.mk (below_step bG hb)
        (try clear hb)
        (try clear hb2)
        (try clear hk)
        (try clear hi)
        refine hK.out _ _ ⟨bC BK208 0, bC BK208 1, bC BK208 2, bC BK208 3, (hC HB hw218_0), (hC HB hw218_1)⟩ (fun hHeld => ?_)
        clear hK K
        refine nB ?_
        refine pa 8 56 (mb 11 511) HT_ ?_
        refine pa 9 57 (mb 11 1023) HT_ ?_
        refine pa 10 47 (mb 11 2047) HT_ ?_
        refine eA HT_ ?_
        try go_wp2
        go_ret
        exact ⟨rA, bG⟩

/-! ### impl_LightAt: function 14 -/
def impl_LightAt.f (k : Nat) (l0 : List (S50)) (l1 : List (S85)) (a2 : Int) (a3 : Int) : Option (Int) := (impl_FindPath.f l0 a3).bind fun t220 => (if t220 < 0 then (some 0) else (if 0 ≤ t220 then (if t220 < (l0.length : Int) then ((impl_shown.f k l0 l1 a2 ((rd_T50 l0 t220).f0) ((rd_T50 l0 t220).f1) ((rd_T50 l0 t220).f2) ((rd_T50 l0 t220).f3)).bind fun t222 => (some t222)) else (none)) else (none)))
theorem impl_LightAt.mono : ∀ a0 a1 a2 a3 k, LeO (impl_LightAt.f k a0 a1 a2 a3) (impl_LightAt.f (k + 1) a0 a1 a2 a3) := by
 intro a0 a1 a2 a3 k
 unfold impl_LightAt.f
 repeat' first | (with_reducible first | exact LeO.refl _ | exact LeO.none _ | refine LeO.ite ?_ ?_ | refine LeO.bind ?_ (fun _ => ?_) | exact impl_shown.mono _ _ _ _ _ _ _ _)
set_option maxHeartbeats 8000000 in
set_option maxRecDepth 100000 in
theorem impl_LightAt.calls (k : Nat) (A0 : Option Addr) (c0 : Nat) (l0 : List (S50)) (A1 : Option Addr) (c1 : Nat) (l1 : List (S85)) (a2 : Int) (a3 : Int) (r : Int) (w : World) (hr0 : Kd.C k50 w A0 l0.length l0) (hc0 : l0.length ≤ c0) (hr1 : Kd.C k85 w A1 l1.length l1) (hc1 : l1.length ≤ c1) (h : impl_LightAt.f k l0 l1 a2 a3 = some r) :
  Calls Try.prog 14 #[.slice A0 l0.length c0, .slice A1 l1.length c1, .int .i64 a2, .int .i64 a3] w fun e w' => e = .returned (.int .i64 r) ∧ Below w.heap.size w w' := by
 have hu50 := Try.underlying50
 have HR0 := Aside0.mk hr0
 have HC0 := Aside0.mk hc0
 clear hr0 hc0
 have HR1 := Aside0.mk hr1
 have HC1 := Aside0.mk hc1
 clear hr1 hc1
 have HB := Aside0.mk (Below.refl w.heap.size w)
 have H : ((impl_FindPath.f l0 a3).bind fun t220 => (if t220 < 0 then (some 0) else (if 0 ≤ t220 then (if t220 < (l0.length : Int) then ((impl_shown.f k l0 l1 a2 ((rd_T50 l0 t220).f0) ((rd_T50 l0 t220).f1) ((rd_T50 l0 t220).f2) ((rd_T50 l0 t220).f3)).bind fun t222 => (some t222)) else (none)) else (none)))) = some r := h
 clear h
 obtain ⟨t220, A5, H⟩ := bindE H
 try dsimp only at H
 by_cases c6 : t220 < 0
 ·
  rw [if_pos c6] at H
  have c6b0 := decide_eq_true c6
  clear c6
  obtain rfl := Option.some.inj H
  go_enter Try.func14, Try.ntmps14
  go_wp2_with (first | ((with_reducible refine gate_callee (f := 16) rfl ?_); refine gL (some 12) Try.func16 #[.slice A0 l0.length c0, .int .i64 a3] ?_; (with_reducible refine (impl_FindPath.calls _ _ l0 a3 t220 _ ?side1 ?side2 A5.out).mono ?_); (case side1 => exact cO HR0); (case side2 => exact HC0.out); rintro e w7 ⟨rfl, hb⟩; refine ⟨_, rfl, ?_⟩; replace HB := Aside0.mk (below_step bA hb); (try clear hb)))
  go_ret
  exact ⟨rA, bA⟩
 ·
  rw [if_neg c6] at H
  have c6b0 := decide_eq_false c6
  clear c6
  have c8 : 0 ≤ t220 := ifN H
  replace H := ifT H
  have c8b0 := decide_eq_true c8
  clear c8
  have c9 : t220 < (l0.length : Int) := ifN H
  replace H := ifT H
  have c9b0 := decide_eq_true c9
  clear c9
  obtain ⟨t222, A10, H⟩ := bindE H
  try dsimp only at H
  obtain rfl := Option.some.inj H
  go_enter Try.func14, Try.ntmps14
  go_wp2_with (first | ((with_reducible refine gate_callee (f := 16) rfl ?_); refine gL (some 12) Try.func16 #[.slice A0 l0.length c0, .int .i64 a3] ?_; (with_reducible refine (impl_FindPath.calls _ _ l0 a3 t220 _ ?side1 ?side2 A5.out).mono ?_); (case side1 => exact cO HR0); (case side2 => exact HC0.out); rintro e w11 ⟨rfl, hb⟩; refine ⟨_, rfl, ?_⟩; replace HB := Aside0.mk (below_step bA hb); (try clear hb); have p221 : 0 ≤ (t220 : Int) := dA; have q221 : t220 < (l0.length : Int) := dA; obtain ⟨ad221, e221, hx221_0, hx221_1, hx221_2, hx221_3⟩ := at_T50 HR0.out t220 p221 q221; cases e221; replace hx221_0 := hC HB hx221_0; replace hx221_1 := hC HB hx221_1; replace hx221_2 := hC HB hx221_2; replace hx221_3 := hC HB hx221_3; replace p221 := eq_true p221; replace q221 := eq_true q221) | ((with_reducible refine gate_callee (f := 76) rfl ?_); refine gL (some 22) Try.func76 #[.slice (some ad221) l0.length c0, .slice A1 l1.length c1, .int .i64 a2, .agg #[.int .i64 ((rd_T50 l0 t220).f0), .int .i64 ((rd_T50 l0 t220).f1), .int .i64 ((rd_T50 l0 t220).f2), .int .i64 ((rd_T50 l0 t220).f3)]] ?_; (with_reducible refine (impl_shown.calls k _ _ l0 _ _ l1 a2 ((rd_T50 l0 t220).f0) ((rd_T50 l0 t220).f1) ((rd_T50 l0 t220).f2) ((rd_T50 l0 t220).f3) t222 _ ?side1 ?side2 ?side3 ?side4 A10.out).mono ?_); (case side1 => exact cB HR0); (case side2 => exact HC0.out); (case side3 => exact cB HR1); (case side4 => exact HC1.out); rintro e w12 ⟨rfl, hb⟩; refine ⟨_, rfl, ?_⟩; replace HB := Aside0.mk (below_step bA hb); (try clear hb)))
  go_ret
  exact ⟨rA, bA⟩

/-- A state of type 138 at block g of W; what its slices lead to came in by w0. -/
def IsS138 (w0 W : World) (g : Nat) (f0 : List Int) (f1 : Int) (f2 : Int) : Prop := ∃ A0 c0, W.heap[g]? = some (.cells #[.slice A0 f0.length c0, .int .i64 f1, .int .i64 f2] 138 (0, 0)) ∧ w0.heap.size ≤ g ∧ Kd.C (Kd.int .u8) w0 A0 f0.length f0
theorem IsS138.grown {w0 W : World} {g : Nat} {f0 : List Int} {f1 : Int} {f2 : Int} {W1 : World} {row : Option Nat} (h : IsS138 w0 W g f0 f1 f2) (hw : W.grownBy W1 row) (hne : some g ≠ row) : IsS138 w0 W1 g f0 f1 f2 := by
 obtain ⟨A0, c0, hb, hg, hr0⟩ := h
 exact ⟨A0, c0, blk_grown hb hw hne, hg, hr0⟩
theorem IsS138.own_neN {w0 W : World} {g : Nat} {f0 : List Int} {f1 : Int} {f2 : Int} {α : Type} {d : Kd α} {e : Nat} {base : Nat} {ok : Nat → Prop} {v : Value} {xs : List α} (h : IsS138 w0 W g f0 f1 f2) (ho : Kd.N d e W base ok v xs) (ht : e ≠ 138) : some g ≠ v.ownBlock := by
 obtain ⟨A0, c0, hb, hg, hr0⟩ := h
 exact Kd.N_ne ho hb ht
theorem IsS138.fresh {w0 W : World} {g : Nat} {f0 : List Int} {f1 : Int} {f2 : Int} (h : IsS138 w0 W g f0 f1 f2) : ∀ k, W.heap.size ≤ k → k ≠ g := by
 obtain ⟨A0, c0, hb, hg, hr0⟩ := h
 exact Kd.freshB hb
theorem IsS138.kept {w0 W : World} {g : Nat} {f0 : List Int} {f1 : Int} {f2 : Int} {W1 : World} {S : Nat → Prop} (h : IsS138 w0 W g f0 f1 f2) (hk : Kept W W1 S) (hne : ¬ S g) : IsS138 w0 W1 g f0 f1 f2 := by
 obtain ⟨A0, c0, hb, hg, hr0⟩ := h
 exact ⟨A0, c0, blk_kept hb hk hne, hg, hr0⟩
theorem IsS138.below {w0 W : World} {g : Nat} {f0 : List Int} {f1 : Int} {f2 : Int} {W1 : World} (h : IsS138 w0 W g f0 f1 f2) (hw : Below W.heap.size W W1) : IsS138 w0 W1 g f0 f1 f2 := h.grown (grown_of_below hw none) (by simp)
theorem IsS138.alloc {w0 W : World} {g : Nat} {f0 : List Int} {f1 : Int} {f2 : Int} (h : IsS138 w0 W g f0 f1 f2) (o : Obj) : IsS138 w0 (W.alloc o) g f0 f1 f2 := h.below (below_alloc (Below.refl _ _) o)
theorem IsS138.drewN {w0 W : World} {g : Nat} {f0 : List Int} {f1 : Int} {f2 : Int} (h : IsS138 w0 W g f0 f1 f2) (m : Nat) : IsS138 w0 (W.drewN m) g f0 f1 f2 := h
theorem IsS138.drew {w0 W : World} {g : Nat} {f0 : List Int} {f1 : Int} {f2 : Int} (h : IsS138 w0 W g f0 f1 f2) : IsS138 w0 W.drew g f0 f1 f2 := h
theorem IsS138.at_ {w0 W : World} {g : Nat} {f0 : List Int} {f1 : Int} {f2 : Int} {w' : World} {m : Nat} (hq : W.drewN m = w') (h : IsS138 w0 W g f0 f1 f2) : IsS138 w0 w' g f0 f1 f2 := by subst hq; exact IsS138.drewN h m
theorem IsS138.apart {w0 W : World} {g : Nat} {f0 : List Int} {f1 : Int} {f2 : Int} {α : Type} {d : Kd α} {e : Nat} {base : Nat} {ok : Nat → Prop} {v : Value} {xs : List α} (h : IsS138 w0 W g f0 f1 f2) (ho : d.R e W base ok v xs) (ht : ∀ q, q ∈ e :: d.E → q ≠ 138) : d.R e W base (fun k => ok k ∧ k ≠ g) v xs := by
 obtain ⟨A0, c0, hb, hg, hr0⟩ := h
 exact Kd.R_types ho hb ht
theorem IsS138.own_ne {w0 W : World} {g : Nat} {f0 : List Int} {f1 : Int} {f2 : Int} {α : Type} {d : Kd α} {e : Nat} {base : Nat} {ok : Nat → Prop} {v : Value} {xs : List α} (h : IsS138 w0 W g f0 f1 f2) (ho : d.R e W base ok v xs) (ht : e ≠ 138) : some g ≠ v.ownBlock := by
 obtain ⟨A0, c0, hb, hg, hr0⟩ := h
 exact Kd.R_ne ho hb ht
theorem IsS138.apartQ {w0 W : World} {g : Nat} {f0 : List Int} {f1 : Int} {f2 : Int} {α : Type} {d : Kd α} {e : Nat} {base : Nat} {ok : Nat → Prop} {v : Value} {xs : List α} (h : IsS138 w0 W g f0 f1 f2) (ho : d.Q e W base ok v xs) (ht : ∀ q, q ∈ e :: d.E → q ≠ 138) : d.Q e W base (fun k => ok k ∧ k ≠ g) v xs := by
 obtain ⟨A0, c0, hb, hg, hr0⟩ := h
 exact Kd.Q_types ho hb ht
theorem IsS138.own_neQ {w0 W : World} {g : Nat} {f0 : List Int} {f1 : Int} {f2 : Int} {α : Type} {d : Kd α} {e : Nat} {base : Nat} {ok : Nat → Prop} {v : Value} {xs : List α} (h : IsS138 w0 W g f0 f1 f2) (ho : d.Q e W base ok v xs) (ht : e ≠ 138) : some g ≠ v.ownBlock := by
 obtain ⟨A0, c0, hb, hg, hr0⟩ := h
 exact Kd.Q_ne ho hb ht
theorem IsS138.apartS {w0 W : World} {g : Nat} {f0 : List Int} {f1 : Int} {f2 : Int} {α : Type} {d : Kd α} {e : Nat} {base : Nat} {ok : Nat → Prop} {v : Value} {xs : List α} (h : IsS138 w0 W g f0 f1 f2) (ho : d.S e W base ok v xs) (ht : ∀ q, q ∈ e :: d.E → q ≠ 138) : d.S e W base (fun k => ok k ∧ k ≠ g) v xs := by
 obtain ⟨A0, c0, hb, hg, hr0⟩ := h
 exact Kd.S_types ho hb ht
theorem IsS138.own_neS {w0 W : World} {g : Nat} {f0 : List Int} {f1 : Int} {f2 : Int} {α : Type} {d : Kd α} {e : Nat} {base : Nat} {ok : Nat → Prop} {v : Value} {xs : List α} (h : IsS138 w0 W g f0 f1 f2) (ho : d.S e W base ok v xs) (ht : e ≠ 138) : some g ≠ v.ownBlock := by
 obtain ⟨A0, c0, hb, hg, hr0⟩ := h
 exact Kd.S_ne ho hb ht
theorem IsS138.lt {w0 W : World} {g : Nat} {f0 : List Int} {f1 : Int} {f2 : Int} (h : IsS138 w0 W g f0 f1 f2) : g < W.heap.size := by
 obtain ⟨A0, c0, hb, hg, hr0⟩ := h
 exact blk_lt hb
theorem IsS138.ge {w0 W : World} {g : Nat} {f0 : List Int} {f1 : Int} {f2 : Int} (h : IsS138 w0 W g f0 f1 f2) : w0.heap.size ≤ g := by
 obtain ⟨A0, c0, hb, hg, hr0⟩ := h
 exact hg
theorem IsS138.ne_blk {w0 W : World} {g : Nat} {f0 : List Int} {f1 : Int} {f2 : Int} {a : Nat} {cs : Array Value} {t : TypeId} {fr : Nat × Nat} (h : IsS138 w0 W g f0 f1 f2) (hb2 : W.heap[a]? = some (.cells cs t fr)) (ht : t ≠ 138) : g ≠ a := by
 obtain ⟨A0, c0, hb, hg, hr0⟩ := h
 rintro rfl
 rw [hb] at hb2
 injection hb2 with hb2
 injection hb2 with _ ht2
 exact ht ht2.symm
theorem IsS138.far {w0 W : World} {g : Nat} {f0 : List Int} {f1 : Int} {f2 : Int} {p : Addr} (h : IsS138 w0 W g f0 f1 f2) (hne : g ≠ p.block) (u : Value) : IsS138 w0 (W.setCell p u) g f0 f1 f2 := by
 obtain ⟨A0, c0, hb, hg, hr0⟩ := h
 exact ⟨A0, c0, blk_far hb hne u, hg, hr0⟩
theorem cellS138_0 {W : World} {g : Nat} {A0 : Option Addr} {c0 : Nat} {f0 : List Int} {f1 : Int} {f2 : Int} (h : W.heap[g]? = some (.cells #[.slice A0 f0.length c0, .int .i64 f1, .int .i64 f2] 138 (0, 0))) : W.cell? ⟨g, 0, none⟩ = some (.slice A0 f0.length c0) := (blk_cell h 0).trans rfl
theorem cellS138_1 {W : World} {g : Nat} {A0 : Option Addr} {c0 : Nat} {f0 : List Int} {f1 : Int} {f2 : Int} (h : W.heap[g]? = some (.cells #[.slice A0 f0.length c0, .int .i64 f1, .int .i64 f2] 138 (0, 0))) : W.cell? ⟨g, 1, none⟩ = some (.int .i64 f1) := (blk_cell h 1).trans rfl
theorem IsS138.set_1 {w0 W : World} {g : Nat} {f0 : List Int} {f1 : Int} {f2 : Int} (h : IsS138 w0 W g f0 f1 f2) (x : Int) : IsS138 w0 (W.setCell ⟨g, 1, none⟩ (.int .i64 x)) g f0 x f2 := by
 obtain ⟨A0, c0, hb, hg, hr0⟩ := h
 exact ⟨A0, c0, by simpa using blk_set hb 1 (.int .i64 x), hg, hr0⟩
theorem cellS138_2 {W : World} {g : Nat} {A0 : Option Addr} {c0 : Nat} {f0 : List Int} {f1 : Int} {f2 : Int} (h : W.heap[g]? = some (.cells #[.slice A0 f0.length c0, .int .i64 f1, .int .i64 f2] 138 (0, 0))) : W.cell? ⟨g, 2, none⟩ = some (.int .i64 f2) := (blk_cell h 2).trans rfl
theorem IsS138.set_2 {w0 W : World} {g : Nat} {f0 : List Int} {f1 : Int} {f2 : Int} (h : IsS138 w0 W g f0 f1 f2) (x : Int) : IsS138 w0 (W.setCell ⟨g, 2, none⟩ (.int .i64 x)) g f0 f1 x := by
 obtain ⟨A0, c0, hb, hg, hr0⟩ := h
 exact ⟨A0, c0, by simpa using blk_set hb 2 (.int .i64 x), hg, hr0⟩
theorem IsS138.new (w0 W : World) (A0 : Option Addr) (c0 : Nat) (f0 : List Int) (f1 : Int) (f2 : Int) (hB : Below w0.heap.size w0 W) (hr0 : Kd.C (Kd.int .u8) w0 A0 f0.length f0) : IsS138 w0 (W.alloc (.cells #[.slice A0 f0.length c0, .int .i64 f1, .int .i64 f2] 138)) W.heap.size f0 f1 f2 := ⟨A0, c0, by simpa using heap_alloc_new W _, hB.size, hr0⟩
theorem sI1380 {p q : Prop} (h : p) (f : p → q := by intro h_ ; repeat (first | (with_reducible first | exact h_ | apply IsS138.alloc | apply IsS138.drewN | apply IsS138.drew | apply IsS138.set_1 | apply IsS138.set_2) | exact h_)) : q := f h
theorem sI1381 {p q r0 : Prop} (h : p) (e0 : r0) (f : p → r0 → q := by intro h_ e0_; repeat (first | (with_reducible first | exact h_ | apply IsS138.alloc | apply IsS138.drewN | apply IsS138.drew | apply IsS138.set_1 | apply IsS138.set_2 | refine IsS138.far ?_ e0_ _) | exact h_)) : q := f h e0
theorem sI1382 {p q r0 r1 : Prop} (h : p) (e0 : r0) (e1 : r1) (f : p → r0 → r1 → q := by intro h_ e0_ e1_; repeat (first | (with_reducible first | exact h_ | apply IsS138.alloc | apply IsS138.drewN | apply IsS138.drew | apply IsS138.set_1 | apply IsS138.set_2 | refine IsS138.far ?_ e0_ _ | refine IsS138.far ?_ e1_ _) | exact h_)) : q := f h e0 e1
theorem sI1383 {p q r0 r1 r2 : Prop} (h : p) (e0 : r0) (e1 : r1) (e2 : r2) (f : p → r0 → r1 → r2 → q := by intro h_ e0_ e1_ e2_; repeat (first | (with_reducible first | exact h_ | apply IsS138.alloc | apply IsS138.drewN | apply IsS138.drew | apply IsS138.set_1 | apply IsS138.set_2 | refine IsS138.far ?_ e0_ _ | refine IsS138.far ?_ e1_ _ | refine IsS138.far ?_ e2_ _) | exact h_)) : q := f h e0 e1 e2
theorem sB0 {p q : Prop} (h : p) (f : p → q := by intro h_ ; repeat (first | (with_reducible first | exact h_ | apply below_alloc | apply pw_below_drewN | apply below_drew1) | exact h_)) : q := f h
theorem sB1 {p q r0 : Prop} (h : p) (e0 : r0) (f : p → r0 → q := by intro h_ e0_; repeat (first | (with_reducible first | exact h_ | apply below_alloc | apply pw_below_drewN | apply below_drew1 | refine below_set ?_ e0_) | exact h_)) : q := f h e0
theorem sB2 {p q r0 r1 : Prop} (h : p) (e0 : r0) (e1 : r1) (f : p → r0 → r1 → q := by intro h_ e0_ e1_; repeat (first | (with_reducible first | exact h_ | apply below_alloc | apply pw_below_drewN | apply below_drew1 | refine below_set ?_ e0_ | refine below_set ?_ e1_) | exact h_)) : q := f h e0 e1
theorem sB3 {p q r0 r1 r2 : Prop} (h : p) (e0 : r0) (e1 : r1) (e2 : r2) (f : p → r0 → r1 → r2 → q := by intro h_ e0_ e1_ e2_; repeat (first | (with_reducible first | exact h_ | apply below_alloc | apply pw_below_drewN | apply below_drew1 | refine below_set ?_ e0_ | refine below_set ?_ e1_ | refine below_set ?_ e2_) | exact h_)) : q := f h e0 e1 e2
theorem sB4 {p q r0 r1 r2 r3 : Prop} (h : p) (e0 : r0) (e1 : r1) (e2 : r2) (e3 : r3) (f : p → r0 → r1 → r2 → r3 → q := by intro h_ e0_ e1_ e2_ e3_; repeat (first | (with_reducible first | exact h_ | apply below_alloc | apply pw_below_drewN | apply below_drew1 | refine below_set ?_ e0_ | refine below_set ?_ e1_ | refine below_set ?_ e2_ | refine below_set ?_ e3_) | exact h_)) : q := f h e0 e1 e2 e3
theorem sK0 {p q : Prop} (h : p) (f : p → q := by intro h_ ; repeat (first | (with_reducible first | exact h_ | apply KeepBut.set_ | apply keep_drewN | apply keep_drew | apply keep_alloc) | exact h_)) : q := f h
theorem sK1 {p q r0 : Prop} (h : p) (e0 : r0) (f : p → r0 → q := by intro h_ e0_; repeat (first | (with_reducible first | exact h_ | apply KeepBut.set_ | apply keep_drewN | apply keep_drew | apply keep_alloc | refine keep_far ?_ e0_ _) | exact h_)) : q := f h e0
theorem sK2 {p q r0 r1 : Prop} (h : p) (e0 : r0) (e1 : r1) (f : p → r0 → r1 → q := by intro h_ e0_ e1_; repeat (first | (with_reducible first | exact h_ | apply KeepBut.set_ | apply keep_drewN | apply keep_drew | apply keep_alloc | refine keep_far ?_ e0_ _ | refine keep_far ?_ e1_ _) | exact h_)) : q := f h e0 e1
theorem sK3 {p q r0 r1 r2 : Prop} (h : p) (e0 : r0) (e1 : r1) (e2 : r2) (f : p → r0 → r1 → r2 → q := by intro h_ e0_ e1_ e2_; repeat (first | (with_reducible first | exact h_ | apply KeepBut.set_ | apply keep_drewN | apply keep_drew | apply keep_alloc | refine keep_far ?_ e0_ _ | refine keep_far ?_ e1_ _ | refine keep_far ?_ e2_ _) | exact h_)) : q := f h e0 e1 e2

/-! ### spec_l1New: function 81 -/
def spec_l1New.l0 : Nat → List Int → Int → Int → Option (List Int × Int × Int)
 | 0, _, _, _ => none
 | k + 1, x0, x3, x4 => if x4 < (x0.length : Int) then (if x4 < 4000 then (if 0 ≤ x4 then (spec_l1New.l0 k x0 (Go.bits .and .i64 (wrap64 ((wrap64 ((wrap64 (x3 * 137)) + (wrap64 (rd x0 x4)))) + 11)) 1073741823) (wrap64 (x4 + 1))) else (none)) else (some (x0, 0, x3))) else (some (x0, 0, x3))
def spec_l1New.f (k : Nat) (l0 : List Int) : Option (List Int × Int × Int) := spec_l1New.l0 k l0 (wrap64 (193017 + (l0.length : Int))) 0
theorem spec_l1New.mono_l : ∀ k, (∀ y0 y1 y2, LeO (spec_l1New.l0 k y0 y1 y2) (spec_l1New.l0 (k + 1) y0 y1 y2))
 | 0 => fun _ _ _ r h => by simp [spec_l1New.l0] at h
 | k + 1 => by
  have ih0 := spec_l1New.mono_l k
  ·
   intro y0 y1 y2
   unfold spec_l1New.l0
   repeat' first | (with_reducible first | exact LeO.refl _ | exact LeO.none _ | refine LeO.ite ?_ ?_ | refine LeO.bind ?_ (fun _ => ?_) | exact ih0 _ _ _)
theorem spec_l1New.mono : ∀ a0 k, LeO (spec_l1New.f k a0) (spec_l1New.f (k + 1) a0) := by
 intro a0 k
 have ih0 := spec_l1New.mono_l k
 unfold spec_l1New.f
 repeat' first | (with_reducible first | exact LeO.refl _ | exact LeO.none _ | refine LeO.ite ?_ ?_ | refine LeO.bind ?_ (fun _ => ?_) | exact ih0 _ _ _)
set_option maxHeartbeats 8000000 in
set_option maxRecDepth 100000 in
theorem spec_l1New.calls (k : Nat) (A0 : Option Addr) (c0 : Nat) (l0 : List Int) (r1 : List Int) (r2 : Int) (r3 : Int) (w0 w : World) (hB : Below w0.heap.size w0 w) (hr0 : Kd.C (Kd.int .u8) w0 A0 l0.length l0) (hc0 : l0.length ≤ c0) (h : spec_l1New.f k l0 = some (r1, r2, r3)) :
  Calls Try.prog 81 #[.slice A0 l0.length c0] w fun e w' => ∃ g_ : Nat, e = .returned (.pointer (some ⟨g_, 0, none⟩)) ∧ IsS138 w0 w' g_ r1 r2 r3 ∧ Below w0.heap.size w0 w' ∧ Below w.heap.size w w' := by
 have hu138 := Try.underlying138
 have HR0 := Aside0.mk hr0
 have HC0 := Aside0.mk hc0
 clear hr0 hc0
 have HBW := Aside0.mk (Below.refl w.heap.size w)
 have HW0 := Aside0.mk hB.size
 have HB := Aside0.mk hB
 clear hB
 have H : (spec_l1New.l0 k l0 (wrap64 (193017 + (l0.length : Int))) 0) = some (r1, r2, r3) := h
 clear h
 have H' := Aside0.mk H
 clear H
 go_enter Try.func81, Try.ntmps81
 go_wp2
 go_loopg [3, 4] k (fun kq v3 v4 w' => ∃ (x3_1 : Int) (x4_1 : Int), v3 = .int .i64 x3_1 ∧ v4 = .int .i64 x4_1 ∧ Aside0 (spec_l1New.l0 kq l0 x3_1 x4_1 = some (r1, r2, r3)) ∧ Aside0 (kq ≤ k) ∧ Aside0 (Below w0.heap.size w0 w') ∧ Aside0 (Below w.heap.size w w'))
 case atStart => exact ⟨(wrap64 (193017 + (l0.length : Int))), (0), rS, rS, H', ⟨Nat.le_refl _⟩, ⟨bA⟩, HBW⟩
 case round =>
  clear H' HBW
  obtain ⟨x3_1, x4_1, rfl, rfl, HA, HK1, HB, HBW⟩ := hrel
  cases gk with
  | zero => exact absurd HA.out (by simp [spec_l1New.l0])
  | succ k1 =>
   have H := HA.out
   clear HA
   simp only [spec_l1New.l0] at H
   by_cases c2 : x4_1 < (l0.length : Int)
   ·
    rw [if_pos c2] at H
    have c2b0 := decide_eq_true c2
    clear c2
    by_cases c3 : x4_1 < 4000
    ·
     rw [if_pos c3] at H
     have c3b0 := decide_eq_true c3
     clear c3
     have c4 : 0 ≤ x4_1 := ifN H
     replace H := ifT H
     have c4b0 := decide_eq_true c4
     clear c4
     have H' := Aside0.mk H
     clear H
     have p223 : 0 ≤ (x4_1 : Int) := dA
     have q223 : x4_1 < (l0.length : Int) := dA
     obtain ⟨ad223, e223, hx223_0⟩ := Kd.at_int HR0.out x4_1 p223 q223
     cases e223
     replace hx223_0 := pw_cell_below HB.out hx223_0
     replace p223 := eq_true p223
     replace q223 := eq_true q223
     go_wp2
     go_roundg k1
     case measure => have := HK1.out; omega
     case rel => exact ⟨(Go.bits .and .i64 (wrap64 ((wrap64 ((wrap64 (x3_1 * 137)) + (wrap64 (rd l0 x4_1)))) + 11)) 1073741823), (wrap64 (x4_1 + 1)), rS, rS, H', ⟨by have := HK1.out; omega⟩, ⟨bA⟩, HBW⟩
    ·
     rw [if_neg c3] at H
     have c3b0 := decide_eq_false c3
     clear c3
     simp only [Option.some.injEq, Prod.mk.injEq] at H
     obtain ⟨rfl, rfl, rfl⟩ := H
     go_wp2
     go_ret
     exact ⟨_, rfl, IsS138.new w0 wr A0 c0 l0 0 x3_1 HB.out HR0.out, below_alloc HB.out _, below_alloc HBW.out _⟩
   ·
    rw [if_neg c2] at H
    have c2b0 := decide_eq_false c2
    clear c2
    simp only [Option.some.injEq, Prod.mk.injEq] at H
    obtain ⟨rfl, rfl, rfl⟩ := H
    go_wp2
    go_ret
    exact ⟨_, rfl, IsS138.new w0 wr A0 c0 l0 0 x3_1 HB.out HR0.out, below_alloc HB.out _, below_alloc HBW.out _⟩

/-! ### spec_l1Byte: function 126 -/
def spec_l1Byte.f (s0_0 : List Int) (s0_1 : Int) (s0_2 : Int) : Option (Int × Int × Int) := if s0_1 < (s0_0.length : Int) then (if 0 ≤ s0_1 then (some (Go.bits .and .i64 (wrap64 ((Go.bits .and .i64 (Go.bits .xor .i64 ((wrap64 ((wrap64 (s0_2 * 6364136223846793005)) + 1442695040888963407)) / 8589934592) ((wrap64 ((wrap64 (s0_2 * 6364136223846793005)) + 1442695040888963407)) / 140737488355328)) 255) + (wrap64 (rd s0_0 s0_1)))) 255, wrap64 (s0_1 + 1), wrap64 ((wrap64 (s0_2 * 6364136223846793005)) + 1442695040888963407))) else (none)) else (some (Go.bits .and .i64 (Go.bits .xor .i64 ((wrap64 ((wrap64 (s0_2 * 6364136223846793005)) + 1442695040888963407)) / 8589934592) ((wrap64 ((wrap64 (s0_2 * 6364136223846793005)) + 1442695040888963407)) / 140737488355328)) 255, s0_1, wrap64 ((wrap64 (s0_2 * 6364136223846793005)) + 1442695040888963407)))
set_option maxHeartbeats 8000000 in
set_option maxRecDepth 100000 in
theorem spec_l1Byte.calls (g : Nat) (s0_0 : List Int) (s0_1 : Int) (s0_2 : Int) (r1 : Int) (r2 : Int) (r3 : Int) (w0 w : World) (hI : IsS138 w0 w g s0_0 s0_1 s0_2) (hB : Below w0.heap.size w0 w) (h : spec_l1Byte.f s0_0 s0_1 s0_2 = some (r1, r2, r3)) :
  Calls Try.prog 126 #[.pointer (some ⟨g, 0, none⟩)] w fun e w' => e = .returned (.int .i64 r1) ∧ IsS138 w0 w' g s0_0 r2 r3 ∧ Below w0.heap.size w0 w' ∧ KeepBut w w' g none := by
 have HI0 := Aside0.mk hI
 have HK := Aside0.mk (KeepBut.refl w g none)
 have HL := Aside0.mk hB.size
 clear hI
 have HW0 := Aside0.mk hB.size
 have HB := Aside0.mk hB
 clear hB
 have H : (if s0_1 < (s0_0.length : Int) then (if 0 ≤ s0_1 then (some (Go.bits .and .i64 (wrap64 ((Go.bits .and .i64 (Go.bits .xor .i64 ((wrap64 ((wrap64 (s0_2 * 6364136223846793005)) + 1442695040888963407)) / 8589934592) ((wrap64 ((wrap64 (s0_2 * 6364136223846793005)) + 1442695040888963407)) / 140737488355328)) 255) + (wrap64 (rd s0_0 s0_1)))) 255, wrap64 (s0_1 + 1), wrap64 ((wrap64 (s0_2 * 6364136223846793005)) + 1442695040888963407))) else (none)) else (some (Go.bits .and .i64 (Go.bits .xor .i64 ((wrap64 ((wrap64 (s0_2 * 6364136223846793005)) + 1442695040888963407)) / 8589934592) ((wrap64 ((wrap64 (s0_2 * 6364136223846793005)) + 1442695040888963407)) / 140737488355328)) 255, s0_1, wrap64 ((wrap64 (s0_2 * 6364136223846793005)) + 1442695040888963407)))) = some (r1, r2, r3) := h
 clear h
 by_cases c2 : s0_1 < (s0_0.length : Int)
 ·
  rw [if_pos c2] at H
  have c2b0 := decide_eq_true c2
  clear c2
  have c3 : 0 ≤ s0_1 := ifN H
  replace H := ifT H
  have c3b0 := decide_eq_true c3
  clear c3
  simp only [Option.some.injEq, Prod.mk.injEq] at H
  obtain ⟨rfl, rfl, rfl⟩ := H
  obtain ⟨ASz4_0, cSz4_0, HGz4, hgz4, HSz4_0⟩ := HI0.out
  have hcz4_0 := cellS138_0 HGz4
  have hcz4_1 := cellS138_1 HGz4
  have hcz4_2 := cellS138_2 HGz4
  have hfz4_1 := blk_frozen HGz4 1
  have hfz4_2 := blk_frozen HGz4 2
  clear HGz4 hgz4
  have p226 : 0 ≤ (s0_1 : Int) := dA
  have q226 : s0_1 < (s0_0.length : Int) := dA
  obtain ⟨ad226, e226, hx226_0⟩ := Kd.at_int HSz4_0 s0_1 p226 q226
  cases e226
  have hn226_0 : ad226.block ≠ g := Nat.ne_of_lt (Nat.lt_of_lt_of_le (by have := World.block_lt_of_cell? _ _ hx226_0; first | rwa [add_block] at this | exact this) (IsS138.ge HI0.out))
  replace hx226_0 := pw_cell_below HB.out hx226_0
  replace hx226_0 := (cell_far (p := ⟨g, 2, none⟩) (by first | (rw [add_block]; exact hn226_0) | (show (Addr.add _ _).block ≠ _; rw [add_block]; exact hn226_0) | exact hn226_0) (.int .i64 (wrap64 ((wrap64 (s0_2 * 6364136223846793005)) + 1442695040888963407)))).trans hx226_0
  (try have hy226_0 := fun (n_ : Nat) => (show (((w.drewN n_).setCell ⟨g, 2, none⟩ (.int .i64 (wrap64 ((wrap64 (s0_2 * 6364136223846793005)) + 1442695040888963407))))).cell? _ = some _ from hx226_0))
  clear hn226_0
  replace p226 := eq_true p226
  replace q226 := eq_true q226
  go_enter Try.func126, Try.ntmps126
  go_wp2
  repeat (go_quiet (fail); try go_wp2)
  go_ret
  exact ⟨rA, by exact sI1380 HI0.out, by exact sB1 HB.out (IsS138.ge HI0.out), by exact sK0 HK.out⟩
 ·
  rw [if_neg c2] at H
  have c2b0 := decide_eq_false c2
  clear c2
  simp only [Option.some.injEq, Prod.mk.injEq] at H
  obtain ⟨rfl, rfl, rfl⟩ := H
  obtain ⟨ASz5_0, cSz5_0, HGz5, hgz5, HSz5_0⟩ := HI0.out
  have hcz5_0 := cellS138_0 HGz5
  have hcz5_1 := cellS138_1 HGz5
  have hcz5_2 := cellS138_2 HGz5
  have hfz5_1 := blk_frozen HGz5 1
  have hfz5_2 := blk_frozen HGz5 2
  clear HGz5 hgz5
  go_enter Try.func126, Try.ntmps126
  go_wp2
  repeat (go_quiet (fail); try go_wp2)
  go_ret
  exact ⟨rA, by exact sI1380 HI0.out, by exact sB1 HB.out (IsS138.ge HI0.out), by exact sK0 HK.out⟩

/-! ### spec_l1Below: function 84 -/
def spec_l1Below.f (s0_0 : List Int) (s0_1 : Int) (s0_2 : Int) (a1 : Int) : Option (Int × Int × Int) := if a1 ≤ 0 then (some (0, s0_1, s0_2)) else (if a1 ≤ 256 then ((spec_l1Byte.f s0_0 s0_1 s0_2).bind fun bt227 => (if a1 = 0 then (none) else (some (Int.tmod bt227.1 a1, bt227.2.1, bt227.2.2)))) else ((spec_l1Byte.f s0_0 s0_1 s0_2).bind fun bt230 => ((spec_l1Byte.f s0_0 bt230.2.1 bt230.2.2).bind fun bt233 => ((spec_l1Byte.f s0_0 bt233.2.1 bt233.2.2).bind fun bt236 => (if a1 = 0 then (none) else (some (Int.tmod (wrap64 ((wrap64 ((wrap64 (bt230.1 * 65536)) + (wrap64 (bt233.1 * 256)))) + bt236.1)) a1, bt236.2.1, bt236.2.2)))))))
set_option maxHeartbeats 8000000 in
set_option maxRecDepth 100000 in
theorem spec_l1Below.calls (g : Nat) (s0_0 : List Int) (s0_1 : Int) (s0_2 : Int) (a1 : Int) (r1 : Int) (r2 : Int) (r3 : Int) (w0 w : World) (hI : IsS138 w0 w g s0_0 s0_1 s0_2) (hB : Below w0.heap.size w0 w) (h : spec_l1Below.f s0_0 s0_1 s0_2 a1 = some (r1, r2, r3)) :
  Calls Try.prog 84 #[.pointer (some ⟨g, 0, none⟩), .int .i64 a1] w fun e w' => e = .returned (.int .i64 r1) ∧ IsS138 w0 w' g s0_0 r2 r3 ∧ Below w0.heap.size w0 w' ∧ KeepBut w w' g none := by
 have HI0 := Aside0.mk hI
 have HK := Aside0.mk (KeepBut.refl w g none)
 have HL := Aside0.mk hB.size
 clear hI
 have HW0 := Aside0.mk hB.size
 have HB := Aside0.mk hB
 clear hB
 have H : (if a1 ≤ 0 then (some (0, s0_1, s0_2)) else (if a1 ≤ 256 then ((spec_l1Byte.f s0_0 s0_1 s0_2).bind fun bt227 => (if a1 = 0 then (none) else (some (Int.tmod bt227.1 a1, bt227.2.1, bt227.2.2)))) else ((spec_l1Byte.f s0_0 s0_1 s0_2).bind fun bt230 => ((spec_l1Byte.f s0_0 bt230.2.1 bt230.2.2).bind fun bt233 => ((spec_l1Byte.f s0_0 bt233.2.1 bt233.2.2).bind fun bt236 => (if a1 = 0 then (none) else (some (Int.tmod (wrap64 ((wrap64 ((wrap64 (bt230.1 * 65536)) + (wrap64 (bt233.1 * 256)))) + bt236.1)) a1, bt236.2.1, bt236.2.2)))))))) = some (r1, r2, r3) := h
 clear h
 by_cases c3 : a1 ≤ 0
 ·
  rw [if_pos c3] at H
  have c3b0 := decide_eq_true c3
  clear c3
  simp only [Option.some.injEq, Prod.mk.injEq] at H
  obtain ⟨rfl, rfl, rfl⟩ := H
  go_enter Try.func84, Try.ntmps84
  go_wp2
  go_ret
  exact ⟨rA, by exact sI1380 HI0.out, by exact sB1 HB.out (IsS138.ge HI0.out), by exact sK0 HK.out⟩
 ·
  rw [if_neg c3] at H
  have c3b0 := decide_eq_false c3
  clear c3
  by_cases c4 : a1 ≤ 256
  ·
   rw [if_pos c4] at H
   have c4b0 := decide_eq_true c4
   clear c4
   obtain ⟨⟨t227, t228, t229⟩, A5, H⟩ := bindE H
   try dsimp only at H
   have c6 : ¬ (a1 = 0) := ifN' H
   replace H := ifT' H
   have c6b0 : (a1 == 0) = false := beq_eq_false_iff_ne.mpr c6
   have c6b1 : (a1 != 0) = true := bne_iff_ne.mpr c6
   simp only [Option.some.injEq, Prod.mk.injEq] at H
   obtain ⟨rfl, rfl, rfl⟩ := H
   go_enter Try.func84, Try.ntmps84
   go_wp2_with (first | ((with_reducible refine gate_callee (f := 126) rfl ?_); refine gL (some 13) Try.func126 #[.pointer (some ⟨g, 0, none⟩)] ?_; (with_reducible refine (spec_l1Byte.calls g s0_0 s0_1 s0_2 t227 t228 t229 w0 _ ?side1 ?side2 A5.out).mono ?_); (case side1 => exact sI1380 HI0.out); (case side2 => exact sB1 HB.out (IsS138.ge HI0.out)); rintro e w7 ⟨rfl, hi, hb, hk⟩; refine ⟨_, rfl, ?_⟩; replace HK := Aside0.mk (KeepBut.trans (by exact sK0 HK.out) hk (.inl rfl)); replace HB := Aside0.mk (hb); replace HI0 := Aside0.mk (hi); (try clear hb); (try clear hk); (try clear hi)))
   go_ret
   exact ⟨rA, by exact sI1380 HI0.out, by exact sB1 HB.out (IsS138.ge HI0.out), by exact sK0 HK.out⟩
  ·
   rw [if_neg c4] at H
   have c4b0 := decide_eq_false c4
   clear c4
   obtain ⟨⟨t230, t231, t232⟩, A8, H⟩ := bindE H
   try dsimp only at H
   obtain ⟨⟨t233, t234, t235⟩, A9, H⟩ := bindE H
   try dsimp only at H
   obtain ⟨⟨t236, t237, t238⟩, A10, H⟩ := bindE H
   try dsimp only at H
   have c11 : ¬ (a1 = 0) := ifN' H
   replace H := ifT' H
   have c11b0 : (a1 == 0) = false := beq_eq_false_iff_ne.mpr c11
   have c11b1 : (a1 != 0) = true := bne_iff_ne.mpr c11
   simp only [Option.some.injEq, Prod.mk.injEq] at H
   obtain ⟨rfl, rfl, rfl⟩ := H
   go_enter Try.func84, Try.ntmps84
   go_wp2_with (first | ((with_reducible refine gate_callee (f := 126) rfl ?_); refine gL (some 17) Try.func126 #[.pointer (some ⟨g, 0, none⟩)] ?_; (with_reducible refine (spec_l1Byte.calls g s0_0 s0_1 s0_2 t230 t231 t232 w0 _ ?side1 ?side2 A8.out).mono ?_); (case side1 => exact sI1380 HI0.out); (case side2 => exact sB1 HB.out (IsS138.ge HI0.out)); rintro e w12 ⟨rfl, hi, hb, hk⟩; refine ⟨_, rfl, ?_⟩; replace HK := Aside0.mk (KeepBut.trans (by exact sK0 HK.out) hk (.inl rfl)); replace HB := Aside0.mk (hb); replace HI0 := Aside0.mk (hi); (try clear hb); (try clear hk); (try clear hi)) | ((with_reducible refine gate_callee (f := 126) rfl ?_); refine gL (some 19) Try.func126 #[.pointer (some ⟨g, 0, none⟩)] ?_; (with_reducible refine (spec_l1Byte.calls g s0_0 t231 t232 t233 t234 t235 w0 _ ?side1 ?side2 A9.out).mono ?_); (case side1 => exact sI1380 HI0.out); (case side2 => exact sB1 HB.out (IsS138.ge HI0.out)); rintro e w13 ⟨rfl, hi, hb, hk⟩; refine ⟨_, rfl, ?_⟩; replace HK := Aside0.mk (KeepBut.trans (by exact sK0 HK.out) hk (.inl rfl)); replace HB := Aside0.mk (hb); replace HI0 := Aside0.mk (hi); (try clear hb); (try clear hk); (try clear hi)) | ((with_reducible refine gate_callee (f := 126) rfl ?_); refine gL (some 21) Try.func126 #[.pointer (some ⟨g, 0, none⟩)] ?_; (with_reducible refine (spec_l1Byte.calls g s0_0 t234 t235 t236 t237 t238 w0 _ ?side1 ?side2 A10.out).mono ?_); (case side1 => exact sI1380 HI0.out); (case side2 => exact sB1 HB.out (IsS138.ge HI0.out)); rintro e w14 ⟨rfl, hi, hb, hk⟩; refine ⟨_, rfl, ?_⟩; replace HK := Aside0.mk (KeepBut.trans (by exact sK0 HK.out) hk (.inl rfl)); replace HB := Aside0.mk (hb); replace HI0 := Aside0.mk (hi); (try clear hb); (try clear hk); (try clear hi)))
   go_ret
   exact ⟨rA, by exact sI1380 HI0.out, by exact sB1 HB.out (IsS138.ge HI0.out), by exact sK0 HK.out⟩

/-! ### spec_l1Int: function 94 -/
def spec_l1Int.f (s0_0 : List Int) (s0_1 : Int) (s0_2 : Int) (l1 : List Int) : Option (Int × Int × Int) := (spec_l1Below.f s0_0 s0_1 s0_2 (l1.length : Int)).bind fun bt239 => (if 0 ≤ bt239.1 then (if bt239.1 < (l1.length : Int) then (some (rd l1 bt239.1, bt239.2.1, bt239.2.2)) else (none)) else (none))
set_option maxHeartbeats 8000000 in
set_option maxRecDepth 100000 in
theorem spec_l1Int.calls (g : Nat) (s0_0 : List Int) (s0_1 : Int) (s0_2 : Int) (A1 : Option Addr) (c1 : Nat) (l1 : List Int) (r1 : Int) (r2 : Int) (r3 : Int) (w0 w : World) (hI : IsS138 w0 w g s0_0 s0_1 s0_2) (hB : Below w0.heap.size w0 w) (hr1 : Kd.C (Kd.int .i64) w A1 l1.length l1) (hc1 : l1.length ≤ c1) (hf1 : ∀ ad, A1 = some ad → 0 < l1.length → ad.block ≠ g) (h : spec_l1Int.f s0_0 s0_1 s0_2 l1 = some (r1, r2, r3)) :
  Calls Try.prog 94 #[.pointer (some ⟨g, 0, none⟩), .slice A1 l1.length c1] w fun e w' => e = .returned (.int .i64 r1) ∧ IsS138 w0 w' g s0_0 r2 r3 ∧ Below w0.heap.size w0 w' ∧ KeepBut w w' g none := by
 have HR1 := Aside0.mk hr1
 have HC1 := Aside0.mk hc1
 clear hr1 hc1
 have HI0 := Aside0.mk hI
 have HK := Aside0.mk (KeepBut.refl w g none)
 have HL := Aside0.mk hB.size
 clear hI
 have HW0 := Aside0.mk hB.size
 have HB := Aside0.mk hB
 clear hB
 have H : ((spec_l1Below.f s0_0 s0_1 s0_2 (l1.length : Int)).bind fun bt239 => (if 0 ≤ bt239.1 then (if bt239.1 < (l1.length : Int) then (some (rd l1 bt239.1, bt239.2.1, bt239.2.2)) else (none)) else (none))) = some (r1, r2, r3) := h
 clear h
 obtain ⟨⟨t239, t240, t241⟩, A3, H⟩ := bindE H
 try dsimp only at H
 have c4 : 0 ≤ t239 := ifN H
 replace H := ifT H
 have c4b0 := decide_eq_true c4
 clear c4
 have c5 : t239 < (l1.length : Int) := ifN H
 replace H := ifT H
 have c5b0 := decide_eq_true c5
 clear c5
 simp only [Option.some.injEq, Prod.mk.injEq] at H
 obtain ⟨rfl, rfl, rfl⟩ := H
 go_enter Try.func94, Try.ntmps94
 go_wp2_with (first | ((with_reducible refine gate_callee (f := 84) rfl ?_); refine gL (some 9) Try.func84 #[.pointer (some ⟨g, 0, none⟩), .int .i64 (l1.length : Int)] ?_; (with_reducible refine (spec_l1Below.calls g s0_0 s0_1 s0_2 (l1.length : Int) t239 t240 t241 w0 _ ?side1 ?side2 A3.out).mono ?_); (case side1 => exact sI1380 HI0.out); (case side2 => exact sB1 HB.out (IsS138.ge HI0.out)); rintro e w6 ⟨rfl, hi, hb, hk⟩; refine ⟨_, rfl, ?_⟩; replace HK := Aside0.mk (KeepBut.trans (by exact sK0 HK.out) hk (.inl rfl)); replace HB := Aside0.mk (hb); replace HI0 := Aside0.mk (hi); (try clear hb); (try clear hk); (try clear hi); have p242 : 0 ≤ (t239 : Int) := dA; have q242 : t239 < (l1.length : Int) := dA; obtain ⟨ad242, e242, hx242_0⟩ := Kd.at_int HR1.out t239 p242 q242; cases e242; replace hx242_0 := keep_cell HK.out hx242_0 (by first | (rw [add_block]; exact hf1 _ rfl (by omega)) | exact hf1 _ rfl (by omega) | exact hf1 ad242 rfl (by omega)); replace p242 := eq_true p242; replace q242 := eq_true q242))
 go_ret
 exact ⟨rA, by exact sI1380 HI0.out, by exact sB1 HB.out (IsS138.ge HI0.out), by exact sK0 HK.out⟩

/-! ### spec_l12Arrivals: function 92 -/
def spec_l12Arrivals.l0 : Nat → Int → List Int → Int → List Int → Int → Int → Option (List Int × Int × Int)
 | 0, _, _, _, _, _, _ => none
 | k + 1, x1, x5, x6, x1000, x1001, x1002 => if x6 < x1 then ((spec_l1Int.f x1000 x1001 x1002 (([0, 0, 0, 1, 1, 2] : List Int))).bind fun bt249 => (if x5.length < 17592186044416 then (spec_l12Arrivals.l0 k x1 (x5 ++ [bt249.1]) (wrap64 (x6 + 1)) x1000 bt249.2.1 bt249.2.2) else (none))) else (some (x5, x1001, x1002))
def spec_l12Arrivals.f (k : Nat) (s0_0 : List Int) (s0_1 : Int) (s0_2 : Int) (a1 : Int) : Option (List Int × Int × Int) := spec_l12Arrivals.l0 k a1 (([] : List Int)) 0 s0_0 s0_1 s0_2
theorem spec_l12Arrivals.mono_l : ∀ k, (∀ y0 y1 y2 y3 y4 y5, LeO (spec_l12Arrivals.l0 k y0 y1 y2 y3 y4 y5) (spec_l12Arrivals.l0 (k + 1) y0 y1 y2 y3 y4 y5))
 | 0 => fun _ _ _ _ _ _ r h => by simp [spec_l12Arrivals.l0] at h
 | k + 1 => by
  have ih0 := spec_l12Arrivals.mono_l k
  ·
   intro y0 y1 y2 y3 y4 y5
   unfold spec_l12Arrivals.l0
   repeat' first | (with_reducible first | exact LeO.refl _ | exact LeO.none _ | refine LeO.ite ?_ ?_ | refine LeO.bind ?_ (fun _ => ?_) | exact ih0 _ _ _ _ _ _)
theorem spec_l12Arrivals.mono : ∀ a0 a1 a2 a3 k, LeO (spec_l12Arrivals.f k a0 a1 a2 a3) (spec_l12Arrivals.f (k + 1) a0 a1 a2 a3) := by
 intro a0 a1 a2 a3 k
 have ih0 := spec_l12Arrivals.mono_l k
 unfold spec_l12Arrivals.f
 repeat' first | (with_reducible first | exact LeO.refl _ | exact LeO.none _ | refine LeO.ite ?_ ?_ | refine LeO.bind ?_ (fun _ => ?_) | exact ih0 _ _ _ _ _ _)
set_option maxHeartbeats 8000000 in
set_option maxRecDepth 100000 in
theorem spec_l12Arrivals.calls (k : Nat) (g : Nat) (s0_0 : List Int) (s0_1 : Int) (s0_2 : Int) (a1 : Int) (r1 : List Int) (r2 : Int) (r3 : Int) (w0 w : World) (hI : IsS138 w0 w g s0_0 s0_1 s0_2) (hB : Below w0.heap.size w0 w) (h : spec_l12Arrivals.f k s0_0 s0_1 s0_2 a1 = some (r1, r2, r3)) :
  Calls Try.prog 92 #[.pointer (some ⟨g, 0, none⟩), .int .i64 a1] w fun e w' => ∃ v0_ : Value, e = .returned (v0_) ∧ Kd.R (Kd.int .i64) 3 w' w.heap.size (fun _ => True) v0_ r1 ∧ IsS138 w0 w' g s0_0 r2 r3 ∧ Below w0.heap.size w0 w' ∧ KeepBut w w' g none := by
 have HI0 := Aside0.mk hI
 have HK := Aside0.mk (KeepBut.refl w g none)
 have HL := Aside0.mk hB.size
 clear hI
 have HW0 := Aside0.mk hB.size
 have HB := Aside0.mk hB
 clear hB
 have H : (spec_l12Arrivals.l0 k a1 (([] : List Int)) 0 s0_0 s0_1 s0_2) = some (r1, r2, r3) := h
 clear h
 obtain ⟨y243, hy243⟩ : ∃ y_ : List Int, y_ = (([] : List Int)) := ⟨_, rfl⟩
 replace H : (spec_l12Arrivals.l0 k a1 y243 0 s0_0 s0_1 s0_2) = some (r1, r2, r3) := rH H hy243
 have Ny243 := Aside0.mk hy243
 clear hy243
 have H' := Aside0.mk H
 clear H
 go_enter Try.func92, Try.ntmps92
 go_wp2_with (first | ((with_reducible refine gate_dst (N := 7) rfl ?_); refine Kd.R_lit (Kd.int .i64) _ 3 ?hg (N := 7) ?hd (xs := ([] : List Int)) (inner := []) (ok := fun _ => True) (okp := fun _ => True) ?hr ?hp (fun _ hk => hk) trivial (Below.refl _ _) (Nat.le_refl _) (by simp) ?_; (case hd => rfl); (case hg => rfl); (case hr => first | (go_simp; done) | (go_simp; rfl)); (case hp => exact (Reps.none _ _)); intro v244 w3 ho4 hb hg_ hnew_; clear hg_ hnew_; (first | rw [← Ny243.out] at ho4 | (simp only [Int.reduceToNat] at ho4; rw [← Ny243.out] at ho4)); have n0_ := Aside0.mk (Kd.R_lower ho4 (keep_size (w := w) (g := g) (row := none) (by exact sK0 HK.out))); have n1_ := Aside0.mk (IsS138.below (by exact sI1380 HI0.out) hb); have n2_ := Aside0.mk (KeepBut.trans (by exact sK0 HK.out) (KeepBut.of_below hb g none) (.inl rfl)); have n3_ := Aside0.mk (below_step (by exact sB1 HB.out (IsS138.ge HI0.out)) hb); clear HI0; clear HK; clear HB; have HO245 := n0_; have HI0 := n1_; have HK := n2_; have HB := n3_; clear n0_ n1_ n2_ n3_; clear hb ho4))
 go_loopg [5, 6] k (fun kq v5 v6 w' => ∃ (x5_1 : List Int) (x6_1 : Int) (x1001_1 : Int) (x1002_1 : Int), v6 = .int .i64 x6_1 ∧ Aside0 (spec_l12Arrivals.l0 kq a1 x5_1 x6_1 s0_0 x1001_1 x1002_1 = some (r1, r2, r3)) ∧ Aside0 (kq ≤ k) ∧ Aside0 (Kd.R (Kd.int .i64) 3 w' w.heap.size (fun _ => True) v5 x5_1) ∧ Aside0 (IsS138 w0 w' g s0_0 x1001_1 x1002_1) ∧ Aside0 (KeepBut w w' g none) ∧ Aside0 (Below w0.heap.size w0 w'))
 case atStart => exact ⟨(y243), (0), (s0_1), (s0_2), rS, H', ⟨Nat.le_refl _⟩, ⟨rK HO245⟩, ⟨by exact sI1380 HI0.out⟩, ⟨by exact sK0 HK.out⟩, ⟨by exact sB1 HB.out (IsS138.ge HI0.out)⟩⟩
 case round =>
  clear H'
  try clear p2
  obtain ⟨x5_1, x6_1, x1001_1, x1002_1, rfl, HA, HK1, HO_5, HI0, HK, HB⟩ := hrel
  cases gk with
  | zero => exact absurd HA.out (by simp [spec_l12Arrivals.l0])
  | succ k1 =>
   have H := HA.out
   clear HA
   simp only [spec_l12Arrivals.l0] at H
   by_cases c5 : x6_1 < a1
   ·
    rw [if_pos c5] at H
    have c5b0 := decide_eq_true c5
    clear c5
    obtain ⟨y246, hy246⟩ : ∃ y_ : List Int, y_ = (([0, 0, 0, 1, 1, 2] : List Int)) := ⟨_, rfl⟩
    replace H : ((spec_l1Int.f s0_0 x1001_1 x1002_1 y246).bind fun bt249 => (if x5_1.length < 17592186044416 then (spec_l12Arrivals.l0 k1 a1 (x5_1 ++ [bt249.1]) (wrap64 (x6_1 + 1)) s0_0 bt249.2.1 bt249.2.2) else (none))) = some (r1, r2, r3) := rH H hy246
    have Ny246 := Aside0.mk hy246
    clear hy246
    obtain ⟨⟨t249, t250, t251⟩, A6, H⟩ := bindE H
    try dsimp only at H
    have c7 : x5_1.length < 17592186044416 := ifN H
    replace H := ifT H
    have LMc7 := Aside0.mk c7
    clear c7
    obtain ⟨y252, hy252⟩ : ∃ y_ : List Int, y_ = (x5_1 ++ [t249]) := ⟨_, rfl⟩
    replace H : (spec_l12Arrivals.l0 k1 a1 y252 (wrap64 (x6_1 + 1)) s0_0 t250 t251) = some (r1, r2, r3) := rH H hy252
    have Ny252 := Aside0.mk hy252
    clear hy252
    have H' := Aside0.mk H
    clear H
    go_wp2_with (first | ((with_reducible refine gate_dst (N := 15) rfl ?_); refine Kd.R_lit (Kd.int .i64) _ 3 ?hg (N := 15) ?hd (xs := ([0, 0, 0, 1, 1, 2] : List Int)) (inner := [.int .i64 0, .int .i64 0, .int .i64 0, .int .i64 1, .int .i64 1, .int .i64 2]) (ok := fun _ => True) (okp := fun _ => True) ?hr ?hp (fun _ hk => hk) trivial (Below.refl _ _) (Nat.le_refl _) (by simp) ?_; (case hd => rfl); (case hg => rfl); (case hr => first | (go_simp; done) | (go_simp; rfl)); (case hp => exact (Reps.one (show Kd.M (Kd.int .i64) _ _ _ 0 [.int .i64 0] from rfl) (Reps.one (show Kd.M (Kd.int .i64) _ _ _ 0 [.int .i64 0] from rfl) (Reps.one (show Kd.M (Kd.int .i64) _ _ _ 0 [.int .i64 0] from rfl) (Reps.one (show Kd.M (Kd.int .i64) _ _ _ 1 [.int .i64 1] from rfl) (Reps.one (show Kd.M (Kd.int .i64) _ _ _ 1 [.int .i64 1] from rfl) (Reps.one (show Kd.M (Kd.int .i64) _ _ _ 2 [.int .i64 2] from rfl) (Reps.none _ _)))))))); intro v247 w8 ho9 hb hg_ hnew_; clear hg_ hnew_; (first | rw [← Ny246.out] at ho9 | (simp only [Int.reduceToNat] at ho9; rw [← Ny246.out] at ho9)); have HO248 := Aside0.mk (Kd.R_lower (Kd.R_new' ho9 (Kd.R_lt (rK HO_5))) (keep_size (w := w) (g := g) (row := none) (by exact sK0 HK.out))); replace HO_5 := Aside0.mk (Kd.R_elder' (rK HO_5) (Kd.R_base ho9) hb); replace HK := Aside0.mk (KeepBut.trans (by exact sK0 HK.out) (KeepBut.of_below hb g none) (.inl rfl)); replace HB := Aside0.mk (below_step (by exact sB1 HB.out (IsS138.ge HI0.out)) hb); replace HI0 := Aside0.mk (IsS138.below (by exact sI1380 HI0.out) hb); clear hb ho9; obtain ⟨Ao10, co10, eo10⟩ := Kd.R_slice HO248.out; subst eo10) | ((with_reducible refine gate_callee (f := 94) rfl ?_); refine gL (some 16) Try.func94 #[.pointer (some ⟨g, 0, none⟩), .slice Ao10 y246.length co10] ?_; (with_reducible refine (spec_l1Int.calls g s0_0 x1001_1 x1002_1 _ _ y246 t249 t250 t251 w0 _ ?side1 ?side2 ?side3 ?side4 ?side5 A6.out).mono ?_); (case side1 => exact sI1380 HI0.out); (case side2 => exact sB1 HB.out (IsS138.ge HI0.out)); (case side3 => exact cO ⟨(Kd.R_reads' HO248.out).2.2⟩); (case side4 => exact (Kd.R_reads' HO248.out).2.1); (case side5 => exact far_slice (IsS138.own_ne HI0.out HO248.out (by decide))); rintro e w11 ⟨rfl, hi, hb, hk⟩; refine ⟨_, rfl, ?_⟩; replace HO_5 := Aside0.mk (Kd.R_mono (Kd.R_keep (IsS138.apart (show IsS138 w0 _ g s0_0 x1001_1 x1002_1 from by exact sI1380 HI0.out) (rK HO_5) (by decide)) hk (fun _ h => h.2)) (fun _ h => h.1)); replace HO248 := Aside0.mk (Kd.R_mono (Kd.R_keep (IsS138.apart (show IsS138 w0 _ g s0_0 x1001_1 x1002_1 from by exact sI1380 HI0.out) (rK HO248) (by decide)) hk (fun _ h => h.2)) (fun _ h => h.1)); replace HK := Aside0.mk (KeepBut.trans (by exact sK0 HK.out) hk (.inl rfl)); replace HB := Aside0.mk (hb); replace HI0 := Aside0.mk (hi); (try clear hb); (try clear hk); (try clear hi)) | ((with_reducible refine gate_builtin (b := .append) (xs := #[.tmp 13, .tmp 17]) rfl ?_); at_builtin; refine Kd.R_append (Kd.int .i64) w.heap.size rfl (.tmp 13) (.tmp 17) 35 3 (.int .i64 0) 8 rfl Try.underlying35 info3 rfl (by decide) (by omega) u5 x5_1 t249 [.int .i64 t249] (fun k_ => some k_ ≠ (.slice Ao10 y246.length co10 : Value).ownBlock) (fun _ => False) rfl rfl ?aP (fun _ hk => hk.elim) ?aF ?aO (Below.refl _ _) ?aS ?aL ?_; (case aP => exact rfl); (case aF => exact (fun k_ hk => Kd.fresh' (Kd.R_lt (rK HO248)) k_ hk)); (case aO => exact (by (with_reducible repeat (first | apply Kd.R_alloc | apply Kd.R_drewN | apply Kd.R_drew)); exact Kd.R_mono HO_5.out (fun _ hk => hk.2))); (case aS => exact (keep_size (w := w) (g := g) (row := none) (by exact sK0 HK.out))); (case aL => have := LMc7.out; omega); intro v253 w12 ho hb hg hat; rw [← Ny252.out] at ho; have n0_ := Aside0.mk (IsS138.grown (by exact sI1380 HI0.out) hg (IsS138.own_ne HI0.out HO_5.out (by decide))); have n1_ := Aside0.mk (Kd.R_after (ok := (fun _ => True)) (rK HO248) hg hat); have n2_ := Aside0.mk (below_weaken (by exact sB1 HB.out (IsS138.ge HI0.out)) HL.out hb); have n3_ := Aside0.mk (KeepBut.trans (by exact sK0 HK.out) (KeepBut.of_grown hg g) (Kd.R_base2 HO_5.out)); have n4_ := Aside0.mk (ho); clear HI0; clear HO248; clear HB; clear HK; clear HO_5; have HI0 := n0_; have HO248 := n1_; have HB := n2_; have HK := n3_; have HO254 := n4_; clear n0_ n1_ n2_ n3_ n4_; clear ho hb hg hat))
    go_roundg k1
    case measure => have := HK1.out; omega
    case rel => exact ⟨(y252), (wrap64 (x6_1 + 1)), (t250), (t251), rS, H', ⟨by have := HK1.out; omega⟩, ⟨by (with_reducible repeat (first | apply Kd.R_alloc | apply Kd.R_drewN | apply Kd.R_drew)); exact Kd.R_mono HO254.out (fun _ hk => trivial)⟩, ⟨by exact sI1380 HI0.out⟩, ⟨by exact sK0 HK.out⟩, ⟨by exact sB1 HB.out (IsS138.ge HI0.out)⟩⟩
   ·
    rw [if_neg c5] at H
    have c5b0 := decide_eq_false c5
    clear c5
    simp only [Option.some.injEq, Prod.mk.injEq] at H
    obtain ⟨rfl, rfl, rfl⟩ := H
    go_wp2
    go_ret
    exact ⟨_, by first | rfl | (simp [errW_none, errW_some] <;> rfl) | (simp [*, errW_none, errW_some] <;> rfl), by (with_reducible repeat (first | apply Kd.R_alloc | apply Kd.R_drewN | apply Kd.R_drew)); exact HO_5.out, by exact sI1380 HI0.out, by exact sB1 HB.out (IsS138.ge HI0.out), by exact sK0 HK.out⟩

/-! ### spec_l1Once: function 93 -/
def spec_l1Once.f (s0_0 : List Int) (s0_1 : Int) (s0_2 : Int) (a1 : Int) : Option (Bool × Int × Int) := (spec_l1Below.f s0_0 s0_1 s0_2 a1).bind fun bt255 => (some ((bt255.1 == 0), bt255.2.1, bt255.2.2))
set_option maxHeartbeats 8000000 in
set_option maxRecDepth 100000 in
theorem spec_l1Once.calls (g : Nat) (s0_0 : List Int) (s0_1 : Int) (s0_2 : Int) (a1 : Int) (r1 : Bool) (r2 : Int) (r3 : Int) (w0 w : World) (hI : IsS138 w0 w g s0_0 s0_1 s0_2) (hB : Below w0.heap.size w0 w) (h : spec_l1Once.f s0_0 s0_1 s0_2 a1 = some (r1, r2, r3)) :
  Calls Try.prog 93 #[.pointer (some ⟨g, 0, none⟩), .int .i64 a1] w fun e w' => e = .returned (.bool r1) ∧ IsS138 w0 w' g s0_0 r2 r3 ∧ Below w0.heap.size w0 w' ∧ KeepBut w w' g none := by
 have HI0 := Aside0.mk hI
 have HK := Aside0.mk (KeepBut.refl w g none)
 have HL := Aside0.mk hB.size
 clear hI
 have HW0 := Aside0.mk hB.size
 have HB := Aside0.mk hB
 clear hB
 have H : ((spec_l1Below.f s0_0 s0_1 s0_2 a1).bind fun bt255 => (some ((bt255.1 == 0), bt255.2.1, bt255.2.2))) = some (r1, r2, r3) := h
 clear h
 obtain ⟨⟨t255, t256, t257⟩, A3, H⟩ := bindE H
 try dsimp only at H
 simp only [Option.some.injEq, Prod.mk.injEq] at H
 obtain ⟨rfl, rfl, rfl⟩ := H
 go_enter Try.func93, Try.ntmps93
 go_wp2_with (first | ((with_reducible refine gate_callee (f := 84) rfl ?_); refine gL (some 7) Try.func84 #[.pointer (some ⟨g, 0, none⟩), .int .i64 a1] ?_; (with_reducible refine (spec_l1Below.calls g s0_0 s0_1 s0_2 a1 t255 t256 t257 w0 _ ?side1 ?side2 A3.out).mono ?_); (case side1 => exact sI1380 HI0.out); (case side2 => exact sB1 HB.out (IsS138.ge HI0.out)); rintro e w4 ⟨rfl, hi, hb, hk⟩; refine ⟨_, rfl, ?_⟩; replace HK := Aside0.mk (KeepBut.trans (by exact sK0 HK.out) hk (.inl rfl)); replace HB := Aside0.mk (hb); replace HI0 := Aside0.mk (hi); (try clear hb); (try clear hk); (try clear hi)))
 go_ret
 exact ⟨rA, by exact sI1380 HI0.out, by exact sB1 HB.out (IsS138.ge HI0.out), by exact sK0 HK.out⟩

/-! ### spec_DrawQueueRun: function 34 -/
def spec_DrawQueueRun.l0 : Nat → Int → List Int → List Bool → Int → List Int → Int → Int → Option (List Int × List Bool)
 | 0, _, _, _, _, _, _, _ => none
 | k + 1, x5, x6, x7, x8, x262000, x262001, x262002 => if x8 < x5 then ((spec_l1Once.f x262000 x262001 x262002 3).bind fun bt273 => (if x7.length < 140737488355328 then (spec_DrawQueueRun.l0 k x5 x6 (x7 ++ [!bt273.1]) (wrap64 (x8 + 1)) x262000 bt273.2.1 bt273.2.2) else (none))) else ((spec_l1Below.f x262000 x262001 x262002 9).bind fun bt279 => (if bt279.1 = 0 then (if x6.length < 17592186044416 then (some ((x6 ++ [1]), x7)) else (none)) else (if bt279.1 = 1 then (if x5 > 0 then ((spec_l1Int.f x262000 bt279.2.1 bt279.2.2 (([(-1), 10000, 10001] : List Int))).bind fun bt288 => (if 0 < (x6.length : Int) then (some ((x6.set (0 : Int).toNat bt288.1), x7)) else (none))) else (some (x6, x7))) else (some (x6, x7)))))
def spec_DrawQueueRun.f (k : Nat) (l0 : List Int) : Option (List Int × List Bool) := (spec_l1New.f k l0).bind fun bt258 => ((spec_l1Below.f bt258.1 bt258.2.1 bt258.2.2 20).bind fun bt262 => ((spec_l12Arrivals.f k bt258.1 bt262.2.1 bt262.2.2 bt262.1).bind fun bt265 => (spec_DrawQueueRun.l0 k bt262.1 bt265.1 (([] : List Bool)) 0 bt258.1 bt265.2.1 bt265.2.2)))
theorem spec_DrawQueueRun.mono_l : ∀ k, (∀ y0 y1 y2 y3 y4 y5 y6, LeO (spec_DrawQueueRun.l0 k y0 y1 y2 y3 y4 y5 y6) (spec_DrawQueueRun.l0 (k + 1) y0 y1 y2 y3 y4 y5 y6))
 | 0 => fun _ _ _ _ _ _ _ r h => by simp [spec_DrawQueueRun.l0] at h
 | k + 1 => by
  have ih0 := spec_DrawQueueRun.mono_l k
  ·
   intro y0 y1 y2 y3 y4 y5 y6
   unfold spec_DrawQueueRun.l0
   repeat' first | (with_reducible first | exact LeO.refl _ | exact LeO.none _ | refine LeO.ite ?_ ?_ | refine LeO.bind ?_ (fun _ => ?_) | exact ih0 _ _ _ _ _ _ _ | exact spec_l12Arrivals.mono _ _ _ _ _ | exact spec_l1New.mono _ _)
theorem spec_DrawQueueRun.mono : ∀ a0 k, LeO (spec_DrawQueueRun.f k a0) (spec_DrawQueueRun.f (k + 1) a0) := by
 intro a0 k
 have ih0 := spec_DrawQueueRun.mono_l k
 unfold spec_DrawQueueRun.f
 repeat' first | (with_reducible first | exact LeO.refl _ | exact LeO.none _ | refine LeO.ite ?_ ?_ | refine LeO.bind ?_ (fun _ => ?_) | exact ih0 _ _ _ _ _ _ _ | exact spec_l12Arrivals.mono _ _ _ _ _ | exact spec_l1New.mono _ _)
set_option maxHeartbeats 8000000 in
set_option maxRecDepth 100000 in
theorem spec_DrawQueueRun.calls (k : Nat) (A0 : Option Addr) (c0 : Nat) (l0 : List Int) (r1 : List Int) (r2 : List Bool) (w : World) (hr0 : Kd.C (Kd.int .u8) w A0 l0.length l0) (hc0 : l0.length ≤ c0) (h : spec_DrawQueueRun.f k l0 = some (r1, r2)) :
  Calls Try.prog 34 #[.slice A0 l0.length c0] w fun e w' => ∃ v0_ v1_ : Value, e = .returned (.tuple #[v0_, v1_]) ∧ Kd.R (Kd.int .i64) 3 w' w.heap.size (fun _ => True) v0_ r1 ∧ Kd.R Kd.bool 4 w' w.heap.size (fun _ => True) v1_ r2 ∧ Below w.heap.size w w' := by
 have HR0 := Aside0.mk hr0
 have HC0 := Aside0.mk hc0
 clear hr0 hc0
 have HB := Aside0.mk (Below.refl w.heap.size w)
 have H : ((spec_l1New.f k l0).bind fun bt258 => ((spec_l1Below.f bt258.1 bt258.2.1 bt258.2.2 20).bind fun bt262 => ((spec_l12Arrivals.f k bt258.1 bt262.2.1 bt262.2.2 bt262.1).bind fun bt265 => (spec_DrawQueueRun.l0 k bt262.1 bt265.1 (([] : List Bool)) 0 bt258.1 bt265.2.1 bt265.2.2)))) = some (r1, r2) := h
 clear h
 obtain ⟨⟨t258, t259, t260⟩, A2, H⟩ := bindE H
 try dsimp only at H
 obtain ⟨⟨t262, t263, t264⟩, A3, H⟩ := bindE H
 try dsimp only at H
 obtain ⟨⟨t265, t268, t269⟩, A4, H⟩ := bindE H
 try dsimp only at H
 obtain ⟨y270, hy270⟩ : ∃ y_ : List Bool, y_ = (([] : List Bool)) := ⟨_, rfl⟩
 replace H : (spec_DrawQueueRun.l0 k t262 t265 y270 0 t258 t268 t269) = some (r1, r2) := rH H hy270
 have Ny270 := Aside0.mk hy270
 clear hy270
 have H' := Aside0.mk H
 clear H
 go_enter Try.func34, Try.ntmps34
 go_wp2_with (first | ((with_reducible refine gate_callee (f := 81) rfl ?_); refine gL (some 10) Try.func81 #[.slice A0 l0.length c0] ?_; (with_reducible refine (spec_l1New.calls k _ _ l0 t258 t259 t260 w _ ?side1 ?side2 ?side3 A2.out).mono ?_); (case side1 => exact sB0 HB.out); (case side2 => exact HR0.out); (case side3 => exact HC0.out); rintro e w5 ⟨g261, rfl, hi, hb, hb2⟩; refine ⟨_, rfl, ?_⟩; replace HB := Aside0.mk (hb); have HI261 := Aside0.mk (hi); (try clear hb); (try clear hb2); (try clear hi)) | ((with_reducible refine gate_callee (f := 84) rfl ?_); refine gL (some 12) Try.func84 #[.pointer (some ⟨g261, 0, none⟩), .int .i64 20] ?_; (with_reducible refine (spec_l1Below.calls g261 t258 t259 t260 20 t262 t263 t264 w _ ?side1 ?side2 A3.out).mono ?_); (case side1 => exact sI1380 HI261.out); (case side2 => exact sB1 HB.out (IsS138.ge HI261.out)); rintro e w6 ⟨rfl, hi, hb, hk⟩; refine ⟨_, rfl, ?_⟩; replace HB := Aside0.mk (hb); replace HI261 := Aside0.mk (hi); (try clear hb); (try clear hk); (try clear hi)) | ((with_reducible refine gate_callee (f := 92) rfl ?_); refine gL (some 15) Try.func92 #[.pointer (some ⟨g261, 0, none⟩), .int .i64 t262] ?_; (with_reducible refine (spec_l12Arrivals.calls k g261 t258 t263 t264 t262 t265 t268 t269 w _ ?side1 ?side2 A4.out).mono ?_); (case side1 => exact sI1380 HI261.out); (case side2 => exact sB1 HB.out (IsS138.ge HI261.out)); rintro e w7 ⟨v266, rfl, ho0, hi, hb, hk⟩; refine ⟨_, rfl, ?_⟩; have n0_ := Aside0.mk (Kd.R_lower ho0 (below_size (by exact sB1 HB.out (IsS138.ge HI261.out)))); have n1_ := Aside0.mk (hb); have n2_ := Aside0.mk (hi); clear HB; clear HI261; have HO267 := n0_; have HB := n1_; have HI261 := n2_; clear n0_ n1_ n2_; (try clear hb); (try clear hk); (try clear hi); (try clear ho0)) | ((with_reducible refine gate_dst (N := 16) rfl ?_); refine Kd.R_lit Kd.bool _ 4 ?hg (N := 16) ?hd (xs := ([] : List Bool)) (inner := []) (ok := fun _ => True) (okp := fun _ => True) ?hr ?hp (fun _ hk => hk) trivial (Below.refl _ _) (Nat.le_refl _) (by simp) ?_; (case hd => rfl); (case hg => rfl); (case hr => first | (go_simp; done) | (go_simp; rfl)); (case hp => exact (Reps.none _ _)); intro v271 w8 ho9 hb hg_ hnew_; clear hg_ hnew_; (first | rw [← Ny270.out] at ho9 | (simp only [Int.reduceToNat] at ho9; rw [← Ny270.out] at ho9)); replace HO267 := Aside0.mk (Kd.R_below (rK HO267) hb); have HO272 := Aside0.mk (Kd.R_lower ho9 (below_size (by exact sB1 HB.out (IsS138.ge HI261.out)))); replace HB := Aside0.mk (below_step (by exact sB1 HB.out (IsS138.ge HI261.out)) hb); replace HI261 := Aside0.mk (IsS138.below (by exact sI1380 HI261.out) hb); clear hb ho9))
 go_loopg [7, 8] k (fun kq v7 v8 w' => ∃ (x7_1 : List Bool) (x8_1 : Int) (x262001_1 : Int) (x262002_1 : Int), v8 = .int .i64 x8_1 ∧ Aside0 (spec_DrawQueueRun.l0 kq t262 t265 x7_1 x8_1 t258 x262001_1 x262002_1 = some (r1, r2)) ∧ Aside0 (kq ≤ k) ∧ Aside0 (Kd.R (Kd.int .i64) 3 w' w.heap.size (fun _ => True) v266 t265) ∧ Aside0 (Kd.R Kd.bool 4 w' w.heap.size (fun _ => True) v7 x7_1) ∧ Aside0 (IsS138 w w' g261 t258 x262001_1 x262002_1) ∧ Aside0 (Below w.heap.size w w'))
 case atStart => exact ⟨(y270), (0), (t268), (t269), rS, H', ⟨Nat.le_refl _⟩, ⟨rK HO267⟩, ⟨rK HO272⟩, ⟨by exact sI1380 HI261.out⟩, ⟨by exact sB1 HB.out (IsS138.ge HI261.out)⟩⟩
 case round =>
  clear H'
  try clear p2
  try clear c3
  try clear c8
  try clear c9
  obtain ⟨x7_1, x8_1, x262001_1, x262002_1, rfl, HA, HK1, HO_6, HO_7, HI261, HB⟩ := hrel
  cases gk with
  | zero => exact absurd HA.out (by simp [spec_DrawQueueRun.l0])
  | succ k1 =>
   have H := HA.out
   clear HA
   simp only [spec_DrawQueueRun.l0] at H
   by_cases c10 : x8_1 < t262
   ·
    rw [if_pos c10] at H
    have c10b0 := decide_eq_true c10
    clear c10
    obtain ⟨⟨t273, t274, t275⟩, A11, H⟩ := bindE H
    try dsimp only at H
    have c12 : x7_1.length < 140737488355328 := ifN H
    replace H := ifT H
    have LMc12 := Aside0.mk c12
    clear c12
    obtain ⟨y276, hy276⟩ : ∃ y_ : List Bool, y_ = (x7_1 ++ [!t273]) := ⟨_, rfl⟩
    replace H : (spec_DrawQueueRun.l0 k1 t262 t265 y276 (wrap64 (x8_1 + 1)) t258 t274 t275) = some (r1, r2) := rH H hy276
    have Ny276 := Aside0.mk hy276
    clear hy276
    have H' := Aside0.mk H
    clear H
    go_wp2_with (first | ((with_reducible refine gate_callee (f := 93) rfl ?_); refine gL (some 24) Try.func93 #[.pointer (some ⟨g261, 0, none⟩), .int .i64 3] ?_; (with_reducible refine (spec_l1Once.calls g261 t258 x262001_1 x262002_1 3 t273 t274 t275 w _ ?side1 ?side2 A11.out).mono ?_); (case side1 => exact sI1380 HI261.out); (case side2 => exact sB1 HB.out (IsS138.ge HI261.out)); rintro e w13 ⟨rfl, hi, hb, hk⟩; refine ⟨_, rfl, ?_⟩; replace HO_6 := Aside0.mk (Kd.R_mono (Kd.R_keep (IsS138.apart (show IsS138 w _ g261 t258 x262001_1 x262002_1 from by exact sI1380 HI261.out) (rK HO_6) (by decide)) hk (fun _ h => h.2)) (fun _ h => h.1)); replace HO_7 := Aside0.mk (Kd.R_mono (Kd.R_keep (IsS138.apart (show IsS138 w _ g261 t258 x262001_1 x262002_1 from by exact sI1380 HI261.out) (rK HO_7) (by decide)) hk (fun _ h => h.2)) (fun _ h => h.1)); replace HB := Aside0.mk (hb); replace HI261 := Aside0.mk (hi); (try clear hb); (try clear hk); (try clear hi)) | ((with_reducible refine gate_builtin (b := .append) (xs := #[.tmp 22, .tmp 26]) rfl ?_); at_builtin; refine Kd.R_append Kd.bool (w0 := w) w.heap.size rfl (.tmp 22) (.tmp 26) 56 4 (.bool false) 1 rfl Try.underlying56 info4 rfl (by decide) (by omega) u7 x7_1 (!t273) [.bool (!t273)] (fun _ => True) (fun _ => False) rfl rfl ?aP (fun _ hk => hk.elim) ?aF ?aO ?aB ?aS ?aL ?_; (case aP => exact rfl); (case aB => exact (by exact sB1 HB.out (IsS138.ge HI261.out))); (case aF => exact (fun _ _ => trivial)); (case aO => exact (rK HO_7)); (case aS => exact (below_size (by exact sB1 HB.out (IsS138.ge HI261.out)))); (case aL => have := LMc12.out; omega); intro v277 w14 ho hb hg hat; rw [← Ny276.out] at ho; have n0_ := Aside0.mk (Kd.R_over' (rK HO_6) (Kd.R_typed (rK HO_7)) (by decide) hg); have n1_ := Aside0.mk (IsS138.grown (by exact sI1380 HI261.out) hg (IsS138.own_ne HI261.out HO_7.out (by decide))); have n2_ := Aside0.mk (hb); have n3_ := Aside0.mk (ho); clear HO_6; clear HI261; clear HB; clear HO_7; have HO_6 := n0_; have HI261 := n1_; have HB := n2_; have HO278 := n3_; clear n0_ n1_ n2_ n3_; clear ho hb hg hat))
    go_roundg k1
    case measure => have := HK1.out; omega
    case rel => exact ⟨(y276), (wrap64 (x8_1 + 1)), (t274), (t275), rS, H', ⟨by have := HK1.out; omega⟩, ⟨rK HO_6⟩, ⟨rK HO278⟩, ⟨by exact sI1380 HI261.out⟩, ⟨by exact sB1 HB.out (IsS138.ge HI261.out)⟩⟩
   ·
    rw [if_neg c10] at H
    have c10b0 := decide_eq_false c10
    clear c10
    obtain ⟨⟨t279, t280, t281⟩, A15, H⟩ := bindE H
    try dsimp only at H
    by_cases c16 : t279 = 0
    ·
     rw [if_pos c16] at H
     have c16b0 : (t279 == 0) = true := beq_iff_eq.mpr c16
     have c16b1 : (t279 != 0) = false := bne_eq_false_iff_eq.mpr c16
     clear c16
     have c17 : t265.length < 17592186044416 := ifN H
     replace H := ifT H
     have LMc17 := Aside0.mk c17
     clear c17
     obtain ⟨y282, hy282⟩ : ∃ y_ : List Int, y_ = (t265 ++ [1]) := ⟨_, rfl⟩
     replace H : (some (y282, x7_1)) = some (r1, r2) := rH H hy282
     have Ny282 := Aside0.mk hy282
     clear hy282
     simp only [Option.some.injEq, Prod.mk.injEq] at H
     obtain ⟨rfl, rfl⟩ := H
     go_wp2_with (first | ((with_reducible refine gate_callee (f := 84) rfl ?_); refine gL (some 29) Try.func84 #[.pointer (some ⟨g261, 0, none⟩), .int .i64 9] ?_; (with_reducible refine (spec_l1Below.calls g261 t258 x262001_1 x262002_1 9 t279 t280 t281 w _ ?side1 ?side2 A15.out).mono ?_); (case side1 => exact sI1380 HI261.out); (case side2 => exact sB1 HB.out (IsS138.ge HI261.out)); rintro e w18 ⟨rfl, hi, hb, hk⟩; refine ⟨_, rfl, ?_⟩; replace HO_6 := Aside0.mk (Kd.R_mono (Kd.R_keep (IsS138.apart (show IsS138 w _ g261 t258 x262001_1 x262002_1 from by exact sI1380 HI261.out) (rK HO_6) (by decide)) hk (fun _ h => h.2)) (fun _ h => h.1)); replace HO_7 := Aside0.mk (Kd.R_mono (Kd.R_keep (IsS138.apart (show IsS138 w _ g261 t258 x262001_1 x262002_1 from by exact sI1380 HI261.out) (rK HO_7) (by decide)) hk (fun _ h => h.2)) (fun _ h => h.1)); replace HB := Aside0.mk (hb); replace HI261 := Aside0.mk (hi); (try clear hb); (try clear hk); (try clear hi)) | ((with_reducible refine gate_builtin (b := .append) (xs := #[.tmp 32, .tmp 33]) rfl ?_); at_builtin; refine Kd.R_append (Kd.int .i64) (w0 := w) w.heap.size rfl (.tmp 32) (.tmp 33) 35 3 (.int .i64 0) 8 rfl Try.underlying35 info3 rfl (by decide) (by omega) v266 t265 1 [.int .i64 1] (fun _ => True) (fun _ => False) rfl rfl ?aP (fun _ hk => hk.elim) ?aF ?aO ?aB ?aS ?aL ?_; (case aP => exact rfl); (case aB => exact (by exact sB1 HB.out (IsS138.ge HI261.out))); (case aF => exact (fun _ _ => trivial)); (case aO => exact (rK HO_6)); (case aS => exact (below_size (by exact sB1 HB.out (IsS138.ge HI261.out)))); (case aL => have := LMc17.out; omega); intro v283 w19 ho hb hg hat; rw [← Ny282.out] at ho; have n0_ := Aside0.mk (Kd.R_over' (rK HO_7) (Kd.R_typed (rK HO_6)) (by decide) hg); have n1_ := Aside0.mk (IsS138.grown (by exact sI1380 HI261.out) hg (IsS138.own_ne HI261.out HO_6.out (by decide))); have n2_ := Aside0.mk (hb); have n3_ := Aside0.mk (ho); clear HO_7; clear HI261; clear HB; clear HO_6; have HO_7 := n0_; have HI261 := n1_; have HB := n2_; have HO284 := n3_; clear n0_ n1_ n2_ n3_; clear ho hb hg hat))
     go_ret2
     exact ⟨_, _, by first | rfl | (simp [errW_none, errW_some] <;> rfl) | (simp [*, errW_none, errW_some] <;> rfl), by (with_reducible repeat (first | apply Kd.R_alloc | apply Kd.R_drewN | apply Kd.R_drew)); exact HO284.out, by (with_reducible repeat (first | apply Kd.R_alloc | apply Kd.R_drewN | apply Kd.R_drew)); exact HO_7.out, by exact sB1 HB.out (IsS138.ge HI261.out)⟩
    ·
     rw [if_neg c16] at H
     have c16b0 : (t279 == 0) = false := beq_eq_false_iff_ne.mpr c16
     have c16b1 : (t279 != 0) = true := bne_iff_ne.mpr c16
     by_cases c20 : t279 = 1
     ·
      rw [if_pos c20] at H
      have c20b0 : (t279 == 1) = true := beq_iff_eq.mpr c20
      have c20b1 : (t279 != 1) = false := bne_eq_false_iff_eq.mpr c20
      clear c20
      by_cases c21 : t262 > 0
      ·
       rw [if_pos c21] at H
       have c21b0 := decide_eq_true c21
       clear c21
       obtain ⟨y285, hy285⟩ : ∃ y_ : List Int, y_ = (([(-1), 10000, 10001] : List Int)) := ⟨_, rfl⟩
       replace H : ((spec_l1Int.f t258 t280 t281 y285).bind fun bt288 => (if 0 < (t265.length : Int) then (some ((t265.set (0 : Int).toNat bt288.1), x7_1)) else (none))) = some (r1, r2) := rH H hy285
       have Ny285 := Aside0.mk hy285
       clear hy285
       obtain ⟨⟨t288, t289, t290⟩, A22, H⟩ := bindE H
       try dsimp only at H
       have c23 : 0 < (t265.length : Int) := ifN H
       replace H := ifT H
       have c23b0 := decide_eq_true c23
       have c23b1 : decide (0 < t265.length) = true := decide_eq_true (by omega)
       clear c23
       obtain ⟨y291, hy291⟩ : ∃ y_ : List Int, y_ = (t265.set (0 : Int).toNat t288) := ⟨_, rfl⟩
       replace H : (some (y291, x7_1)) = some (r1, r2) := rH H hy291
       have Ny291 := Aside0.mk hy291
       clear hy291
       simp only [Option.some.injEq, Prod.mk.injEq] at H
       obtain ⟨rfl, rfl⟩ := H
       go_wp2_with (first | ((with_reducible refine gate_callee (f := 84) rfl ?_); refine gL (some 29) Try.func84 #[.pointer (some ⟨g261, 0, none⟩), .int .i64 9] ?_; (with_reducible refine (spec_l1Below.calls g261 t258 x262001_1 x262002_1 9 t279 t280 t281 w _ ?side1 ?side2 A15.out).mono ?_); (case side1 => exact sI1380 HI261.out); (case side2 => exact sB1 HB.out (IsS138.ge HI261.out)); rintro e w25 ⟨rfl, hi, hb, hk⟩; refine ⟨_, rfl, ?_⟩; replace HO_6 := Aside0.mk (Kd.R_mono (Kd.R_keep (IsS138.apart (show IsS138 w _ g261 t258 x262001_1 x262002_1 from by exact sI1380 HI261.out) (rK HO_6) (by decide)) hk (fun _ h => h.2)) (fun _ h => h.1)); replace HO_7 := Aside0.mk (Kd.R_mono (Kd.R_keep (IsS138.apart (show IsS138 w _ g261 t258 x262001_1 x262002_1 from by exact sI1380 HI261.out) (rK HO_7) (by decide)) hk (fun _ h => h.2)) (fun _ h => h.1)); replace HB := Aside0.mk (hb); replace HI261 := Aside0.mk (hi); (try clear hb); (try clear hk); (try clear hi)) | ((with_reducible refine gate_dst (N := 41) rfl ?_); refine Kd.R_lit (Kd.int .i64) _ 3 ?hg (N := 41) ?hd (xs := ([(-1), 10000, 10001] : List Int)) (inner := [.int .i64 (-1), .int .i64 10000, .int .i64 10001]) (ok := fun _ => True) (okp := fun _ => True) ?hr ?hp (fun _ hk => hk) trivial (Below.refl _ _) (Nat.le_refl _) (by simp) ?_; (case hd => rfl); (case hg => rfl); (case hr => first | (go_simp; done) | (go_simp; rfl)); (case hp => exact (Reps.one (show Kd.M (Kd.int .i64) _ _ _ (-1) [.int .i64 (-1)] from rfl) (Reps.one (show Kd.M (Kd.int .i64) _ _ _ 10000 [.int .i64 10000] from rfl) (Reps.one (show Kd.M (Kd.int .i64) _ _ _ 10001 [.int .i64 10001] from rfl) (Reps.none _ _))))); intro v286 w26 ho27 hb hg_ hnew_; clear hg_ hnew_; (first | rw [← Ny285.out] at ho27 | (simp only [Int.reduceToNat] at ho27; rw [← Ny285.out] at ho27)); replace HO_7 := Aside0.mk (Kd.R_below (rK HO_7) hb); have HO287 := Aside0.mk (Kd.R_lower (Kd.R_new' ho27 (Kd.R_lt (rK HO_6))) (below_size (by exact sB1 HB.out (IsS138.ge HI261.out)))); replace HO_6 := Aside0.mk (Kd.R_elder' (rK HO_6) (Kd.R_base ho27) hb); replace HB := Aside0.mk (below_step (by exact sB1 HB.out (IsS138.ge HI261.out)) hb); replace HI261 := Aside0.mk (IsS138.below (by exact sI1380 HI261.out) hb); clear hb ho27; obtain ⟨Ao28, co28, eo28⟩ := Kd.R_slice HO287.out; subst eo28) | ((with_reducible refine gate_callee (f := 94) rfl ?_); refine gL (some 42) Try.func94 #[.pointer (some ⟨g261, 0, none⟩), .slice Ao28 y285.length co28] ?_; (with_reducible refine (spec_l1Int.calls g261 t258 t280 t281 _ _ y285 t288 t289 t290 w _ ?side1 ?side2 ?side3 ?side4 ?side5 A22.out).mono ?_); (case side1 => exact sI1380 HI261.out); (case side2 => exact sB1 HB.out (IsS138.ge HI261.out)); (case side3 => exact cO ⟨(Kd.R_reads' HO287.out).2.2⟩); (case side4 => exact (Kd.R_reads' HO287.out).2.1); (case side5 => exact far_slice (IsS138.own_ne HI261.out HO287.out (by decide))); rintro e w29 ⟨rfl, hi, hb, hk⟩; refine ⟨_, rfl, ?_⟩; replace HO_6 := Aside0.mk (Kd.R_mono (Kd.R_keep (IsS138.apart (show IsS138 w _ g261 t258 t280 t281 from by exact sI1380 HI261.out) (rK HO_6) (by decide)) hk (fun _ h => h.2)) (fun _ h => h.1)); replace HO_7 := Aside0.mk (Kd.R_mono (Kd.R_keep (IsS138.apart (show IsS138 w _ g261 t258 t280 t281 from by exact sI1380 HI261.out) (rK HO_7) (by decide)) hk (fun _ h => h.2)) (fun _ h => h.1)); replace HO287 := Aside0.mk (Kd.R_mono (Kd.R_keep (IsS138.apart (show IsS138 w _ g261 t258 t280 t281 from by exact sI1380 HI261.out) (rK HO287) (by decide)) hk (fun _ h => h.2)) (fun _ h => h.1)); replace HB := Aside0.mk (hb); replace HI261 := Aside0.mk (hi); (try clear hb); (try clear hk); (try clear hi); have p24 : 0 ≤ (0 : Int) := (by omega); have q24 : (0 : Int) < ((t265.length : Int) : Int) := dA; have qi24 : (0 < t265.length) = True := eq_true (by omega); obtain ⟨go24, co24, eo24, gb24, gl24, cl24, HG24⟩ := Kd.R_form HO_6.out (by omega); (first | cases eo24 | (injection eo24 with ea_ en_ ec_; (first | subst ea_ | (injection ea_ with ea_; subst ea_)); subst ec_; clear en_)); have GB24 := Aside0.mk gb24; have GG24 := Aside0.mk HG24; clear gb24 gl24 HG24; obtain ⟨hx24_0, hf24_0⟩ := Kd.R_celln 0 HO_6.out (0 : Int) p24 q24; (try rw [show ((0 : Int)).toNat = 0 from rfl] at hx24_0); (try simp only [Nat.reduceMul, Nat.zero_mul, Nat.zero_add, Nat.reduceAdd] at hx24_0); (try rw [show ((0 : Int)).toNat = 0 from rfl] at hf24_0); (try simp only [Nat.reduceMul, Nat.zero_mul, Nat.zero_add, Nat.reduceAdd] at hf24_0); replace p24 := eq_true p24; replace q24 := eq_true q24; have n_ := Aside0.mk (Kd.R_mono (ok' := (fun k_ => some k_ ≠ (.slice Ao28 y285.length co28 : Value).ownBlock)) HO_6.out (fun k_ hk => hk.2)); clear HO_6; have HO_6 := n_; clear n_; obtain ⟨hy30_, hz30_⟩ := Kd.R_celln 0 HO_6.out (0 : Int) (by omega) (dA); (try simp only [Int.reduceToNat, Int.toNat_zero, Int.toNat_ofNat, Nat.reduceMul, Nat.zero_mul, Nat.zero_add] at hy30_ hz30_); (try rw [show ((0 : Int)).toNat = 0 from rfl] at hy30_); (try rw [show ((0 : Int)).toNat = 0 from rfl] at hz30_); have HP30 := Kd.R_putg HO_6.out (0 : Int) t288) | ((with_reducible refine gate_store (t := 3) (p := 43) rfl ?_); refine store_event (t := 3) (p := 43) (v := ?vo_w31) (w1 := (w29.setCell ⟨go24, (0 : Int).toNat, none⟩ (.int .i64 t288))) ?hg ?ho ?hn ?hr ?_; (case ho => rfl); (case hg => rfl); (case hn => rfl); (case hr => first | (go_simp; done) | (go_simp; rfl)); intro w31 hw; have hg : w29.grownBy w31 (some go24) := (by rw [hw]; exact HP30.2); have hp_ : Kd.R (Kd.int .i64) 3 w31 w.heap.size (fun k_ => some k_ ≠ (.slice Ao28 y285.length co28 : Value).ownBlock) (.slice (some ⟨go24, 0, none⟩) t265.length co24) y291 := (by rw [hw, Ny291.out]; exact HP30.1); clear HP30; have n0_ := Aside0.mk (hp_); have n1_ := Aside0.mk (Kd.R_over' (v := (.slice (some ⟨go24, 0, none⟩) t265.length co24)) (rK HO_7) (Kd.R_typed HO_6.out) (by decide) hg); have n2_ := Aside0.mk (IsS138.grown (by exact sI1380 HI261.out) hg (IsS138.own_ne HI261.out HO_6.out (by decide))); have n3_ := Aside0.mk (Kd.R_after (v := (.slice (some ⟨go24, 0, none⟩) t265.length co24)) (v1 := (.slice (some ⟨go24, 0, none⟩) t265.length co24)) (ok := (fun _ => True)) (rK HO287) hg (.inl rfl)); have n4_ := Aside0.mk ((by rw [hw]; exact below_set (HB.out) GB24.out : Below w.heap.size w w31)); clear HO_6; clear HO_7; clear HI261; clear HO287; clear HB; have HO_6 := n0_; have HO_7 := n1_; have HI261 := n2_; have HO287 := n3_; have HB := n4_; clear n0_ n1_ n2_ n3_ n4_; clear hg hw hp_))
       go_ret2
       exact ⟨_, _, by first | rfl | (simp [errW_none, errW_some] <;> rfl) | (simp [*, errW_none, errW_some] <;> rfl), by (with_reducible repeat (first | apply Kd.R_alloc | apply Kd.R_drewN | apply Kd.R_drew)); exact Kd.R_mono HO_6.out (fun _ hk => trivial), by (with_reducible repeat (first | apply Kd.R_alloc | apply Kd.R_drewN | apply Kd.R_drew)); exact HO_7.out, by exact sB1 HB.out (IsS138.ge HI261.out)⟩
      ·
       rw [if_neg c21] at H
       have c21b0 := decide_eq_false c21
       clear c21
       simp only [Option.some.injEq, Prod.mk.injEq] at H
       obtain ⟨rfl, rfl⟩ := H
       go_wp2_with (first | ((with_reducible refine gate_callee (f := 84) rfl ?_); refine gL (some 29) Try.func84 #[.pointer (some ⟨g261, 0, none⟩), .int .i64 9] ?_; (with_reducible refine (spec_l1Below.calls g261 t258 x262001_1 x262002_1 9 t279 t280 t281 w _ ?side1 ?side2 A15.out).mono ?_); (case side1 => exact sI1380 HI261.out); (case side2 => exact sB1 HB.out (IsS138.ge HI261.out)); rintro e w32 ⟨rfl, hi, hb, hk⟩; refine ⟨_, rfl, ?_⟩; replace HO_6 := Aside0.mk (Kd.R_mono (Kd.R_keep (IsS138.apart (show IsS138 w _ g261 t258 x262001_1 x262002_1 from by exact sI1380 HI261.out) (rK HO_6) (by decide)) hk (fun _ h => h.2)) (fun _ h => h.1)); replace HO_7 := Aside0.mk (Kd.R_mono (Kd.R_keep (IsS138.apart (show IsS138 w _ g261 t258 x262001_1 x262002_1 from by exact sI1380 HI261.out) (rK HO_7) (by decide)) hk (fun _ h => h.2)) (fun _ h => h.1)); replace HB := Aside0.mk (hb); replace HI261 := Aside0.mk (hi); (try clear hb); (try clear hk); (try clear hi)))
       go_ret2
       exact ⟨_, _, by first | rfl | (simp [errW_none, errW_some] <;> rfl) | (simp [*, errW_none, errW_some] <;> rfl), by (with_reducible repeat (first | apply Kd.R_alloc | apply Kd.R_drewN | apply Kd.R_drew)); exact HO_6.out, by (with_reducible repeat (first | apply Kd.R_alloc | apply Kd.R_drewN | apply Kd.R_drew)); exact HO_7.out, by exact sB1 HB.out (IsS138.ge HI261.out)⟩
     ·
      rw [if_neg c20] at H
      have c20b0 : (t279 == 1) = false := beq_eq_false_iff_ne.mpr c20
      have c20b1 : (t279 != 1) = true := bne_iff_ne.mpr c20
      simp only [Option.some.injEq, Prod.mk.injEq] at H
      obtain ⟨rfl, rfl⟩ := H
      go_wp2_with (first | ((with_reducible refine gate_callee (f := 84) rfl ?_); refine gL (some 29) Try.func84 #[.pointer (some ⟨g261, 0, none⟩), .int .i64 9] ?_; (with_reducible refine (spec_l1Below.calls g261 t258 x262001_1 x262002_1 9 t279 t280 t281 w _ ?side1 ?side2 A15.out).mono ?_); (case side1 => exact sI1380 HI261.out); (case side2 => exact sB1 HB.out (IsS138.ge HI261.out)); rintro e w33 ⟨rfl, hi, hb, hk⟩; refine ⟨_, rfl, ?_⟩; replace HO_6 := Aside0.mk (Kd.R_mono (Kd.R_keep (IsS138.apart (show IsS138 w _ g261 t258 x262001_1 x262002_1 from by exact sI1380 HI261.out) (rK HO_6) (by decide)) hk (fun _ h => h.2)) (fun _ h => h.1)); replace HO_7 := Aside0.mk (Kd.R_mono (Kd.R_keep (IsS138.apart (show IsS138 w _ g261 t258 x262001_1 x262002_1 from by exact sI1380 HI261.out) (rK HO_7) (by decide)) hk (fun _ h => h.2)) (fun _ h => h.1)); replace HB := Aside0.mk (hb); replace HI261 := Aside0.mk (hi); (try clear hb); (try clear hk); (try clear hi)))
      go_ret2
      exact ⟨_, _, by first | rfl | (simp [errW_none, errW_some] <;> rfl) | (simp [*, errW_none, errW_some] <;> rfl), by (with_reducible repeat (first | apply Kd.R_alloc | apply Kd.R_drewN | apply Kd.R_drew)); exact HO_6.out, by (with_reducible repeat (first | apply Kd.R_alloc | apply Kd.R_drewN | apply Kd.R_drew)); exact HO_7.out, by exact sB1 HB.out (IsS138.ge HI261.out)⟩

/-! ### impl_QueueStep: function 36 -/
def impl_QueueStep.j0 : Nat → Int → Int → Bool → Bool → Option (Int)
 | 0, _, _, _, _ => none
 | k + 1, x0, x1, x2, x15 => if x15 = true then (some 0) else (if x2 = true then (some (mx 0 (mn (wrap64 ((wrap64 (x0 + x1)) - 1)) 10000))) else (some (mx 0 (mn (wrap64 (x0 + x1)) 10000))))
def impl_QueueStep.f (k : Nat) (a0 : Int) (a1 : Int) (a2 : Bool) : Option (Int) := (impl_InRange.f a0 0 10000).bind fun t292 => (if t292 = true then ((impl_InRange.f a1 0 10000).bind fun t293 => (impl_QueueStep.j0 k a0 a1 a2 (!t293))) else (impl_QueueStep.j0 k a0 a1 a2 true))
theorem impl_QueueStep.mono_l : ∀ k, (∀ y0 y1 y2 y3, LeO (impl_QueueStep.j0 k y0 y1 y2 y3) (impl_QueueStep.j0 (k + 1) y0 y1 y2 y3))
 | 0 => fun _ _ _ _ r h => by simp [impl_QueueStep.j0] at h
 | k + 1 => by
  have ih0 := impl_QueueStep.mono_l k
  ·
   intro y0 y1 y2 y3
   unfold impl_QueueStep.j0
   repeat' first | (with_reducible first | exact LeO.refl _ | exact LeO.none _ | refine LeO.ite ?_ ?_ | refine LeO.bind ?_ (fun _ => ?_) | exact ih0 _ _ _ _)
theorem impl_QueueStep.mono : ∀ a0 a1 a2 k, LeO (impl_QueueStep.f k a0 a1 a2) (impl_QueueStep.f (k + 1) a0 a1 a2) := by
 intro a0 a1 a2 k
 have ih0 := impl_QueueStep.mono_l k
 unfold impl_QueueStep.f
 repeat' first | (with_reducible first | exact LeO.refl _ | exact LeO.none _ | refine LeO.ite ?_ ?_ | refine LeO.bind ?_ (fun _ => ?_) | exact ih0 _ _ _ _)
set_option maxHeartbeats 8000000 in
set_option maxRecDepth 100000 in
theorem impl_QueueStep.calls (k : Nat) (a0 : Int) (a1 : Int) (a2 : Bool) (r : Int) (w : World) (h : impl_QueueStep.f k a0 a1 a2 = some r) :
  Calls Try.prog 36 #[.int .i64 a0, .int .i64 a1, .bool a2] w fun e w' => e = .returned (.int .i64 r) ∧ Below w.heap.size w w' := by
 have HB := Aside0.mk (Below.refl w.heap.size w)
 have H : ((impl_InRange.f a0 0 10000).bind fun t292 => (if t292 = true then ((impl_InRange.f a1 0 10000).bind fun t293 => (impl_QueueStep.j0 k a0 a1 a2 (!t293))) else (impl_QueueStep.j0 k a0 a1 a2 true))) = some r := h
 clear h
 have HC4 := Aside0.mk H
 clear H
 go_enter Try.func36, Try.ntmps36
 go_upto_region 1 with (fail)
 go_cut [15] (fun v15 wc => ∃ (kq : Nat) (x15_3 : Bool), v15 = .bool x15_3 ∧ Aside0 (impl_QueueStep.j0 kq a0 a1 a2 x15_3 = some r) ∧ Aside0 (kq ≤ k) ∧ Aside0 (Below w.heap.size w wc))
 case first =>
  have H := HC4.out
  clear HC4
  obtain ⟨t292, A5, H⟩ := bindE H
  try dsimp only at H
  by_cases c6 : t292 = true
  ·
   subst c6
   have H1 : ((impl_InRange.f a1 0 10000).bind fun t293 => (impl_QueueStep.j0 k a0 a1 a2 (!t293))) = some r := by rw [if_pos rfl] at H; exact H
   clear H
   have H := H1
   clear H1
   obtain ⟨t293, A7, H⟩ := bindE H
   try dsimp only at H
   have H' := Aside0.mk H
   clear H
   go_wp2_with (first | ((with_reducible refine gate_callee (f := 75) rfl ?_); refine gL (some 9) Try.func75 #[.int .i64 a0, .int .i64 0, .int .i64 10000] ?_; (with_reducible refine (impl_InRange.calls a0 0 10000 true _ A5.out).mono ?_); rintro e w' ⟨rfl, ⟨nd, rfl⟩⟩; refine ⟨_, rfl, ?_⟩) | (go_at_call 75; (with_reducible refine (impl_InRange.calls a1 0 10000 t293 _ A7.out).mono ?_); rintro e w' ⟨rfl, ⟨nd, rfl⟩⟩))
   go_meet
   case rel => exact ⟨_, (!t293), rS, H', ⟨by first | omega | exact Nat.le_refl _⟩, ⟨bA⟩⟩
  ·
   replace c6 := Bool.eq_false_iff.mpr c6
   subst c6
   have H1 : (impl_QueueStep.j0 k a0 a1 a2 true) = some r := by rw [if_neg (show ¬ (false = true) by decide)] at H; exact H
   clear H
   have H := H1
   clear H1
   have H' := Aside0.mk H
   clear H
   go_wp2_with (first | ((with_reducible refine gate_callee (f := 75) rfl ?_); refine gL (some 9) Try.func75 #[.int .i64 a0, .int .i64 0, .int .i64 10000] ?_; (with_reducible refine (impl_InRange.calls a0 0 10000 false _ A5.out).mono ?_); rintro e w' ⟨rfl, ⟨nd, rfl⟩⟩; refine ⟨_, rfl, ?_⟩))
   go_meet
   case rel => exact ⟨_, (true), rS, H', ⟨by first | omega | exact Nat.le_refl _⟩, ⟨bA⟩⟩
 case rest =>
  clear HC4
  try clear p2
  try clear c3
  try clear c6
  try clear c7
  obtain ⟨kq, x15_3, rfl, HA, HJ3, HB⟩ := hcut
  cases kq with
  | zero => exact absurd HA.out (by simp [impl_QueueStep.j0])
  | succ kj3 =>
   have H := HA.out
   clear HA
   simp only [impl_QueueStep.j0] at H
   by_cases c8 : x15_3 = true
   ·
    subst c8
    have H1 : (some 0) = some r := by rw [if_pos rfl] at H; exact H
    clear H
    have H := H1
    clear H1
    obtain rfl := Option.some.inj H
    go_wp2
    go_ret
    exact ⟨rA, bA⟩
   ·
    replace c8 := Bool.eq_false_iff.mpr c8
    subst c8
    have H1 : (if a2 = true then (some (mx 0 (mn (wrap64 ((wrap64 (a0 + a1)) - 1)) 10000))) else (some (mx 0 (mn (wrap64 (a0 + a1)) 10000)))) = some r := by rw [if_neg (show ¬ (false = true) by decide)] at H; exact H
    clear H
    have H := H1
    clear H1
    by_cases c9 : a2 = true
    ·
     subst c9
     have H1 : (some (mx 0 (mn (wrap64 ((wrap64 (a0 + a1)) - 1)) 10000))) = some r := by rw [if_pos rfl] at H; exact H
     clear H
     have H := H1
     clear H1
     obtain ⟨ji10, hji10⟩ : ∃ j_ : Int, (mn (wrap64 ((wrap64 (a0 + a1)) - 1)) 10000) = j_ := ⟨_, rfl⟩
     replace H : (some (mx 0 (ji10))) = some r := by first | (rw [hji10] at H; exact H) | (simp only [hji10] at H ⊢; exact H)
     have hji10_ : (if 10000 < (wrap64 ((wrap64 (a0 + a1)) - 1)) then 10000 else (wrap64 ((wrap64 (a0 + a1)) - 1))) = ji10 := hji10
     obtain ⟨ji11, hji11⟩ : ∃ j_ : Int, (mx 0 (ji10)) = j_ := ⟨_, rfl⟩
     replace H : (some ji11) = some r := by first | (rw [hji11] at H; exact H) | (simp only [hji11] at H ⊢; exact H)
     have hji11_ : (if 0 < (ji10) then (ji10) else 0) = ji11 := hji11
     obtain rfl := Option.some.inj H
     go_wp2
     go_ret
     exact ⟨by first | rfl | (simp [errW_none, errW_some] <;> rfl) | (simp only [← hji10, ← hji11]; first | rfl | (simp [errW_none, errW_some] <;> rfl)) | (simp [*, errW_none, errW_some] <;> rfl), bA⟩
    ·
     replace c9 := Bool.eq_false_iff.mpr c9
     subst c9
     have H1 : (some (mx 0 (mn (wrap64 (a0 + a1)) 10000))) = some r := by rw [if_neg (show ¬ (false = true) by decide)] at H; exact H
     clear H
     have H := H1
     clear H1
     obtain ⟨ji12, hji12⟩ : ∃ j_ : Int, (mn (wrap64 (a0 + a1)) 10000) = j_ := ⟨_, rfl⟩
     replace H : (some (mx 0 (ji12))) = some r := by first | (rw [hji12] at H; exact H) | (simp only [hji12] at H ⊢; exact H)
     have hji12_ : (if 10000 < (wrap64 (a0 + a1)) then 10000 else (wrap64 (a0 + a1))) = ji12 := hji12
     obtain ⟨ji13, hji13⟩ : ∃ j_ : Int, (mx 0 (ji12)) = j_ := ⟨_, rfl⟩
     replace H : (some ji13) = some r := by first | (rw [hji13] at H; exact H) | (simp only [hji13] at H ⊢; exact H)
     have hji13_ : (if 0 < (ji12) then (ji12) else 0) = ji13 := hji13
     obtain rfl := Option.some.inj H
     go_wp2
     go_ret
     exact ⟨by first | rfl | (simp [errW_none, errW_some] <;> rfl) | (simp only [← hji12, ← hji13]; first | rfl | (simp [errW_none, errW_some] <;> rfl)) | (simp [*, errW_none, errW_some] <;> rfl), bA⟩

/-! ### impl_QueueRun: function 35 -/
mutual
def impl_QueueRun.j0 : Nat → List Int → List Bool → List Int → Bool → Option (List Int)
 | 0, _, _, _, _ => none
 | k + 1, x0, x1, x5, x19 => if x19 = true then (some x5) else (impl_QueueRun.l0 k x1 x5 0 x0 (x0.length : Int) 0)
def impl_QueueRun.l0 : Nat → List Bool → List Int → Int → List Int → Int → Int → Option (List Int)
 | 0, _, _, _, _, _, _ => none
 | k + 1, x1, x5, x6, x21, x22, x23 => if x23 < x22 then (if 0 ≤ x23 then (if x23 < (x21.length : Int) then ((impl_InRange.f (rd x21 x23) 0 10000).bind fun t298 => (if t298 = true then (if x23 < (x1.length : Int) then ((impl_QueueStep.f k x6 (rd x21 x23) (rdOf false x1 x23)).bind fun t300 => (if x5.length < 17592186044416 then (impl_QueueRun.l0 k x1 (x5 ++ [t300]) t300 x21 x22 (wrap64 (x23 + 1))) else (none))) else (none)) else (some (([] : List Int))))) else (none)) else (none)) else (some x5)
end
def impl_QueueRun.f (k : Nat) (l0 : List Int) (l1 : List Bool) : Option (List Int) := (some (([] : List Int) : List Int)).bind fun y294 => (if (l0.length : Int) = (l1.length : Int) then (impl_QueueRun.j0 k l0 l1 y294 (decide ((l0.length : Int) > 1000))) else (impl_QueueRun.j0 k l0 l1 y294 true))
theorem impl_QueueRun.mono_l : ∀ k, (∀ y0 y1 y2 y3, LeO (impl_QueueRun.j0 k y0 y1 y2 y3) (impl_QueueRun.j0 (k + 1) y0 y1 y2 y3)) ∧ (∀ y0 y1 y2 y3 y4 y5, LeO (impl_QueueRun.l0 k y0 y1 y2 y3 y4 y5) (impl_QueueRun.l0 (k + 1) y0 y1 y2 y3 y4 y5))
 | 0 => ⟨fun _ _ _ _ r h => by simp [impl_QueueRun.j0] at h, fun _ _ _ _ _ _ r h => by simp [impl_QueueRun.l0] at h⟩
 | k + 1 => by
  obtain ⟨ih0, ih1⟩ := impl_QueueRun.mono_l k
  refine ⟨?_, ?_⟩
  ·
   intro y0 y1 y2 y3
   unfold impl_QueueRun.j0
   repeat' first | (with_reducible first | exact LeO.refl _ | exact LeO.none _ | refine LeO.ite ?_ ?_ | refine LeO.bind ?_ (fun _ => ?_) | exact ih0 _ _ _ _ | exact ih1 _ _ _ _ _ _ | exact impl_QueueStep.mono _ _ _ _)
  ·
   intro y0 y1 y2 y3 y4 y5
   unfold impl_QueueRun.l0
   repeat' first | (with_reducible first | exact LeO.refl _ | exact LeO.none _ | refine LeO.ite ?_ ?_ | refine LeO.bind ?_ (fun _ => ?_) | exact ih0 _ _ _ _ | exact ih1 _ _ _ _ _ _ | exact impl_QueueStep.mono _ _ _ _)
theorem impl_QueueRun.mono : ∀ a0 a1 k, LeO (impl_QueueRun.f k a0 a1) (impl_QueueRun.f (k + 1) a0 a1) := by
 intro a0 a1 k
 obtain ⟨ih0, ih1⟩ := impl_QueueRun.mono_l k
 unfold impl_QueueRun.f
 repeat' first | (with_reducible first | exact LeO.refl _ | exact LeO.none _ | refine LeO.ite ?_ ?_ | refine LeO.bind ?_ (fun _ => ?_) | exact ih0 _ _ _ _ | exact ih1 _ _ _ _ _ _ | exact impl_QueueStep.mono _ _ _ _)
set_option maxHeartbeats 8000000 in
set_option maxRecDepth 100000 in
theorem impl_QueueRun.calls (k : Nat) (A0 : Option Addr) (c0 : Nat) (l0 : List Int) (A1 : Option Addr) (c1 : Nat) (l1 : List Bool) (r : List Int) (w : World) (hr0 : Kd.C (Kd.int .i64) w A0 l0.length l0) (hc0 : l0.length ≤ c0) (hr1 : Kd.C Kd.bool w A1 l1.length l1) (hc1 : l1.length ≤ c1) (h : impl_QueueRun.f k l0 l1 = some r) :
  Calls Try.prog 35 #[.slice A0 l0.length c0, .slice A1 l1.length c1] w fun e w' => ∃ v0_ : Value, e = .returned (v0_) ∧ Kd.R (Kd.int .i64) 3 w' w.heap.size (fun _ => True) v0_ r ∧ Below w.heap.size w w' := by
 have HR0 := Aside0.mk hr0
 have HC0 := Aside0.mk hc0
 clear hr0 hc0
 have HR1 := Aside0.mk hr1
 have HC1 := Aside0.mk hc1
 clear hr1 hc1
 have HB := Aside0.mk (Below.refl w.heap.size w)
 have H : ((some (([] : List Int) : List Int)).bind fun y294 => (if (l0.length : Int) = (l1.length : Int) then (impl_QueueRun.j0 k l0 l1 y294 (decide ((l0.length : Int) > 1000))) else (impl_QueueRun.j0 k l0 l1 y294 true))) = some r := h
 clear h
 obtain ⟨y294, hy294⟩ : ∃ y_ : List Int, y_ = (([] : List Int)) := ⟨_, rfl⟩
 replace H : (if (l0.length : Int) = (l1.length : Int) then (impl_QueueRun.j0 k l0 l1 y294 (decide ((l0.length : Int) > 1000))) else (impl_QueueRun.j0 k l0 l1 y294 true)) = some r := rH H hy294
 have Ny294 := Aside0.mk hy294
 clear hy294
 have HC3 := Aside0.mk H
 clear H
 go_enter Try.func35, Try.ntmps35
 go_upto_region 2 with (first | ((with_reducible refine gate_dst (N := 9) rfl ?_); (try (refine gate_guard (by rfl) ?_; dsimp only)); refine Kd.R_lit (Kd.int .i64) _ 3 ?hg (N := 9) ?hd (xs := ([] : List Int)) (inner := []) (ok := fun _ => True) (okp := fun _ => True) ?hr ?hp (fun _ hk => hk) trivial (Below.refl _ _) (Nat.le_refl _) (by simp) ?_; (case hd => rfl); (case hg => rfl); (case hr => first | (go_simp; done) | (go_simp; rfl)); (case hp => exact (Reps.none _ _)); intro v295 w4 ho5 hb hg_ hnew_; clear hg_ hnew_; (first | rw [← Ny294.out] at ho5 | (simp only [Int.reduceToNat] at ho5; rw [← Ny294.out] at ho5)); have HO296 := Aside0.mk (Kd.R_lower ho5 (below_size bA)); replace HB := Aside0.mk (below_step bA hb); clear hb ho5))
 (try simp only [Act.put, List.setIfInBounds_toArray, List.set_cons_zero, List.set_cons_succ])
 go_cut [19] (fun v19 wc => ∃ (kq : Nat) (x19_2 : Bool), v19 = .bool x19_2 ∧ Aside0 (impl_QueueRun.j0 kq l0 l1 y294 x19_2 = some r) ∧ Aside0 (kq ≤ k) ∧ Aside0 (Kd.R (Kd.int .i64) 3 wc w.heap.size (fun _ => True) v295 y294) ∧ Aside0 (Below w.heap.size w wc))
 case first =>
  have H := HC3.out
  clear HC3
  by_cases c6 : (l0.length : Int) = (l1.length : Int)
  ·
   rw [if_pos c6] at H
   have c6b0 : ((l0.length : Int) == (l1.length : Int)) = true := beq_iff_eq.mpr c6
   have c6b1 : ((l0.length : Int) != (l1.length : Int)) = false := bne_eq_false_iff_eq.mpr c6
   have c6b2 : (l0.length == l1.length) = true := by first | simpa using c6 | (simp at c6 ⊢; omega)
   clear c6
   (first | rw [c6b0] | (simp only [i64_w, i32_w]; rw [c6b0]) | skip)
   have H' := Aside0.mk H
   clear H
   go_wp2
   go_meet
   case rel => exact ⟨_, (decide ((l0.length : Int) > 1000)), rS, H', ⟨by first | omega | exact Nat.le_refl _⟩, ⟨rK HO296⟩, ⟨bA⟩⟩
  ·
   rw [if_neg c6] at H
   have c6b0 : ((l0.length : Int) == (l1.length : Int)) = false := beq_eq_false_iff_ne.mpr c6
   have c6b1 : ((l0.length : Int) != (l1.length : Int)) = true := bne_iff_ne.mpr c6
   have c6b2 : (l0.length == l1.length) = false := by first | simpa using c6 | (simp at c6 ⊢; omega)
   (first | rw [c6b0] | (simp only [i64_w, i32_w]; rw [c6b0]) | skip)
   have H' := Aside0.mk H
   clear H
   go_wp2
   go_meet
   case rel => exact ⟨_, (true), rS, H', ⟨by first | omega | exact Nat.le_refl _⟩, ⟨rK HO296⟩, ⟨bA⟩⟩
 case rest =>
  clear HC3
  try clear c1
  try clear p2
  try clear c3
  try clear c6
  try clear c6b0
  try clear c6b1
  try clear c6b2
  obtain ⟨kq, x19_2, rfl, HA, HJ2, HO_5, HB⟩ := hcut
  cases kq with
  | zero => exact absurd HA.out (by simp [impl_QueueRun.j0])
  | succ kj2 =>
   have H := HA.out
   clear HA
   simp only [impl_QueueRun.j0] at H
   by_cases c7 : x19_2 = true
   ·
    subst c7
    have H1 : (some y294) = some r := by rw [if_pos rfl] at H; exact H
    clear H
    have H := H1
    clear H1
    obtain rfl := Option.some.inj H
    go_wp2
    go_ret
    exact ⟨_, by first | rfl | (simp [errW_none, errW_some] <;> rfl) | (simp [*, errW_none, errW_some] <;> rfl), by (with_reducible repeat (first | apply Kd.R_alloc | apply Kd.R_drewN | apply Kd.R_drew)); exact HO_5.out, bA⟩
   ·
    replace c7 := Bool.eq_false_iff.mpr c7
    subst c7
    have H1 : (impl_QueueRun.l0 kj2 l1 y294 0 l0 (l0.length : Int) 0) = some r := by rw [if_neg (show ¬ (false = true) by decide)] at H; exact H
    clear H
    have H := H1
    clear H1
    have H' := Aside0.mk H
    clear H
    go_wp2
    go_loopg [5, 6, 23] kj2 (fun kq v5 v6 v23 w' => ∃ (x5_2 : List Int) (x6_2 : Int) (x23_2 : Int), v6 = .int .i64 x6_2 ∧ v23 = .int .i64 x23_2 ∧ Aside0 (impl_QueueRun.l0 kq l1 x5_2 x6_2 l0 (l0.length : Int) x23_2 = some r) ∧ Aside0 (kq ≤ kj2) ∧ Aside0 (Kd.R (Kd.int .i64) 3 w' w.heap.size (fun _ => True) v5 x5_2) ∧ Aside0 (Below w.heap.size w w'))
    case atStart => exact ⟨(y294), (0), (0), rS, rS, H', ⟨Nat.le_refl _⟩, ⟨rK HO_5⟩, ⟨bA⟩⟩
    case round =>
     clear H'
     try clear c1
     try clear p2
     try clear c3
     try clear c6
     try clear c6b0
     try clear c6b1
     try clear c6b2
     try clear c7
     try clear p2
     obtain ⟨x5_2, x6_2, x23_2, rfl, rfl, HA, HK2, HO_5, HB⟩ := hrel
     cases gk with
     | zero => exact absurd HA.out (by simp [impl_QueueRun.l0])
     | succ k2 =>
      have H := HA.out
      clear HA
      simp only [impl_QueueRun.l0] at H
      by_cases c8 : x23_2 < (l0.length : Int)
      ·
       rw [if_pos c8] at H
       have c8b0 := decide_eq_true c8
       clear c8
       have c9 : 0 ≤ x23_2 := ifN H
       replace H := ifT H
       have c9b0 := decide_eq_true c9
       clear c9
       have c10 : x23_2 < (l0.length : Int) := ifN H
       replace H := ifT H
       have c10b0 := decide_eq_true c10
       clear c10
       obtain ⟨t298, A11, H⟩ := bindE H
       try dsimp only at H
       by_cases c12 : t298 = true
       ·
        subst c12
        have H1 : (if x23_2 < (l1.length : Int) then ((impl_QueueStep.f k2 x6_2 (rd l0 x23_2) (rdOf false l1 x23_2)).bind fun t300 => (if x5_2.length < 17592186044416 then (impl_QueueRun.l0 k2 l1 (x5_2 ++ [t300]) t300 l0 (l0.length : Int) (wrap64 (x23_2 + 1))) else (none))) else (none)) = some r := by rw [if_pos rfl] at H; exact H
        clear H
        have H := H1
        clear H1
        have c13 : x23_2 < (l1.length : Int) := ifN H
        replace H := ifT H
        have c13b0 := decide_eq_true c13
        clear c13
        obtain ⟨t300, A14, H⟩ := bindE H
        try dsimp only at H
        have c15 : x5_2.length < 17592186044416 := ifN H
        replace H := ifT H
        have LMc15 := Aside0.mk c15
        clear c15
        obtain ⟨y301, hy301⟩ : ∃ y_ : List Int, y_ = (x5_2 ++ [t300]) := ⟨_, rfl⟩
        replace H : (impl_QueueRun.l0 k2 l1 y301 t300 l0 (l0.length : Int) (wrap64 (x23_2 + 1))) = some r := rH H hy301
        have Ny301 := Aside0.mk hy301
        clear hy301
        have H' := Aside0.mk H
        clear H
        have p297 : 0 ≤ (x23_2 : Int) := dA
        have q297 : x23_2 < (l0.length : Int) := dA
        obtain ⟨ad297, e297, hx297_0⟩ := Kd.at_int HR0.out x23_2 p297 q297
        cases e297
        replace hx297_0 := hC HB hx297_0
        replace p297 := eq_true p297
        replace q297 := eq_true q297
        go_wp2_with (first | ((with_reducible refine gate_callee (f := 75) rfl ?_); refine gL (some 29) Try.func75 #[.int .i64 (rd l0 x23_2), .int .i64 0, .int .i64 10000] ?_; (with_reducible refine (impl_InRange.calls (rd l0 x23_2) 0 10000 true _ A11.out).mono ?_); rintro e w' ⟨rfl, ⟨nd, rfl⟩⟩; refine ⟨_, rfl, ?_⟩; have p299 : 0 ≤ (x23_2 : Int) := dA; have q299 : x23_2 < (l1.length : Int) := dA; obtain ⟨ad299, e299, hx299_0⟩ := Kd.at_bool HR1.out x23_2 p299 q299; cases e299; replace hx299_0 := hC HB hx299_0; replace p299 := eq_true p299; replace q299 := eq_true q299) | ((with_reducible refine gate_callee (f := 36) rfl ?_); refine gL (some 38) Try.func36 #[.int .i64 x6_2, .int .i64 (rd l0 x23_2), .bool (rdOf false l1 x23_2)] ?_; (with_reducible refine (impl_QueueStep.calls k2 x6_2 (rd l0 x23_2) (rdOf false l1 x23_2) t300 _ A14.out).mono ?_); rintro e w16 ⟨rfl, hb⟩; refine ⟨_, rfl, ?_⟩; replace HO_5 := Aside0.mk (Kd.R_below (rK HO_5) hb); replace HB := Aside0.mk (below_step bA hb); (try clear hb)) | ((with_reducible refine gate_builtin (b := .append) (xs := #[.tmp 39, .tmp 41]) rfl ?_); (try (refine gate_guard (by rfl) ?_; dsimp only)); at_builtin; refine Kd.R_append (Kd.int .i64) (w0 := w) w.heap.size rfl (.tmp 39) (.tmp 41) 35 3 (.int .i64 0) 8 rfl Try.underlying35 info3 rfl (by decide) (by omega) u5 x5_2 t300 [.int .i64 t300] (fun _ => True) (fun _ => False) rfl rfl ?aP (fun _ hk => hk.elim) ?aF ?aO ?aB ?aS ?aL ?_; (case aP => exact rfl); (case aB => exact bA); (case aF => exact (fun _ _ => trivial)); (case aO => exact (rK HO_5)); (case aS => exact (below_size bA)); (case aL => have := LMc15.out; omega); intro v302 w17 ho hb hg hat; rw [← Ny301.out] at ho; have n0_ := Aside0.mk (hb); have n1_ := Aside0.mk (ho); clear HB; clear HO_5; have HB := n0_; have HO303 := n1_; clear n0_ n1_; clear ho hb hg hat))
        go_roundg k2
        case measure => have := HJ2.out; have := HK2.out; omega
        case rel => exact ⟨(y301), (t300), (wrap64 (x23_2 + 1)), rS, rS, H', ⟨by have := HJ2.out; have := HK2.out; omega⟩, ⟨rK HO303⟩, ⟨bA⟩⟩
       ·
        replace c12 := Bool.eq_false_iff.mpr c12
        subst c12
        have H1 : (some (([] : List Int))) = some r := by rw [if_neg (show ¬ (false = true) by decide)] at H; exact H
        clear H
        have H := H1
        clear H1
        obtain ⟨y304, hy304⟩ : ∃ y_ : List Int, y_ = (([] : List Int)) := ⟨_, rfl⟩
        replace H : (some y304) = some r := rH H hy304
        have Ny304 := Aside0.mk hy304
        clear hy304
        obtain rfl := Option.some.inj H
        have p297 : 0 ≤ (x23_2 : Int) := dA
        have q297 : x23_2 < (l0.length : Int) := dA
        obtain ⟨ad297, e297, hx297_0⟩ := Kd.at_int HR0.out x23_2 p297 q297
        cases e297
        replace hx297_0 := hC HB hx297_0
        replace p297 := eq_true p297
        replace q297 := eq_true q297
        go_wp2_with (first | ((with_reducible refine gate_callee (f := 75) rfl ?_); refine gL (some 29) Try.func75 #[.int .i64 (rd l0 x23_2), .int .i64 0, .int .i64 10000] ?_; (with_reducible refine (impl_InRange.calls (rd l0 x23_2) 0 10000 false _ A11.out).mono ?_); rintro e w' ⟨rfl, ⟨nd, rfl⟩⟩; refine ⟨_, rfl, ?_⟩) | ((with_reducible refine gate_dst (N := 31) rfl ?_); (try (refine gate_guard (by rfl) ?_; dsimp only)); refine Kd.R_lit (Kd.int .i64) _ 3 ?hg (N := 31) ?hd (xs := ([] : List Int)) (inner := []) (ok := fun _ => True) (okp := fun _ => True) ?hr ?hp (fun _ hk => hk) trivial (Below.refl _ _) (Nat.le_refl _) (by simp) ?_; (case hd => rfl); (case hg => rfl); (case hr => first | (go_simp; done) | (go_simp; rfl)); (case hp => exact (Reps.none _ _)); intro v305 w18 ho19 hb hg_ hnew_; clear hg_ hnew_; (first | rw [← Ny304.out] at ho19 | (simp only [Int.reduceToNat] at ho19; rw [← Ny304.out] at ho19)); have HO306 := Aside0.mk (Kd.R_lower (Kd.R_new' ho19 (Kd.R_lt (rK HO_5))) (below_size bA)); replace HO_5 := Aside0.mk (Kd.R_elder' (rK HO_5) (Kd.R_base ho19) hb); replace HB := Aside0.mk (below_step bA hb); clear hb ho19))
        go_ret
        exact ⟨_, by first | rfl | (simp [errW_none, errW_some] <;> rfl) | (simp [*, errW_none, errW_some] <;> rfl), by (with_reducible repeat (first | apply Kd.R_alloc | apply Kd.R_drewN | apply Kd.R_drew)); exact Kd.R_mono HO306.out (fun _ hk => trivial), bA⟩
      ·
       rw [if_neg c8] at H
       have c8b0 := decide_eq_false c8
       clear c8
       obtain rfl := Option.some.inj H
       go_wp2
       go_ret
       exact ⟨_, by first | rfl | (simp [errW_none, errW_some] <;> rfl) | (simp [*, errW_none, errW_some] <;> rfl), by (with_reducible repeat (first | apply Kd.R_alloc | apply Kd.R_drewN | apply Kd.R_drew)); exact HO_5.out, bA⟩

/-! ### impl_TotalWait: function 37 -/
def impl_TotalWait.l0 : Nat → Int → List Int → Int → Int → Option (Int)
 | 0, _, _, _, _ => none
 | k + 1, x3, x6, x7, x8 => if x8 < x7 then (if 0 ≤ x8 then (if x8 < (x6.length : Int) then (impl_TotalWait.l0 k (wrap64 (x3 + (mx 0 (mn (rd x6 x8) 10000)))) x6 x7 (wrap64 (x8 + 1))) else (none)) else (none)) else (some x3)
def impl_TotalWait.f (k : Nat) (l0 : List Int) : Option (Int) := impl_TotalWait.l0 k 0 l0 (l0.length : Int) 0
theorem impl_TotalWait.mono_l : ∀ k, (∀ y0 y1 y2 y3, LeO (impl_TotalWait.l0 k y0 y1 y2 y3) (impl_TotalWait.l0 (k + 1) y0 y1 y2 y3))
 | 0 => fun _ _ _ _ r h => by simp [impl_TotalWait.l0] at h
 | k + 1 => by
  have ih0 := impl_TotalWait.mono_l k
  ·
   intro y0 y1 y2 y3
   unfold impl_TotalWait.l0
   repeat' first | (with_reducible first | exact LeO.refl _ | exact LeO.none _ | refine LeO.ite ?_ ?_ | refine LeO.bind ?_ (fun _ => ?_) | exact ih0 _ _ _ _)
theorem impl_TotalWait.mono : ∀ a0 k, LeO (impl_TotalWait.f k a0) (impl_TotalWait.f (k + 1) a0) := by
 intro a0 k
 have ih0 := impl_TotalWait.mono_l k
 unfold impl_TotalWait.f
 repeat' first | (with_reducible first | exact LeO.refl _ | exact LeO.none _ | refine LeO.ite ?_ ?_ | refine LeO.bind ?_ (fun _ => ?_) | exact ih0 _ _ _ _)
set_option maxHeartbeats 8000000 in
set_option maxRecDepth 100000 in
theorem impl_TotalWait.calls (k : Nat) (A0 : Option Addr) (c0 : Nat) (l0 : List Int) (r : Int) (w : World) (hr0 : Kd.C (Kd.int .i64) w A0 l0.length l0) (hc0 : l0.length ≤ c0) (h : impl_TotalWait.f k l0 = some r) :
  Calls Try.prog 37 #[.slice A0 l0.length c0] w fun e w' => e = .returned (.int .i64 r) ∧ Below w.heap.size w w' := by
 have HR0 := Aside0.mk hr0
 have HC0 := Aside0.mk hc0
 clear hr0 hc0
 have HB := Aside0.mk (Below.refl w.heap.size w)
 have H : (impl_TotalWait.l0 k 0 l0 (l0.length : Int) 0) = some r := h
 clear h
 have H' := Aside0.mk H
 clear H
 go_enter Try.func37, Try.ntmps37
 go_wp2
 go_loopg [3, 8] k (fun kq v3 v8 w' => ∃ (x3_1 : Int) (x8_1 : Int), v3 = .int .i64 x3_1 ∧ v8 = .int .i64 x8_1 ∧ Aside0 (impl_TotalWait.l0 kq x3_1 l0 (l0.length : Int) x8_1 = some r) ∧ Aside0 (kq ≤ k) ∧ Aside0 (Below w.heap.size w w'))
 case atStart => exact ⟨(0), (0), rS, rS, H', ⟨Nat.le_refl _⟩, ⟨bA⟩⟩
 case round =>
  clear H'
  obtain ⟨x3_1, x8_1, rfl, rfl, HA, HK1, HB⟩ := hrel
  cases gk with
  | zero => exact absurd HA.out (by simp [impl_TotalWait.l0])
  | succ k1 =>
   have H := HA.out
   clear HA
   simp only [impl_TotalWait.l0] at H
   by_cases c2 : x8_1 < (l0.length : Int)
   ·
    rw [if_pos c2] at H
    have c2b0 := decide_eq_true c2
    clear c2
    have c3 : 0 ≤ x8_1 := ifN H
    replace H := ifT H
    have c3b0 := decide_eq_true c3
    clear c3
    have c4 : x8_1 < (l0.length : Int) := ifN H
    replace H := ifT H
    have c4b0 := decide_eq_true c4
    clear c4
    obtain ⟨ji5, hji5⟩ : ∃ j_ : Int, (mn (rd l0 x8_1) 10000) = j_ := ⟨_, rfl⟩
    replace H : (impl_TotalWait.l0 k1 (wrap64 (x3_1 + (mx 0 (ji5)))) l0 (l0.length : Int) (wrap64 (x8_1 + 1))) = some r := by first | (rw [hji5] at H; exact H) | (simp only [hji5] at H ⊢; exact H)
    have hji5_ : (if 10000 < (rd l0 x8_1) then 10000 else (rd l0 x8_1)) = ji5 := hji5
    obtain ⟨ji6, hji6⟩ : ∃ j_ : Int, (mx 0 (ji5)) = j_ := ⟨_, rfl⟩
    replace H : (impl_TotalWait.l0 k1 (wrap64 (x3_1 + (ji6))) l0 (l0.length : Int) (wrap64 (x8_1 + 1))) = some r := by first | (rw [hji6] at H; exact H) | (simp only [hji6] at H ⊢; exact H)
    have hji6_ : (if 0 < (ji5) then (ji5) else 0) = ji6 := hji6
    have H' := Aside0.mk H
    clear H
    have p307 : 0 ≤ (x8_1 : Int) := dA
    have q307 : x8_1 < (l0.length : Int) := dA
    obtain ⟨ad307, e307, hx307_0⟩ := Kd.at_int HR0.out x8_1 p307 q307
    cases e307
    replace hx307_0 := hC HB hx307_0
    replace p307 := eq_true p307
    replace q307 := eq_true q307
    go_wp2
    go_roundg k1
    case measure => have := HK1.out; omega
    case rel => exact ⟨(wrap64 (x3_1 + (ji6))), (wrap64 (x8_1 + 1)), (by first | rfl | (simp; done) | (simp only [← hji6] <;> (first | rfl | simp)) | (simp [*]; done)), rS, H', ⟨by have := HK1.out; omega⟩, ⟨bA⟩⟩
   ·
    rw [if_neg c2] at H
    have c2b0 := decide_eq_false c2
    clear c2
    obtain rfl := Option.some.inj H
    go_wp2
    go_ret
    exact ⟨rA, bA⟩

/-! ### impl_IsServed: function 38 -/
def impl_IsServed.f (l0 : List Int) : Option (Bool) := if (l0.length : Int) = 0 then (some true) else (if 0 ≤ (wrap64 ((l0.length : Int) - 1)) then (if (wrap64 ((l0.length : Int) - 1)) < (l0.length : Int) then (some ((rd l0 (wrap64 ((l0.length : Int) - 1))) == 0)) else (none)) else (none))
set_option maxHeartbeats 8000000 in
set_option maxRecDepth 100000 in
theorem impl_IsServed.calls (A0 : Option Addr) (c0 : Nat) (l0 : List Int) (r : Bool) (w : World) (hr0 : Kd.C (Kd.int .i64) w A0 l0.length l0) (hc0 : l0.length ≤ c0) (h : impl_IsServed.f l0 = some r) :
  Calls Try.prog 38 #[.slice A0 l0.length c0] w fun e w' => e = .returned (.bool r) ∧ Drawn0 w w' := by
 have HR0 := Aside0.mk hr0
 have HC0 := Aside0.mk hc0
 clear hr0 hc0
 have H : (if (l0.length : Int) = 0 then (some true) else (if 0 ≤ (wrap64 ((l0.length : Int) - 1)) then (if (wrap64 ((l0.length : Int) - 1)) < (l0.length : Int) then (some ((rd l0 (wrap64 ((l0.length : Int) - 1))) == 0)) else (none)) else (none))) = some r := h
 clear h
 by_cases c2 : (l0.length : Int) = 0
 ·
  rw [if_pos c2] at H
  have c2b0 : ((l0.length : Int) == 0) = true := beq_iff_eq.mpr c2
  have c2b1 : ((l0.length : Int) != 0) = false := bne_eq_false_iff_eq.mpr c2
  clear c2
  obtain rfl := Option.some.inj H
  go_enter Try.func38, Try.ntmps38
  go_wp2
  go_ret
  exact ⟨by first | rfl | (simp; done) | (simp [*]; done), by repeat (first | exact Drawn0.refl _ | apply Drawn0.step)⟩
 ·
  rw [if_neg c2] at H
  have c2b0 : ((l0.length : Int) == 0) = false := beq_eq_false_iff_ne.mpr c2
  have c2b1 : ((l0.length : Int) != 0) = true := bne_iff_ne.mpr c2
  have c2b2 : ¬ (l0 = []) := fun h_ => c2 (by rw [h_]; rfl)
  obtain ⟨ji3, hji3⟩ : ∃ j_ : Int, (wrap64 ((l0.length : Int) - 1)) = j_ := ⟨_, rfl⟩
  replace H : (if 0 ≤ (ji3) then (if (ji3) < (l0.length : Int) then (some ((rd l0 (ji3)) == 0)) else (none)) else (none)) = some r := by first | (rw [hji3] at H; exact H) | (simp only [hji3] at H ⊢; exact H)
  have hji3w : (IntKind.i64.wrap ((l0.length : Int) - 1)) = ji3 := (i64_w _).trans hji3
  have c4 : 0 ≤ (ji3) := ifN H
  replace H := ifT H
  have c4b0 := decide_eq_true c4
  clear c4
  have c5 : (ji3) < (l0.length : Int) := ifN H
  replace H := ifT H
  have c5b0 := decide_eq_true c5
  clear c5
  obtain rfl := Option.some.inj H
  have p308 : 0 ≤ ((ji3) : Int) := dA
  have q308 : (ji3) < (l0.length : Int) := dA
  obtain ⟨ad308, e308, hx308_0⟩ := Kd.at_int HR0.out (ji3) p308 q308
  cases e308
  replace p308 := eq_true p308
  replace q308 := eq_true q308
  go_enter Try.func38, Try.ntmps38
  go_wp2
  go_ret
  exact ⟨by first | rfl | (simp; done) | (simp only [← hji3] <;> (first | rfl | simp)) | (simp [*]; done), by repeat (first | exact Drawn0.refl _ | apply Drawn0.step)⟩

/-! ### spec_l4Draw: function 174 -/
def spec_l4Draw.f (s0_0 : List Int) (s0_1 : Int) (s0_2 : Int) (a1 : Int) : Option (Int × Int × Int × Int × Int × Int) := (spec_l1Below.f s0_0 s0_1 s0_2 3).bind fun bt310 => ((spec_l1Below.f s0_0 bt310.2.1 bt310.2.2 4).bind fun bt313 => (if (wrap64 (1 + bt310.1)) = 2 then (some (a1, wrap64 (1 + bt310.1), bt313.1, bt313.1, bt313.2.1, bt313.2.2)) else ((spec_l1Below.f s0_0 bt313.2.1 bt313.2.2 3).bind fun bt317 => (some (a1, wrap64 (1 + bt310.1), bt313.1, Int.tmod (wrap64 ((wrap64 (bt313.1 + 1)) + bt317.1)) 4, bt317.2.1, bt317.2.2)))))
def spec_l4Draw.T4 : Bool × List (List Nat × List Nat) := (true, [([], []), ([0], [0]), ([1], [1]), ([], []), ([3], [3]), ([2, 4], [2, 4]), ([5], [5]), ([0, 1, 2, 3, 4, 5, 6], []), ([7, 6, 4, 0, 1, 2, 3, 4, 5, 6], [6, 7])])
def spec_l4Draw.B4 : List Nat := [0, 1, 3, 0, 8, 31, 63, 127, 255]
theorem spec_l4Draw.tab4 : rtab .any (opsOf Try.f174 4) = spec_l4Draw.T4 := by kernel_rfl
theorem spec_l4Draw.bits4 : waitsOk spec_l4Draw.T4.2 spec_l4Draw.B4 = true := by kernel_rfl
theorem gen_world {P : Program} {ops : Array Oper} {rest : List Oper} {o : Oper} {a : Act} {Q : Exit → Act → World → Prop} {W : World} (F : World → Prop) (hF : F W) (h : ∀ W', F W' → wpList P ops Q (o :: rest) a W') : wpList P ops Q (o :: rest) a W := h W hF
set_option maxHeartbeats 8000000 in
set_option maxRecDepth 100000 in
theorem spec_l4Draw.calls (g : Nat) (s0_0 : List Int) (s0_1 : Int) (s0_2 : Int) (a1 : Int) (r1 : Int) (r2 : Int) (r3 : Int) (r4 : Int) (r5 : Int) (r6 : Int) (w0 w : World) (hI : IsS138 w0 w g s0_0 s0_1 s0_2) (hB : Below w0.heap.size w0 w) (h : spec_l4Draw.f s0_0 s0_1 s0_2 a1 = some (r1, r2, r3, r4, r5, r6)) :
  Calls Try.prog 174 #[.pointer (some ⟨g, 0, none⟩), .int .i64 a1] w fun e w' => e = .returned (.agg #[.int .i64 r1, .int .i64 r2, .int .i64 r3, .int .i64 r4]) ∧ IsS138 w0 w' g s0_0 r5 r6 ∧ Below w0.heap.size w0 w' ∧ KeepBut w w' g none := by
 have hu50 := Try.underlying50
 have HI0 := Aside0.mk hI
 have HK := Aside0.mk (KeepBut.refl w g none)
 have HL := Aside0.mk hB.size
 clear hI
 have HW0 := Aside0.mk hB.size
 have HB := Aside0.mk hB
 clear hB
 have H : ((spec_l1Below.f s0_0 s0_1 s0_2 3).bind fun bt310 => ((spec_l1Below.f s0_0 bt310.2.1 bt310.2.2 4).bind fun bt313 => (if (wrap64 (1 + bt310.1)) = 2 then (some (a1, wrap64 (1 + bt310.1), bt313.1, bt313.1, bt313.2.1, bt313.2.2)) else ((spec_l1Below.f s0_0 bt313.2.1 bt313.2.2 3).bind fun bt317 => (some (a1, wrap64 (1 + bt310.1), bt313.1, Int.tmod (wrap64 ((wrap64 (bt313.1 + 1)) + bt317.1)) 4, bt317.2.1, bt317.2.2)))))) = some (r1, r2, r3, r4, r5, r6) := h
 clear h
 obtain ⟨⟨t310, t311, t312⟩, A3, H⟩ := bindE H
 try dsimp only at H
 obtain ⟨⟨t313, t314, t315⟩, A4, H⟩ := bindE H
 try dsimp only at H
 by_cases c5 : (wrap64 (1 + t310)) = 2
 ·
  rw [if_pos c5] at H
  have c5b0 : ((wrap64 (1 + t310)) == 2) = true := beq_iff_eq.mpr c5
  have c5b1 : ((wrap64 (1 + t310)) != 2) = false := bne_eq_false_iff_eq.mpr c5
  clear c5
  simp only [Option.some.injEq, Prod.mk.injEq] at H
  obtain ⟨rfl, rfl, rfl, rfl, rfl, rfl⟩ := H
  go_enter Try.func174, Try.ntmps174
  have TK_ := Aside0.mk trivial
  go_wp2_with (first | ((with_reducible refine gate_dst (N := 4) rfl ?_); refine bE (N := 4) (cs := #[.int .i64 0, .int .i64 0, .int .i64 0, .int .i64 0]) (t := 50) ?_; intro gb309 hg w6 hbox hb; have n0_ := Aside0.mk (IsS138.below (by exact sI1380 HI0.out) hb); have n1_ := Aside0.mk (KeepBut.trans (by exact sK0 HK.out) (KeepBut.of_below hb g none) (.inl rfl)); have n2_ := Aside0.mk (below_step (by exact sB1 HB.out (IsS138.ge HI0.out)) hb); have n3_ := Aside0.mk (hbox); have n4_ := Aside0.mk ((by rw [hg]; exact (keep_size (w := w) (g := g) (row := none) (by exact sK0 HK.out)) : w.heap.size ≤ gb309)); have n5_ := Aside0.mk ((Nat.le_trans HW0.out (by rw [hg]; exact (keep_size (w := w) (g := g) (row := none) (by exact sK0 HK.out)) : w.heap.size ≤ gb309) : w0.heap.size ≤ gb309)); have n6_ := Aside0.mk ((by rw [hg]; exact Nat.ne_of_lt (IsS138.lt (show IsS138 w0 _ g s0_0 s0_1 s0_2 from by exact sI1380 HI0.out)) : g ≠ gb309)); have n7_ := Aside0.mk ((by rw [hg]; exact Nat.ne_of_gt (IsS138.lt (show IsS138 w0 _ g s0_0 s0_1 s0_2 from by exact sI1380 HI0.out)) : gb309 ≠ g)); clear HI0; clear HK; clear HB; have HI0 := n0_; have HK := n1_; have HB := n2_; have BK309 := n3_; have GW309 := n4_; have GE309 := n5_; have NB0_309 := n6_; have NB309_0 := n7_; clear n0_ n1_ n2_ n3_ n4_ n5_ n6_ n7_; clear hb hbox hg) | ((with_reducible refine gate_callee (f := 84) rfl ?_); refine gL (some 8) Try.func84 #[.pointer (some ⟨g, 0, none⟩), .int .i64 3] ?_; (with_reducible refine (spec_l1Below.calls g s0_0 s0_1 s0_2 3 t310 t311 t312 w0 _ ?side1 ?side2 A3.out).mono ?_); (case side1 => exact sI1381 HI0.out NB0_309.out); (case side2 => exact sB2 HB.out (IsS138.ge HI0.out) GE309.out); rintro e w7 ⟨rfl, hi, hb, hk⟩; refine ⟨_, rfl, ?_⟩; replace BK309 := Aside0.mk (KeepBut.blk hk (g' := gb309) (o := .cells #[.int .i64 0, .int .i64 0, .int .i64 0, .int .i64 0] 50 (0, 0)) (bK BK309) NB309_0.out (by simp)); replace HK := Aside0.mk (KeepBut.trans (by exact sK1 HK.out GW309.out) hk (.inl rfl)); replace HB := Aside0.mk (hb); replace HI0 := Aside0.mk (hi); (try clear hb); (try clear hk); (try clear hi)) | ((with_reducible refine gate_callee (f := 84) rfl ?_); refine gL (some 11) Try.func84 #[.pointer (some ⟨g, 0, none⟩), .int .i64 4] ?_; (with_reducible refine (spec_l1Below.calls g s0_0 t311 t312 4 t313 t314 t315 w0 _ ?side1 ?side2 A4.out).mono ?_); (case side1 => exact sI1381 HI0.out NB0_309.out); (case side2 => exact sB2 HB.out (IsS138.ge HI0.out) GE309.out); rintro e w8 ⟨rfl, hi, hb, hk⟩; refine ⟨_, rfl, ?_⟩; replace BK309 := Aside0.mk (KeepBut.blk hk (g' := gb309) (o := .cells #[.int .i64 0, .int .i64 0, .int .i64 0, .int .i64 0] 50 (0, 0)) (bK BK309) NB309_0.out (by simp)); replace HK := Aside0.mk (KeepBut.trans (by exact sK1 HK.out GW309.out) hk (.inl rfl)); replace HB := Aside0.mk (hb); replace HI0 := Aside0.mk (hi); (try clear hb); (try clear hk); (try clear hi)) | ((with_reducible refine gate_dst (N := 5) rfl ?_); refine bE (N := 5) (cs := #[.int .i64 0, .int .i64 0, .int .i64 0, .int .i64 0]) (t := 50) ?_; intro gb316 hg w9 hbox hb; have n0_ := Aside0.mk (IsS138.below (by exact sI1381 HI0.out NB0_309.out) hb); have n1_ := Aside0.mk (blk_below (g := gb309) (bK BK309) hb); have n2_ := Aside0.mk (KeepBut.trans (by exact sK1 HK.out GW309.out) (KeepBut.of_below hb g none) (.inl rfl)); have n3_ := Aside0.mk (below_step (by exact sB2 HB.out (IsS138.ge HI0.out) GE309.out) hb); have n4_ := Aside0.mk (hbox); have n5_ := Aside0.mk ((by rw [hg]; exact (keep_size (w := w) (g := g) (row := none) (by exact sK1 HK.out GW309.out)) : w.heap.size ≤ gb316)); have n6_ := Aside0.mk ((Nat.le_trans HW0.out (by rw [hg]; exact (keep_size (w := w) (g := g) (row := none) (by exact sK1 HK.out GW309.out)) : w.heap.size ≤ gb316) : w0.heap.size ≤ gb316)); have n7_ := Aside0.mk ((by rw [hg]; exact Nat.ne_of_lt (blk_lt (g := gb309) (o := .cells #[.int .i64 0, .int .i64 0, .int .i64 0, .int .i64 0] 50 (0, 0)) (bK BK309)) : gb309 ≠ gb316)); have n8_ := Aside0.mk ((by rw [hg]; exact Nat.ne_of_gt (blk_lt (g := gb309) (o := .cells #[.int .i64 0, .int .i64 0, .int .i64 0, .int .i64 0] 50 (0, 0)) (bK BK309)) : gb316 ≠ gb309)); have n9_ := Aside0.mk ((by rw [hg]; exact Nat.ne_of_lt (IsS138.lt (show IsS138 w0 _ g s0_0 t314 t315 from by exact sI1381 HI0.out NB0_309.out)) : g ≠ gb316)); have n10_ := Aside0.mk ((by rw [hg]; exact Nat.ne_of_gt (IsS138.lt (show IsS138 w0 _ g s0_0 t314 t315 from by exact sI1381 HI0.out NB0_309.out)) : gb316 ≠ g)); clear HI0; clear BK309; clear HK; clear HB; have HI0 := n0_; have BK309 := n1_; have HK := n2_; have HB := n3_; have BK316 := n4_; have GW316 := n5_; have GE316 := n6_; have NB309_316 := n7_; have NB316_309 := n8_; have NB0_316 := n9_; have NB316_0 := n10_; clear n0_ n1_ n2_ n3_ n4_ n5_ n6_ n7_ n8_ n9_ n10_; clear hb hbox hg; have hnb10 := NB316_309.out; have hnc10 := NB309_316.out; have hnb11 := NB316_0.out; have hnc11 := NB0_316.out; obtain ⟨hcz12_0, hcz12_1, hcz12_2, hcz12_3, hfz12_0, hfz12_1, hfz12_2, hfz12_3⟩ := blkc4 BK316; have hnb13 := NB309_0.out; have hnc13 := NB0_309.out; obtain ⟨hcz14_0, hcz14_1, hcz14_2, hcz14_3, hfz14_0, hfz14_1, hfz14_2, hfz14_3⟩ := blkc4 BK309) | ((with_reducible refine gate_dst (N := 27) rfl ?_); clear TK_; refine gen_world (fun W_ => (W_.heap[gb309]? = some (.cells #[.int .i64 0, .int .i64 0, .int .i64 0, .int .i64 0] 50 (0, 0))) ∧ (W_.heap[gb316]? = some (.cells #[.int .i64 a1, .int .i64 (wrap64 (1 + t310)), .int .i64 t313, .int .i64 t313] 50 (0, 0))) ∧ (IsS138 w0 W_ g s0_0 t314 t315) ∧ (KeepBut w W_ g none) ∧ (Below w0.heap.size w0 W_)) ⟨(by (with_reducible repeat (first | refine blk_drewN ?_ _ | refine blk_drew ?_ | refine blk_alloc ?_ _)); refine blk_far ?_ NB309_316.out _; (with_reducible repeat (first | refine blk_drewN ?_ _ | refine blk_drew ?_ | refine blk_alloc ?_ _)); refine blk_far ?_ NB309_316.out _; (with_reducible repeat (first | refine blk_drewN ?_ _ | refine blk_drew ?_ | refine blk_alloc ?_ _)); refine blk_far ?_ NB309_316.out _; (with_reducible repeat (first | refine blk_drewN ?_ _ | refine blk_drew ?_ | refine blk_alloc ?_ _)); refine blk_far ?_ NB309_316.out _; (with_reducible repeat (first | refine blk_drewN ?_ _ | refine blk_drew ?_ | refine blk_alloc ?_ _)); refine blk_far ?_ NB309_316.out _; (with_reducible repeat (first | refine blk_drewN ?_ _ | refine blk_drew ?_ | refine blk_alloc ?_ _)); exact BK309.out), (by (with_reducible repeat (first | refine blk_drewN ?_ _ | refine blk_drew ?_ | refine blk_alloc ?_ _)); refine blk_put (cs := #[.int .i64 a1, .int .i64 (wrap64 (1 + t310)), .int .i64 t313, .int .i64 0]) ?_ 3 _ rfl; (with_reducible repeat (first | refine blk_drewN ?_ _ | refine blk_drew ?_ | refine blk_alloc ?_ _)); refine blk_put (cs := #[.int .i64 a1, .int .i64 (wrap64 (1 + t310)), .int .i64 t313, .int .i64 0]) ?_ 3 _ rfl; (with_reducible repeat (first | refine blk_drewN ?_ _ | refine blk_drew ?_ | refine blk_alloc ?_ _)); refine blk_put (cs := #[.int .i64 a1, .int .i64 (wrap64 (1 + t310)), .int .i64 0, .int .i64 0]) ?_ 2 _ rfl; (with_reducible repeat (first | refine blk_drewN ?_ _ | refine blk_drew ?_ | refine blk_alloc ?_ _)); refine blk_put (cs := #[.int .i64 a1, .int .i64 0, .int .i64 0, .int .i64 0]) ?_ 1 _ rfl; (with_reducible repeat (first | refine blk_drewN ?_ _ | refine blk_drew ?_ | refine blk_alloc ?_ _)); refine blk_put (cs := #[.int .i64 0, .int .i64 0, .int .i64 0, .int .i64 0]) ?_ 0 _ rfl; (with_reducible repeat (first | refine blk_drewN ?_ _ | refine blk_drew ?_ | refine blk_alloc ?_ _)); exact BK316.out), (by exact sI1382 HI0.out NB0_309.out NB0_316.out), (by exact sK2 HK.out GW309.out GW316.out), (by exact sB3 HB.out (IsS138.ge HI0.out) GE309.out GE316.out)⟩ ?_; rintro wz ⟨n0_, n1_, n2_, n3_, n4_⟩; (try clear BK309); (try clear BK316); (try clear HI0); (try clear HK); (try clear HB); have BK309 := Aside0.mk n0_; have BK316 := Aside0.mk n1_; have HI0 := Aside0.mk n2_; have HK := Aside0.mk n3_; have HB := Aside0.mk n4_; clear n0_ n1_ n2_ n3_ n4_; obtain ⟨hcy0, hcy1, hcy2, hcy3, hfy0, hfy1, hfy2, hfy3⟩ := blkc4 BK316; obtain ⟨hcx0, hcx1, hcx2, hcx3, hfx0, hfx1, hfx2, hfx3⟩ := blkc4 BK309))
  refine bodyPost_ret (results_cell_row rfl _ _ gb309 50 #[.int .i64 a1, .int .i64 (wrap64 (1 + t310)), .int .i64 t313, .int .i64 t313] (0, 0) _ rfl (by refine blk_put (cs := #[.int .i64 a1, .int .i64 (wrap64 (1 + t310)), .int .i64 t313, .int .i64 0]) ?_ 3 _ rfl; refine blk_put (cs := #[.int .i64 a1, .int .i64 (wrap64 (1 + t310)), .int .i64 0, .int .i64 0]) ?_ 2 _ rfl; refine blk_put (cs := #[.int .i64 a1, .int .i64 0, .int .i64 0, .int .i64 0]) ?_ 1 _ rfl; refine blk_put (cs := #[.int .i64 0, .int .i64 0, .int .i64 0, .int .i64 0]) ?_ 0 _ rfl; exact BK309.out) Try.underlying50 rfl (by kernel_rfl)) rfl ?_
  exact ⟨rA, by exact sI1382 HI0.out NB0_309.out NB0_316.out, by exact sB3 HB.out (IsS138.ge HI0.out) GE309.out GE316.out, by exact sK2 HK.out GW309.out GW316.out⟩
 ·
  rw [if_neg c5] at H
  have c5b0 : ((wrap64 (1 + t310)) == 2) = false := beq_eq_false_iff_ne.mpr c5
  have c5b1 : ((wrap64 (1 + t310)) != 2) = true := bne_iff_ne.mpr c5
  obtain ⟨⟨t317, t318, t319⟩, A15, H⟩ := bindE H
  try dsimp only at H
  simp only [Option.some.injEq, Prod.mk.injEq] at H
  obtain ⟨rfl, rfl, rfl, rfl, rfl, rfl⟩ := H
  go_enter Try.func174, Try.ntmps174
  try go_wp2_with (first | ((with_reducible refine gate_dst (N := 4) rfl ?_); refine bE (N := 4) (cs := #[.int .i64 0, .int .i64 0, .int .i64 0, .int .i64 0]) (t := 50) ?_; intro gb309 hg w16 hbox hb; have n0_ := Aside0.mk (IsS138.below (by exact sI1380 HI0.out) hb); have n1_ := Aside0.mk (KeepBut.trans (by exact sK0 HK.out) (KeepBut.of_below hb g none) (.inl rfl)); have n2_ := Aside0.mk (below_step (by exact sB1 HB.out (IsS138.ge HI0.out)) hb); have n3_ := Aside0.mk (hbox); have n4_ := Aside0.mk ((by rw [hg]; exact (keep_size (w := w) (g := g) (row := none) (by exact sK0 HK.out)) : w.heap.size ≤ gb309)); have n5_ := Aside0.mk ((Nat.le_trans HW0.out (by rw [hg]; exact (keep_size (w := w) (g := g) (row := none) (by exact sK0 HK.out)) : w.heap.size ≤ gb309) : w0.heap.size ≤ gb309)); have n6_ := Aside0.mk ((by rw [hg]; exact Nat.ne_of_lt (IsS138.lt (show IsS138 w0 _ g s0_0 s0_1 s0_2 from by exact sI1380 HI0.out)) : g ≠ gb309)); have n7_ := Aside0.mk ((by rw [hg]; exact Nat.ne_of_gt (IsS138.lt (show IsS138 w0 _ g s0_0 s0_1 s0_2 from by exact sI1380 HI0.out)) : gb309 ≠ g)); clear HI0; clear HK; clear HB; have HI0 := n0_; have HK := n1_; have HB := n2_; have BK309 := n3_; have GW309 := n4_; have GE309 := n5_; have NB0_309 := n6_; have NB309_0 := n7_; clear n0_ n1_ n2_ n3_ n4_ n5_ n6_ n7_; clear hb hbox hg) | ((with_reducible refine gate_callee (f := 84) rfl ?_); refine gL (some 8) Try.func84 #[.pointer (some ⟨g, 0, none⟩), .int .i64 3] ?_; (with_reducible refine (spec_l1Below.calls g s0_0 s0_1 s0_2 3 t310 t311 t312 w0 _ ?side1 ?side2 A3.out).mono ?_); (case side1 => exact sI1381 HI0.out NB0_309.out); (case side2 => exact sB2 HB.out (IsS138.ge HI0.out) GE309.out); rintro e w17 ⟨rfl, hi, hb, hk⟩; refine ⟨_, rfl, ?_⟩; replace BK309 := Aside0.mk (KeepBut.blk hk (g' := gb309) (o := .cells #[.int .i64 0, .int .i64 0, .int .i64 0, .int .i64 0] 50 (0, 0)) (bK BK309) NB309_0.out (by simp)); replace HK := Aside0.mk (KeepBut.trans (by exact sK1 HK.out GW309.out) hk (.inl rfl)); replace HB := Aside0.mk (hb); replace HI0 := Aside0.mk (hi); (try clear hb); (try clear hk); (try clear hi)) | ((with_reducible refine gate_callee (f := 84) rfl ?_); refine gL (some 11) Try.func84 #[.pointer (some ⟨g, 0, none⟩), .int .i64 4] ?_; (with_reducible refine (spec_l1Below.calls g s0_0 t311 t312 4 t313 t314 t315 w0 _ ?side1 ?side2 A4.out).mono ?_); (case side1 => exact sI1381 HI0.out NB0_309.out); (case side2 => exact sB2 HB.out (IsS138.ge HI0.out) GE309.out); rintro e w18 ⟨rfl, hi, hb, hk⟩; refine ⟨_, rfl, ?_⟩; replace BK309 := Aside0.mk (KeepBut.blk hk (g' := gb309) (o := .cells #[.int .i64 0, .int .i64 0, .int .i64 0, .int .i64 0] 50 (0, 0)) (bK BK309) NB309_0.out (by simp)); replace HK := Aside0.mk (KeepBut.trans (by exact sK1 HK.out GW309.out) hk (.inl rfl)); replace HB := Aside0.mk (hb); replace HI0 := Aside0.mk (hi); (try clear hb); (try clear hk); (try clear hi)) | ((with_reducible refine gate_dst (N := 5) rfl ?_); refine bE (N := 5) (cs := #[.int .i64 0, .int .i64 0, .int .i64 0, .int .i64 0]) (t := 50) ?_; intro gb316 hg w19 hbox hb; have n0_ := Aside0.mk (IsS138.below (by exact sI1381 HI0.out NB0_309.out) hb); have n1_ := Aside0.mk (blk_below (g := gb309) (bK BK309) hb); have n2_ := Aside0.mk (KeepBut.trans (by exact sK1 HK.out GW309.out) (KeepBut.of_below hb g none) (.inl rfl)); have n3_ := Aside0.mk (below_step (by exact sB2 HB.out (IsS138.ge HI0.out) GE309.out) hb); have n4_ := Aside0.mk (hbox); have n5_ := Aside0.mk ((by rw [hg]; exact (keep_size (w := w) (g := g) (row := none) (by exact sK1 HK.out GW309.out)) : w.heap.size ≤ gb316)); have n6_ := Aside0.mk ((Nat.le_trans HW0.out (by rw [hg]; exact (keep_size (w := w) (g := g) (row := none) (by exact sK1 HK.out GW309.out)) : w.heap.size ≤ gb316) : w0.heap.size ≤ gb316)); have n7_ := Aside0.mk ((by rw [hg]; exact Nat.ne_of_lt (blk_lt (g := gb309) (o := .cells #[.int .i64 0, .int .i64 0, .int .i64 0, .int .i64 0] 50 (0, 0)) (bK BK309)) : gb309 ≠ gb316)); have n8_ := Aside0.mk ((by rw [hg]; exact Nat.ne_of_gt (blk_lt (g := gb309) (o := .cells #[.int .i64 0, .int .i64 0, .int .i64 0, .int .i64 0] 50 (0, 0)) (bK BK309)) : gb316 ≠ gb309)); have n9_ := Aside0.mk ((by rw [hg]; exact Nat.ne_of_lt (IsS138.lt (show IsS138 w0 _ g s0_0 t314 t315 from by exact sI1381 HI0.out NB0_309.out)) : g ≠ gb316)); have n10_ := Aside0.mk ((by rw [hg]; exact Nat.ne_of_gt (IsS138.lt (show IsS138 w0 _ g s0_0 t314 t315 from by exact sI1381 HI0.out NB0_309.out)) : gb316 ≠ g)); clear HI0; clear BK309; clear HK; clear HB; have HI0 := n0_; have BK309 := n1_; have HK := n2_; have HB := n3_; have BK316 := n4_; have GW316 := n5_; have GE316 := n6_; have NB309_316 := n7_; have NB316_309 := n8_; have NB0_316 := n9_; have NB316_0 := n10_; clear n0_ n1_ n2_ n3_ n4_ n5_ n6_ n7_ n8_ n9_ n10_; clear hb hbox hg; have hnb20 := NB316_309.out; have hnc20 := NB309_316.out; have hnb21 := NB316_0.out; have hnc21 := NB0_316.out; obtain ⟨hcz22_0, hcz22_1, hcz22_2, hcz22_3, hfz22_0, hfz22_1, hfz22_2, hfz22_3⟩ := blkc4 BK316))
  have n0_ : Aside0 ((((((w19.setCell ⟨gb316, 0, none⟩ (.int .i64 a1)).setCell ⟨gb316, 1, none⟩ (.int .i64 (wrap64 (1 + t310)))).setCell ⟨gb316, 2, none⟩ (.int .i64 t313)).setCell ⟨gb316, 3, none⟩ (.int .i64 0)).setCell ⟨gb316, 3, none⟩ (.int .i64 t313)).heap[gb309]? = some (.cells #[.int .i64 0, .int .i64 0, .int .i64 0, .int .i64 0] 50 (0, 0))) := ⟨by (with_reducible repeat (first | refine blk_drewN ?_ _ | refine blk_drew ?_ | refine blk_alloc ?_ _)); refine blk_far ?_ NB309_316.out _; (with_reducible repeat (first | refine blk_drewN ?_ _ | refine blk_drew ?_ | refine blk_alloc ?_ _)); refine blk_far ?_ NB309_316.out _; (with_reducible repeat (first | refine blk_drewN ?_ _ | refine blk_drew ?_ | refine blk_alloc ?_ _)); refine blk_far ?_ NB309_316.out _; (with_reducible repeat (first | refine blk_drewN ?_ _ | refine blk_drew ?_ | refine blk_alloc ?_ _)); refine blk_far ?_ NB309_316.out _; (with_reducible repeat (first | refine blk_drewN ?_ _ | refine blk_drew ?_ | refine blk_alloc ?_ _)); refine blk_far ?_ NB309_316.out _; (with_reducible repeat (first | refine blk_drewN ?_ _ | refine blk_drew ?_ | refine blk_alloc ?_ _)); exact BK309.out⟩
  have n1_ : Aside0 ((((((w19.setCell ⟨gb316, 0, none⟩ (.int .i64 a1)).setCell ⟨gb316, 1, none⟩ (.int .i64 (wrap64 (1 + t310)))).setCell ⟨gb316, 2, none⟩ (.int .i64 t313)).setCell ⟨gb316, 3, none⟩ (.int .i64 0)).setCell ⟨gb316, 3, none⟩ (.int .i64 t313)).heap[gb316]? = some (.cells #[.int .i64 a1, .int .i64 (wrap64 (1 + t310)), .int .i64 t313, .int .i64 t313] 50 (0, 0))) := ⟨by (with_reducible repeat (first | refine blk_drewN ?_ _ | refine blk_drew ?_ | refine blk_alloc ?_ _)); refine blk_put (cs := #[.int .i64 a1, .int .i64 (wrap64 (1 + t310)), .int .i64 t313, .int .i64 0]) ?_ 3 _ rfl; (with_reducible repeat (first | refine blk_drewN ?_ _ | refine blk_drew ?_ | refine blk_alloc ?_ _)); refine blk_put (cs := #[.int .i64 a1, .int .i64 (wrap64 (1 + t310)), .int .i64 t313, .int .i64 0]) ?_ 3 _ rfl; (with_reducible repeat (first | refine blk_drewN ?_ _ | refine blk_drew ?_ | refine blk_alloc ?_ _)); refine blk_put (cs := #[.int .i64 a1, .int .i64 (wrap64 (1 + t310)), .int .i64 0, .int .i64 0]) ?_ 2 _ rfl; (with_reducible repeat (first | refine blk_drewN ?_ _ | refine blk_drew ?_ | refine blk_alloc ?_ _)); refine blk_put (cs := #[.int .i64 a1, .int .i64 0, .int .i64 0, .int .i64 0]) ?_ 1 _ rfl; (with_reducible repeat (first | refine blk_drewN ?_ _ | refine blk_drew ?_ | refine blk_alloc ?_ _)); refine blk_put (cs := #[.int .i64 0, .int .i64 0, .int .i64 0, .int .i64 0]) ?_ 0 _ rfl; (with_reducible repeat (first | refine blk_drewN ?_ _ | refine blk_drew ?_ | refine blk_alloc ?_ _)); exact BK316.out⟩
  have n2_ : Aside0 (IsS138 w0 (((((w19.setCell ⟨gb316, 0, none⟩ (.int .i64 a1)).setCell ⟨gb316, 1, none⟩ (.int .i64 (wrap64 (1 + t310)))).setCell ⟨gb316, 2, none⟩ (.int .i64 t313)).setCell ⟨gb316, 3, none⟩ (.int .i64 0)).setCell ⟨gb316, 3, none⟩ (.int .i64 t313)) g s0_0 t314 t315) := ⟨by exact sI1382 HI0.out NB0_309.out NB0_316.out⟩
  have n3_ : Aside0 (KeepBut w (((((w19.setCell ⟨gb316, 0, none⟩ (.int .i64 a1)).setCell ⟨gb316, 1, none⟩ (.int .i64 (wrap64 (1 + t310)))).setCell ⟨gb316, 2, none⟩ (.int .i64 t313)).setCell ⟨gb316, 3, none⟩ (.int .i64 0)).setCell ⟨gb316, 3, none⟩ (.int .i64 t313)) g none) := ⟨by exact sK2 HK.out GW309.out GW316.out⟩
  have n4_ : Aside0 (Below w0.heap.size w0 (((((w19.setCell ⟨gb316, 0, none⟩ (.int .i64 a1)).setCell ⟨gb316, 1, none⟩ (.int .i64 (wrap64 (1 + t310)))).setCell ⟨gb316, 2, none⟩ (.int .i64 t313)).setCell ⟨gb316, 3, none⟩ (.int .i64 0)).setCell ⟨gb316, 3, none⟩ (.int .i64 t313))) := ⟨by exact sB3 HB.out (IsS138.ge HI0.out) GE309.out GE316.out⟩
  (try clear BK309)
  (try clear BK316)
  (try clear HI0)
  (try clear HK)
  (try clear HB)
  generalize (((((w19.setCell ⟨gb316, 0, none⟩ (.int .i64 a1)).setCell ⟨gb316, 1, none⟩ (.int .i64 (wrap64 (1 + t310)))).setCell ⟨gb316, 2, none⟩ (.int .i64 t313)).setCell ⟨gb316, 3, none⟩ (.int .i64 0)).setCell ⟨gb316, 3, none⟩ (.int .i64 t313)) = w23 at n0_ n1_ n2_ n3_ n4_ ⊢
  have BK309 := n0_
  have BK316 := n1_
  have HI0 := n2_
  have HK := n3_
  have HB := n4_
  clear n0_ n1_ n2_ n3_ n4_
  replace BK309 := Aside0.mk (blk_drew BK309.out)
  replace BK316 := Aside0.mk (blk_drew BK316.out)
  replace HI0 := Aside0.mk (IsS138.drew HI0.out)
  replace HK := Aside0.mk (keep_drew HK.out)
  have HBo := HB
  replace HB := Aside0.mk (below_drew1 HB.out)
  refine start_ (n := 9) (S := fun w' => w'.cell? ⟨gb316, 0, none⟩ = some (.int .i64 a1) ∧ w'.cell? ⟨gb316, 1, none⟩ = some (.int .i64 (wrap64 (1 + t310))) ∧ w'.cell? ⟨gb316, 2, none⟩ = some (.int .i64 t313) ∧ w'.cell? ⟨gb316, 3, none⟩ = some (.int .i64 t313)) (ds := [8]) (mb 9 0) (by kernel_rfl) rfl rfl ⟨bC BK316 0, bC BK316 1, bC BK316 2, bC BK316 3⟩ (fun hHeld => ?_); refine with_tabW spec_l4Draw.tab4 spec_l4Draw.bits4 (fun HT_ HW_ => ?_)
  generalize w23.drew = w24 at BK309 BK316 HI0 HK HB hHeld ⊢
  refine pa 0 19 (mb 9 1) HT_ ?_
  refine pa 3 22 (mb 9 9) HT_ ?_
  refine ta4 1 20 (mb 9 11) HT_ HW_ hHeld ?_
  refine pa 2 21 (mb 9 15) HT_ ?_
  refine oa 4 23 (mb 9 31) HT_ (fun K hK => ?_)
  refine gA Try.func84 #[.pointer (some ⟨g, 0, none⟩), .int .i64 3] ?_
  with_reducible refine (spec_l1Below.calls g s0_0 t314 t315 3 t317 t318 t319 w0 _ ?side1 ?side2 A15.out).mono ?_
  (case side1 => exact sI1382 HI0.out NB0_309.out NB0_316.out)
  (case side2 => exact sB3 HB.out (IsS138.ge HI0.out) GE309.out GE316.out)
  rintro e w25 ⟨rfl, hi, hb, hk⟩
  refine ⟨_, rfl, ?_⟩
  replace BK309 := Aside0.mk (KeepBut.blk hk (g' := gb309) (o := .cells #[.int .i64 0, .int .i64 0, .int .i64 0, .int .i64 0] 50 (0, 0)) (bK BK309) NB309_0.out (by simp))
  replace BK316 := Aside0.mk (KeepBut.blk hk (g' := gb316) (o := .cells #[.int .i64 a1, .int .i64 (wrap64 (1 + t310)), .int .i64 t313, .int .i64 t313] 50 (0, 0)) (bK BK316) NB316_0.out (by simp))
  replace HK := Aside0.mk (KeepBut.trans (by exact sK2 HK.out GW309.out GW316.out) hk (.inl rfl))
  replace HB := Aside0.mk (hb)
  replace HI0 := Aside0.mk (hi)
  (try clear hb)
  (try clear hb2)
  (try clear hk)
  (try clear hi)
  refine hK.out _ _ ⟨bC BK316 0, bC BK316 1, bC BK316 2, bC BK316 3⟩ (fun hHeld => ?_)
  clear hK K
  refine nB ?_
  refine pa 5 24 (mb 9 63) HT_ ?_
  refine pa 6 25 (mb 9 127) HT_ ?_
  refine pa 7 26 (mb 9 255) HT_ ?_
  refine last_ (i := 8) (N := none) (mb 9 511) rfl rfl (one_of HT_.out (by kernel_rfl)) (by decide) (fun K hK => ?_)
  have hs26 : w25.cell? ⟨gb316, 3, none⟩ = some (.int .i64 t313) := bC BK316 3
  have hfs26 := blk_frozen BK316.out 3
  have hns26_0 := NB309_316.out
  have hms26_0 := NB316_309.out
  refine skip_ (w1 := ?_) (by rfl) rfl ?_ ?_
  rotate_left
  ·
   go_simp
   rfl
  refine hK.out _ _ ?_
  clear hK K
  refine eA HT_ ?_
  obtain ⟨hcz27_0, hcz27_1, hcz27_2, hcz27_3, hfz27_0, hfz27_1, hfz27_2, hfz27_3⟩ := blkc4 BK316
  have hnb28 := NB309_0.out
  have hnc28 := NB0_309.out
  obtain ⟨hcz29_0, hcz29_1, hcz29_2, hcz29_3, hfz29_0, hfz29_1, hfz29_2, hfz29_3⟩ := blkc4 BK309
  try go_wp2
  refine bodyPost_ret (results_cell_row rfl _ _ gb309 50 #[.int .i64 a1, .int .i64 (wrap64 (1 + t310)), .int .i64 t313, .int .i64 (Int.tmod (wrap64 ((wrap64 (t313 + 1)) + t317)) 4)] (0, 0) _ rfl (by (with_reducible repeat (first | refine blk_drewN ?_ _ | refine blk_drew ?_ | refine blk_alloc ?_ _)); refine blk_put (cs := #[.int .i64 a1, .int .i64 (wrap64 (1 + t310)), .int .i64 t313, .int .i64 0]) ?_ 3 _ rfl; (with_reducible repeat (first | refine blk_drewN ?_ _ | refine blk_drew ?_ | refine blk_alloc ?_ _)); refine blk_put (cs := #[.int .i64 a1, .int .i64 (wrap64 (1 + t310)), .int .i64 0, .int .i64 0]) ?_ 2 _ rfl; (with_reducible repeat (first | refine blk_drewN ?_ _ | refine blk_drew ?_ | refine blk_alloc ?_ _)); refine blk_put (cs := #[.int .i64 a1, .int .i64 0, .int .i64 0, .int .i64 0]) ?_ 1 _ rfl; (with_reducible repeat (first | refine blk_drewN ?_ _ | refine blk_drew ?_ | refine blk_alloc ?_ _)); refine blk_put (cs := #[.int .i64 0, .int .i64 0, .int .i64 0, .int .i64 0]) ?_ 0 _ rfl; (with_reducible repeat (first | refine blk_drewN ?_ _ | refine blk_drew ?_ | refine blk_alloc ?_ _)); refine blk_far ?_ NB309_316.out _; (with_reducible repeat (first | refine blk_drewN ?_ _ | refine blk_drew ?_ | refine blk_alloc ?_ _)); exact BK309.out) Try.underlying50 rfl (by kernel_rfl)) rfl ?_
  exact ⟨rA, by exact sI1382 HI0.out NB0_309.out NB0_316.out, by exact sB3 HB.out (IsS138.ge HI0.out) GE309.out GE316.out, by exact sK2 HK.out GW309.out GW316.out⟩

/-! ### spec_l5Draw: function 150 -/
def spec_l5Draw.l0 : Nat → List (S50) → Int → List Int → Int → Int → Option ((List (S50)) × Int × Int)
 | 0, _, _, _, _, _ => none
 | k + 1, x3, x4, x1000, x1001, x1002 => (spec_l1Below.f x1000 x1001 x1002 6).bind fun bt323 => (if x4 ≤ (wrap64 (2 + bt323.1)) then ((spec_l4Draw.f x1000 bt323.2.1 bt323.2.2 x4).bind fun bt326 => (if x3.length < 4398046511104 then (spec_l5Draw.l0 k (x3 ++ [(⟨bt326.1, bt326.2.1, bt326.2.2.1, bt326.2.2.2.1⟩ : S50)]) (wrap64 (x4 + 1)) x1000 bt326.2.2.2.2.1 bt326.2.2.2.2.2) else (none))) else (some (x3, bt323.2.1, bt323.2.2)))
def spec_l5Draw.f (k : Nat) (s0_0 : List Int) (s0_1 : Int) (s0_2 : Int) : Option ((List (S50)) × Int × Int) := spec_l5Draw.l0 k (([] : List (S50))) 1 s0_0 s0_1 s0_2
theorem spec_l5Draw.mono_l : ∀ k, (∀ y0 y1 y2 y3 y4, LeO (spec_l5Draw.l0 k y0 y1 y2 y3 y4) (spec_l5Draw.l0 (k + 1) y0 y1 y2 y3 y4))
 | 0 => fun _ _ _ _ _ r h => by simp [spec_l5Draw.l0] at h
 | k + 1 => by
  have ih0 := spec_l5Draw.mono_l k
  ·
   intro y0 y1 y2 y3 y4
   unfold spec_l5Draw.l0
   repeat' first | (with_reducible first | exact LeO.refl _ | exact LeO.none _ | refine LeO.ite ?_ ?_ | refine LeO.bind ?_ (fun _ => ?_) | exact ih0 _ _ _ _ _)
theorem spec_l5Draw.mono : ∀ a0 a1 a2 k, LeO (spec_l5Draw.f k a0 a1 a2) (spec_l5Draw.f (k + 1) a0 a1 a2) := by
 intro a0 a1 a2 k
 have ih0 := spec_l5Draw.mono_l k
 unfold spec_l5Draw.f
 repeat' first | (with_reducible first | exact LeO.refl _ | exact LeO.none _ | refine LeO.ite ?_ ?_ | refine LeO.bind ?_ (fun _ => ?_) | exact ih0 _ _ _ _ _)
set_option maxHeartbeats 8000000 in
set_option maxRecDepth 100000 in
theorem spec_l5Draw.calls (k : Nat) (g : Nat) (s0_0 : List Int) (s0_1 : Int) (s0_2 : Int) (r1 : List (S50)) (r2 : Int) (r3 : Int) (w0 w : World) (hI : IsS138 w0 w g s0_0 s0_1 s0_2) (hB : Below w0.heap.size w0 w) (h : spec_l5Draw.f k s0_0 s0_1 s0_2 = some (r1, r2, r3)) :
  Calls Try.prog 150 #[.pointer (some ⟨g, 0, none⟩)] w fun e w' => ∃ v0_ : Value, e = .returned (v0_) ∧ Kd.R k50 50 w' w.heap.size (fun _ => True) v0_ r1 ∧ IsS138 w0 w' g s0_0 r2 r3 ∧ Below w0.heap.size w0 w' ∧ KeepBut w w' g none := by
 have HI0 := Aside0.mk hI
 have HK := Aside0.mk (KeepBut.refl w g none)
 have HL := Aside0.mk hB.size
 clear hI
 have HW0 := Aside0.mk hB.size
 have HB := Aside0.mk hB
 clear hB
 have H : (spec_l5Draw.l0 k (([] : List (S50))) 1 s0_0 s0_1 s0_2) = some (r1, r2, r3) := h
 clear h
 obtain ⟨y320, hy320⟩ : ∃ y_ : List (S50), y_ = (([] : List (S50))) := ⟨_, rfl⟩
 replace H : (spec_l5Draw.l0 k y320 1 s0_0 s0_1 s0_2) = some (r1, r2, r3) := rH H hy320
 have Ny320 := Aside0.mk hy320
 clear hy320
 have H' := Aside0.mk H
 clear H
 go_enter Try.func150, Try.ntmps150
 go_wp2_with (first | ((with_reducible refine gate_dst (N := 5) rfl ?_); refine Kd.R_lit k50 _ 50 ?hg (N := 5) ?hd (xs := ([] : List (S50))) (inner := []) (ok := fun _ => True) (okp := fun _ => True) ?hr ?hp (fun _ hk => hk) trivial (Below.refl _ _) (Nat.le_refl _) (by simp) ?_; (case hd => rfl); (case hg => rfl); (case hr => first | (go_simp; done) | (go_simp; rfl)); (case hp => exact (Reps.none _ _)); intro v321 w2 ho3 hb hg_ hnew_; clear hg_ hnew_; (first | rw [← Ny320.out] at ho3 | (simp only [Int.reduceToNat] at ho3; rw [← Ny320.out] at ho3)); have n0_ := Aside0.mk (Kd.R_lower ho3 (keep_size (w := w) (g := g) (row := none) (by exact sK0 HK.out))); have n1_ := Aside0.mk (IsS138.below (by exact sI1380 HI0.out) hb); have n2_ := Aside0.mk (KeepBut.trans (by exact sK0 HK.out) (KeepBut.of_below hb g none) (.inl rfl)); have n3_ := Aside0.mk (below_step (by exact sB1 HB.out (IsS138.ge HI0.out)) hb); clear HI0; clear HK; clear HB; have HO322 := n0_; have HI0 := n1_; have HK := n2_; have HB := n3_; clear n0_ n1_ n2_ n3_; clear hb ho3))
 go_loopg [3, 4] k (fun kq v3 v4 w' => ∃ (x3_1 : List (S50)) (x4_1 : Int) (x1001_1 : Int) (x1002_1 : Int), v4 = .int .i64 x4_1 ∧ Aside0 (spec_l5Draw.l0 kq x3_1 x4_1 s0_0 x1001_1 x1002_1 = some (r1, r2, r3)) ∧ Aside0 (kq ≤ k) ∧ Aside0 (Kd.R k50 50 w' w.heap.size (fun _ => True) v3 x3_1) ∧ Aside0 (IsS138 w0 w' g s0_0 x1001_1 x1002_1) ∧ Aside0 (KeepBut w w' g none) ∧ Aside0 (Below w0.heap.size w0 w'))
 case atStart => exact ⟨(y320), (1), (s0_1), (s0_2), rS, H', ⟨Nat.le_refl _⟩, ⟨rK HO322⟩, ⟨by exact sI1380 HI0.out⟩, ⟨by exact sK0 HK.out⟩, ⟨by exact sB1 HB.out (IsS138.ge HI0.out)⟩⟩
 case round =>
  clear H'
  try clear c1
  try clear p2
  obtain ⟨x3_1, x4_1, x1001_1, x1002_1, rfl, HA, HK1, HO_3, HI0, HK, HB⟩ := hrel
  cases gk with
  | zero => exact absurd HA.out (by simp [spec_l5Draw.l0])
  | succ k1 =>
   have H := HA.out
   clear HA
   simp only [spec_l5Draw.l0] at H
   obtain ⟨⟨t323, t324, t325⟩, A4, H⟩ := bindE H
   try dsimp only at H
   by_cases c5 : x4_1 ≤ (wrap64 (2 + t323))
   ·
    rw [if_pos c5] at H
    have c5b0 := decide_eq_true c5
    clear c5
    obtain ⟨⟨t326, t327, t328, t329, t330, t331⟩, A6, H⟩ := bindE H
    try dsimp only at H
    have c7 : x3_1.length < 4398046511104 := ifN H
    replace H := ifT H
    have LMc7 := Aside0.mk c7
    clear c7
    obtain ⟨y332, hy332⟩ : ∃ y_ : List (S50), y_ = (x3_1 ++ [(⟨t326, t327, t328, t329⟩ : S50)]) := ⟨_, rfl⟩
    replace H : (spec_l5Draw.l0 k1 y332 (wrap64 (x4_1 + 1)) s0_0 t330 t331) = some (r1, r2, r3) := rH H hy332
    have Ny332 := Aside0.mk hy332
    clear hy332
    have H' := Aside0.mk H
    clear H
    go_wp2_with (first | ((with_reducible refine gate_callee (f := 84) rfl ?_); refine gL (some 8) Try.func84 #[.pointer (some ⟨g, 0, none⟩), .int .i64 6] ?_; (with_reducible refine (spec_l1Below.calls g s0_0 x1001_1 x1002_1 6 t323 t324 t325 w0 _ ?side1 ?side2 A4.out).mono ?_); (case side1 => exact sI1380 HI0.out); (case side2 => exact sB1 HB.out (IsS138.ge HI0.out)); rintro e w8 ⟨rfl, hi, hb, hk⟩; refine ⟨_, rfl, ?_⟩; replace HO_3 := Aside0.mk (Kd.R_mono (Kd.R_keep (IsS138.apart (show IsS138 w0 _ g s0_0 x1001_1 x1002_1 from by exact sI1380 HI0.out) (rK HO_3) (by decide)) hk (fun _ h => h.2)) (fun _ h => h.1)); replace HK := Aside0.mk (KeepBut.trans (by exact sK0 HK.out) hk (.inl rfl)); replace HB := Aside0.mk (hb); replace HI0 := Aside0.mk (hi); (try clear hb); (try clear hk); (try clear hi)) | ((with_reducible refine gate_callee (f := 174) rfl ?_); refine gL (some 16) Try.func174 #[.pointer (some ⟨g, 0, none⟩), .int .i64 x4_1] ?_; (with_reducible refine (spec_l4Draw.calls g s0_0 t324 t325 x4_1 t326 t327 t328 t329 t330 t331 w0 _ ?side1 ?side2 A6.out).mono ?_); (case side1 => exact sI1380 HI0.out); (case side2 => exact sB1 HB.out (IsS138.ge HI0.out)); rintro e w9 ⟨rfl, hi, hb, hk⟩; refine ⟨_, rfl, ?_⟩; replace HO_3 := Aside0.mk (Kd.R_mono (Kd.R_keep (IsS138.apart (show IsS138 w0 _ g s0_0 t324 t325 from by exact sI1380 HI0.out) (rK HO_3) (by decide)) hk (fun _ h => h.2)) (fun _ h => h.1)); replace HK := Aside0.mk (KeepBut.trans (by exact sK0 HK.out) hk (.inl rfl)); replace HB := Aside0.mk (hb); replace HI0 := Aside0.mk (hi); (try clear hb); (try clear hk); (try clear hi)) | ((with_reducible refine gate_builtin (b := .append) (xs := #[.tmp 13, .tmp 17]) rfl ?_); at_builtin; refine Kd.R_append k50 w.heap.size rfl (.tmp 13) (.tmp 17) 24 50 (.agg #[(.int .i64 0), (.int .i64 0), (.int .i64 0), (.int .i64 0)]) 32 rfl Try.underlying24 info50 rfl (by decide) (by omega) u3 x3_1 (⟨t326, t327, t328, t329⟩ : S50) [.int .i64 t326, .int .i64 t327, .int .i64 t328, .int .i64 t329] (fun _ => True) (fun _ => False) rfl rfl ?aP (fun _ hk => hk.elim) ?aF ?aO (Below.refl _ _) ?aS ?aL ?_; (case aP => exact k50_mkM _ _ _ (⟨t326, t327, t328, t329⟩ : S50)); (case aF => exact (fun _ _ => trivial)); (case aO => exact (rK HO_3)); (case aS => exact (keep_size (w := w) (g := g) (row := none) (by exact sK0 HK.out))); (case aL => have := LMc7.out; omega); intro v333 w10 ho hb hg hat; rw [← Ny332.out] at ho; have n0_ := Aside0.mk (IsS138.grown (by exact sI1380 HI0.out) hg (IsS138.own_ne HI0.out HO_3.out (by decide))); have n1_ := Aside0.mk (below_weaken (by exact sB1 HB.out (IsS138.ge HI0.out)) HL.out hb); have n2_ := Aside0.mk (KeepBut.trans (by exact sK0 HK.out) (KeepBut.of_grown hg g) (Kd.R_base2 HO_3.out)); have n3_ := Aside0.mk (ho); clear HI0; clear HB; clear HK; clear HO_3; have HI0 := n0_; have HB := n1_; have HK := n2_; have HO334 := n3_; clear n0_ n1_ n2_ n3_; clear ho hb hg hat))
    go_roundg k1
    case measure => have := HK1.out; omega
    case rel => exact ⟨(y332), (wrap64 (x4_1 + 1)), (t330), (t331), rS, H', ⟨by have := HK1.out; omega⟩, ⟨rK HO334⟩, ⟨by exact sI1380 HI0.out⟩, ⟨by exact sK0 HK.out⟩, ⟨by exact sB1 HB.out (IsS138.ge HI0.out)⟩⟩
   ·
    rw [if_neg c5] at H
    have c5b0 := decide_eq_false c5
    clear c5
    simp only [Option.some.injEq, Prod.mk.injEq] at H
    obtain ⟨rfl, rfl, rfl⟩ := H
    go_wp2_with (first | ((with_reducible refine gate_callee (f := 84) rfl ?_); refine gL (some 8) Try.func84 #[.pointer (some ⟨g, 0, none⟩), .int .i64 6] ?_; (with_reducible refine (spec_l1Below.calls g s0_0 x1001_1 x1002_1 6 t323 t324 t325 w0 _ ?side1 ?side2 A4.out).mono ?_); (case side1 => exact sI1380 HI0.out); (case side2 => exact sB1 HB.out (IsS138.ge HI0.out)); rintro e w11 ⟨rfl, hi, hb, hk⟩; refine ⟨_, rfl, ?_⟩; replace HO_3 := Aside0.mk (Kd.R_mono (Kd.R_keep (IsS138.apart (show IsS138 w0 _ g s0_0 x1001_1 x1002_1 from by exact sI1380 HI0.out) (rK HO_3) (by decide)) hk (fun _ h => h.2)) (fun _ h => h.1)); replace HK := Aside0.mk (KeepBut.trans (by exact sK0 HK.out) hk (.inl rfl)); replace HB := Aside0.mk (hb); replace HI0 := Aside0.mk (hi); (try clear hb); (try clear hk); (try clear hi)))
    go_ret
    exact ⟨_, by first | rfl | (simp [errW_none, errW_some] <;> rfl) | (simp [*, errW_none, errW_some] <;> rfl), by (with_reducible repeat (first | apply Kd.R_alloc | apply Kd.R_drewN | apply Kd.R_drew)); exact HO_3.out, by exact sI1380 HI0.out, by exact sB1 HB.out (IsS138.ge HI0.out), by exact sK0 HK.out⟩

/-! ### spec_l1In: function 111 -/
def spec_l1In.f (a0 : Int) (a1 : Int) (a2 : Int) : Option (Bool) := if a0 ≥ a1 then (some (decide (a0 ≤ a2))) else (some false)
set_option maxHeartbeats 8000000 in
set_option maxRecDepth 100000 in
theorem spec_l1In.calls (a0 : Int) (a1 : Int) (a2 : Int) (r : Bool) (w : World) (h : spec_l1In.f a0 a1 a2 = some r) :
  Calls Try.prog 111 #[.int .i64 a0, .int .i64 a1, .int .i64 a2] w fun e w' => e = .returned (.bool r) ∧ Drawn0 w w' := by
 have H : (if a0 ≥ a1 then (some (decide (a0 ≤ a2))) else (some false)) = some r := h
 clear h
 by_cases c4 : a0 ≥ a1
 ·
  rw [if_pos c4] at H
  have c4b0 := decide_eq_true c4
  clear c4
  obtain rfl := Option.some.inj H
  go_enter Try.func111, Try.ntmps111
  go_wp2
  go_ret
  exact ⟨by first | rfl | (simp; done) | (simp [*]; done), by repeat (first | exact Drawn0.refl _ | apply Drawn0.step)⟩
 ·
  rw [if_neg c4] at H
  have c4b0 := decide_eq_false c4
  clear c4
  obtain rfl := Option.some.inj H
  go_enter Try.func111, Try.ntmps111
  go_wp2
  go_ret
  exact ⟨by first | rfl | (simp; done) | (simp [*]; done), by repeat (first | exact Drawn0.refl _ | apply Drawn0.step)⟩

end Go.Proofs.Ytjgonpcajedkjaa.P
