/- Printed by myprint.py (wip/tools) over the kit's print: what Go's functions compute, and that they do. Lean checks it. -/
import Derived.Test.YtjgonpcajedkjaaF0
import Derived.Test.YtjgonpcajedkjaaFX00
namespace Go.Proofs.Ytjgonpcajedkjaa.P
open Go.RowKit Go.Proofs.YtjgonpcajedkjaaW.PrintWords Go.Proofs.YtjgonpcajedkjaaW.PrintLast Go.Proofs.YtjgonpcajedkjaaW.PrintMore Go.Proofs.Ytjgonpcajedkjaa.Sq
attribute [local go_sem] max2_int min2_int max_two min_two max_three min_three max_four min_four
set_option linter.unusedVariables false
set_option linter.unusedSimpArgs false

/-! ### impl_Cycle: function 56 -/
def impl_Cycle.l0 : Nat → List (S50) → List (S85) → Int → Int → Int → Option (Int)
 | 0, _, _, _, _, _ => none
 | k + 1, x0, x1, x5, x12, x13 => if x13 < x12 then ((impl_longOf.f k x0 x1 x13).bind fun t203 => (impl_Cycle.l0 k x0 x1 (wrap64 (x5 + t203)) x12 (wrap64 (x13 + 1)))) else (some x5)
def impl_Cycle.f (k : Nat) (l0 : List (S50)) (l1 : List (S85)) : Option (Int) := (impl_IsPlan.f k l0 l1).bind fun t202 => (if t202 = true then (impl_Cycle.l0 k l0 l1 0 (l1.length : Int) 0) else (some 0))
theorem impl_Cycle.mono_l : ∀ k, (∀ y0 y1 y2 y3 y4, LeO (impl_Cycle.l0 k y0 y1 y2 y3 y4) (impl_Cycle.l0 (k + 1) y0 y1 y2 y3 y4))
 | 0 => fun _ _ _ _ _ r h => by simp [impl_Cycle.l0] at h
 | k + 1 => by
  have ih0 := impl_Cycle.mono_l k
  ·
   intro y0 y1 y2 y3 y4
   unfold impl_Cycle.l0
   exact mz3 ih0 impl_IsPlan.mono impl_longOf.mono
theorem impl_Cycle.mono : ∀ a0 a1 k, LeO (impl_Cycle.f k a0 a1) (impl_Cycle.f (k + 1) a0 a1) := by
 intro a0 a1 k
 have ih0 := impl_Cycle.mono_l k
 unfold impl_Cycle.f
 exact mz3 ih0 impl_IsPlan.mono impl_longOf.mono
set_option maxHeartbeats 8000000 in
set_option maxRecDepth 100000 in
theorem impl_Cycle.calls (k : Nat) (A0 : Option Addr) (c0 : Nat) (l0 : List (S50)) (A1 : Option Addr) (c1 : Nat) (l1 : List (S85)) (r : Int) (w : World) (hr0 : Kd.C k50 w A0 l0.length l0) (hc0 : l0.length ≤ c0) (hr1 : Kd.C k85 w A1 l1.length l1) (hc1 : l1.length ≤ c1) (h : impl_Cycle.f k l0 l1 = some r) :
  Calls Try.prog 56 #[.slice A0 l0.length c0, .slice A1 l1.length c1] w fun e w' => e = .returned (.int .i64 r) ∧ Below w.heap.size w w' := by
 have HR0 := Aside0.mk hr0
 have HC0 := Aside0.mk hc0
 clear hr0 hc0
 have HR1 := Aside0.mk hr1
 have HC1 := Aside0.mk hc1
 clear hr1 hc1
 have HB := Aside0.mk (Below.refl w.heap.size w)
 have H : ((impl_IsPlan.f k l0 l1).bind fun t202 => (if t202 = true then (impl_Cycle.l0 k l0 l1 0 (l1.length : Int) 0) else (some 0))) = some r := h
 clear h
 obtain ⟨t202, A3, H⟩ := bindE H
 try dsimp only at H
 by_cases c4 : t202 = true
 ·
  subst c4
  have H1 : (impl_Cycle.l0 k l0 l1 0 (l1.length : Int) 0) = some r := by rw [if_pos rfl] at H; exact H
  clear H
  have H := H1
  clear H1
  have H' := Aside0.mk H
  clear H
  go_enter Try.func56, Try.ntmps56
  go_wp2_with (first | ((with_reducible refine gate_callee (f := 15) rfl ?_); refine gL (some 9) Try.func15 #[.slice A0 l0.length c0, .slice A1 l1.length c1] ?_; (with_reducible refine (impl_IsPlan.calls k _ _ l0 (fun k_ => k_ < w.heap.size) _ _ l1 true _ ?_ ?_ ?_ A3.out).mono ?_); exact cO HR0; exact HC0.out; exact Kd.V_mk HC1.out (Kd.F_below (Kd.C_F k85_heap HR1.out) bA); rintro e w5 ⟨rfl, hb⟩; refine ⟨_, rfl, ?_⟩; replace HB := bs HB hb; (try clear hb)))
  go_loopg [5, 13] k (fun kq v5 v13 w' => ∃ (x5_1 : Int) (x13_1 : Int), v5 = .int .i64 x5_1 ∧ v13 = .int .i64 x13_1 ∧ Aside0 (impl_Cycle.l0 kq l0 l1 x5_1 (l1.length : Int) x13_1 = some r) ∧ Aside0 (kq ≤ k) ∧ Aside0 (Below w.heap.size w w'))
  case atStart => exact ⟨(0), (0), rS, rS, H', ⟨Nat.le_refl _⟩, ⟨bA⟩⟩
  case round =>
   clear H'
   obtain ⟨x5_1, x13_1, rfl, rfl, HA, HK1, HB⟩ := hrel
   cases gk with
   | zero => exact absurd HA.out (by simp [impl_Cycle.l0])
   | succ k1 =>
    have H := HA.out
    clear HA
    simp only [impl_Cycle.l0] at H
    by_cases c6 : x13_1 < (l1.length : Int)
    ·
     rw [if_pos c6] at H
     have c6b0 := decide_eq_true c6
     clear c6
     obtain ⟨t203, A7, H⟩ := bindE H
     try dsimp only at H
     have H' := Aside0.mk H
     clear H
     go_wp2_with (first | ((with_reducible refine gate_callee (f := 108) rfl ?_); refine gL (some 20) Try.func108 #[.slice A0 l0.length c0, .slice A1 l1.length c1, .int .i64 x13_1] ?_; (with_reducible refine (impl_longOf.calls k1 _ _ l0 _ _ l1 x13_1 t203 _ ?_ ?_ ?_ ?_ A7.out).mono ?_); exact cB HR0; exact HC0.out; exact cB HR1; exact HC1.out; rintro e w8 ⟨rfl, hb⟩; refine ⟨_, rfl, ?_⟩; replace HB := bs HB hb; (try clear hb)))
     go_roundg k1
     case measure => have := HK1.out; omega
     case rel => exact ⟨(wrap64 (x5_1 + t203)), (wrap64 (x13_1 + 1)), rS, rS, H', ⟨by have := HK1.out; omega⟩, ⟨bA⟩⟩
    rw [if_neg c6] at H
    have c6b0 := decide_eq_false c6
    clear c6
    obtain rfl := Option.some.inj H
    go_wp2
    go_ret
    exact ⟨rA, bA⟩
 replace c4 := Bool.eq_false_iff.mpr c4
 subst c4
 have H1 : (some 0) = some r := by rw [if_neg (show ¬ (false = true) by decide)] at H; exact H
 clear H
 have H := H1
 clear H1
 obtain rfl := Option.some.inj H
 go_enter Try.func56, Try.ntmps56
 go_wp2_with (first | ((with_reducible refine gate_callee (f := 15) rfl ?_); refine gL (some 9) Try.func15 #[.slice A0 l0.length c0, .slice A1 l1.length c1] ?_; (with_reducible refine (impl_IsPlan.calls k _ _ l0 (fun k_ => k_ < w.heap.size) _ _ l1 false _ ?_ ?_ ?_ A3.out).mono ?_); exact cO HR0; exact HC0.out; exact Kd.V_mk HC1.out (Kd.F_below (Kd.C_F k85_heap HR1.out) bA); rintro e w9 ⟨rfl, hb⟩; refine ⟨_, rfl, ?_⟩; replace HB := bs HB hb; (try clear hb)))
 go_ret
 exact ⟨rA, bA⟩

/-! ### impl_PartAt: function 62 -/
mutual
def impl_PartAt.j0 : Nat → List (S50) → List (S85) → Int → Int → Bool → Option (Int × Int)
 | 0, _, _, _, _, _ => none
 | k + 1, x0, x1, x2, x8, x20 => if x20 = true then (some ((-1), 0)) else (if x8 = 0 then (none) else (impl_PartAt.l0 k x0 x1 (Int.tmod x2 x8) 0))
def impl_PartAt.l0 : Nat → List (S50) → List (S85) → Int → Int → Option (Int × Int)
 | 0, _, _, _, _ => none
 | k + 1, x0, x1, x9, x10 => (impl_longOf.f k x0 x1 x10).bind fun t206 => (if x9 ≥ t206 then ((impl_longOf.f k x0 x1 x10).bind fun t207 => (impl_PartAt.l0 k x0 x1 (wrap64 (x9 - t207)) (wrap64 (x10 + 1)))) else (some (x10, x9)))
end
def impl_PartAt.f (k : Nat) (l0 : List (S50)) (l1 : List (S85)) (a2 : Int) : Option (Int × Int) := (impl_Cycle.f k l0 l1).bind fun t204 => (if t204 = 0 then (impl_PartAt.j0 k l0 l1 a2 t204 true) else ((impl_InRange.f a2 0 1000000).bind fun t205 => (impl_PartAt.j0 k l0 l1 a2 t204 (!t205))))
theorem impl_PartAt.mono_l : ∀ k, (∀ y0 y1 y2 y3 y4, LeO (impl_PartAt.j0 k y0 y1 y2 y3 y4) (impl_PartAt.j0 (k + 1) y0 y1 y2 y3 y4)) ∧ (∀ y0 y1 y2 y3, LeO (impl_PartAt.l0 k y0 y1 y2 y3) (impl_PartAt.l0 (k + 1) y0 y1 y2 y3))
 | 0 => ⟨fun _ _ _ _ _ r h => by simp [impl_PartAt.j0] at h, fun _ _ _ _ r h => by simp [impl_PartAt.l0] at h⟩
 | k + 1 => by
  obtain ⟨ih0, ih1⟩ := impl_PartAt.mono_l k
  refine ⟨?_, ?_⟩
  ·
   intro y0 y1 y2 y3 y4
   unfold impl_PartAt.j0
   exact mz4 ih0 ih1 impl_Cycle.mono impl_longOf.mono
  ·
   intro y0 y1 y2 y3
   unfold impl_PartAt.l0
   exact mz4 ih0 ih1 impl_Cycle.mono impl_longOf.mono
theorem impl_PartAt.mono : ∀ a0 a1 a2 k, LeO (impl_PartAt.f k a0 a1 a2) (impl_PartAt.f (k + 1) a0 a1 a2) := by
 intro a0 a1 a2 k
 obtain ⟨ih0, ih1⟩ := impl_PartAt.mono_l k
 unfold impl_PartAt.f
 exact mz4 ih0 ih1 impl_Cycle.mono impl_longOf.mono
set_option maxHeartbeats 8000000 in
set_option maxRecDepth 100000 in
theorem impl_PartAt.calls (k : Nat) (A0 : Option Addr) (c0 : Nat) (l0 : List (S50)) (A1 : Option Addr) (c1 : Nat) (l1 : List (S85)) (a2 : Int) (r1 : Int) (r2 : Int) (w : World) (hr0 : Kd.C k50 w A0 l0.length l0) (hc0 : l0.length ≤ c0) (hr1 : Kd.C k85 w A1 l1.length l1) (hc1 : l1.length ≤ c1) (h : impl_PartAt.f k l0 l1 a2 = some (r1, r2)) :
  Calls Try.prog 62 #[.slice A0 l0.length c0, .slice A1 l1.length c1, .int .i64 a2] w fun e w' => e = .returned (.tuple #[.int .i64 r1, .int .i64 r2]) ∧ Below w.heap.size w w' := by
 have HR0 := Aside0.mk hr0
 have HC0 := Aside0.mk hc0
 clear hr0 hc0
 have HR1 := Aside0.mk hr1
 have HC1 := Aside0.mk hc1
 clear hr1 hc1
 have HB := Aside0.mk (Below.refl w.heap.size w)
 have H : ((impl_Cycle.f k l0 l1).bind fun t204 => (if t204 = 0 then (impl_PartAt.j0 k l0 l1 a2 t204 true) else ((impl_InRange.f a2 0 1000000).bind fun t205 => (impl_PartAt.j0 k l0 l1 a2 t204 (!t205))))) = some (r1, r2) := h
 clear h
 obtain ⟨t204, A4, H⟩ := bindE H
 try dsimp only at H
 have HC5 := Aside0.mk H
 clear H
 go_enter Try.func62, Try.ntmps62
 go_upto_region 2 with (first | ((with_reducible refine gate_callee (f := 56) rfl ?_); refine gL (some 13) Try.func56 #[.slice A0 l0.length c0, .slice A1 l1.length c1] ?_; (with_reducible refine (impl_Cycle.calls k _ _ l0 _ _ l1 t204 _ ?_ ?_ ?_ ?_ A4.out).mono ?_); exact cO HR0; exact HC0.out; exact cO HR1; exact HC1.out; rintro e w6 ⟨rfl, hb⟩; refine ⟨_, rfl, ?_⟩; replace HB := bs HB hb; (try clear hb)))
 (try simp only [Act.put, List.setIfInBounds_toArray, List.set_cons_zero, List.set_cons_succ])
 go_cut [20] (fun v20 wc => ∃ (kq : Nat) (x20_4 : Bool), v20 = .bool x20_4 ∧ Aside0 (impl_PartAt.j0 kq l0 l1 a2 t204 x20_4 = some (r1, r2)) ∧ Aside0 (kq ≤ k) ∧ Aside0 (Below w.heap.size w wc))
 case first =>
  have H := HC5.out
  clear HC5
  by_cases c7 : t204 = 0
  ·
   rw [if_pos c7] at H
   have c7b0 : (t204 == 0) = true := beq_iff_eq.mpr c7
   have c7b1 : (t204 != 0) = false := bne_eq_false_iff_eq.mpr c7
   clear c7
   (first | rw [c7b0] | (simp only [i64_w, i32_w]; rw [c7b0]) | skip)
   have H' := Aside0.mk H
   clear H
   go_wp2
   go_meet
   case rel => exact ⟨_, (true), rS, H', ⟨oL⟩, ⟨bA⟩⟩
  rw [if_neg c7] at H
  have c7b0 : (t204 == 0) = false := beq_eq_false_iff_ne.mpr c7
  have c7b1 : (t204 != 0) = true := bne_iff_ne.mpr c7
  (first | rw [c7b0] | (simp only [i64_w, i32_w]; rw [c7b0]) | skip)
  obtain ⟨t205, A8, H⟩ := bindE H
  try dsimp only at H
  have H' := Aside0.mk H
  clear H
  go_wp2_with (first | (go_at_call 75; (with_reducible refine (impl_InRange.calls a2 0 1000000 t205 _ A8.out).mono ?_); rintro e w' ⟨rfl, ⟨nd, rfl⟩⟩))
  go_meet
  case rel => exact ⟨_, (!t205), rS, H', ⟨oL⟩, ⟨bA⟩⟩
 case rest =>
  clear HC5
  obtain ⟨kq, x20_4, rfl, HA, HJ4, HB⟩ := hcut
  cases kq with
  | zero => exact absurd HA.out (by simp [impl_PartAt.j0])
  | succ kj4 =>
   have H := HA.out
   clear HA
   simp only [impl_PartAt.j0] at H
   by_cases c9 : x20_4 = true
   ·
    subst c9
    have H1 : (some ((-1), 0)) = some (r1, r2) := by rw [if_pos rfl] at H; exact H
    clear H
    have H := H1
    clear H1
    simp only [Option.some.injEq, Prod.mk.injEq] at H
    obtain ⟨rfl, rfl⟩ := H
    go_wp2
    go_ret2
    exact ⟨rA, bA⟩
   replace c9 := Bool.eq_false_iff.mpr c9
   subst c9
   have H1 : (if t204 = 0 then (none) else (impl_PartAt.l0 kj4 l0 l1 (Int.tmod a2 t204) 0)) = some (r1, r2) := by rw [if_neg (show ¬ (false = true) by decide)] at H; exact H
   clear H
   have H := H1
   clear H1
   have c10 : ¬ (t204 = 0) := ifN' H
   replace H := ifT' H
   have c10b0 : (t204 == 0) = false := beq_eq_false_iff_ne.mpr c10
   have c10b1 : (t204 != 0) = true := bne_iff_ne.mpr c10
   have H' := Aside0.mk H
   clear H
   go_wp2
   go_loopg [9, 10] kj4 (fun kq v9 v10 w' => ∃ (x9_2 : Int) (x10_2 : Int), v9 = .int .i64 x9_2 ∧ v10 = .int .i64 x10_2 ∧ Aside0 (impl_PartAt.l0 kq l0 l1 x9_2 x10_2 = some (r1, r2)) ∧ Aside0 (kq ≤ kj4) ∧ Aside0 (Below w.heap.size w w'))
   case atStart => exact ⟨(Int.tmod a2 t204), (0), rS, rS, H', ⟨Nat.le_refl _⟩, ⟨bA⟩⟩
   case round =>
    clear H'
    obtain ⟨x9_2, x10_2, rfl, rfl, HA, HK2, HB⟩ := hrel
    cases gk with
    | zero => exact absurd HA.out (by simp [impl_PartAt.l0])
    | succ k2 =>
     have H := HA.out
     clear HA
     simp only [impl_PartAt.l0] at H
     obtain ⟨t206, A11, H⟩ := bindE H
     try dsimp only at H
     by_cases c12 : x9_2 ≥ t206
     ·
      rw [if_pos c12] at H
      have c12b0 := decide_eq_true c12
      clear c12
      obtain ⟨t207, A13, H⟩ := bindE H
      try dsimp only at H
      have H' := Aside0.mk H
      clear H
      go_wp2_with (first | ((with_reducible refine gate_callee (f := 108) rfl ?_); refine gL (some 28) Try.func108 #[.slice A0 l0.length c0, .slice A1 l1.length c1, .int .i64 x10_2] ?_; (with_reducible refine (impl_longOf.calls k2 _ _ l0 _ _ l1 x10_2 t206 _ ?_ ?_ ?_ ?_ A11.out).mono ?_); exact cB HR0; exact HC0.out; exact cB HR1; exact HC1.out; rintro e w14 ⟨rfl, hb⟩; refine ⟨_, rfl, ?_⟩; replace HB := bs HB hb; (try clear hb)) | ((with_reducible refine gate_callee (f := 108) rfl ?_); refine gL (some 34) Try.func108 #[.slice A0 l0.length c0, .slice A1 l1.length c1, .int .i64 x10_2] ?_; (with_reducible refine (impl_longOf.calls k2 _ _ l0 _ _ l1 x10_2 t207 _ ?_ ?_ ?_ ?_ A13.out).mono ?_); exact cB HR0; exact HC0.out; exact cB HR1; exact HC1.out; rintro e w15 ⟨rfl, hb⟩; refine ⟨_, rfl, ?_⟩; replace HB := bs HB hb; (try clear hb)))
      go_roundg k2
      case measure => have := HJ4.out; have := HK2.out; omega
      case rel => exact ⟨(wrap64 (x9_2 - t207)), (wrap64 (x10_2 + 1)), rS, rS, H', ⟨by have := HJ4.out; have := HK2.out; omega⟩, ⟨bA⟩⟩
     rw [if_neg c12] at H
     have c12b0 := decide_eq_false c12
     clear c12
     simp only [Option.some.injEq, Prod.mk.injEq] at H
     obtain ⟨rfl, rfl⟩ := H
     go_wp2_with (first | ((with_reducible refine gate_callee (f := 108) rfl ?_); refine gL (some 28) Try.func108 #[.slice A0 l0.length c0, .slice A1 l1.length c1, .int .i64 x10_2] ?_; (with_reducible refine (impl_longOf.calls k2 _ _ l0 _ _ l1 x10_2 t206 _ ?_ ?_ ?_ ?_ A11.out).mono ?_); exact cB HR0; exact HC0.out; exact cB HR1; exact HC1.out; rintro e w16 ⟨rfl, hb⟩; refine ⟨_, rfl, ?_⟩; replace HB := bs HB hb; (try clear hb)))
     go_ret2
     exact ⟨rA, bA⟩

/-! ### impl_shown: function 76 -/
mutual
def impl_shown.j0 : Nat → List (S85) → Int → Int → Bool → Int → Int → Int → Int → Option (Int)
 | 0, _, _, _, _, _, _, _, _ => none
 | k + 1, x1, x9, x10, x30, x209000, x209001, x209002, x209003 => if x30 = true then (some 0) else (if 0 ≤ x9 then (if x9 < (x1.length : Int) then (if x10 < ((rd_T85 x1 x9).f1) then (impl_shown.j1 k x1 x9 x10 true x209000 x209001 x209002 x209003) else ((impl_nextStage.f x1 x9).bind fun t214 => ((slices_Contains_int_int.f k t214 x209000).bind fun t217 => (impl_shown.j1 k x1 x9 x10 t217 x209000 x209001 x209002 x209003)))) else (none)) else (none))
def impl_shown.j1 : Nat → List (S85) → Int → Int → Bool → Int → Int → Int → Int → Option (Int)
 | 0, _, _, _, _, _, _, _, _ => none
 | k + 1, x1, x9, x10, x31, x209000, x209001, x209002, x209003 => if x31 = true then (some 1) else (if 0 ≤ x9 then (if x9 < (x1.length : Int) then ((impl_ClearOf.f x209000 x209001 x209002 x209003).bind fun t219 => (if x10 < (wrap64 (((rd_T85 x1 x9).f1) + t219)) then (some 2) else (some 0))) else (none)) else (none))
end
def impl_shown.f (k : Nat) (l0 : List (S50)) (l1 : List (S85)) (a2 : Int) (a3_0 : Int) (a3_1 : Int) (a3_2 : Int) (a3_3 : Int) : Option (Int) := (impl_PartAt.f k l0 l1 a2).bind fun bt209 => (if bt209.1 < 0 then (impl_shown.j0 k l1 bt209.1 bt209.2 true a3_0 a3_1 a3_2 a3_3) else (if 0 ≤ bt209.1 then (if bt209.1 < (l1.length : Int) then ((slices_Contains_int_int.f k ((rd_T85 l1 bt209.1).f0) a3_0).bind fun t212 => (impl_shown.j0 k l1 bt209.1 bt209.2 (!t212) a3_0 a3_1 a3_2 a3_3)) else (none)) else (none)))
theorem impl_shown.mono_l : ∀ k, (∀ y0 y1 y2 y3 y4 y5 y6 y7, LeO (impl_shown.j0 k y0 y1 y2 y3 y4 y5 y6 y7) (impl_shown.j0 (k + 1) y0 y1 y2 y3 y4 y5 y6 y7)) ∧ (∀ y0 y1 y2 y3 y4 y5 y6 y7, LeO (impl_shown.j1 k y0 y1 y2 y3 y4 y5 y6 y7) (impl_shown.j1 (k + 1) y0 y1 y2 y3 y4 y5 y6 y7))
 | 0 => ⟨fun _ _ _ _ _ _ _ _ r h => by simp [impl_shown.j0] at h, fun _ _ _ _ _ _ _ _ r h => by simp [impl_shown.j1] at h⟩
 | k + 1 => by
  obtain ⟨ih0, ih1⟩ := impl_shown.mono_l k
  refine ⟨?_, ?_⟩
  ·
   intro y0 y1 y2 y3 y4 y5 y6 y7
   unfold impl_shown.j0
   exact mz4 ih0 ih1 impl_PartAt.mono slices_Contains_int_int.mono
  ·
   intro y0 y1 y2 y3 y4 y5 y6 y7
   unfold impl_shown.j1
   exact mz4 ih0 ih1 impl_PartAt.mono slices_Contains_int_int.mono
theorem impl_shown.mono : ∀ a0 a1 a2 a3 a4 a5 a6 k, LeO (impl_shown.f k a0 a1 a2 a3 a4 a5 a6) (impl_shown.f (k + 1) a0 a1 a2 a3 a4 a5 a6) := by
 intro a0 a1 a2 a3 a4 a5 a6 k
 obtain ⟨ih0, ih1⟩ := impl_shown.mono_l k
 unfold impl_shown.f
 exact mz4 ih0 ih1 impl_PartAt.mono slices_Contains_int_int.mono
def impl_shown.T2 : Bool × List (List Nat × List Nat) := (true, [([], []), ([0], [0]), ([1], [1]), ([2], [2]), ([2], [2]), ([3, 4, 2], [2, 3, 4]), ([5, 2], [2, 5]), ([6, 2], [2, 6]), ([2], [2]), ([8, 2], [2, 8]), ([7, 9, 2, 2], [2, 7, 9]), ([10, 2], [2, 10]), ([2, 11], [2, 11])])
def impl_shown.B2 : List Nat := [0, 1, 3, 7, 7, 31, 63, 127, 7, 263, 1023, 2047, 4095]
theorem impl_shown.tab2 : rtab .any (opsOf Try.f76 2) = impl_shown.T2 := by kernel_rfl
theorem impl_shown.bits2 : waitsOk impl_shown.T2.2 impl_shown.B2 = true := by kernel_rfl
def impl_shown.T4 : Bool × List (List Nat × List Nat) := (true, [([], []), ([], []), ([], []), ([1, 2], [1, 2]), ([3], [3]), ([4], [4]), ([0, 5], [0, 5]), ([6], [6]), ([7], [7]), ([7], [7]), ([8, 9, 7, 7], [7, 8, 9]), ([7], [7]), ([11, 7], [7, 11]), ([10, 12, 10, 7], [7, 10, 12]), ([7, 13], [7, 13]), ([14, 13], [14])])
def impl_shown.B4 : List Nat := [0, 0, 0, 6, 14, 30, 63, 127, 255, 255, 1023, 255, 2303, 8191, 16383, 32767]
theorem impl_shown.tab4 : rtab .any (opsOf Try.f76 4) = impl_shown.T4 := by kernel_rfl
theorem impl_shown.bits4 : waitsOk impl_shown.T4.2 impl_shown.B4 = true := by kernel_rfl
def impl_shown.T6 : Bool × List (List Nat × List Nat) := (true, [([], []), ([], []), ([], []), ([1, 2], [1, 2]), ([3], [3]), ([4], [4]), ([], []), ([6], [6]), ([5, 7], [5, 7]), ([0, 8], [0, 8]), ([9, 7], [9])])
def impl_shown.B6 : List Nat := [0, 0, 0, 6, 14, 30, 0, 64, 254, 511, 1023]
theorem impl_shown.tab6 : rtab .any (opsOf Try.f76 6) = impl_shown.T6 := by kernel_rfl
theorem impl_shown.bits6 : waitsOk impl_shown.T6.2 impl_shown.B6 = true := by kernel_rfl
set_option maxHeartbeats 8000000 in
set_option maxRecDepth 100000 in
theorem impl_shown.calls (k : Nat) (A0 : Option Addr) (c0 : Nat) (l0 : List (S50)) (A1 : Option Addr) (c1 : Nat) (l1 : List (S85)) (a2 : Int) (a3_0 : Int) (a3_1 : Int) (a3_2 : Int) (a3_3 : Int) (r : Int) (w : World) (hr0 : Kd.C k50 w A0 l0.length l0) (hc0 : l0.length ≤ c0) (hr1 : Kd.C k85 w A1 l1.length l1) (hc1 : l1.length ≤ c1) (h : impl_shown.f k l0 l1 a2 a3_0 a3_1 a3_2 a3_3 = some r) :
  Calls Try.prog 76 #[.slice A0 l0.length c0, .slice A1 l1.length c1, .int .i64 a2, .agg #[.int .i64 a3_0, .int .i64 a3_1, .int .i64 a3_2, .int .i64 a3_3]] w fun e w' => e = .returned (.int .i64 r) ∧ Below w.heap.size w w' := by
 have hu50 := Try.underlying50
 have HR0 := Aside0.mk hr0
 have HC0 := Aside0.mk hc0
 clear hr0 hc0
 have HR1 := Aside0.mk hr1
 have HC1 := Aside0.mk hc1
 clear hr1 hc1
 have HB := Aside0.mk (Below.refl w.heap.size w)
 have H : ((impl_PartAt.f k l0 l1 a2).bind fun bt209 => (if bt209.1 < 0 then (impl_shown.j0 k l1 bt209.1 bt209.2 true a3_0 a3_1 a3_2 a3_3) else (if 0 ≤ bt209.1 then (if bt209.1 < (l1.length : Int) then ((slices_Contains_int_int.f k ((rd_T85 l1 bt209.1).f0) a3_0).bind fun t212 => (impl_shown.j0 k l1 bt209.1 bt209.2 (!t212) a3_0 a3_1 a3_2 a3_3)) else (none)) else (none)))) = some r := h
 clear h
 obtain ⟨⟨t209, t210⟩, A5, H⟩ := bindE H
 try dsimp only at H
 have HC6 := Aside0.mk H
 clear H
 go_enter Try.func76, Try.ntmps76
 go_upto_region 2 with (first | ((with_reducible refine gate_dst (N := 7) rfl ?_); refine bE (N := 7) (cs := #[.int .i64 a3_0, .int .i64 a3_1, .int .i64 a3_2, .int .i64 a3_3]) (t := 50) ?_; intro gb208 hg w7 hbox hb; have BK208 := Aside0.mk (hbox); have GW208 := gw w hg; have GE208 := gw w hg; replace HB := bs HB hb; clear hb hbox hg) | ((with_reducible refine gate_callee (f := 62) rfl ?_); refine gL (some 15) Try.func62 #[.slice A0 l0.length c0, .slice A1 l1.length c1, .int .i64 a2] ?_; (with_reducible refine (impl_PartAt.calls k _ _ l0 _ _ l1 a2 t209 t210 _ ?_ ?_ ?_ ?_ A5.out).mono ?_); exact cB HR0; exact HC0.out; exact cB HR1; exact HC1.out; rintro e w8 ⟨rfl, hb⟩; refine ⟨_, rfl, ?_⟩; replace BK208 := kb BK208 hb; replace HB := bs HB hb; (try clear hb)))
 (try simp only [Act.put, List.setIfInBounds_toArray, List.set_cons_zero, List.set_cons_succ])
 go_cut [30] (fun v30 wc => ∃ (kq : Nat) (x30_5 : Bool), v30 = .bool x30_5 ∧ Aside0 (impl_shown.j0 kq l1 t209 t210 x30_5 a3_0 a3_1 a3_2 a3_3 = some r) ∧ Aside0 (kq ≤ k) ∧ Aside0 (wc.heap[gb208]? = some (.cells #[.int .i64 a3_0, .int .i64 a3_1, .int .i64 a3_2, .int .i64 a3_3] 50 (0, 0))) ∧ Aside0 (Below w.heap.size w wc))
 case first =>
  have H := HC6.out
  clear HC6
  by_cases c9 : t209 < 0
  ·
   rw [if_pos c9] at H
   have c9b0 := decide_eq_true c9
   clear c9
   (first | rw [c9b0] | (simp only [i64_w, i32_w]; rw [c9b0]) | skip)
   have H' := Aside0.mk H
   clear H
   try go_wp2
   replace BK208 := dk BK208
   have HBo := HB
   replace HB := db HB
   refine sw (ds := []) 13 (mb 13 0) impl_shown.tab2 impl_shown.bits2 h0 (fun hHeld HT_ HW_ => ?_)
   generalize w8.drew = w10 at BK208 HB hHeld ⊢
   refine pa 0 18 (mb 13 1) HT_ ?_
   refine pa 1 19 (mb 13 3) HT_ ?_
   refine pa 2 20 (mb 13 7) HT_ ?_
   refine pu 3 21 (mb 13 15) HT_ ?_
   refine pu 4 22 (mb 13 31) HT_ ?_
   refine pu 5 23 (mb 13 63) HT_ ?_
   refine pu 6 24 (mb 13 127) HT_ ?_
   refine pu 7 25 (mb 13 255) HT_ ?_
   refine pu 8 26 (mb 13 511) HT_ ?_
   refine pu 9 27 (mb 13 1023) HT_ ?_
   refine pu 10 28 (mb 13 2047) HT_ ?_
   refine pu 11 29 (mb 13 4095) HT_ ?_
   refine pa 12 30 (mb 13 8191) HT_ ?_
   refine eA HT_ ?_
   try go_wp2
   go_meet
   case rel => exact ⟨_, (true), rS, H', ⟨oL⟩, ⟨bK BK208⟩, ⟨bG⟩⟩
  rw [if_neg c9] at H
  have c9b0 := decide_eq_false c9
  clear c9
  (first | rw [c9b0] | (simp only [i64_w, i32_w]; rw [c9b0]) | skip)
  have c11 : 0 ≤ t209 := ifN H
  replace H := ifT H
  have c11b0 := decide_eq_true c11
  clear c11
  have c12 : t209 < (l1.length : Int) := ifN H
  replace H := ifT H
  have c12b0 := decide_eq_true c12
  clear c12
  obtain ⟨t212, A13, H⟩ := bindE H
  try dsimp only at H
  have H' := Aside0.mk H
  clear H
  try go_wp2
  replace BK208 := dk BK208
  have HBo := HB
  replace HB := db HB
  obtain ⟨p211, q211⟩ : 0 ≤ (t209 : Int) ∧ t209 < (l1.length : Int) := ⟨dA, dA⟩
  obtain ⟨ad211, A211_0, c211_0, e211, hx211_0, hx211_1, hl211_0, hi211_0⟩ := at_T85 HR1.out t209 p211 q211
  have hw211_1 := hx211_1
  have hw211_0 := hx211_0
  cases e211
  replace hx211_0 := hC HB hx211_0
  replace hx211_1 := hC HB hx211_1
  have HR211_0 := Aside0.mk hi211_0
  have HC211_0 := Aside0.mk hl211_0
  clear hi211_0 hl211_0
  obtain ⟨p211, q211⟩ := eT p211 q211
  refine sw (ds := []) 13 (mb 13 0) impl_shown.tab2 impl_shown.bits2 (h4c BK208 (h1c (hC HB hw211_0) (h1 (hC HB hw211_1)))) (fun hHeld HT_ HW_ => ?_)
  generalize w8.drew = w14 at BK208 HB HR211_0 hx211_0 hx211_1 hHeld ⊢
  refine pa 0 18 (mb 13 1) HT_ ?_
  refine pa 1 19 (mb 13 3) HT_ ?_
  refine pa 2 20 (mb 13 7) HT_ ?_
  refine pa 3 21 (mb 13 15) HT_ ?_
  refine pa 4 22 (mb 13 31) HT_ ?_
  refine pa 5 23 (mb 13 63) HT_ ?_
  refine pa 6 24 (mb 13 127) HT_ ?_
  refine pa 8 26 (mb 13 383) HT_ ?_
  refine ta6 7 25 (mb 13 511) HT_ HW_ hHeld ?_
  refine ta6 9 27 (mb 13 1023) HT_ HW_ hHeld ?_
  refine oa 10 28 (mb 13 2047) HT_ (fun K hK => ?_)
  refine gA Try.func102 #[.slice A211_0 ((rd_T85 l1 t209).f0).length c211_0, .int .i64 a3_0] ?_
  with_reducible refine (slices_Contains_int_int.calls k _ _ ((rd_T85 l1 t209).f0) a3_0 t212 _ ?side1 ?side2 A13.out).mono ?_
  (case side1 => exact cB HR211_0)
  (case side2 => exact HC211_0.out)
  rintro e w' ⟨rfl, ⟨nd, rfl⟩⟩
  refine ⟨_, rfl, ?_⟩
  refine hK.out _ _ (cm4 BK208 ⟨(hC HB hw211_0), (hC HB hw211_1)⟩) (fun hHeld => ?_)
  clear hK K
  refine nB ?_
  refine pa 11 29 (mb 13 4095) HT_ ?_
  refine pa 12 30 (mb 13 8191) HT_ ?_
  refine eA HT_ ?_
  try go_wp2
  go_meet
  case rel => exact ⟨_, (!t212), rS, H', ⟨oL⟩, ⟨bK BK208⟩, ⟨bG⟩⟩
 case rest =>
  clear HC6
  obtain ⟨kq, x30_5, rfl, HA, HJ5, BK208, HB⟩ := hcut
  cases kq with
  | zero => exact absurd HA.out (by simp [impl_shown.j0])
  | succ kj5 =>
   have H := HA.out
   clear HA
   simp only [impl_shown.j0] at H
   by_cases c15 : x30_5 = true
   ·
    subst c15
    have H1 : (some 0) = some r := by rw [if_pos rfl] at H; exact H
    clear H
    have H := H1
    clear H1
    obtain rfl := Option.some.inj H
    go_wp2
    go_ret
    exact ⟨rA, bG⟩
   replace c15 := Bool.eq_false_iff.mpr c15
   subst c15
   have H1 : (if 0 ≤ t209 then (if t209 < (l1.length : Int) then (if t210 < ((rd_T85 l1 t209).f1) then (impl_shown.j1 kj5 l1 t209 t210 true a3_0 a3_1 a3_2 a3_3) else ((impl_nextStage.f l1 t209).bind fun t214 => ((slices_Contains_int_int.f kj5 t214 a3_0).bind fun t217 => (impl_shown.j1 kj5 l1 t209 t210 t217 a3_0 a3_1 a3_2 a3_3)))) else (none)) else (none)) = some r := by rw [if_neg (show ¬ (false = true) by decide)] at H; exact H
   clear H
   have H := H1
   clear H1
   have HC16 := Aside0.mk H
   clear H
   go_upto_region 4 with (fail)
   go_cut [31] (fun v31 wc => ∃ (kq : Nat) (x31_15 : Bool), v31 = .bool x31_15 ∧ Aside0 (impl_shown.j1 kq l1 t209 t210 x31_15 a3_0 a3_1 a3_2 a3_3 = some r) ∧ Aside0 (kq ≤ kj5) ∧ Aside0 (wc.heap[gb208]? = some (.cells #[.int .i64 a3_0, .int .i64 a3_1, .int .i64 a3_2, .int .i64 a3_3] 50 (0, 0))) ∧ Aside0 (Below w.heap.size w wc))
   case first =>
    have H := HC16.out
    clear HC16
    have c17 : 0 ≤ t209 := ifN H
    replace H := ifT H
    have c17b0 := decide_eq_true c17
    clear c17
    (first | rw [c17b0] | (simp only [i64_w, i32_w]; rw [c17b0]) | skip)
    have c18 : t209 < (l1.length : Int) := ifN H
    replace H := ifT H
    have c18b0 := decide_eq_true c18
    clear c18
    by_cases c19 : t210 < ((rd_T85 l1 t209).f1)
    ·
     rw [if_pos c19] at H
     have c19b0 := decide_eq_true c19
     clear c19
     have H' := Aside0.mk H
     clear H
     try go_wp2
     replace BK208 := dk BK208
     have HBo := HB
     replace HB := db HB
     obtain ⟨p213, q213⟩ : 0 ≤ (t209 : Int) ∧ t209 < (l1.length : Int) := ⟨dA, dA⟩
     obtain ⟨ad213, A213_0, c213_0, e213, hx213_0, hx213_1, hl213_0, hi213_0⟩ := at_T85 HR1.out t209 p213 q213
     have hw213_1 := hx213_1
     have hw213_0 := hx213_0
     cases e213
     replace hx213_0 := hC HB hx213_0
     replace hx213_1 := hC HB hx213_1
     have HR213_0 := Aside0.mk hi213_0
     have HC213_0 := Aside0.mk hl213_0
     clear hi213_0 hl213_0
     obtain ⟨p213, q213⟩ := eT p213 q213
     refine sw (ds := []) 16 (mb 16 0) impl_shown.tab4 impl_shown.bits4 (h1c (hC HB hw213_0) (h1 (hC HB hw213_1))) (fun hHeld HT_ HW_ => ?_)
     generalize wc.drew = w20 at BK208 HB HR213_0 hx213_0 hx213_1 hHeld ⊢
     refine pa 0 32 (mb 16 1) HT_ ?_
     refine pa 1 33 (mb 16 3) HT_ ?_
     refine pa 2 34 (mb 16 7) HT_ ?_
     refine pa 3 35 (mb 16 15) HT_ ?_
     refine pa 4 36 (mb 16 31) HT_ ?_
     refine ta2 5 37 (mb 16 63) HT_ HW_ hHeld ?_
     refine pa 6 38 (mb 16 127) HT_ ?_
     refine pa 7 39 (mb 16 255) HT_ ?_
     refine pu 8 40 (mb 16 511) HT_ ?_
     refine pu 9 41 (mb 16 1023) HT_ ?_
     refine pu 10 42 (mb 16 2047) HT_ ?_
     refine pu 11 43 (mb 16 4095) HT_ ?_
     refine pu 12 44 (mb 16 8191) HT_ ?_
     refine pu 13 45 (mb 16 16383) HT_ ?_
     refine pa 14 46 (mb 16 32767) HT_ ?_
     refine pa 15 31 (mb 16 65535) HT_ ?_
     refine eA HT_ ?_
     try go_wp2
     go_meet
     case rel => exact ⟨_, (true), rS, H', ⟨by have := HJ5.out; first | omega | exact Nat.le_refl _⟩, ⟨bK BK208⟩, ⟨bG⟩⟩
    rw [if_neg c19] at H
    have c19b0 := decide_eq_false c19
    clear c19
    obtain ⟨t214, A21, H⟩ := bindE H
    try dsimp only at H
    obtain ⟨t217, A22, H⟩ := bindE H
    try dsimp only at H
    have H' := Aside0.mk H
    clear H
    try go_wp2
    replace BK208 := dk BK208
    have HBo := HB
    replace HB := db HB
    obtain ⟨p213, q213⟩ : 0 ≤ (t209 : Int) ∧ t209 < (l1.length : Int) := ⟨dA, dA⟩
    obtain ⟨ad213, A213_0, c213_0, e213, hx213_0, hx213_1, hl213_0, hi213_0⟩ := at_T85 HR1.out t209 p213 q213
    have hw213_1 := hx213_1
    have hw213_0 := hx213_0
    cases e213
    replace hx213_0 := hC HB hx213_0
    replace hx213_1 := hC HB hx213_1
    have HR213_0 := Aside0.mk hi213_0
    have HC213_0 := Aside0.mk hl213_0
    clear hi213_0 hl213_0
    obtain ⟨p213, q213⟩ := eT p213 q213
    refine sw (ds := []) 16 (mb 16 0) impl_shown.tab4 impl_shown.bits4 (h4c BK208 (h1c (hC HB hw213_0) (h1 (hC HB hw213_1)))) (fun hHeld HT_ HW_ => ?_)
    generalize wc.drew = w23 at BK208 HB HR213_0 hx213_0 hx213_1 hHeld ⊢
    refine pa 0 32 (mb 16 1) HT_ ?_
    refine pa 1 33 (mb 16 3) HT_ ?_
    refine pa 2 34 (mb 16 7) HT_ ?_
    refine pa 3 35 (mb 16 15) HT_ ?_
    refine pa 4 36 (mb 16 31) HT_ ?_
    refine ta6 5 37 (mb 16 63) HT_ HW_ hHeld ?_
    refine pa 6 38 (mb 16 127) HT_ ?_
    refine pa 7 39 (mb 16 255) HT_ ?_
    refine pa 8 40 (mb 16 511) HT_ ?_
    refine pa 9 41 (mb 16 1023) HT_ ?_
    refine pa 11 43 (mb 16 3071) HT_ ?_
    refine ta6 12 44 (mb 16 7167) HT_ HW_ hHeld ?_
    refine oa 10 42 (mb 16 8191) HT_ (fun K hK => ?_)
    refine gA Try.func122 #[.slice (some ad213) l1.length c1, .int .i64 t209] ?_
    with_reducible refine (impl_nextStage.calls (fun k_ => k_ < w.heap.size) _ _ l1 t209 t214 _ ?side1 A21.out).mono ?_
    (case side1 => exact Kd.V_mk HC1.out (Kd.F_below (Kd.C_F k85_heap HR1.out) bG))
    rintro e w24 ⟨v215, rfl, ho0, hb⟩
    refine ⟨_, rfl, ?_⟩
    have HO216 := Aside0.mk (Kd.V_lower (Kd.V_mono (ok' := fun k_ => k_ ≠ gb208) ho0 (fun k_ hk_ => Or.elim hk_ (fun hs_ => fun e_ => Nat.not_le.2 hs_ (by rw [e_]; exact GW208.out)) (fun hn_ => (Kd.freshB (g := gb208) (o := .cells #[.int .i64 a3_0, .int .i64 a3_1, .int .i64 a3_2, .int .i64 a3_3] 50 (0, 0)) (bK BK208) k_ hn_)))) (below_size bG))
    replace BK208 := kb BK208 hb
    replace HB := bs HB hb
    (try clear hb)
    (try clear hb2)
    (try clear hk)
    (try clear hi)
    (try clear ho0)
    obtain ⟨Ao25, co25, eo25⟩ := Kd.V_slice HO216.out
    (first | subst eo25 | (injection eo25 with f1_ f2_ f3_; have f4_ := f1_.symm; have f5_ := f3_.symm; clear f1_ f2_ f3_; subst f4_; subst f5_))
    refine hK.out _ _ (cm4 BK208 ⟨(hC HB hw213_0), (hC HB hw213_1)⟩) (fun hHeld => ?_)
    clear hK K
    refine nB ?_
    refine oa 13 45 (mb 16 16383) HT_ (fun K hK => ?_)
    refine gA Try.func102 #[.slice Ao25 t214.length co25, .int .i64 a3_0] ?_
    with_reducible refine (slices_Contains_int_int.calls kj5 _ _ t214 a3_0 t217 _ ?side1 ?side2 A22.out).mono ?_
    (case side1 => repeat (first | exact (Kd.V_reads' HO216.out).2.2 | (with_reducible refine Kd.C_alloc ?_ _) | (with_reducible refine Kd.C_drewN ?_ _) | (with_reducible refine Kd.C_drew ?_)))
    (case side2 => exact (Kd.V_reads' HO216.out).2.1)
    rintro e w' ⟨rfl, ⟨nd, rfl⟩⟩
    refine ⟨_, rfl, ?_⟩
    refine hK.out _ _ (cm4 BK208 ⟨(hC HB hw213_0), (hC HB hw213_1)⟩) (fun hHeld => ?_)
    clear hK K
    refine nB ?_
    refine pa 14 46 (mb 16 32767) HT_ ?_
    refine pa 15 31 (mb 16 65535) HT_ ?_
    refine eA HT_ ?_
    try go_wp2
    go_meet
    case rel => exact ⟨_, (t217), rS, H', ⟨by have := HJ5.out; first | omega | exact Nat.le_refl _⟩, ⟨bK BK208⟩, ⟨bG⟩⟩
   case rest =>
    clear HC16
    obtain ⟨kq, x31_15, rfl, HA, HJ15, BK208, HB⟩ := hcut
    cases kq with
    | zero => exact absurd HA.out (by simp [impl_shown.j1])
    | succ kj15 =>
     have H := HA.out
     clear HA
     simp only [impl_shown.j1] at H
     by_cases c26 : x31_15 = true
     ·
      subst c26
      have H1 : (some 1) = some r := by rw [if_pos rfl] at H; exact H
      clear H
      have H := H1
      clear H1
      obtain rfl := Option.some.inj H
      go_wp2
      go_ret
      exact ⟨rA, bG⟩
     replace c26 := Bool.eq_false_iff.mpr c26
     subst c26
     have H1 : (if 0 ≤ t209 then (if t209 < (l1.length : Int) then ((impl_ClearOf.f a3_0 a3_1 a3_2 a3_3).bind fun t219 => (if t210 < (wrap64 (((rd_T85 l1 t209).f1) + t219)) then (some 2) else (some 0))) else (none)) else (none)) = some r := by rw [if_neg (show ¬ (false = true) by decide)] at H; exact H
     clear H
     have H := H1
     clear H1
     have c27 : 0 ≤ t209 := ifN H
     replace H := ifT H
     have c27b0 := decide_eq_true c27
     clear c27
     have c28 : t209 < (l1.length : Int) := ifN H
     replace H := ifT H
     have c28b0 := decide_eq_true c28
     clear c28
     obtain ⟨t219, A29, H⟩ := bindE H
     try dsimp only at H
     by_cases c30 : t210 < (wrap64 (((rd_T85 l1 t209).f1) + t219))
     ·
      rw [if_pos c30] at H
      have c30b0 := decide_eq_true c30
      clear c30
      obtain rfl := Option.some.inj H
      try go_wp2
      replace BK208 := dk BK208
      have HBo := HB
      replace HB := db HB
      obtain ⟨p218, q218⟩ : 0 ≤ (t209 : Int) ∧ t209 < (l1.length : Int) := ⟨dA, dA⟩
      obtain ⟨ad218, A218_0, c218_0, e218, hx218_0, hx218_1, hl218_0, hi218_0⟩ := at_T85 HR1.out t209 p218 q218
      have hw218_1 := hx218_1
      have hw218_0 := hx218_0
      cases e218
      replace hx218_0 := hC HB hx218_0
      replace hx218_1 := hC HB hx218_1
      have HR218_0 := Aside0.mk hi218_0
      have HC218_0 := Aside0.mk hl218_0
      clear hi218_0 hl218_0
      obtain ⟨p218, q218⟩ := eT p218 q218
      refine sw (ds := []) 11 (mb 11 0) impl_shown.tab6 impl_shown.bits6 (h4c BK208 (h1c (hC HB hw218_0) (h1 (hC HB hw218_1)))) (fun hHeld HT_ HW_ => ?_)
      generalize wc.drew = w31 at BK208 HB HR218_0 hx218_0 hx218_1 hHeld ⊢
      refine pa 0 48 (mb 11 1) HT_ ?_
      refine pa 1 49 (mb 11 3) HT_ ?_
      refine pa 2 50 (mb 11 7) HT_ ?_
      refine pa 3 51 (mb 11 15) HT_ ?_
      refine pa 4 52 (mb 11 31) HT_ ?_
      refine ta6 5 53 (mb 11 63) HT_ HW_ hHeld ?_
      refine ta6 6 54 (mb 11 127) HT_ HW_ hHeld ?_
      refine oa 7 55 (mb 11 255) HT_ (fun K hK => ?_)
      refine gA Try.func120 #[.agg #[.int .i64 a3_0, .int .i64 a3_1, .int .i64 a3_2, .int .i64 a3_3]] ?_
      with_reducible refine (impl_ClearOf.calls a3_0 a3_1 a3_2 a3_3 t219 _ A29.out).mono ?_
      rintro e w32 ⟨rfl, hb⟩
      refine ⟨_, rfl, ?_⟩
      replace BK208 := kb BK208 hb
      replace HB := bs HB hb
      (try clear hb)
      (try clear hb2)
      (try clear hk)
      (try clear hi)
      refine hK.out _ _ (cm4 BK208 ⟨(hC HB hw218_0), (hC HB hw218_1)⟩) (fun hHeld => ?_)
      clear hK K
      refine nB ?_
      refine pa 8 56 (mb 11 511) HT_ ?_
      refine pa 9 57 (mb 11 1023) HT_ ?_
      refine pa 10 47 (mb 11 2047) HT_ ?_
      refine eA HT_ ?_
      try go_wp2
      go_ret
      exact ⟨rA, bG⟩
     rw [if_neg c30] at H
     have c30b0 := decide_eq_false c30
     clear c30
     obtain rfl := Option.some.inj H
     try go_wp2
     replace BK208 := dk BK208
     have HBo := HB
     replace HB := db HB
     obtain ⟨p218, q218⟩ : 0 ≤ (t209 : Int) ∧ t209 < (l1.length : Int) := ⟨dA, dA⟩
     obtain ⟨ad218, A218_0, c218_0, e218, hx218_0, hx218_1, hl218_0, hi218_0⟩ := at_T85 HR1.out t209 p218 q218
     have hw218_1 := hx218_1
     have hw218_0 := hx218_0
     cases e218
     replace hx218_0 := hC HB hx218_0
     replace hx218_1 := hC HB hx218_1
     have HR218_0 := Aside0.mk hi218_0
     have HC218_0 := Aside0.mk hl218_0
     clear hi218_0 hl218_0
     obtain ⟨p218, q218⟩ := eT p218 q218
     refine sw (ds := []) 11 (mb 11 0) impl_shown.tab6 impl_shown.bits6 (h4c BK208 (h1c (hC HB hw218_0) (h1 (hC HB hw218_1)))) (fun hHeld HT_ HW_ => ?_)
     generalize wc.drew = w33 at BK208 HB HR218_0 hx218_0 hx218_1 hHeld ⊢
     refine pa 0 48 (mb 11 1) HT_ ?_
     refine pa 1 49 (mb 11 3) HT_ ?_
     refine pa 2 50 (mb 11 7) HT_ ?_
     refine pa 3 51 (mb 11 15) HT_ ?_
     refine pa 4 52 (mb 11 31) HT_ ?_
     refine ta6 5 53 (mb 11 63) HT_ HW_ hHeld ?_
     refine ta6 6 54 (mb 11 127) HT_ HW_ hHeld ?_
     refine oa 7 55 (mb 11 255) HT_ (fun K hK => ?_)
     refine gA Try.func120 #[.agg #[.int .i64 a3_0, .int .i64 a3_1, .int .i64 a3_2, .int .i64 a3_3]] ?_
     with_reducible refine (impl_ClearOf.calls a3_0 a3_1 a3_2 a3_3 t219 _ A29.out).mono ?_
     rintro e w34 ⟨rfl, hb⟩
     refine ⟨_, rfl, ?_⟩
     replace BK208 := kb BK208 hb
     replace HB := bs HB hb
     (try clear hb)
     (try clear hb2)
     (try clear hk)
     (try clear hi)
     refine hK.out _ _ (cm4 BK208 ⟨(hC HB hw218_0), (hC HB hw218_1)⟩) (fun hHeld => ?_)
     clear hK K
     refine nB ?_
     refine pa 8 56 (mb 11 511) HT_ ?_
     refine pa 9 57 (mb 11 1023) HT_ ?_
     refine pa 10 47 (mb 11 2047) HT_ ?_
     refine eA HT_ ?_
     try go_wp2
     go_ret
     exact ⟨rA, bG⟩

/-! ### impl_LightAt: function 14 -/
def impl_LightAt.f (k : Nat) (l0 : List (S50)) (l1 : List (S85)) (a2 : Int) (a3 : Int) : Option (Int) := (impl_FindPath.f l0 a3).bind fun t220 => (if t220 < 0 then (some 0) else (if 0 ≤ t220 then (if t220 < (l0.length : Int) then ((impl_shown.f k l0 l1 a2 ((rd_T50 l0 t220).f0) ((rd_T50 l0 t220).f1) ((rd_T50 l0 t220).f2) ((rd_T50 l0 t220).f3)).bind fun t222 => (some t222)) else (none)) else (none)))
theorem impl_LightAt.mono : ∀ a0 a1 a2 a3 k, LeO (impl_LightAt.f k a0 a1 a2 a3) (impl_LightAt.f (k + 1) a0 a1 a2 a3) := by
 intro a0 a1 a2 a3 k
 unfold impl_LightAt.f
 exact mz1 impl_shown.mono
set_option maxHeartbeats 8000000 in
set_option maxRecDepth 100000 in
theorem impl_LightAt.calls (k : Nat) (A0 : Option Addr) (c0 : Nat) (l0 : List (S50)) (A1 : Option Addr) (c1 : Nat) (l1 : List (S85)) (a2 : Int) (a3 : Int) (r : Int) (w : World) (hr0 : Kd.C k50 w A0 l0.length l0) (hc0 : l0.length ≤ c0) (hr1 : Kd.C k85 w A1 l1.length l1) (hc1 : l1.length ≤ c1) (h : impl_LightAt.f k l0 l1 a2 a3 = some r) :
  Calls Try.prog 14 #[.slice A0 l0.length c0, .slice A1 l1.length c1, .int .i64 a2, .int .i64 a3] w fun e w' => e = .returned (.int .i64 r) ∧ Below w.heap.size w w' := by
 have hu50 := Try.underlying50
 have HR0 := Aside0.mk hr0
 have HC0 := Aside0.mk hc0
 clear hr0 hc0
 have HR1 := Aside0.mk hr1
 have HC1 := Aside0.mk hc1
 clear hr1 hc1
 have HB := Aside0.mk (Below.refl w.heap.size w)
 have H : ((impl_FindPath.f l0 a3).bind fun t220 => (if t220 < 0 then (some 0) else (if 0 ≤ t220 then (if t220 < (l0.length : Int) then ((impl_shown.f k l0 l1 a2 ((rd_T50 l0 t220).f0) ((rd_T50 l0 t220).f1) ((rd_T50 l0 t220).f2) ((rd_T50 l0 t220).f3)).bind fun t222 => (some t222)) else (none)) else (none)))) = some r := h
 clear h
 obtain ⟨t220, A5, H⟩ := bindE H
 try dsimp only at H
 by_cases c6 : t220 < 0
 ·
  rw [if_pos c6] at H
  have c6b0 := decide_eq_true c6
  clear c6
  obtain rfl := Option.some.inj H
  go_enter Try.func14, Try.ntmps14
  go_wp2_with (first | ((with_reducible refine gate_callee (f := 16) rfl ?_); refine gL (some 12) Try.func16 #[.slice A0 l0.length c0, .int .i64 a3] ?_; (with_reducible refine (impl_FindPath.calls _ _ l0 a3 t220 _ ?_ ?_ A5.out).mono ?_); exact cO HR0; exact HC0.out; rintro e w7 ⟨rfl, hb⟩; refine ⟨_, rfl, ?_⟩; replace HB := bs HB hb; (try clear hb)))
  go_ret
  exact ⟨rA, bA⟩
 rw [if_neg c6] at H
 have c6b0 := decide_eq_false c6
 clear c6
 have c8 : 0 ≤ t220 := ifN H
 replace H := ifT H
 have c8b0 := decide_eq_true c8
 clear c8
 have c9 : t220 < (l0.length : Int) := ifN H
 replace H := ifT H
 have c9b0 := decide_eq_true c9
 clear c9
 obtain ⟨t222, A10, H⟩ := bindE H
 try dsimp only at H
 obtain rfl := Option.some.inj H
 go_enter Try.func14, Try.ntmps14
 go_wp2_with (first | ((with_reducible refine gate_callee (f := 16) rfl ?_); refine gL (some 12) Try.func16 #[.slice A0 l0.length c0, .int .i64 a3] ?_; (with_reducible refine (impl_FindPath.calls _ _ l0 a3 t220 _ ?_ ?_ A5.out).mono ?_); exact cO HR0; exact HC0.out; rintro e w11 ⟨rfl, hb⟩; refine ⟨_, rfl, ?_⟩; replace HB := bs HB hb; (try clear hb); have p221 : 0 ≤ (t220 : Int) := dA; have q221 : t220 < (l0.length : Int) := dA; obtain ⟨ad221, e221, hx221_0, hx221_1, hx221_2, hx221_3⟩ := at_T50 HR0.out t220 p221 q221; cases e221; replace hx221_0 := hC HB hx221_0; replace hx221_1 := hC HB hx221_1; replace hx221_2 := hC HB hx221_2; replace hx221_3 := hC HB hx221_3; replace p221 := eq_true p221; replace q221 := eq_true q221) | ((with_reducible refine gate_callee (f := 76) rfl ?_); refine gL (some 22) Try.func76 #[.slice (some ad221) l0.length c0, .slice A1 l1.length c1, .int .i64 a2, .agg #[.int .i64 ((rd_T50 l0 t220).f0), .int .i64 ((rd_T50 l0 t220).f1), .int .i64 ((rd_T50 l0 t220).f2), .int .i64 ((rd_T50 l0 t220).f3)]] ?_; (with_reducible refine (impl_shown.calls k _ _ l0 _ _ l1 a2 ((rd_T50 l0 t220).f0) ((rd_T50 l0 t220).f1) ((rd_T50 l0 t220).f2) ((rd_T50 l0 t220).f3) t222 _ ?_ ?_ ?_ ?_ A10.out).mono ?_); exact cB HR0; exact HC0.out; exact cB HR1; exact HC1.out; rintro e w12 ⟨rfl, hb⟩; refine ⟨_, rfl, ?_⟩; replace HB := bs HB hb; (try clear hb)))
 go_ret
 exact ⟨rA, bA⟩

/-! ### impl_greens: function 74 -/
def impl_greens.l0 : Nat → List (S50) → List (S85) → Int → List Bool → Int → Int → Option (List Bool)
 | 0, _, _, _, _, _, _ => none
 | k + 1, x0, x1, x2, x7, x18, x19 => if x19 < x18 then ((impl_LightAt.f k x0 x1 x19 x2).bind fun t228 => (if 0 ≤ x19 then (if x19 < (x7.length : Int) then (impl_greens.l0 k x0 x1 x2 (x7.set (x19 : Int).toNat (t228 == 1)) x18 (wrap64 (x19 + 1))) else (none)) else (none))) else (some x7)
def impl_greens.f (k : Nat) (l0 : List (S50)) (l1 : List (S85)) (a2 : Int) : Option (List Bool) := (impl_FindPath.f l0 a2).bind fun t223 => (if t223 < 0 then (some ([] : List Bool)) else ((impl_Cycle.f k l0 l1).bind fun t224 => (if 0 ≤ t224 then (if (t224 : Int).toNat ≤ 281474976710656 then ((some (List.replicate (t224 : Int).toNat false : List Bool)).bind fun y225 => (impl_greens.l0 k l0 l1 a2 y225 (y225.length : Int) 0)) else (none)) else (none))))
theorem impl_greens.mono_l : ∀ k, (∀ y0 y1 y2 y3 y4 y5, LeO (impl_greens.l0 k y0 y1 y2 y3 y4 y5) (impl_greens.l0 (k + 1) y0 y1 y2 y3 y4 y5))
 | 0 => fun _ _ _ _ _ _ r h => by simp [impl_greens.l0] at h
 | k + 1 => by
  have ih0 := impl_greens.mono_l k
  ·
   intro y0 y1 y2 y3 y4 y5
   unfold impl_greens.l0
   exact mz3 ih0 impl_Cycle.mono impl_LightAt.mono
theorem impl_greens.mono : ∀ a0 a1 a2 k, LeO (impl_greens.f k a0 a1 a2) (impl_greens.f (k + 1) a0 a1 a2) := by
 intro a0 a1 a2 k
 have ih0 := impl_greens.mono_l k
 unfold impl_greens.f
 exact mz3 ih0 impl_Cycle.mono impl_LightAt.mono
set_option maxHeartbeats 8000000 in
set_option maxRecDepth 100000 in
theorem impl_greens.calls (k : Nat) (A0 : Option Addr) (c0 : Nat) (l0 : List (S50)) (A1 : Option Addr) (c1 : Nat) (l1 : List (S85)) (a2 : Int) (r : List Bool) (w : World) (hr0 : Kd.C k50 w A0 l0.length l0) (hc0 : l0.length ≤ c0) (hr1 : Kd.C k85 w A1 l1.length l1) (hc1 : l1.length ≤ c1) (h : impl_greens.f k l0 l1 a2 = some r) :
  Calls Try.prog 74 #[.slice A0 l0.length c0, .slice A1 l1.length c1, .int .i64 a2] w fun e w' => ∃ v0_ : Value, e = .returned (v0_) ∧ Kd.R Kd.bool 4 w' w.heap.size (fun _ => True) v0_ r ∧ Below w.heap.size w w' := by
 have HR0 := Aside0.mk hr0
 have HC0 := Aside0.mk hc0
 clear hr0 hc0
 have HR1 := Aside0.mk hr1
 have HC1 := Aside0.mk hc1
 clear hr1 hc1
 have HB := Aside0.mk (Below.refl w.heap.size w)
 have H : ((impl_FindPath.f l0 a2).bind fun t223 => (if t223 < 0 then (some ([] : List Bool)) else ((impl_Cycle.f k l0 l1).bind fun t224 => (if 0 ≤ t224 then (if (t224 : Int).toNat ≤ 281474976710656 then ((some (List.replicate (t224 : Int).toNat false : List Bool)).bind fun y225 => (impl_greens.l0 k l0 l1 a2 y225 (y225.length : Int) 0)) else (none)) else (none))))) = some r := h
 clear h
 obtain ⟨t223, A4, H⟩ := bindE H
 try dsimp only at H
 by_cases c5 : t223 < 0
 ·
  rw [if_pos c5] at H
  have c5b0 := decide_eq_true c5
  clear c5
  obtain rfl := Option.some.inj H
  go_enter Try.func74, Try.ntmps74
  go_wp2_with (first | ((with_reducible refine gate_callee (f := 16) rfl ?_); refine gL (some 11) Try.func16 #[.slice A0 l0.length c0, .int .i64 a2] ?_; (with_reducible refine (impl_FindPath.calls _ _ l0 a2 t223 _ ?_ ?_ A4.out).mono ?_); exact cO HR0; exact HC0.out; rintro e w6 ⟨rfl, hb⟩; refine ⟨_, rfl, ?_⟩; replace HB := bs HB hb; (try clear hb)))
  go_ret
  exact ⟨_, rA, by first | exact Kd.R_nil _ _ _ _ _ | exact Kd.N_nil _ _ _ _ _ | exact Kd.V_nil _ _ _ _ _ | exact Kd.Q_nil _ _ _ _ _ | exact Kd.S_nil _ _ _ _ _, bA⟩
 rw [if_neg c5] at H
 have c5b0 := decide_eq_false c5
 clear c5
 obtain ⟨t224, A7, H⟩ := bindE H
 try dsimp only at H
 have c8 : 0 ≤ t224 := ifN H
 replace H := ifT H
 have c8b0 := eq_true c8
 have c8b1 := decide_eq_true c8
 clear c8
 have c9 : (t224 : Int).toNat ≤ 281474976710656 := ifN H
 replace H := ifT H
 have c9b0 := eq_true c9
 have c9b1 := decide_eq_true c9
 clear c9
 obtain ⟨y225, hy225⟩ : ∃ y_ : List Bool, y_ = (List.replicate (t224 : Int).toNat false) := ⟨_, rfl⟩
 replace H : (impl_greens.l0 k l0 l1 a2 y225 (y225.length : Int) 0) = some r := rH H hy225
 have Ny225 := Aside0.mk hy225
 clear hy225
 have H' := Aside0.mk H
 clear H
 go_enter Try.func74, Try.ntmps74
 go_wp2_with (first | ((with_reducible refine gate_callee (f := 16) rfl ?_); refine gL (some 11) Try.func16 #[.slice A0 l0.length c0, .int .i64 a2] ?_; (with_reducible refine (impl_FindPath.calls _ _ l0 a2 t223 _ ?_ ?_ A4.out).mono ?_); exact cO HR0; exact HC0.out; rintro e w10 ⟨rfl, hb⟩; refine ⟨_, rfl, ?_⟩; replace HB := bs HB hb; (try clear hb)) | ((with_reducible refine gate_callee (f := 56) rfl ?_); refine gL (some 15) Try.func56 #[.slice A0 l0.length c0, .slice A1 l1.length c1] ?_; (with_reducible refine (impl_Cycle.calls k _ _ l0 _ _ l1 t224 _ ?_ ?_ ?_ ?_ A7.out).mono ?_); exact cB HR0; exact HC0.out; exact cB HR1; exact HC1.out; rintro e w11 ⟨rfl, hb⟩; refine ⟨_, rfl, ?_⟩; replace HB := bs HB hb; (try clear hb)) | ((with_reducible refine gate_dst (N := 16) rfl ?_); refine Kd.R_make Kd.bool _ 4 rfl (N := 16) rfl 56 _ _ rfl t224 rfl rfl Try.underlying56 (.bool false) 1 info4 rfl (by decide) (by omega) false (ok := fun _ => True) (okp := fun _ => True) rfl (fun _ hk => hk) trivial (dA) (Nat.le_trans (Nat.mul_le_mul_right _ (dA : t224.toNat ≤ 281474976710656)) (by omega)) (Below.refl _ _) (Nat.le_refl _) ?_; intro v226 w12 ho13 hb hg_ hnew_; clear hg_ hnew_; (first | rw [← Ny225.out] at ho13 | (simp only [Int.reduceToNat] at ho13; rw [← Ny225.out] at ho13)); have HO227 := rl w ho13; replace HB := bs HB hb; clear hb ho13; obtain ⟨Ao14, co14, eo14⟩ := Kd.R_slice HO227.out; subst eo14))
 go_loopg [19] k (fun kq v19 w' => ∃ (x7_1 : List Bool) (x19_1 : Int), v19 = .int .i64 x19_1 ∧ Aside0 (impl_greens.l0 kq l0 l1 a2 x7_1 (y225.length : Int) x19_1 = some r) ∧ Aside0 (kq ≤ k) ∧ Aside0 (Kd.R Kd.bool 4 w' w.heap.size (fun _ => True) (.slice Ao14 y225.length co14) x7_1) ∧ Aside0 (Below w.heap.size w w'))
 case atStart => exact ⟨(y225), (0), rS, H', ⟨Nat.le_refl _⟩, ⟨rK HO227⟩, ⟨bA⟩⟩
 case round =>
  clear H'
  obtain ⟨x7_1, x19_1, rfl, HA, HK1, HO_7, HB⟩ := hrel
  have hl7_1 := (Kd.R_reads' HO_7.out).1
  rw [hl7_1] at HO_7
  (try simp only [hl7_1])
  cases gk with
  | zero => exact absurd HA.out (by simp [impl_greens.l0])
  | succ k1 =>
   have H := HA.out
   clear HA
   simp only [impl_greens.l0] at H
   by_cases c15 : x19_1 < (y225.length : Int)
   ·
    rw [if_pos c15] at H
    have c15b0 := decide_eq_true c15
    (try have c15b0x : decide (x19_1 < (x7_1.length : Int)) = true := (by rw [← hl7_1]; exact c15b0))
    clear c15
    obtain ⟨t228, A16, H⟩ := bindE H
    try dsimp only at H
    have c17 : 0 ≤ x19_1 := ifN H
    replace H := ifT H
    have c17b0 := decide_eq_true c17
    clear c17
    have c18 : x19_1 < (x7_1.length : Int) := ifN H
    replace H := ifT H
    have c18b0 := decide_eq_true c18
    clear c18
    obtain ⟨y229, hy229⟩ : ∃ y_ : List Bool, y_ = (x7_1.set (x19_1 : Int).toNat (t228 == 1)) := ⟨_, rfl⟩
    replace H : (impl_greens.l0 k1 l0 l1 a2 y229 (y225.length : Int) (wrap64 (x19_1 + 1))) = some r := rH H hy229
    have Ny229 := Aside0.mk hy229
    clear hy229
    have H' := Aside0.mk H
    clear H
    go_wp2_with (first | ((with_reducible refine gate_callee (f := 14) rfl ?_); refine gL (some 28) Try.func14 #[.slice A0 l0.length c0, .slice A1 l1.length c1, .int .i64 x19_1, .int .i64 a2] ?_; (with_reducible refine (impl_LightAt.calls k1 _ _ l0 _ _ l1 x19_1 a2 t228 _ ?_ ?_ ?_ ?_ A16.out).mono ?_); exact cB HR0; exact HC0.out; exact cB HR1; exact HC1.out; rintro e w20 ⟨rfl, hb⟩; refine ⟨_, rfl, ?_⟩; replace HO_7 := rb HO_7 hb; replace HB := bs HB hb; (try clear hb); have p19 : 0 ≤ (x19_1 : Int) := dA; have q19 : (x19_1 : Int) < ((x7_1.length : Int) : Int) := dA; obtain ⟨go19, co19, eo19, gb19, gl19, cl19, HG19⟩ := Kd.R_form HO_7.out (by omega); (first | cases eo19 | (injection eo19 with ea_ en_ ec_; (first | subst ea_ | (injection ea_ with ea_; subst ea_)); subst ec_; clear en_)); have GB19 := Aside0.mk gb19; have GG19 := Aside0.mk HG19; clear gb19 gl19 HG19; obtain ⟨hx19_0, hf19_0⟩ := Kd.R_celln false HO_7.out (x19_1 : Int) p19 q19; replace p19 := eq_true p19; replace q19 := eq_true q19; obtain ⟨hy21_, hz21_⟩ := Kd.R_celln false HO_7.out (x19_1 : Int) (dA) (dA); have HP21 := Kd.R_putg HO_7.out (x19_1 : Int) (t228 == 1)) | ((with_reducible refine gate_store (t := 4) (p := 30) rfl ?_); refine store_event (t := 4) (p := 30) (v := ?vo_w22) (w1 := (w20.setCell ⟨go19, (x19_1 : Int).toNat, none⟩ (.bool (t228 == 1)))) ?hg ?ho ?hn ?hr ?_; (case ho => rfl); (case hg => rfl); (case hn => rfl); (case hr => first | (go_simp; done) | (go_simp; rfl)); intro w22 hw; have hg : w20.grownBy w22 (some go19) := (by rw [hw]; exact HP21.2); have hp_ : Kd.R Kd.bool 4 w22 w.heap.size (fun _ => True) (.slice (some ⟨go19, 0, none⟩) x7_1.length co14) y229 := (by rw [hw, Ny229.out]; exact HP21.1); clear HP21; have n0_ := Aside0.mk (hp_); have n1_ := Aside0.mk ((by rw [hw]; exact below_set (HB.out) GB19.out : Below w.heap.size w w22)); clear HO_7; clear HB; have HO_7 := n0_; have HB := n1_; clear n0_ n1_; clear hg hw hp_))
    (try simp only [← hl7_1])
    go_roundg k1
    case measure => have := HK1.out; omega
    case rel => exact ⟨(y229), (wrap64 (x19_1 + 1)), rS, H', ⟨by have := HK1.out; omega⟩, ⟨by (try simp only [hl7_1]); (with_reducible repeat (first | apply Kd.R_alloc | apply Kd.R_drewN | apply Kd.R_drew)); exact HO_7.out⟩, ⟨bA⟩⟩
   rw [if_neg c15] at H
   have c15b0 := decide_eq_false c15
   (try have c15b0x : decide (x19_1 < (x7_1.length : Int)) = false := (by rw [← hl7_1]; exact c15b0))
   clear c15
   obtain rfl := Option.some.inj H
   go_wp2
   go_ret
   exact ⟨_, rA, rK HO_7, bA⟩

/-! ### impl_WaitOf: function 13 -/
def impl_WaitOf.l0 : Nat → List Bool → Int → Int → Int → Int → Option (Int)
 | 0, _, _, _, _, _ => none
 | k + 1, x7, x8, x9, x17, x18 => if x18 < x17 then (if (x7.length : Int) = 0 then (none) else (if 0 ≤ (Int.tmod x18 (x7.length : Int)) then (if (Int.tmod x18 (x7.length : Int)) < (x7.length : Int) then (if rdOf false x7 (Int.tmod x18 (x7.length : Int)) = true then (impl_WaitOf.l0 k x7 (mx x8 0) 0 x17 (wrap64 (x18 + 1))) else (impl_WaitOf.l0 k x7 (mx x8 (wrap64 (x9 + 1))) (wrap64 (x9 + 1)) x17 (wrap64 (x18 + 1)))) else (none)) else (none))) else (some (mn x8 (x7.length : Int)))
def impl_WaitOf.f (k : Nat) (l0 : List (S50)) (l1 : List (S85)) (a2 : Int) : Option (Int) := (impl_greens.f k l0 l1 a2).bind fun t230 => (impl_WaitOf.l0 k t230 0 0 (wrap64 (2 * (t230.length : Int))) 0)
theorem impl_WaitOf.mono_l : ∀ k, (∀ y0 y1 y2 y3 y4, LeO (impl_WaitOf.l0 k y0 y1 y2 y3 y4) (impl_WaitOf.l0 (k + 1) y0 y1 y2 y3 y4))
 | 0 => fun _ _ _ _ _ r h => by simp [impl_WaitOf.l0] at h
 | k + 1 => by
  have ih0 := impl_WaitOf.mono_l k
  ·
   intro y0 y1 y2 y3 y4
   unfold impl_WaitOf.l0
   exact mz2 ih0 impl_greens.mono
theorem impl_WaitOf.mono : ∀ a0 a1 a2 k, LeO (impl_WaitOf.f k a0 a1 a2) (impl_WaitOf.f (k + 1) a0 a1 a2) := by
 intro a0 a1 a2 k
 have ih0 := impl_WaitOf.mono_l k
 unfold impl_WaitOf.f
 exact mz2 ih0 impl_greens.mono
set_option maxHeartbeats 8000000 in
set_option maxRecDepth 100000 in
theorem impl_WaitOf.calls (k : Nat) (A0 : Option Addr) (c0 : Nat) (l0 : List (S50)) (A1 : Option Addr) (c1 : Nat) (l1 : List (S85)) (a2 : Int) (r : Int) (w : World) (hr0 : Kd.C k50 w A0 l0.length l0) (hc0 : l0.length ≤ c0) (hr1 : Kd.C k85 w A1 l1.length l1) (hc1 : l1.length ≤ c1) (h : impl_WaitOf.f k l0 l1 a2 = some r) :
  Calls Try.prog 13 #[.slice A0 l0.length c0, .slice A1 l1.length c1, .int .i64 a2] w fun e w' => e = .returned (.int .i64 r) ∧ Below w.heap.size w w' := by
 have HR0 := Aside0.mk hr0
 have HC0 := Aside0.mk hc0
 clear hr0 hc0
 have HR1 := Aside0.mk hr1
 have HC1 := Aside0.mk hc1
 clear hr1 hc1
 have HB := Aside0.mk (Below.refl w.heap.size w)
 have H : ((impl_greens.f k l0 l1 a2).bind fun t230 => (impl_WaitOf.l0 k t230 0 0 (wrap64 (2 * (t230.length : Int))) 0)) = some r := h
 clear h
 obtain ⟨t230, A4, H⟩ := bindE H
 try dsimp only at H
 have H' := Aside0.mk H
 clear H
 go_enter Try.func13, Try.ntmps13
 go_wp2_with (first | ((with_reducible refine gate_callee (f := 74) rfl ?_); refine gL (some 14) Try.func74 #[.slice A0 l0.length c0, .slice A1 l1.length c1, .int .i64 a2] ?_; (with_reducible refine (impl_greens.calls k _ _ l0 _ _ l1 a2 t230 _ ?_ ?_ ?_ ?_ A4.out).mono ?_); exact cO HR0; exact HC0.out; exact cO HR1; exact HC1.out; rintro e w5 ⟨v231, rfl, ho0, hb⟩; refine ⟨_, rfl, ?_⟩; have HO232 := rl w ho0; replace HB := bs HB hb; (try clear hb); (try clear ho0); obtain ⟨Ao6, co6, eo6⟩ := Kd.R_slice HO232.out; subst eo6))
 go_loopg [8, 9, 18] k (fun kq v8 v9 v18 w' => ∃ (x8_1 : Int) (x9_1 : Int) (x18_1 : Int), v8 = .int .i64 x8_1 ∧ v9 = .int .i64 x9_1 ∧ v18 = .int .i64 x18_1 ∧ Aside0 (impl_WaitOf.l0 kq t230 x8_1 x9_1 (wrap64 (2 * (t230.length : Int))) x18_1 = some r) ∧ Aside0 (kq ≤ k) ∧ Aside0 (Kd.R Kd.bool 4 w' w.heap.size (fun _ => True) (.slice Ao6 t230.length co6) t230) ∧ Aside0 (Below w.heap.size w w'))
 case atStart => exact ⟨(0), (0), (0), rS, rS, rS, H', ⟨Nat.le_refl _⟩, ⟨rK HO232⟩, ⟨bA⟩⟩
 case round =>
  clear H'
  obtain ⟨x8_1, x9_1, x18_1, rfl, rfl, rfl, HA, HK1, HO_7, HB⟩ := hrel
  cases gk with
  | zero => exact absurd HA.out (by simp [impl_WaitOf.l0])
  | succ k1 =>
   have H := HA.out
   clear HA
   simp only [impl_WaitOf.l0] at H
   by_cases c7 : x18_1 < (wrap64 (2 * (t230.length : Int)))
   ·
    rw [if_pos c7] at H
    have c7b0 := decide_eq_true c7
    clear c7
    have c8 : ¬ ((t230.length : Int) = 0) := ifN' H
    replace H := ifT' H
    have c8b0 : ((t230.length : Int) == 0) = false := beq_eq_false_iff_ne.mpr c8
    have c8b1 : ((t230.length : Int) != 0) = true := bne_iff_ne.mpr c8
    have c8b2 : ¬ (t230 = []) := fun h_ => c8 (by rw [h_]; rfl)
    obtain ⟨ji9, hji9⟩ : ∃ j_ : Int, (Int.tmod x18_1 (t230.length : Int)) = j_ := ⟨_, rfl⟩
    replace H : (if 0 ≤ (ji9) then (if (ji9) < (t230.length : Int) then (if rdOf false t230 (ji9) = true then (impl_WaitOf.l0 k1 t230 (mx x8_1 0) 0 (wrap64 (2 * (t230.length : Int))) (wrap64 (x18_1 + 1))) else (impl_WaitOf.l0 k1 t230 (mx x8_1 (wrap64 (x9_1 + 1))) (wrap64 (x9_1 + 1)) (wrap64 (2 * (t230.length : Int))) (wrap64 (x18_1 + 1)))) else (none)) else (none)) = some r := by first | (rw [hji9] at H; exact H) | (simp only [hji9] at H ⊢; exact H)
    have c10 : 0 ≤ (ji9) := ifN H
    replace H := ifT H
    have c10b0 := decide_eq_true c10
    clear c10
    have c11 : (ji9) < (t230.length : Int) := ifN H
    replace H := ifT H
    have c11b0 := decide_eq_true c11
    clear c11
    obtain ⟨bq12, hbq12⟩ : ∃ b_ : Bool, b_ = (rdOf false t230 (ji9)) := ⟨_, rfl⟩
    replace H : (if bq12 = true then (impl_WaitOf.l0 k1 t230 (mx x8_1 0) 0 (wrap64 (2 * (t230.length : Int))) (wrap64 (x18_1 + 1))) else (impl_WaitOf.l0 k1 t230 (mx x8_1 (wrap64 (x9_1 + 1))) (wrap64 (x9_1 + 1)) (wrap64 (2 * (t230.length : Int))) (wrap64 (x18_1 + 1)))) = some r := by rw [← hbq12] at H; exact H
    have Nbq12 := Aside0.mk hbq12
    clear hbq12
    by_cases c13 : bq12 = true
    ·
     subst c13
     have H1 : (impl_WaitOf.l0 k1 t230 (mx x8_1 0) 0 (wrap64 (2 * (t230.length : Int))) (wrap64 (x18_1 + 1))) = some r := by rw [if_pos rfl] at H; exact H
     clear H
     have H := H1
     clear H1
     obtain ⟨ji14, hji14⟩ : ∃ j_ : Int, (mx x8_1 0) = j_ := ⟨_, rfl⟩
     replace H : (impl_WaitOf.l0 k1 t230 ji14 0 (wrap64 (2 * (t230.length : Int))) (wrap64 (x18_1 + 1))) = some r := by first | (rw [hji14] at H; exact H) | (simp only [hji14] at H ⊢; exact H)
     have hji14_ : (if x8_1 < 0 then 0 else x8_1) = ji14 := hji14
     have H' := Aside0.mk H
     clear H
     obtain ⟨p233, q233⟩ : 0 ≤ ((ji9) : Int) ∧ (ji9) < (t230.length : Int) := ⟨dA, dA⟩
     obtain ⟨ad233, e233, hx233_0⟩ := Kd.at_bool (Kd.R_reads' HO_7.out).2.2 (ji9) p233 q233
     (try rw [← Nbq12.out] at hx233_0)
     cases e233
     obtain ⟨p233, q233⟩ := eT p233 q233
     go_wp2
     go_roundg k1
     case measure => have := HK1.out; omega
     case rel => exact ⟨(ji14), (0), (wrap64 (x18_1 + 1)), (by first | rfl | (simp; done) | (simp only [← hji14] <;> (first | rfl | simp)) | (simp [*]; done)), rS, rS, H', ⟨by have := HK1.out; omega⟩, ⟨rK HO_7⟩, ⟨bA⟩⟩
    replace c13 := Bool.eq_false_iff.mpr c13
    subst c13
    have H1 : (impl_WaitOf.l0 k1 t230 (mx x8_1 (wrap64 (x9_1 + 1))) (wrap64 (x9_1 + 1)) (wrap64 (2 * (t230.length : Int))) (wrap64 (x18_1 + 1))) = some r := by rw [if_neg (show ¬ (false = true) by decide)] at H; exact H
    clear H
    have H := H1
    clear H1
    obtain ⟨ji15, hji15⟩ : ∃ j_ : Int, (mx x8_1 (wrap64 (x9_1 + 1))) = j_ := ⟨_, rfl⟩
    replace H : (impl_WaitOf.l0 k1 t230 ji15 (wrap64 (x9_1 + 1)) (wrap64 (2 * (t230.length : Int))) (wrap64 (x18_1 + 1))) = some r := by first | (rw [hji15] at H; exact H) | (simp only [hji15] at H ⊢; exact H)
    have hji15_ : (if x8_1 < (wrap64 (x9_1 + 1)) then (wrap64 (x9_1 + 1)) else x8_1) = ji15 := hji15
    have H' := Aside0.mk H
    clear H
    obtain ⟨p233, q233⟩ : 0 ≤ ((ji9) : Int) ∧ (ji9) < (t230.length : Int) := ⟨dA, dA⟩
    obtain ⟨ad233, e233, hx233_0⟩ := Kd.at_bool (Kd.R_reads' HO_7.out).2.2 (ji9) p233 q233
    (try rw [← Nbq12.out] at hx233_0)
    cases e233
    obtain ⟨p233, q233⟩ := eT p233 q233
    go_wp2
    go_roundg k1
    case measure => have := HK1.out; omega
    case rel => exact ⟨(ji15), (wrap64 (x9_1 + 1)), (wrap64 (x18_1 + 1)), (by first | rfl | (simp; done) | (simp only [← hji15] <;> (first | rfl | simp)) | (simp [*]; done)), rS, rS, H', ⟨by have := HK1.out; omega⟩, ⟨rK HO_7⟩, ⟨bA⟩⟩
   rw [if_neg c7] at H
   have c7b0 := decide_eq_false c7
   clear c7
   obtain ⟨ji16, hji16⟩ : ∃ j_ : Int, (mn x8_1 (t230.length : Int)) = j_ := ⟨_, rfl⟩
   replace H : (some ji16) = some r := by first | (rw [hji16] at H; exact H) | (simp only [hji16] at H ⊢; exact H)
   have hji16_ : (if (t230.length : Int) < x8_1 then (t230.length : Int) else x8_1) = ji16 := hji16
   obtain rfl := Option.some.inj H
   go_wp2
   go_ret
   exact ⟨by first | rfl | (simp [errW_none, errW_some] <;> rfl) | (simp only [← hji16]; first | rfl | (simp [errW_none, errW_some] <;> rfl)) | (simp [*, errW_none, errW_some] <;> rfl), bA⟩

/-! ### laws_sameInts: function 47 -/
def laws_sameInts.l0 : Nat → List Int → List Int → Int → Option (Bool)
 | 0, _, _, _ => none
 | k + 1, x0, x1, x5 => if x5 < (x0.length : Int) then (if 0 ≤ x5 then (if x5 < (x1.length : Int) then (if (rd x0 x5) = (rd x1 x5) then (laws_sameInts.l0 k x0 x1 (wrap64 (x5 + 1))) else (some false)) else (none)) else (none)) else (some true)
def laws_sameInts.f (k : Nat) (l0 : List Int) (l1 : List Int) : Option (Bool) := if (l0.length : Int) = (l1.length : Int) then (laws_sameInts.l0 k l0 l1 0) else (some false)
theorem laws_sameInts.mono_l : ∀ k, (∀ y0 y1 y2, LeO (laws_sameInts.l0 k y0 y1 y2) (laws_sameInts.l0 (k + 1) y0 y1 y2))
 | 0 => fun _ _ _ r h => by simp [laws_sameInts.l0] at h
 | k + 1 => by
  have ih0 := laws_sameInts.mono_l k
  ·
   intro y0 y1 y2
   unfold laws_sameInts.l0
   exact mz1 ih0
theorem laws_sameInts.mono : ∀ a0 a1 k, LeO (laws_sameInts.f k a0 a1) (laws_sameInts.f (k + 1) a0 a1) := by
 intro a0 a1 k
 have ih0 := laws_sameInts.mono_l k
 unfold laws_sameInts.f
 exact mz1 ih0
set_option maxHeartbeats 8000000 in
set_option maxRecDepth 100000 in
theorem laws_sameInts.calls (k : Nat) (A0 : Option Addr) (c0 : Nat) (l0 : List Int) (A1 : Option Addr) (c1 : Nat) (l1 : List Int) (r : Bool) (w : World) (hr0 : Kd.C (Kd.int .i64) w A0 l0.length l0) (hc0 : l0.length ≤ c0) (hr1 : Kd.C (Kd.int .i64) w A1 l1.length l1) (hc1 : l1.length ≤ c1) (h : laws_sameInts.f k l0 l1 = some r) :
  Calls Try.prog 47 #[.slice A0 l0.length c0, .slice A1 l1.length c1] w fun e w' => e = .returned (.bool r) ∧ Drawn0 w w' := by
 have HR0 := Aside0.mk hr0
 have HC0 := Aside0.mk hc0
 clear hr0 hc0
 have HR1 := Aside0.mk hr1
 have HC1 := Aside0.mk hc1
 clear hr1 hc1
 have H : (if (l0.length : Int) = (l1.length : Int) then (laws_sameInts.l0 k l0 l1 0) else (some false)) = some r := h
 clear h
 by_cases c3 : (l0.length : Int) = (l1.length : Int)
 ·
  rw [if_pos c3] at H
  have c3b0 : ((l0.length : Int) == (l1.length : Int)) = true := beq_iff_eq.mpr c3
  have c3b1 : ((l0.length : Int) != (l1.length : Int)) = false := bne_eq_false_iff_eq.mpr c3
  have c3b2 : (l0.length == l1.length) = true := by first | simpa using c3 | (simp at c3 ⊢; omega)
  clear c3
  have H' := Aside0.mk H
  clear H
  go_enter Try.func47, Try.ntmps47
  go_wp2
  repeat (go_quiet (fail); try go_wp2)
  go_loopg [5] k (fun kq v5 w' => ∃ (x5_1 : Int), v5 = .int .i64 x5_1 ∧ Aside0 (laws_sameInts.l0 kq l0 l1 x5_1 = some r) ∧ Aside0 (kq ≤ k) ∧ Drawn0 w w')
  case atStart => exact ⟨(0), rS, H', ⟨Nat.le_refl _⟩, by repeat (first | exact Drawn0.refl _ | apply Drawn0.step)⟩
  case round =>
   clear H'
   obtain ⟨x5_1, rfl, HA, HK1, ⟨m1, rfl⟩⟩ := hrel
   cases gk with
   | zero => exact absurd HA.out (by simp [laws_sameInts.l0])
   | succ k1 =>
    have H := HA.out
    clear HA
    simp only [laws_sameInts.l0] at H
    by_cases c4 : x5_1 < (l0.length : Int)
    ·
     rw [if_pos c4] at H
     have c4b0 := decide_eq_true c4
     clear c4
     have c5 : 0 ≤ x5_1 := ifN H
     replace H := ifT H
     have c5b0 := decide_eq_true c5
     clear c5
     have c6 : x5_1 < (l1.length : Int) := ifN H
     replace H := ifT H
     have c6b0 := decide_eq_true c6
     clear c6
     by_cases c7 : (rd l0 x5_1) = (rd l1 x5_1)
     ·
      rw [if_pos c7] at H
      have c7b0 : ((rd l0 x5_1) == (rd l1 x5_1)) = true := beq_iff_eq.mpr c7
      have c7b1 : ((rd l0 x5_1) != (rd l1 x5_1)) = false := bne_eq_false_iff_eq.mpr c7
      clear c7
      have H' := Aside0.mk H
      clear H
      obtain ⟨p234, q234⟩ : 0 ≤ (x5_1 : Int) ∧ x5_1 < (l0.length : Int) := ⟨dA, dA⟩
      obtain ⟨ad234, e234, hx234_0⟩ := Kd.at_int HR0.out x5_1 p234 q234
      cases e234
      obtain ⟨p234, q234⟩ := eT p234 q234
      obtain ⟨p235, q235⟩ : 0 ≤ (x5_1 : Int) ∧ x5_1 < (l1.length : Int) := ⟨dA, dA⟩
      obtain ⟨ad235, e235, hx235_0⟩ := Kd.at_int HR1.out x5_1 p235 q235
      cases e235
      obtain ⟨p235, q235⟩ := eT p235 q235
      go_wp2
      repeat (go_quiet (fail); try go_wp2)
      go_roundg k1
      case measure => have := HK1.out; omega
      case rel => exact ⟨(wrap64 (x5_1 + 1)), rS, H', ⟨by have := HK1.out; omega⟩, by repeat (first | exact Drawn0.refl _ | apply Drawn0.step)⟩
     rw [if_neg c7] at H
     have c7b0 : ((rd l0 x5_1) == (rd l1 x5_1)) = false := beq_eq_false_iff_ne.mpr c7
     have c7b1 : ((rd l0 x5_1) != (rd l1 x5_1)) = true := bne_iff_ne.mpr c7
     obtain rfl := Option.some.inj H
     obtain ⟨p234, q234⟩ : 0 ≤ (x5_1 : Int) ∧ x5_1 < (l0.length : Int) := ⟨dA, dA⟩
     obtain ⟨ad234, e234, hx234_0⟩ := Kd.at_int HR0.out x5_1 p234 q234
     cases e234
     obtain ⟨p234, q234⟩ := eT p234 q234
     obtain ⟨p235, q235⟩ : 0 ≤ (x5_1 : Int) ∧ x5_1 < (l1.length : Int) := ⟨dA, dA⟩
     obtain ⟨ad235, e235, hx235_0⟩ := Kd.at_int HR1.out x5_1 p235 q235
     cases e235
     obtain ⟨p235, q235⟩ := eT p235 q235
     go_wp2
     repeat (go_quiet (fail); try go_wp2)
     go_ret
     exact ⟨rS, dD⟩
    rw [if_neg c4] at H
    have c4b0 := decide_eq_false c4
    clear c4
    obtain rfl := Option.some.inj H
    go_wp2
    repeat (go_quiet (fail); try go_wp2)
    go_ret
    exact ⟨rS, dD⟩
 rw [if_neg c3] at H
 have c3b0 : ((l0.length : Int) == (l1.length : Int)) = false := beq_eq_false_iff_ne.mpr c3
 have c3b1 : ((l0.length : Int) != (l1.length : Int)) = true := bne_iff_ne.mpr c3
 have c3b2 : (l0.length == l1.length) = false := by first | simpa using c3 | (simp at c3 ⊢; omega)
 obtain rfl := Option.some.inj H
 go_enter Try.func47, Try.ntmps47
 go_wp2
 repeat (go_quiet (fail); try go_wp2)
 go_ret
 exact ⟨rS, dD⟩

/-! ### impl_IsSafeLights: function 49 -/
mutual
def impl_IsSafeLights.j0 : Nat → List (S50) → List Int → Bool → Option (Bool)
 | 0, _, _, _ => none
 | k + 1, x0, x1, x18 => if x18 = true then (some false) else (impl_IsSafeLights.l0 k x0 x1 x0 (x0.length : Int) 0)
def impl_IsSafeLights.l0 : Nat → List (S50) → List Int → List (S50) → Int → Int → Option (Bool)
 | 0, _, _, _, _, _ => none
 | k + 1, x0, x1, x19, x20, x21 => if x21 < x20 then (if 0 ≤ x21 then (if x21 < (x19.length : Int) then (if x21 < (x1.length : Int) then ((impl_InRange.f (rd x1 x21) 0 2).bind fun t240 => (if t240 = true then (if x21 ≤ (x0.length : Int) then ((some (x0.take (x21 : Int).toNat : List (S50))).bind fun y241 => (impl_IsSafeLights.l1 k x0 x1 x21 x19 x20 x21 y241 (y241.length : Int) 0 ((rd_T50 x19 x21).f0) ((rd_T50 x19 x21).f1) ((rd_T50 x19 x21).f2) ((rd_T50 x19 x21).f3))) else (none)) else (some false))) else (none)) else (none)) else (none)) else (some true)
def impl_IsSafeLights.l1 : Nat → List (S50) → List Int → Int → List (S50) → Int → Int → List (S50) → Int → Int → Int → Int → Int → Int → Option (Bool)
 | 0, _, _, _, _, _, _, _, _, _, _, _, _, _ => none
 | k + 1, x0, x1, x5, x19, x20, x21, x34, x35, x36, x239000, x239001, x239002, x239003 => if x36 < x35 then (if 0 ≤ x36 then (if x36 < (x34.length : Int) then ((impl_Conflict.f k x239000 x239001 x239002 x239003 ((rd_T50 x34 x36).f0) ((rd_T50 x34 x36).f1) ((rd_T50 x34 x36).f2) ((rd_T50 x34 x36).f3)).bind fun t247 => (if t247 = true then (if 0 ≤ x5 then (if x5 < (x1.length : Int) then (if (rd x1 x5) = 0 then (impl_IsSafeLights.l1 k x0 x1 x5 x19 x20 x21 x34 x35 (wrap64 (x36 + 1)) x239000 x239001 x239002 x239003) else (if x36 < (x1.length : Int) then (if (rd x1 x36) = 0 then (impl_IsSafeLights.l1 k x0 x1 x5 x19 x20 x21 x34 x35 (wrap64 (x36 + 1)) x239000 x239001 x239002 x239003) else (some false)) else (none))) else (none)) else (none)) else (impl_IsSafeLights.l1 k x0 x1 x5 x19 x20 x21 x34 x35 (wrap64 (x36 + 1)) x239000 x239001 x239002 x239003))) else (none)) else (none)) else (impl_IsSafeLights.l0 k x0 x1 x19 x20 (wrap64 (x21 + 1)))
end
def impl_IsSafeLights.f (k : Nat) (l0 : List (S50)) (l1 : List Int) : Option (Bool) := (impl_ArePaths.f k l0).bind fun t236 => (if t236 = true then (impl_IsSafeLights.j0 k l0 l1 ((l1.length : Int) != (l0.length : Int))) else (impl_IsSafeLights.j0 k l0 l1 true))
theorem impl_IsSafeLights.mono_l : ∀ k, (∀ y0 y1 y2, LeO (impl_IsSafeLights.j0 k y0 y1 y2) (impl_IsSafeLights.j0 (k + 1) y0 y1 y2)) ∧ (∀ y0 y1 y2 y3 y4, LeO (impl_IsSafeLights.l0 k y0 y1 y2 y3 y4) (impl_IsSafeLights.l0 (k + 1) y0 y1 y2 y3 y4)) ∧ (∀ y0 y1 y2 y3 y4 y5 y6 y7 y8 y9 y10 y11 y12, LeO (impl_IsSafeLights.l1 k y0 y1 y2 y3 y4 y5 y6 y7 y8 y9 y10 y11 y12) (impl_IsSafeLights.l1 (k + 1) y0 y1 y2 y3 y4 y5 y6 y7 y8 y9 y10 y11 y12))
 | 0 => ⟨fun _ _ _ r h => by simp [impl_IsSafeLights.j0] at h, fun _ _ _ _ _ r h => by simp [impl_IsSafeLights.l0] at h, fun _ _ _ _ _ _ _ _ _ _ _ _ _ r h => by simp [impl_IsSafeLights.l1] at h⟩
 | k + 1 => by
  obtain ⟨ih0, ih1, ih2⟩ := impl_IsSafeLights.mono_l k
  refine ⟨?_, ?_, ?_⟩
  ·
   intro y0 y1 y2
   unfold impl_IsSafeLights.j0
   exact mz5 ih0 ih1 ih2 impl_ArePaths.mono impl_Conflict.mono
  ·
   intro y0 y1 y2 y3 y4
   unfold impl_IsSafeLights.l0
   exact mz5 ih0 ih1 ih2 impl_ArePaths.mono impl_Conflict.mono
  ·
   intro y0 y1 y2 y3 y4 y5 y6 y7 y8 y9 y10 y11 y12
   unfold impl_IsSafeLights.l1
   exact mz5 ih0 ih1 ih2 impl_ArePaths.mono impl_Conflict.mono
theorem impl_IsSafeLights.mono : ∀ a0 a1 k, LeO (impl_IsSafeLights.f k a0 a1) (impl_IsSafeLights.f (k + 1) a0 a1) := by
 intro a0 a1 k
 obtain ⟨ih0, ih1, ih2⟩ := impl_IsSafeLights.mono_l k
 unfold impl_IsSafeLights.f
 exact mz5 ih0 ih1 ih2 impl_ArePaths.mono impl_Conflict.mono
set_option maxHeartbeats 8000000 in
set_option maxRecDepth 100000 in
theorem impl_IsSafeLights.calls (k : Nat) (A0 : Option Addr) (c0 : Nat) (l0 : List (S50)) (A1 : Option Addr) (c1 : Nat) (l1 : List Int) (r : Bool) (w : World) (hr0 : Kd.C k50 w A0 l0.length l0) (hc0 : l0.length ≤ c0) (hr1 : Kd.C (Kd.int .i64) w A1 l1.length l1) (hc1 : l1.length ≤ c1) (h : impl_IsSafeLights.f k l0 l1 = some r) :
  Calls Try.prog 49 #[.slice A0 l0.length c0, .slice A1 l1.length c1] w fun e w' => e = .returned (.bool r) ∧ Below w.heap.size w w' := by
 have hu50 := Try.underlying50
 have HR0 := Aside0.mk hr0
 have HC0 := Aside0.mk hc0
 clear hr0 hc0
 have HR1 := Aside0.mk hr1
 have HC1 := Aside0.mk hc1
 clear hr1 hc1
 have HB := Aside0.mk (Below.refl w.heap.size w)
 have H : ((impl_ArePaths.f k l0).bind fun t236 => (if t236 = true then (impl_IsSafeLights.j0 k l0 l1 ((l1.length : Int) != (l0.length : Int))) else (impl_IsSafeLights.j0 k l0 l1 true))) = some r := h
 clear h
 have HC3 := Aside0.mk H
 clear H
 go_enter Try.func49, Try.ntmps49
 go_upto_region 1 with (fail)
 go_cut [18] (fun v18 wc => ∃ (kq : Nat) (x18_2 : Bool), v18 = .bool x18_2 ∧ Aside0 (impl_IsSafeLights.j0 kq l0 l1 x18_2 = some r) ∧ Aside0 (kq ≤ k) ∧ Aside0 (Below w.heap.size w wc))
 case first =>
  have H := HC3.out
  clear HC3
  obtain ⟨t236, A4, H⟩ := bindE H
  try dsimp only at H
  by_cases c5 : t236 = true
  ·
   subst c5
   have H1 : (impl_IsSafeLights.j0 k l0 l1 ((l1.length : Int) != (l0.length : Int))) = some r := by rw [if_pos rfl] at H; exact H
   clear H
   have H := H1
   clear H1
   have H' := Aside0.mk H
   clear H
   go_wp2_with (first | ((with_reducible refine gate_callee (f := 32) rfl ?_); refine gL (some 10) Try.func32 #[.slice A0 l0.length c0] ?_; (with_reducible refine (impl_ArePaths.calls k _ _ l0 true _ ?_ ?_ A4.out).mono ?_); exact cB HR0; exact HC0.out; rintro e w6 ⟨rfl, hb⟩; refine ⟨_, rfl, ?_⟩; replace HB := bs HB hb; (try clear hb)))
   go_meet
   case rel => exact ⟨_, (((l1.length : Int) != (l0.length : Int))), rS, H', ⟨oL⟩, ⟨bA⟩⟩
  replace c5 := Bool.eq_false_iff.mpr c5
  subst c5
  have H1 : (impl_IsSafeLights.j0 k l0 l1 true) = some r := by rw [if_neg (show ¬ (false = true) by decide)] at H; exact H
  clear H
  have H := H1
  clear H1
  have H' := Aside0.mk H
  clear H
  go_wp2_with (first | ((with_reducible refine gate_callee (f := 32) rfl ?_); refine gL (some 10) Try.func32 #[.slice A0 l0.length c0] ?_; (with_reducible refine (impl_ArePaths.calls k _ _ l0 false _ ?_ ?_ A4.out).mono ?_); exact cB HR0; exact HC0.out; rintro e w7 ⟨rfl, hb⟩; refine ⟨_, rfl, ?_⟩; replace HB := bs HB hb; (try clear hb)))
  go_meet
  case rel => exact ⟨_, (true), rS, H', ⟨oL⟩, ⟨bA⟩⟩
 case rest =>
  clear HC3
  obtain ⟨kq, x18_2, rfl, HA, HJ2, HB⟩ := hcut
  cases kq with
  | zero => exact absurd HA.out (by simp [impl_IsSafeLights.j0])
  | succ kj2 =>
   have H := HA.out
   clear HA
   simp only [impl_IsSafeLights.j0] at H
   by_cases c8 : x18_2 = true
   ·
    subst c8
    have H1 : (some false) = some r := by rw [if_pos rfl] at H; exact H
    clear H
    have H := H1
    clear H1
    obtain rfl := Option.some.inj H
    go_wp2
    go_ret
    exact ⟨rA, bA⟩
   replace c8 := Bool.eq_false_iff.mpr c8
   subst c8
   have H1 : (impl_IsSafeLights.l0 kj2 l0 l1 l0 (l0.length : Int) 0) = some r := by rw [if_neg (show ¬ (false = true) by decide)] at H; exact H
   clear H
   have H := H1
   clear H1
   have H' := Aside0.mk H
   clear H
   go_wp2
   go_loopg [21] kj2 (fun kq v21 w' => ∃ (x21_2 : Int), v21 = .int .i64 x21_2 ∧ Aside0 (impl_IsSafeLights.l0 kq l0 l1 l0 (l0.length : Int) x21_2 = some r) ∧ Aside0 (kq ≤ kj2) ∧ Aside0 (Below w.heap.size w w'))
   case atStart => exact ⟨(0), rS, H', ⟨Nat.le_refl _⟩, ⟨bA⟩⟩
   case round =>
    clear H'
    obtain ⟨x21_2, rfl, HA, HK2, HB⟩ := hrel
    cases gk with
    | zero => exact absurd HA.out (by simp [impl_IsSafeLights.l0])
    | succ k2 =>
     have H := HA.out
     clear HA
     simp only [impl_IsSafeLights.l0] at H
     by_cases c9 : x21_2 < (l0.length : Int)
     ·
      rw [if_pos c9] at H
      have c9b0 := decide_eq_true c9
      clear c9
      have c10 : 0 ≤ x21_2 := ifN H
      replace H := ifT H
      have c10b0 := decide_eq_true c10
      clear c10
      have c11 : x21_2 < (l0.length : Int) := ifN H
      replace H := ifT H
      have c11b0 := decide_eq_true c11
      clear c11
      have c12 : x21_2 < (l1.length : Int) := ifN H
      replace H := ifT H
      have c12b0 := decide_eq_true c12
      clear c12
      obtain ⟨t240, A13, H⟩ := bindE H
      try dsimp only at H
      by_cases c14 : t240 = true
      ·
       subst c14
       have H1 : (if x21_2 ≤ (l0.length : Int) then ((some (l0.take (x21_2 : Int).toNat : List (S50))).bind fun y241 => (impl_IsSafeLights.l1 k2 l0 l1 x21_2 l0 (l0.length : Int) x21_2 y241 (y241.length : Int) 0 ((rd_T50 l0 x21_2).f0) ((rd_T50 l0 x21_2).f1) ((rd_T50 l0 x21_2).f2) ((rd_T50 l0 x21_2).f3))) else (none)) = some r := by rw [if_pos rfl] at H; exact H
       clear H
       have H := H1
       clear H1
       have c15b0 := eq_true (dA : 0 ≤ x21_2)
       have c16 : x21_2 ≤ (l0.length : Int) := ifN H
       replace H := ifT H
       have c16b0 := eq_true c16
       have c16b1 := decide_eq_true c16
       clear c16
       obtain ⟨y241, hy241⟩ : ∃ y_ : List (S50), y_ = (l0.take (x21_2 : Int).toNat) := ⟨_, rfl⟩
       replace H : (impl_IsSafeLights.l1 k2 l0 l1 x21_2 l0 (l0.length : Int) x21_2 y241 (y241.length : Int) 0 ((rd_T50 l0 x21_2).f0) ((rd_T50 l0 x21_2).f1) ((rd_T50 l0 x21_2).f2) ((rd_T50 l0 x21_2).f3)) = some r := rH H hy241
       have Ny241 := Aside0.mk hy241
       clear hy241
       have H' := Aside0.mk H
       clear H
       obtain ⟨p237, q237⟩ : 0 ≤ (x21_2 : Int) ∧ x21_2 < (l0.length : Int) := ⟨dA, dA⟩
       obtain ⟨ad237, e237, hx237_0, hx237_1, hx237_2, hx237_3⟩ := at_T50 (Kd.C_below HR0.out HB.out) x21_2 p237 q237
       cases e237
       obtain ⟨p237, q237⟩ := eT p237 q237
       go_wp2_with (first | ((with_reducible refine gate_dst (N := 6) rfl ?_); (try (refine gate_guard (by rfl) ?_; dsimp only)); refine bE (N := 6) (cs := #[.int .i64 0, .int .i64 0, .int .i64 0, .int .i64 0]) (t := 50) ?_; intro gb238 hg w17 hbox hb; have BK238 := Aside0.mk (hbox); have GW238 := gw w hg; have GE238 := gw w hg; replace HB := bs HB hb; clear hb hbox hg; obtain ⟨_, _, _, _, _, _, _, _⟩ := blkc4 BK238) | ((with_reducible refine gate_store (t := 50) (p := 6) rfl ?_); refine store_event (t := 50) (p := 6) (v := ?vo_w19) (w1 := ((((w17.setCell ⟨gb238, 0, none⟩ (.int .i64 ((rd_T50 l0 x21_2).f0))).setCell ⟨gb238, 1, none⟩ (.int .i64 ((rd_T50 l0 x21_2).f1))).setCell ⟨gb238, 2, none⟩ (.int .i64 ((rd_T50 l0 x21_2).f2))).setCell ⟨gb238, 3, none⟩ (.int .i64 ((rd_T50 l0 x21_2).f3)))) ?hg ?ho ?hn ?hr ?_; (case ho => rfl); (case hg => rfl); (case hn => rfl); (case hr => first | (go_simp; done) | (go_simp; rfl)); intro w19 hw; have n0_ : Aside0 (w19.heap[gb238]? = some (.cells #[.int .i64 ((rd_T50 l0 x21_2).f0), .int .i64 ((rd_T50 l0 x21_2).f1), .int .i64 ((rd_T50 l0 x21_2).f2), .int .i64 ((rd_T50 l0 x21_2).f3)] 50 (0, 0))) := ⟨(by rw [hw]; exact (kp BK238))⟩; have n1_ : Aside0 (Below w.heap.size w w19) := ⟨(by rw [hw]; exact bG)⟩; clear hw; clear BK238; clear HB; have BK238 := n0_; have HB := n1_; clear n0_ n1_; have p239 : 0 ≤ (x21_2 : Int) := dA; have q239 : x21_2 < (l1.length : Int) := dA; obtain ⟨ad239, e239, hx239_0⟩ := Kd.at_int HR1.out x21_2 p239 q239; cases e239; replace hx239_0 := hC HB hx239_0; replace p239 := eq_true p239; replace q239 := eq_true q239) | ((with_reducible refine gate_callee (f := 75) rfl ?_); refine gL (some 30) Try.func75 #[.int .i64 (rd l1 x21_2), .int .i64 0, .int .i64 2] ?_; (with_reducible refine (impl_InRange.calls (rd l1 x21_2) 0 2 true _ A13.out).mono ?_); rintro e w' ⟨rfl, ⟨nd, rfl⟩⟩; refine ⟨_, rfl, ?_⟩; have q20 : (x21_2 : Int) ≤ ((l0.length : Int) : Int) := dA; obtain ⟨i020, hi020, _, hsz20, _⟩ := info_parts info50; have hroom20 : l0.length ≤ c0 := HC0.out; have hC20 : Kd.C k50 _ (some ad237) l0.length l0 := HR0.out; have hcut20 := cut_to (P := Try.prog) 24 50 .i64 Try.underlying24 hi020 (some ad237) l0.length c0 x21_2 (dA) q20 hroom20; have hr20 := Kd.C_take (m := (x21_2 : Int).toNat) hC20 (by omega); have hy20 : y241.length = (x21_2 : Int).toNat := (by rw [Ny241.out, List.length_take]; omega); rw [← Ny241.out] at hr20; rw [← hy20] at hcut20; have HR244 := Aside0.mk hr20; have HC244 := Aside0.mk (show y241.length ≤ c0 from by omega); clear hr20 hC20 hroom20 hi020 hsz20; have KY20 := Aside0.mk hy20; clear hy20; replace q20 := eq_true q20))
       go_loopg [36] k2 (fun kq v36 w' => ∃ (x36_3 : Int), v36 = .int .i64 x36_3 ∧ Aside0 (impl_IsSafeLights.l1 kq l0 l1 x21_2 l0 (l0.length : Int) x21_2 y241 (y241.length : Int) x36_3 ((rd_T50 l0 x21_2).f0) ((rd_T50 l0 x21_2).f1) ((rd_T50 l0 x21_2).f2) ((rd_T50 l0 x21_2).f3) = some r) ∧ Aside0 (kq ≤ k2) ∧ Aside0 (w'.heap[gb238]? = some (.cells #[.int .i64 ((rd_T50 l0 x21_2).f0), .int .i64 ((rd_T50 l0 x21_2).f1), .int .i64 ((rd_T50 l0 x21_2).f2), .int .i64 ((rd_T50 l0 x21_2).f3)] 50 (0, 0))) ∧ Aside0 (Below w.heap.size w w'))
       case atStart => exact ⟨(0), rS, H', ⟨Nat.le_refl _⟩, ⟨bK BK238⟩, ⟨bG⟩⟩
       case round =>
        clear H'
        obtain ⟨x36_3, rfl, HA, HK3, BK238, HB⟩ := hrel
        cases gk with
        | zero => exact absurd HA.out (by simp [impl_IsSafeLights.l1])
        | succ k3 =>
         have H := HA.out
         clear HA
         simp only [impl_IsSafeLights.l1] at H
         by_cases c21 : x36_3 < (y241.length : Int)
         ·
          rw [if_pos c21] at H
          have c21b0 := decide_eq_true c21
          clear c21
          have c22 : 0 ≤ x36_3 := ifN H
          replace H := ifT H
          have c22b0 := decide_eq_true c22
          clear c22
          have c23 : x36_3 < (y241.length : Int) := ifN H
          replace H := ifT H
          have c23b0 := decide_eq_true c23
          clear c23
          obtain ⟨t247, A24, H⟩ := bindE H
          try dsimp only at H
          by_cases c25 : t247 = true
          ·
           subst c25
           have H1 : (if 0 ≤ x21_2 then (if x21_2 < (l1.length : Int) then (if (rd l1 x21_2) = 0 then (impl_IsSafeLights.l1 k3 l0 l1 x21_2 l0 (l0.length : Int) x21_2 y241 (y241.length : Int) (wrap64 (x36_3 + 1)) ((rd_T50 l0 x21_2).f0) ((rd_T50 l0 x21_2).f1) ((rd_T50 l0 x21_2).f2) ((rd_T50 l0 x21_2).f3)) else (if x36_3 < (l1.length : Int) then (if (rd l1 x36_3) = 0 then (impl_IsSafeLights.l1 k3 l0 l1 x21_2 l0 (l0.length : Int) x21_2 y241 (y241.length : Int) (wrap64 (x36_3 + 1)) ((rd_T50 l0 x21_2).f0) ((rd_T50 l0 x21_2).f1) ((rd_T50 l0 x21_2).f2) ((rd_T50 l0 x21_2).f3)) else (some false)) else (none))) else (none)) else (none)) = some r := by rw [if_pos rfl] at H; exact H
           clear H
           have H := H1
           clear H1
           have c26 : 0 ≤ x21_2 := ifN H
           replace H := ifT H
           have c26b0 := decide_eq_true c26
           clear c26
           have c27 : x21_2 < (l1.length : Int) := ifN H
           replace H := ifT H
           have c27b0 := decide_eq_true c27
           clear c27
           by_cases c28 : (rd l1 x21_2) = 0
           ·
            rw [if_pos c28] at H
            have c28b0 : ((rd l1 x21_2) == 0) = true := beq_iff_eq.mpr c28
            have c28b1 : ((rd l1 x21_2) != 0) = false := bne_eq_false_iff_eq.mpr c28
            clear c28
            have H' := Aside0.mk H
            clear H
            obtain ⟨p245, q245⟩ : 0 ≤ (x36_3 : Int) ∧ x36_3 < (y241.length : Int) := ⟨dA, dA⟩
            obtain ⟨ad245, e245, hx245_0, hx245_1, hx245_2, hx245_3⟩ := at_T50 (Kd.C_below HR244.out HB.out) x36_3 p245 q245
            obtain rfl : ad237 = ad245 := (by injection e245)
            obtain ⟨p245, q245⟩ := eT p245 q245
            go_wp2_with (first | ((with_reducible refine gate_dst (N := 8) rfl ?_); (try (refine gate_guard (by rfl) ?_; dsimp only)); refine bE (N := 8) (cs := #[.int .i64 0, .int .i64 0, .int .i64 0, .int .i64 0]) (t := 50) ?_; intro gb246 hg w29 hbox hb; have BK246 := Aside0.mk (hbox); have GW246 := gw w hg; have GE246 := gw w hg; replace HB := bs HB hb; have NB238_246 := nl BK238 hg; have NB246_238 := nr BK238 hg; replace BK238 := kb BK238 hb; clear hb hbox hg; have hnb30 := NB246_238.out; have hnc30 := NB238_246.out; obtain ⟨_, _, _, _, _, _, _, _⟩ := blkc4 BK246; obtain ⟨_, _, _, _, _, _, _, _⟩ := blkc4 BK238) | ((with_reducible refine gate_callee (f := 101) rfl ?_); refine gL (some 43) Try.func101 #[.agg #[.int .i64 ((rd_T50 l0 x21_2).f0), .int .i64 ((rd_T50 l0 x21_2).f1), .int .i64 ((rd_T50 l0 x21_2).f2), .int .i64 ((rd_T50 l0 x21_2).f3)], .agg #[.int .i64 ((rd_T50 y241 x36_3).f0), .int .i64 ((rd_T50 y241 x36_3).f1), .int .i64 ((rd_T50 y241 x36_3).f2), .int .i64 ((rd_T50 y241 x36_3).f3)]] ?_; (with_reducible refine (impl_Conflict.calls k3 ((rd_T50 l0 x21_2).f0) ((rd_T50 l0 x21_2).f1) ((rd_T50 l0 x21_2).f2) ((rd_T50 l0 x21_2).f3) ((rd_T50 y241 x36_3).f0) ((rd_T50 y241 x36_3).f1) ((rd_T50 y241 x36_3).f2) ((rd_T50 y241 x36_3).f3) true _ A24.out).mono ?_); rintro e w33 ⟨rfl, hb⟩; refine ⟨_, rfl, ?_⟩; replace BK238 := kc (kf BK238 NB238_246) hb; replace BK246 := kc (o := .cells #[.int .i64 ((rd_T50 y241 x36_3).f0), .int .i64 ((rd_T50 y241 x36_3).f1), .int .i64 ((rd_T50 y241 x36_3).f2), .int .i64 ((rd_T50 y241 x36_3).f3)] 50 (0, 0)) (kp BK246) hb; replace HB := bs HB hb; (try clear hb); have p248 : 0 ≤ (x21_2 : Int) := dA; have q248 : x21_2 < (l1.length : Int) := dA; obtain ⟨ad248, e248, hx248_0⟩ := Kd.at_int HR1.out x21_2 p248 q248; obtain rfl : ad239 = ad248 := (by injection e248); replace hx248_0 := hC HB hx248_0; replace p248 := eq_true p248; replace q248 := eq_true q248))
            go_roundg k3
            case measure => have := HJ2.out; have := HK2.out; have := HK3.out; omega
            case rel => exact ⟨(wrap64 (x36_3 + 1)), rS, H', ⟨by have := HJ2.out; have := HK2.out; have := HK3.out; omega⟩, ⟨bK BK238⟩, ⟨bG⟩⟩
           rw [if_neg c28] at H
           have c28b0 : ((rd l1 x21_2) == 0) = false := beq_eq_false_iff_ne.mpr c28
           have c28b1 : ((rd l1 x21_2) != 0) = true := bne_iff_ne.mpr c28
           have c34 : x36_3 < (l1.length : Int) := ifN H
           replace H := ifT H
           have c34b0 := decide_eq_true c34
           clear c34
           by_cases c35 : (rd l1 x36_3) = 0
           ·
            rw [if_pos c35] at H
            have c35b0 : ((rd l1 x36_3) == 0) = true := beq_iff_eq.mpr c35
            have c35b1 : ((rd l1 x36_3) != 0) = false := bne_eq_false_iff_eq.mpr c35
            clear c35
            have H' := Aside0.mk H
            clear H
            obtain ⟨p245, q245⟩ : 0 ≤ (x36_3 : Int) ∧ x36_3 < (y241.length : Int) := ⟨dA, dA⟩
            obtain ⟨ad245, e245, hx245_0, hx245_1, hx245_2, hx245_3⟩ := at_T50 (Kd.C_below HR244.out HB.out) x36_3 p245 q245
            obtain rfl : ad237 = ad245 := (by injection e245)
            obtain ⟨p245, q245⟩ := eT p245 q245
            go_wp2_with (first | ((with_reducible refine gate_dst (N := 8) rfl ?_); (try (refine gate_guard (by rfl) ?_; dsimp only)); refine bE (N := 8) (cs := #[.int .i64 0, .int .i64 0, .int .i64 0, .int .i64 0]) (t := 50) ?_; intro gb246 hg w36 hbox hb; have BK246 := Aside0.mk (hbox); have GW246 := gw w hg; have GE246 := gw w hg; replace HB := bs HB hb; have NB238_246 := nl BK238 hg; have NB246_238 := nr BK238 hg; replace BK238 := kb BK238 hb; clear hb hbox hg; have hnb37 := NB246_238.out; have hnc37 := NB238_246.out; obtain ⟨_, _, _, _, _, _, _, _⟩ := blkc4 BK246; obtain ⟨_, _, _, _, _, _, _, _⟩ := blkc4 BK238) | ((with_reducible refine gate_callee (f := 101) rfl ?_); refine gL (some 43) Try.func101 #[.agg #[.int .i64 ((rd_T50 l0 x21_2).f0), .int .i64 ((rd_T50 l0 x21_2).f1), .int .i64 ((rd_T50 l0 x21_2).f2), .int .i64 ((rd_T50 l0 x21_2).f3)], .agg #[.int .i64 ((rd_T50 y241 x36_3).f0), .int .i64 ((rd_T50 y241 x36_3).f1), .int .i64 ((rd_T50 y241 x36_3).f2), .int .i64 ((rd_T50 y241 x36_3).f3)]] ?_; (with_reducible refine (impl_Conflict.calls k3 ((rd_T50 l0 x21_2).f0) ((rd_T50 l0 x21_2).f1) ((rd_T50 l0 x21_2).f2) ((rd_T50 l0 x21_2).f3) ((rd_T50 y241 x36_3).f0) ((rd_T50 y241 x36_3).f1) ((rd_T50 y241 x36_3).f2) ((rd_T50 y241 x36_3).f3) true _ A24.out).mono ?_); rintro e w40 ⟨rfl, hb⟩; refine ⟨_, rfl, ?_⟩; replace BK238 := kc (kf BK238 NB238_246) hb; replace BK246 := kc (o := .cells #[.int .i64 ((rd_T50 y241 x36_3).f0), .int .i64 ((rd_T50 y241 x36_3).f1), .int .i64 ((rd_T50 y241 x36_3).f2), .int .i64 ((rd_T50 y241 x36_3).f3)] 50 (0, 0)) (kp BK246) hb; replace HB := bs HB hb; (try clear hb); have p248 : 0 ≤ (x21_2 : Int) := dA; have q248 : x21_2 < (l1.length : Int) := dA; obtain ⟨ad248, e248, hx248_0⟩ := Kd.at_int HR1.out x21_2 p248 q248; obtain rfl : ad239 = ad248 := (by injection e248); replace hx248_0 := hC HB hx248_0; replace p248 := eq_true p248; replace q248 := eq_true q248; have p249 : 0 ≤ (x36_3 : Int) := dA; have q249 : x36_3 < (l1.length : Int) := dA; obtain ⟨ad249, e249, hx249_0⟩ := Kd.at_int HR1.out x36_3 p249 q249; obtain rfl : ad239 = ad249 := (by injection e249); replace hx249_0 := hC HB hx249_0; replace p249 := eq_true p249; replace q249 := eq_true q249))
            go_roundg k3
            case measure => have := HJ2.out; have := HK2.out; have := HK3.out; omega
            case rel => exact ⟨(wrap64 (x36_3 + 1)), rS, H', ⟨by have := HJ2.out; have := HK2.out; have := HK3.out; omega⟩, ⟨bK BK238⟩, ⟨bG⟩⟩
           rw [if_neg c35] at H
           have c35b0 : ((rd l1 x36_3) == 0) = false := beq_eq_false_iff_ne.mpr c35
           have c35b1 : ((rd l1 x36_3) != 0) = true := bne_iff_ne.mpr c35
           obtain rfl := Option.some.inj H
           obtain ⟨p245, q245⟩ : 0 ≤ (x36_3 : Int) ∧ x36_3 < (y241.length : Int) := ⟨dA, dA⟩
           obtain ⟨ad245, e245, hx245_0, hx245_1, hx245_2, hx245_3⟩ := at_T50 (Kd.C_below HR244.out HB.out) x36_3 p245 q245
           obtain rfl : ad237 = ad245 := (by injection e245)
           obtain ⟨p245, q245⟩ := eT p245 q245
           go_wp2_with (first | ((with_reducible refine gate_dst (N := 8) rfl ?_); (try (refine gate_guard (by rfl) ?_; dsimp only)); refine bE (N := 8) (cs := #[.int .i64 0, .int .i64 0, .int .i64 0, .int .i64 0]) (t := 50) ?_; intro gb246 hg w41 hbox hb; have BK246 := Aside0.mk (hbox); have GW246 := gw w hg; have GE246 := gw w hg; replace HB := bs HB hb; have NB238_246 := nl BK238 hg; have NB246_238 := nr BK238 hg; replace BK238 := kb BK238 hb; clear hb hbox hg; have hnb42 := NB246_238.out; have hnc42 := NB238_246.out; obtain ⟨_, _, _, _, _, _, _, _⟩ := blkc4 BK246; obtain ⟨_, _, _, _, _, _, _, _⟩ := blkc4 BK238) | ((with_reducible refine gate_callee (f := 101) rfl ?_); refine gL (some 43) Try.func101 #[.agg #[.int .i64 ((rd_T50 l0 x21_2).f0), .int .i64 ((rd_T50 l0 x21_2).f1), .int .i64 ((rd_T50 l0 x21_2).f2), .int .i64 ((rd_T50 l0 x21_2).f3)], .agg #[.int .i64 ((rd_T50 y241 x36_3).f0), .int .i64 ((rd_T50 y241 x36_3).f1), .int .i64 ((rd_T50 y241 x36_3).f2), .int .i64 ((rd_T50 y241 x36_3).f3)]] ?_; (with_reducible refine (impl_Conflict.calls k3 ((rd_T50 l0 x21_2).f0) ((rd_T50 l0 x21_2).f1) ((rd_T50 l0 x21_2).f2) ((rd_T50 l0 x21_2).f3) ((rd_T50 y241 x36_3).f0) ((rd_T50 y241 x36_3).f1) ((rd_T50 y241 x36_3).f2) ((rd_T50 y241 x36_3).f3) true _ A24.out).mono ?_); rintro e w45 ⟨rfl, hb⟩; refine ⟨_, rfl, ?_⟩; replace BK238 := kc (kf BK238 NB238_246) hb; replace BK246 := kc (o := .cells #[.int .i64 ((rd_T50 y241 x36_3).f0), .int .i64 ((rd_T50 y241 x36_3).f1), .int .i64 ((rd_T50 y241 x36_3).f2), .int .i64 ((rd_T50 y241 x36_3).f3)] 50 (0, 0)) (kp BK246) hb; replace HB := bs HB hb; (try clear hb); have p248 : 0 ≤ (x21_2 : Int) := dA; have q248 : x21_2 < (l1.length : Int) := dA; obtain ⟨ad248, e248, hx248_0⟩ := Kd.at_int HR1.out x21_2 p248 q248; obtain rfl : ad239 = ad248 := (by injection e248); replace hx248_0 := hC HB hx248_0; replace p248 := eq_true p248; replace q248 := eq_true q248; have p249 : 0 ≤ (x36_3 : Int) := dA; have q249 : x36_3 < (l1.length : Int) := dA; obtain ⟨ad249, e249, hx249_0⟩ := Kd.at_int HR1.out x36_3 p249 q249; obtain rfl : ad239 = ad249 := (by injection e249); replace hx249_0 := hC HB hx249_0; replace p249 := eq_true p249; replace q249 := eq_true q249))
           go_ret
           exact ⟨rA, bG⟩
          replace c25 := Bool.eq_false_iff.mpr c25
          subst c25
          have H1 : (impl_IsSafeLights.l1 k3 l0 l1 x21_2 l0 (l0.length : Int) x21_2 y241 (y241.length : Int) (wrap64 (x36_3 + 1)) ((rd_T50 l0 x21_2).f0) ((rd_T50 l0 x21_2).f1) ((rd_T50 l0 x21_2).f2) ((rd_T50 l0 x21_2).f3)) = some r := by rw [if_neg (show ¬ (false = true) by decide)] at H; exact H
          clear H
          have H := H1
          clear H1
          have H' := Aside0.mk H
          clear H
          obtain ⟨p245, q245⟩ : 0 ≤ (x36_3 : Int) ∧ x36_3 < (y241.length : Int) := ⟨dA, dA⟩
          obtain ⟨ad245, e245, hx245_0, hx245_1, hx245_2, hx245_3⟩ := at_T50 (Kd.C_below HR244.out HB.out) x36_3 p245 q245
          obtain rfl : ad237 = ad245 := (by injection e245)
          obtain ⟨p245, q245⟩ := eT p245 q245
          go_wp2_with (first | ((with_reducible refine gate_dst (N := 8) rfl ?_); (try (refine gate_guard (by rfl) ?_; dsimp only)); refine bE (N := 8) (cs := #[.int .i64 0, .int .i64 0, .int .i64 0, .int .i64 0]) (t := 50) ?_; intro gb246 hg w46 hbox hb; have BK246 := Aside0.mk (hbox); have GW246 := gw w hg; have GE246 := gw w hg; replace HB := bs HB hb; have NB238_246 := nl BK238 hg; have NB246_238 := nr BK238 hg; replace BK238 := kb BK238 hb; clear hb hbox hg; have hnb47 := NB246_238.out; have hnc47 := NB238_246.out; obtain ⟨_, _, _, _, _, _, _, _⟩ := blkc4 BK246; obtain ⟨_, _, _, _, _, _, _, _⟩ := blkc4 BK238) | ((with_reducible refine gate_callee (f := 101) rfl ?_); refine gL (some 43) Try.func101 #[.agg #[.int .i64 ((rd_T50 l0 x21_2).f0), .int .i64 ((rd_T50 l0 x21_2).f1), .int .i64 ((rd_T50 l0 x21_2).f2), .int .i64 ((rd_T50 l0 x21_2).f3)], .agg #[.int .i64 ((rd_T50 y241 x36_3).f0), .int .i64 ((rd_T50 y241 x36_3).f1), .int .i64 ((rd_T50 y241 x36_3).f2), .int .i64 ((rd_T50 y241 x36_3).f3)]] ?_; (with_reducible refine (impl_Conflict.calls k3 ((rd_T50 l0 x21_2).f0) ((rd_T50 l0 x21_2).f1) ((rd_T50 l0 x21_2).f2) ((rd_T50 l0 x21_2).f3) ((rd_T50 y241 x36_3).f0) ((rd_T50 y241 x36_3).f1) ((rd_T50 y241 x36_3).f2) ((rd_T50 y241 x36_3).f3) false _ A24.out).mono ?_); rintro e w50 ⟨rfl, hb⟩; refine ⟨_, rfl, ?_⟩; replace BK238 := kc (kf BK238 NB238_246) hb; replace BK246 := kc (o := .cells #[.int .i64 ((rd_T50 y241 x36_3).f0), .int .i64 ((rd_T50 y241 x36_3).f1), .int .i64 ((rd_T50 y241 x36_3).f2), .int .i64 ((rd_T50 y241 x36_3).f3)] 50 (0, 0)) (kp BK246) hb; replace HB := bs HB hb; (try clear hb)))
          go_roundg k3
          case measure => have := HJ2.out; have := HK2.out; have := HK3.out; omega
          case rel => exact ⟨(wrap64 (x36_3 + 1)), rS, H', ⟨by have := HJ2.out; have := HK2.out; have := HK3.out; omega⟩, ⟨bK BK238⟩, ⟨bG⟩⟩
         rw [if_neg c21] at H
         have c21b0 := decide_eq_false c21
         clear c21
         have H' := Aside0.mk H
         clear H
         go_wp2
         go_roundg k3
         case measure => have := HJ2.out; have := HK2.out; have := HK3.out; omega
         case rel => exact ⟨(wrap64 (x21_2 + 1)), rS, H', ⟨by have := HJ2.out; have := HK2.out; have := HK3.out; omega⟩, ⟨bG⟩⟩
      replace c14 := Bool.eq_false_iff.mpr c14
      subst c14
      have H1 : (some false) = some r := by rw [if_neg (show ¬ (false = true) by decide)] at H; exact H
      clear H
      have H := H1
      clear H1
      obtain rfl := Option.some.inj H
      obtain ⟨p237, q237⟩ : 0 ≤ (x21_2 : Int) ∧ x21_2 < (l0.length : Int) := ⟨dA, dA⟩
      obtain ⟨ad237, e237, hx237_0, hx237_1, hx237_2, hx237_3⟩ := at_T50 (Kd.C_below HR0.out HB.out) x21_2 p237 q237
      cases e237
      obtain ⟨p237, q237⟩ := eT p237 q237
      go_wp2_with (first | ((with_reducible refine gate_dst (N := 6) rfl ?_); (try (refine gate_guard (by rfl) ?_; dsimp only)); refine bE (N := 6) (cs := #[.int .i64 0, .int .i64 0, .int .i64 0, .int .i64 0]) (t := 50) ?_; intro gb238 hg w51 hbox hb; have BK238 := Aside0.mk (hbox); have GW238 := gw w hg; have GE238 := gw w hg; replace HB := bs HB hb; clear hb hbox hg; obtain ⟨_, _, _, _, _, _, _, _⟩ := blkc4 BK238; have p239 : 0 ≤ (x21_2 : Int) := dA; have q239 : x21_2 < (l1.length : Int) := dA; obtain ⟨ad239, e239, hx239_0⟩ := Kd.at_int HR1.out x21_2 p239 q239; cases e239; have hn239_0 : ad239.block ≠ gb238 := Nat.ne_of_lt (Nat.lt_of_lt_of_le (by have := World.block_lt_of_cell? _ _ hx239_0; first | rwa [add_block] at this | exact this) GW238.out); have hn239_1 : ad239.block ≠ gb238 := Nat.ne_of_lt (Nat.lt_of_lt_of_le (by have := World.block_lt_of_cell? _ _ hx239_0; first | rwa [add_block] at this | exact this) GW238.out); have hn239_2 : ad239.block ≠ gb238 := Nat.ne_of_lt (Nat.lt_of_lt_of_le (by have := World.block_lt_of_cell? _ _ hx239_0; first | rwa [add_block] at this | exact this) GW238.out); have hn239_3 : ad239.block ≠ gb238 := Nat.ne_of_lt (Nat.lt_of_lt_of_le (by have := World.block_lt_of_cell? _ _ hx239_0; first | rwa [add_block] at this | exact this) GW238.out); replace hx239_0 := hC HB hx239_0; replace hx239_0 := (cell_far (p := ⟨gb238, 0, none⟩) (by first | (rw [add_block]; exact hn239_0) | (show (Addr.add _ _).block ≠ _; rw [add_block]; exact hn239_0) | exact hn239_0) (.int .i64 ((rd_T50 l0 x21_2).f0))).trans hx239_0; replace hx239_0 := (cell_far (p := ⟨gb238, 1, none⟩) (by first | (rw [add_block]; exact hn239_1) | (show (Addr.add _ _).block ≠ _; rw [add_block]; exact hn239_1) | exact hn239_1) (.int .i64 ((rd_T50 l0 x21_2).f1))).trans hx239_0; replace hx239_0 := (cell_far (p := ⟨gb238, 2, none⟩) (by first | (rw [add_block]; exact hn239_2) | (show (Addr.add _ _).block ≠ _; rw [add_block]; exact hn239_2) | exact hn239_2) (.int .i64 ((rd_T50 l0 x21_2).f2))).trans hx239_0; replace hx239_0 := (cell_far (p := ⟨gb238, 3, none⟩) (by first | (rw [add_block]; exact hn239_3) | (show (Addr.add _ _).block ≠ _; rw [add_block]; exact hn239_3) | exact hn239_3) (.int .i64 ((rd_T50 l0 x21_2).f3))).trans hx239_0; clear hn239_0; clear hn239_1; clear hn239_2; clear hn239_3; replace p239 := eq_true p239; replace q239 := eq_true q239) | ((with_reducible refine gate_callee (f := 75) rfl ?_); refine gL (some 30) Try.func75 #[.int .i64 (rd l1 x21_2), .int .i64 0, .int .i64 2] ?_; (with_reducible refine (impl_InRange.calls (rd l1 x21_2) 0 2 false _ A13.out).mono ?_); rintro e w' ⟨rfl, ⟨nd, rfl⟩⟩; refine ⟨_, rfl, ?_⟩))
      go_ret
      exact ⟨rA, bG⟩
     rw [if_neg c9] at H
     have c9b0 := decide_eq_false c9
     clear c9
     obtain rfl := Option.some.inj H
     go_wp2
     go_ret
     exact ⟨rA, bA⟩

/-- A state of type 138 at block g of W; what its slices lead to came in by w0. -/
def IsS138 (w0 W : World) (g : Nat) (f0 : List Int) (f1 : Int) (f2 : Int) : Prop := ∃ A0 c0, W.heap[g]? = some (.cells #[.slice A0 f0.length c0, .int .i64 f1, .int .i64 f2] 138 (0, 0)) ∧ w0.heap.size ≤ g ∧ Kd.C (Kd.int .u8) w0 A0 f0.length f0
theorem IsS138.grown {w0 W : World} {g : Nat} {f0 : List Int} {f1 : Int} {f2 : Int} {W1 : World} {row : Option Nat} (h : IsS138 w0 W g f0 f1 f2) (hw : W.grownBy W1 row) (hne : some g ≠ row) : IsS138 w0 W1 g f0 f1 f2 := by
 obtain ⟨A0, c0, hb, hg, hr0⟩ := h
 exact ⟨A0, c0, blk_grown hb hw hne, hg, hr0⟩
theorem IsS138.own_neN {w0 W : World} {g : Nat} {f0 : List Int} {f1 : Int} {f2 : Int} {α : Type} {d : Kd α} {e : Nat} {base : Nat} {ok : Nat → Prop} {v : Value} {xs : List α} (h : IsS138 w0 W g f0 f1 f2) (ho : Kd.N d e W base ok v xs) (ht : e ≠ 138) : some g ≠ v.ownBlock := by
 obtain ⟨A0, c0, hb, hg, hr0⟩ := h
 exact Kd.N_ne ho hb ht
theorem IsS138.fresh {w0 W : World} {g : Nat} {f0 : List Int} {f1 : Int} {f2 : Int} (h : IsS138 w0 W g f0 f1 f2) : ∀ k, W.heap.size ≤ k → k ≠ g := by
 obtain ⟨A0, c0, hb, hg, hr0⟩ := h
 exact Kd.freshB hb
theorem IsS138.kept {w0 W : World} {g : Nat} {f0 : List Int} {f1 : Int} {f2 : Int} {W1 : World} {S : Nat → Prop} (h : IsS138 w0 W g f0 f1 f2) (hk : Kept W W1 S) (hne : ¬ S g) : IsS138 w0 W1 g f0 f1 f2 := by
 obtain ⟨A0, c0, hb, hg, hr0⟩ := h
 exact ⟨A0, c0, blk_kept hb hk hne, hg, hr0⟩
theorem IsS138.below {w0 W : World} {g : Nat} {f0 : List Int} {f1 : Int} {f2 : Int} {W1 : World} (h : IsS138 w0 W g f0 f1 f2) (hw : Below W.heap.size W W1) : IsS138 w0 W1 g f0 f1 f2 := h.grown (grown_of_below hw none) (by simp)
theorem IsS138.alloc {w0 W : World} {g : Nat} {f0 : List Int} {f1 : Int} {f2 : Int} (h : IsS138 w0 W g f0 f1 f2) (o : Obj) : IsS138 w0 (W.alloc o) g f0 f1 f2 := h.below (below_alloc (Below.refl _ _) o)
theorem IsS138.drewN {w0 W : World} {g : Nat} {f0 : List Int} {f1 : Int} {f2 : Int} (h : IsS138 w0 W g f0 f1 f2) (m : Nat) : IsS138 w0 (W.drewN m) g f0 f1 f2 := h
theorem IsS138.drew {w0 W : World} {g : Nat} {f0 : List Int} {f1 : Int} {f2 : Int} (h : IsS138 w0 W g f0 f1 f2) : IsS138 w0 W.drew g f0 f1 f2 := h
theorem IsS138.at_ {w0 W : World} {g : Nat} {f0 : List Int} {f1 : Int} {f2 : Int} {w' : World} {m : Nat} (hq : W.drewN m = w') (h : IsS138 w0 W g f0 f1 f2) : IsS138 w0 w' g f0 f1 f2 := by subst hq; exact IsS138.drewN h m
theorem IsS138.apart {w0 W : World} {g : Nat} {f0 : List Int} {f1 : Int} {f2 : Int} {α : Type} {d : Kd α} {e : Nat} {base : Nat} {ok : Nat → Prop} {v : Value} {xs : List α} (h : IsS138 w0 W g f0 f1 f2) (ho : d.R e W base ok v xs) (ht : ∀ q, q ∈ e :: d.E → q ≠ 138) : d.R e W base (fun k => ok k ∧ k ≠ g) v xs := by
 obtain ⟨A0, c0, hb, hg, hr0⟩ := h
 exact Kd.R_types ho hb ht
theorem IsS138.own_ne {w0 W : World} {g : Nat} {f0 : List Int} {f1 : Int} {f2 : Int} {α : Type} {d : Kd α} {e : Nat} {base : Nat} {ok : Nat → Prop} {v : Value} {xs : List α} (h : IsS138 w0 W g f0 f1 f2) (ho : d.R e W base ok v xs) (ht : e ≠ 138) : some g ≠ v.ownBlock := by
 obtain ⟨A0, c0, hb, hg, hr0⟩ := h
 exact Kd.R_ne ho hb ht
theorem IsS138.apartS {w0 W : World} {g : Nat} {f0 : List Int} {f1 : Int} {f2 : Int} {α : Type} {d : Kd α} {e : Nat} {base : Nat} {ok : Nat → Prop} {v : Value} {xs : List α} (h : IsS138 w0 W g f0 f1 f2) (ho : d.S e W base ok v xs) (ht : ∀ q, q ∈ e :: d.E → q ≠ 138) : d.S e W base (fun k => ok k ∧ k ≠ g) v xs := by
 obtain ⟨A0, c0, hb, hg, hr0⟩ := h
 exact Kd.S_types ho hb ht
theorem IsS138.own_neS {w0 W : World} {g : Nat} {f0 : List Int} {f1 : Int} {f2 : Int} {α : Type} {d : Kd α} {e : Nat} {base : Nat} {ok : Nat → Prop} {v : Value} {xs : List α} (h : IsS138 w0 W g f0 f1 f2) (ho : d.S e W base ok v xs) (ht : e ≠ 138) : some g ≠ v.ownBlock := by
 obtain ⟨A0, c0, hb, hg, hr0⟩ := h
 exact Kd.S_ne ho hb ht
theorem IsS138.lt {w0 W : World} {g : Nat} {f0 : List Int} {f1 : Int} {f2 : Int} (h : IsS138 w0 W g f0 f1 f2) : g < W.heap.size := by
 obtain ⟨A0, c0, hb, hg, hr0⟩ := h
 exact blk_lt hb
theorem IsS138.ge {w0 W : World} {g : Nat} {f0 : List Int} {f1 : Int} {f2 : Int} (h : IsS138 w0 W g f0 f1 f2) : w0.heap.size ≤ g := by
 obtain ⟨A0, c0, hb, hg, hr0⟩ := h
 exact hg
theorem IsS138.far {w0 W : World} {g : Nat} {f0 : List Int} {f1 : Int} {f2 : Int} {p : Addr} (h : IsS138 w0 W g f0 f1 f2) (hne : g ≠ p.block) (u : Value) : IsS138 w0 (W.setCell p u) g f0 f1 f2 := by
 obtain ⟨A0, c0, hb, hg, hr0⟩ := h
 exact ⟨A0, c0, blk_far hb hne u, hg, hr0⟩
theorem cellS138_0 {W : World} {g : Nat} {A0 : Option Addr} {c0 : Nat} {f0 : List Int} {f1 : Int} {f2 : Int} (h : W.heap[g]? = some (.cells #[.slice A0 f0.length c0, .int .i64 f1, .int .i64 f2] 138 (0, 0))) : W.cell? ⟨g, 0, none⟩ = some (.slice A0 f0.length c0) := (blk_cell h 0).trans rfl
theorem cellS138_1 {W : World} {g : Nat} {A0 : Option Addr} {c0 : Nat} {f0 : List Int} {f1 : Int} {f2 : Int} (h : W.heap[g]? = some (.cells #[.slice A0 f0.length c0, .int .i64 f1, .int .i64 f2] 138 (0, 0))) : W.cell? ⟨g, 1, none⟩ = some (.int .i64 f1) := (blk_cell h 1).trans rfl
theorem IsS138.set_1 {w0 W : World} {g : Nat} {f0 : List Int} {f1 : Int} {f2 : Int} (h : IsS138 w0 W g f0 f1 f2) (x : Int) : IsS138 w0 (W.setCell ⟨g, 1, none⟩ (.int .i64 x)) g f0 x f2 := by
 obtain ⟨A0, c0, hb, hg, hr0⟩ := h
 exact ⟨A0, c0, by simpa using blk_set hb 1 (.int .i64 x), hg, hr0⟩
theorem cellS138_2 {W : World} {g : Nat} {A0 : Option Addr} {c0 : Nat} {f0 : List Int} {f1 : Int} {f2 : Int} (h : W.heap[g]? = some (.cells #[.slice A0 f0.length c0, .int .i64 f1, .int .i64 f2] 138 (0, 0))) : W.cell? ⟨g, 2, none⟩ = some (.int .i64 f2) := (blk_cell h 2).trans rfl
theorem IsS138.set_2 {w0 W : World} {g : Nat} {f0 : List Int} {f1 : Int} {f2 : Int} (h : IsS138 w0 W g f0 f1 f2) (x : Int) : IsS138 w0 (W.setCell ⟨g, 2, none⟩ (.int .i64 x)) g f0 f1 x := by
 obtain ⟨A0, c0, hb, hg, hr0⟩ := h
 exact ⟨A0, c0, by simpa using blk_set hb 2 (.int .i64 x), hg, hr0⟩
theorem IsS138.new (w0 W : World) (A0 : Option Addr) (c0 : Nat) (f0 : List Int) (f1 : Int) (f2 : Int) (hB : Below w0.heap.size w0 W) (hr0 : Kd.C (Kd.int .u8) w0 A0 f0.length f0) : IsS138 w0 (W.alloc (.cells #[.slice A0 f0.length c0, .int .i64 f1, .int .i64 f2] 138)) W.heap.size f0 f1 f2 := ⟨A0, c0, by simpa using heap_alloc_new W _, hB.size, hr0⟩
theorem sI1380 {p q : Prop} (h : p) (f : p → q := by intro h_ ; repeat (first | (with_reducible first | exact h_ | apply IsS138.alloc | apply IsS138.drewN | apply IsS138.drew | apply IsS138.set_1 | apply IsS138.set_2) | exact h_)) : q := f h
theorem sI1381 {p q r0 : Prop} (h : p) (e0 : r0) (f : p → r0 → q := by intro h_ e0_; repeat (first | (with_reducible first | exact h_ | apply IsS138.alloc | apply IsS138.drewN | apply IsS138.drew | apply IsS138.set_1 | apply IsS138.set_2 | refine IsS138.far ?_ e0_ _) | exact h_)) : q := f h e0
theorem sI1382 {p q r0 r1 : Prop} (h : p) (e0 : r0) (e1 : r1) (f : p → r0 → r1 → q := by intro h_ e0_ e1_; repeat (first | (with_reducible first | exact h_ | apply IsS138.alloc | apply IsS138.drewN | apply IsS138.drew | apply IsS138.set_1 | apply IsS138.set_2 | refine IsS138.far ?_ e0_ _ | refine IsS138.far ?_ e1_ _) | exact h_)) : q := f h e0 e1
theorem sB0 {p q : Prop} (h : p) (f : p → q := by intro h_ ; repeat (first | (with_reducible first | exact h_ | apply below_alloc | apply pw_below_drewN | apply below_drew1) | exact h_)) : q := f h
theorem sB1 {p q r0 : Prop} (h : p) (e0 : r0) (f : p → r0 → q := by intro h_ e0_; repeat (first | (with_reducible first | exact h_ | apply below_alloc | apply pw_below_drewN | apply below_drew1 | refine below_set ?_ e0_) | exact h_)) : q := f h e0
theorem sB2 {p q r0 r1 : Prop} (h : p) (e0 : r0) (e1 : r1) (f : p → r0 → r1 → q := by intro h_ e0_ e1_; repeat (first | (with_reducible first | exact h_ | apply below_alloc | apply pw_below_drewN | apply below_drew1 | refine below_set ?_ e0_ | refine below_set ?_ e1_) | exact h_)) : q := f h e0 e1
theorem sB3 {p q r0 r1 r2 : Prop} (h : p) (e0 : r0) (e1 : r1) (e2 : r2) (f : p → r0 → r1 → r2 → q := by intro h_ e0_ e1_ e2_; repeat (first | (with_reducible first | exact h_ | apply below_alloc | apply pw_below_drewN | apply below_drew1 | refine below_set ?_ e0_ | refine below_set ?_ e1_ | refine below_set ?_ e2_) | exact h_)) : q := f h e0 e1 e2
theorem sK0 {p q : Prop} (h : p) (f : p → q := by intro h_ ; repeat (first | (with_reducible first | exact h_ | apply KeepBut.set_ | apply keep_drewN | apply keep_drew | apply keep_alloc) | exact h_)) : q := f h
theorem sK1 {p q r0 : Prop} (h : p) (e0 : r0) (f : p → r0 → q := by intro h_ e0_; repeat (first | (with_reducible first | exact h_ | apply KeepBut.set_ | apply keep_drewN | apply keep_drew | apply keep_alloc | refine keep_far ?_ e0_ _) | exact h_)) : q := f h e0
theorem sK2 {p q r0 r1 : Prop} (h : p) (e0 : r0) (e1 : r1) (f : p → r0 → r1 → q := by intro h_ e0_ e1_; repeat (first | (with_reducible first | exact h_ | apply KeepBut.set_ | apply keep_drewN | apply keep_drew | apply keep_alloc | refine keep_far ?_ e0_ _ | refine keep_far ?_ e1_ _) | exact h_)) : q := f h e0 e1
/-! ### spec_l1New: function 81 -/
def spec_l1New.l0 : Nat → List Int → Int → Int → Option (List Int × Int × Int)
 | 0, _, _, _ => none
 | k + 1, x0, x3, x4 => if x4 < (x0.length : Int) then (if x4 < 4000 then (if 0 ≤ x4 then (spec_l1New.l0 k x0 (Go.bits .and .i64 (wrap64 ((wrap64 ((wrap64 (x3 * 137)) + (wrap64 (rd x0 x4)))) + 11)) 1073741823) (wrap64 (x4 + 1))) else (none)) else (some (x0, 0, x3))) else (some (x0, 0, x3))
def spec_l1New.f (k : Nat) (l0 : List Int) : Option (List Int × Int × Int) := spec_l1New.l0 k l0 (wrap64 (193017 + (l0.length : Int))) 0
theorem spec_l1New.mono_l : ∀ k, (∀ y0 y1 y2, LeO (spec_l1New.l0 k y0 y1 y2) (spec_l1New.l0 (k + 1) y0 y1 y2))
 | 0 => fun _ _ _ r h => by simp [spec_l1New.l0] at h
 | k + 1 => by
  have ih0 := spec_l1New.mono_l k
  ·
   intro y0 y1 y2
   unfold spec_l1New.l0
   exact mz1 ih0
theorem spec_l1New.mono : ∀ a0 k, LeO (spec_l1New.f k a0) (spec_l1New.f (k + 1) a0) := by
 intro a0 k
 have ih0 := spec_l1New.mono_l k
 unfold spec_l1New.f
 exact mz1 ih0
set_option maxHeartbeats 8000000 in
set_option maxRecDepth 100000 in
theorem spec_l1New.calls (k : Nat) (A0 : Option Addr) (c0 : Nat) (l0 : List Int) (r1 : List Int) (r2 : Int) (r3 : Int) (w0 w : World) (hB : Below w0.heap.size w0 w) (hr0 : Kd.C (Kd.int .u8) w0 A0 l0.length l0) (hc0 : l0.length ≤ c0) (h : spec_l1New.f k l0 = some (r1, r2, r3)) :
  Calls Try.prog 81 #[.slice A0 l0.length c0] w fun e w' => ∃ g_ : Nat, e = .returned (.pointer (some ⟨g_, 0, none⟩)) ∧ IsS138 w0 w' g_ r1 r2 r3 ∧ Below w0.heap.size w0 w' ∧ Below w.heap.size w w' ∧ w.heap.size ≤ g_ := by
 have hu138 := Try.underlying138
 have HR0 := Aside0.mk hr0
 have HC0 := Aside0.mk hc0
 clear hr0 hc0
 have HBW := Aside0.mk (Below.refl w.heap.size w)
 have HW0 := Aside0.mk hB.size
 have HB := Aside0.mk hB
 clear hB
 have H : (spec_l1New.l0 k l0 (wrap64 (193017 + (l0.length : Int))) 0) = some (r1, r2, r3) := h
 clear h
 have H' := Aside0.mk H
 clear H
 go_enter Try.func81, Try.ntmps81
 go_wp2
 go_loopg [3, 4] k (fun kq v3 v4 w' => ∃ (x3_1 : Int) (x4_1 : Int), v3 = .int .i64 x3_1 ∧ v4 = .int .i64 x4_1 ∧ Aside0 (spec_l1New.l0 kq l0 x3_1 x4_1 = some (r1, r2, r3)) ∧ Aside0 (kq ≤ k) ∧ Aside0 (Below w0.heap.size w0 w') ∧ Aside0 (Below w.heap.size w w'))
 case atStart => exact ⟨(wrap64 (193017 + (l0.length : Int))), (0), rS, rS, H', ⟨Nat.le_refl _⟩, ⟨bA⟩, HBW⟩
 case round =>
  clear H' HBW
  obtain ⟨x3_1, x4_1, rfl, rfl, HA, HK1, HB, HBW⟩ := hrel
  cases gk with
  | zero => exact absurd HA.out (by simp [spec_l1New.l0])
  | succ k1 =>
   have H := HA.out
   clear HA
   simp only [spec_l1New.l0] at H
   by_cases c2 : x4_1 < (l0.length : Int)
   ·
    rw [if_pos c2] at H
    have c2b0 := decide_eq_true c2
    clear c2
    by_cases c3 : x4_1 < 4000
    ·
     rw [if_pos c3] at H
     have c3b0 := decide_eq_true c3
     clear c3
     have c4 : 0 ≤ x4_1 := ifN H
     replace H := ifT H
     have c4b0 := decide_eq_true c4
     clear c4
     have H' := Aside0.mk H
     clear H
     obtain ⟨p250, q250⟩ : 0 ≤ (x4_1 : Int) ∧ x4_1 < (l0.length : Int) := ⟨dA, dA⟩
     obtain ⟨ad250, e250, hx250_0⟩ := Kd.at_int HR0.out x4_1 p250 q250
     cases e250
     replace hx250_0 := pw_cell_below HB.out hx250_0
     obtain ⟨p250, q250⟩ := eT p250 q250
     go_wp2
     go_roundg k1
     case measure => have := HK1.out; omega
     case rel => exact ⟨(Go.bits .and .i64 (wrap64 ((wrap64 ((wrap64 (x3_1 * 137)) + (wrap64 (rd l0 x4_1)))) + 11)) 1073741823), (wrap64 (x4_1 + 1)), rS, rS, H', ⟨by have := HK1.out; omega⟩, ⟨bA⟩, HBW⟩
    rw [if_neg c3] at H
    have c3b0 := decide_eq_false c3
    clear c3
    simp only [Option.some.injEq, Prod.mk.injEq] at H
    obtain ⟨rfl, rfl, rfl⟩ := H
    go_wp2
    go_ret
    exact ⟨_, rfl, IsS138.new w0 wr A0 c0 l0 0 x3_1 HB.out HR0.out, below_alloc HB.out _, below_alloc HBW.out _, HBW.out.size⟩
   rw [if_neg c2] at H
   have c2b0 := decide_eq_false c2
   clear c2
   simp only [Option.some.injEq, Prod.mk.injEq] at H
   obtain ⟨rfl, rfl, rfl⟩ := H
   go_wp2
   go_ret
   exact ⟨_, rfl, IsS138.new w0 wr A0 c0 l0 0 x3_1 HB.out HR0.out, below_alloc HB.out _, below_alloc HBW.out _, HBW.out.size⟩

/-! ### spec_l1Byte: function 126 -/
def spec_l1Byte.f (s0_0 : List Int) (s0_1 : Int) (s0_2 : Int) : Option (Int × Int × Int) := if s0_1 < (s0_0.length : Int) then (if 0 ≤ s0_1 then (some (Go.bits .and .i64 (wrap64 ((Go.bits .and .i64 (Go.bits .xor .i64 ((wrap64 ((wrap64 (s0_2 * 6364136223846793005)) + 1442695040888963407)) / 8589934592) ((wrap64 ((wrap64 (s0_2 * 6364136223846793005)) + 1442695040888963407)) / 140737488355328)) 255) + (wrap64 (rd s0_0 s0_1)))) 255, wrap64 (s0_1 + 1), wrap64 ((wrap64 (s0_2 * 6364136223846793005)) + 1442695040888963407))) else (none)) else (some (Go.bits .and .i64 (Go.bits .xor .i64 ((wrap64 ((wrap64 (s0_2 * 6364136223846793005)) + 1442695040888963407)) / 8589934592) ((wrap64 ((wrap64 (s0_2 * 6364136223846793005)) + 1442695040888963407)) / 140737488355328)) 255, s0_1, wrap64 ((wrap64 (s0_2 * 6364136223846793005)) + 1442695040888963407)))
set_option maxHeartbeats 8000000 in
set_option maxRecDepth 100000 in
theorem spec_l1Byte.calls (g : Nat) (s0_0 : List Int) (s0_1 : Int) (s0_2 : Int) (r1 : Int) (r2 : Int) (r3 : Int) (w0 w : World) (hI : IsS138 w0 w g s0_0 s0_1 s0_2) (hB : Below w0.heap.size w0 w) (h : spec_l1Byte.f s0_0 s0_1 s0_2 = some (r1, r2, r3)) :
  Calls Try.prog 126 #[.pointer (some ⟨g, 0, none⟩)] w fun e w' => e = .returned (.int .i64 r1) ∧ IsS138 w0 w' g s0_0 r2 r3 ∧ Below w0.heap.size w0 w' ∧ KeepBut w w' g none := by
 have HI0 := Aside0.mk hI
 have HK := Aside0.mk (KeepBut.refl w g none)
 have HL := Aside0.mk hB.size
 clear hI
 have HW0 := Aside0.mk hB.size
 have HB := Aside0.mk hB
 clear hB
 have H : (if s0_1 < (s0_0.length : Int) then (if 0 ≤ s0_1 then (some (Go.bits .and .i64 (wrap64 ((Go.bits .and .i64 (Go.bits .xor .i64 ((wrap64 ((wrap64 (s0_2 * 6364136223846793005)) + 1442695040888963407)) / 8589934592) ((wrap64 ((wrap64 (s0_2 * 6364136223846793005)) + 1442695040888963407)) / 140737488355328)) 255) + (wrap64 (rd s0_0 s0_1)))) 255, wrap64 (s0_1 + 1), wrap64 ((wrap64 (s0_2 * 6364136223846793005)) + 1442695040888963407))) else (none)) else (some (Go.bits .and .i64 (Go.bits .xor .i64 ((wrap64 ((wrap64 (s0_2 * 6364136223846793005)) + 1442695040888963407)) / 8589934592) ((wrap64 ((wrap64 (s0_2 * 6364136223846793005)) + 1442695040888963407)) / 140737488355328)) 255, s0_1, wrap64 ((wrap64 (s0_2 * 6364136223846793005)) + 1442695040888963407)))) = some (r1, r2, r3) := h
 clear h
 by_cases c2 : s0_1 < (s0_0.length : Int)
 ·
  rw [if_pos c2] at H
  have c2b0 := decide_eq_true c2
  clear c2
  have c3 : 0 ≤ s0_1 := ifN H
  replace H := ifT H
  have c3b0 := decide_eq_true c3
  clear c3
  simp only [Option.some.injEq, Prod.mk.injEq] at H
  obtain ⟨rfl, rfl, rfl⟩ := H
  obtain ⟨ASz4_0, cSz4_0, HGz4, hgz4, HSz4_0⟩ := HI0.out
  have hcz4_0 := cellS138_0 HGz4
  have hcz4_1 := cellS138_1 HGz4
  have hcz4_2 := cellS138_2 HGz4
  have hfz4_1 := blk_frozen HGz4 1
  have hfz4_2 := blk_frozen HGz4 2
  clear HGz4 hgz4
  obtain ⟨p253, q253⟩ : 0 ≤ (s0_1 : Int) ∧ s0_1 < (s0_0.length : Int) := ⟨dA, dA⟩
  obtain ⟨ad253, e253, hx253_0⟩ := Kd.at_int HSz4_0 s0_1 p253 q253
  cases e253
  have hn253_0 : ad253.block ≠ g := Nat.ne_of_lt (Nat.lt_of_lt_of_le (by have := World.block_lt_of_cell? _ _ hx253_0; first | rwa [add_block] at this | exact this) (IsS138.ge HI0.out))
  replace hx253_0 := pw_cell_below HB.out hx253_0
  replace hx253_0 := (cell_far (p := ⟨g, 2, none⟩) (by first | (rw [add_block]; exact hn253_0) | (show (Addr.add _ _).block ≠ _; rw [add_block]; exact hn253_0) | exact hn253_0) (.int .i64 (wrap64 ((wrap64 (s0_2 * 6364136223846793005)) + 1442695040888963407)))).trans hx253_0
  (try have hy253_0 := fun (n_ : Nat) => (show (((w.drewN n_).setCell ⟨g, 2, none⟩ (.int .i64 (wrap64 ((wrap64 (s0_2 * 6364136223846793005)) + 1442695040888963407))))).cell? _ = some _ from hx253_0))
  clear hn253_0
  obtain ⟨p253, q253⟩ := eT p253 q253
  go_enter Try.func126, Try.ntmps126
  go_wp2
  repeat (go_quiet (fail); try go_wp2)
  go_ret
  exact ⟨rA, by exact sI1380 HI0.out, by exact sB1 HB.out (IsS138.ge HI0.out), by exact sK0 HK.out⟩
 rw [if_neg c2] at H
 have c2b0 := decide_eq_false c2
 clear c2
 simp only [Option.some.injEq, Prod.mk.injEq] at H
 obtain ⟨rfl, rfl, rfl⟩ := H
 obtain ⟨ASz5_0, cSz5_0, HGz5, hgz5, HSz5_0⟩ := HI0.out
 have hcz5_0 := cellS138_0 HGz5
 have hcz5_1 := cellS138_1 HGz5
 have hcz5_2 := cellS138_2 HGz5
 have hfz5_1 := blk_frozen HGz5 1
 have hfz5_2 := blk_frozen HGz5 2
 clear HGz5 hgz5
 go_enter Try.func126, Try.ntmps126
 go_wp2
 repeat (go_quiet (fail); try go_wp2)
 go_ret
 exact ⟨rA, by exact sI1380 HI0.out, by exact sB1 HB.out (IsS138.ge HI0.out), by exact sK0 HK.out⟩

/-! ### spec_l1Below: function 84 -/
def spec_l1Below.f (s0_0 : List Int) (s0_1 : Int) (s0_2 : Int) (a1 : Int) : Option (Int × Int × Int) := if a1 ≤ 0 then (some (0, s0_1, s0_2)) else (if a1 ≤ 256 then ((spec_l1Byte.f s0_0 s0_1 s0_2).bind fun bt254 => (if a1 = 0 then (none) else (some (Int.tmod bt254.1 a1, bt254.2.1, bt254.2.2)))) else ((spec_l1Byte.f s0_0 s0_1 s0_2).bind fun bt257 => ((spec_l1Byte.f s0_0 bt257.2.1 bt257.2.2).bind fun bt260 => ((spec_l1Byte.f s0_0 bt260.2.1 bt260.2.2).bind fun bt263 => (if a1 = 0 then (none) else (some (Int.tmod (wrap64 ((wrap64 ((wrap64 (bt257.1 * 65536)) + (wrap64 (bt260.1 * 256)))) + bt263.1)) a1, bt263.2.1, bt263.2.2)))))))
set_option maxHeartbeats 8000000 in
set_option maxRecDepth 100000 in
theorem spec_l1Below.calls (g : Nat) (s0_0 : List Int) (s0_1 : Int) (s0_2 : Int) (a1 : Int) (r1 : Int) (r2 : Int) (r3 : Int) (w0 w : World) (hI : IsS138 w0 w g s0_0 s0_1 s0_2) (hB : Below w0.heap.size w0 w) (h : spec_l1Below.f s0_0 s0_1 s0_2 a1 = some (r1, r2, r3)) :
  Calls Try.prog 84 #[.pointer (some ⟨g, 0, none⟩), .int .i64 a1] w fun e w' => e = .returned (.int .i64 r1) ∧ IsS138 w0 w' g s0_0 r2 r3 ∧ Below w0.heap.size w0 w' ∧ KeepBut w w' g none := by
 have HI0 := Aside0.mk hI
 have HK := Aside0.mk (KeepBut.refl w g none)
 have HL := Aside0.mk hB.size
 clear hI
 have HW0 := Aside0.mk hB.size
 have HB := Aside0.mk hB
 clear hB
 have H : (if a1 ≤ 0 then (some (0, s0_1, s0_2)) else (if a1 ≤ 256 then ((spec_l1Byte.f s0_0 s0_1 s0_2).bind fun bt254 => (if a1 = 0 then (none) else (some (Int.tmod bt254.1 a1, bt254.2.1, bt254.2.2)))) else ((spec_l1Byte.f s0_0 s0_1 s0_2).bind fun bt257 => ((spec_l1Byte.f s0_0 bt257.2.1 bt257.2.2).bind fun bt260 => ((spec_l1Byte.f s0_0 bt260.2.1 bt260.2.2).bind fun bt263 => (if a1 = 0 then (none) else (some (Int.tmod (wrap64 ((wrap64 ((wrap64 (bt257.1 * 65536)) + (wrap64 (bt260.1 * 256)))) + bt263.1)) a1, bt263.2.1, bt263.2.2)))))))) = some (r1, r2, r3) := h
 clear h
 by_cases c3 : a1 ≤ 0
 ·
  rw [if_pos c3] at H
  have c3b0 := decide_eq_true c3
  clear c3
  simp only [Option.some.injEq, Prod.mk.injEq] at H
  obtain ⟨rfl, rfl, rfl⟩ := H
  go_enter Try.func84, Try.ntmps84
  go_wp2
  go_ret
  exact ⟨rA, by exact sI1380 HI0.out, by exact sB1 HB.out (IsS138.ge HI0.out), by exact sK0 HK.out⟩
 rw [if_neg c3] at H
 have c3b0 := decide_eq_false c3
 clear c3
 by_cases c4 : a1 ≤ 256
 ·
  rw [if_pos c4] at H
  have c4b0 := decide_eq_true c4
  clear c4
  obtain ⟨⟨t254, t255, t256⟩, A5, H⟩ := bindE H
  try dsimp only at H
  have c6 : ¬ (a1 = 0) := ifN' H
  replace H := ifT' H
  have c6b0 : (a1 == 0) = false := beq_eq_false_iff_ne.mpr c6
  have c6b1 : (a1 != 0) = true := bne_iff_ne.mpr c6
  simp only [Option.some.injEq, Prod.mk.injEq] at H
  obtain ⟨rfl, rfl, rfl⟩ := H
  go_enter Try.func84, Try.ntmps84
  go_wp2_with (first | ((with_reducible refine gate_callee (f := 126) rfl ?_); refine gL (some 13) Try.func126 #[.pointer (some ⟨g, 0, none⟩)] ?_; (with_reducible refine (spec_l1Byte.calls g s0_0 s0_1 s0_2 t254 t255 t256 w0 _ ?_ ?_ A5.out).mono ?_); exact sI1380 HI0.out; exact sB1 HB.out (IsS138.ge HI0.out); rintro e w7 ⟨rfl, hi, hb, hk⟩; refine ⟨_, rfl, ?_⟩; replace HK := Aside0.mk (KeepBut.trans (by exact sK0 HK.out) hk (.inl rfl)); replace HB := Aside0.mk (hb); replace HI0 := Aside0.mk (hi); (try clear hb); (try clear hk); (try clear hi)))
  go_ret
  exact ⟨rA, by exact sI1380 HI0.out, by exact sB1 HB.out (IsS138.ge HI0.out), by exact sK0 HK.out⟩
 rw [if_neg c4] at H
 have c4b0 := decide_eq_false c4
 clear c4
 obtain ⟨⟨t257, t258, t259⟩, A8, H⟩ := bindE H
 try dsimp only at H
 obtain ⟨⟨t260, t261, t262⟩, A9, H⟩ := bindE H
 try dsimp only at H
 obtain ⟨⟨t263, t264, t265⟩, A10, H⟩ := bindE H
 try dsimp only at H
 have c11 : ¬ (a1 = 0) := ifN' H
 replace H := ifT' H
 have c11b0 : (a1 == 0) = false := beq_eq_false_iff_ne.mpr c11
 have c11b1 : (a1 != 0) = true := bne_iff_ne.mpr c11
 simp only [Option.some.injEq, Prod.mk.injEq] at H
 obtain ⟨rfl, rfl, rfl⟩ := H
 go_enter Try.func84, Try.ntmps84
 go_wp2_with (first | ((with_reducible refine gate_callee (f := 126) rfl ?_); refine gL (some 17) Try.func126 #[.pointer (some ⟨g, 0, none⟩)] ?_; (with_reducible refine (spec_l1Byte.calls g s0_0 s0_1 s0_2 t257 t258 t259 w0 _ ?_ ?_ A8.out).mono ?_); exact sI1380 HI0.out; exact sB1 HB.out (IsS138.ge HI0.out); rintro e w12 ⟨rfl, hi, hb, hk⟩; refine ⟨_, rfl, ?_⟩; replace HK := Aside0.mk (KeepBut.trans (by exact sK0 HK.out) hk (.inl rfl)); replace HB := Aside0.mk (hb); replace HI0 := Aside0.mk (hi); (try clear hb); (try clear hk); (try clear hi)) | ((with_reducible refine gate_callee (f := 126) rfl ?_); refine gL (some 19) Try.func126 #[.pointer (some ⟨g, 0, none⟩)] ?_; (with_reducible refine (spec_l1Byte.calls g s0_0 t258 t259 t260 t261 t262 w0 _ ?_ ?_ A9.out).mono ?_); exact sI1380 HI0.out; exact sB1 HB.out (IsS138.ge HI0.out); rintro e w13 ⟨rfl, hi, hb, hk⟩; refine ⟨_, rfl, ?_⟩; replace HK := Aside0.mk (KeepBut.trans (by exact sK0 HK.out) hk (.inl rfl)); replace HB := Aside0.mk (hb); replace HI0 := Aside0.mk (hi); (try clear hb); (try clear hk); (try clear hi)) | ((with_reducible refine gate_callee (f := 126) rfl ?_); refine gL (some 21) Try.func126 #[.pointer (some ⟨g, 0, none⟩)] ?_; (with_reducible refine (spec_l1Byte.calls g s0_0 t261 t262 t263 t264 t265 w0 _ ?_ ?_ A10.out).mono ?_); exact sI1380 HI0.out; exact sB1 HB.out (IsS138.ge HI0.out); rintro e w14 ⟨rfl, hi, hb, hk⟩; refine ⟨_, rfl, ?_⟩; replace HK := Aside0.mk (KeepBut.trans (by exact sK0 HK.out) hk (.inl rfl)); replace HB := Aside0.mk (hb); replace HI0 := Aside0.mk (hi); (try clear hb); (try clear hk); (try clear hi)))
 go_ret
 exact ⟨rA, by exact sI1380 HI0.out, by exact sB1 HB.out (IsS138.ge HI0.out), by exact sK0 HK.out⟩

/-! ### spec_l1Int: function 94 -/
def spec_l1Int.f (s0_0 : List Int) (s0_1 : Int) (s0_2 : Int) (l1 : List Int) : Option (Int × Int × Int) := (spec_l1Below.f s0_0 s0_1 s0_2 (l1.length : Int)).bind fun bt266 => (if 0 ≤ bt266.1 then (if bt266.1 < (l1.length : Int) then (some (rd l1 bt266.1, bt266.2.1, bt266.2.2)) else (none)) else (none))
set_option maxHeartbeats 8000000 in
set_option maxRecDepth 100000 in
theorem spec_l1Int.calls (g : Nat) (s0_0 : List Int) (s0_1 : Int) (s0_2 : Int) (A1 : Option Addr) (c1 : Nat) (l1 : List Int) (r1 : Int) (r2 : Int) (r3 : Int) (w0 w : World) (hI : IsS138 w0 w g s0_0 s0_1 s0_2) (hB : Below w0.heap.size w0 w) (hr1 : Kd.C (Kd.int .i64) w A1 l1.length l1) (hc1 : l1.length ≤ c1) (hf1 : ∀ ad, A1 = some ad → 0 < l1.length → ad.block ≠ g) (h : spec_l1Int.f s0_0 s0_1 s0_2 l1 = some (r1, r2, r3)) :
  Calls Try.prog 94 #[.pointer (some ⟨g, 0, none⟩), .slice A1 l1.length c1] w fun e w' => e = .returned (.int .i64 r1) ∧ IsS138 w0 w' g s0_0 r2 r3 ∧ Below w0.heap.size w0 w' ∧ KeepBut w w' g none := by
 have HR1 := Aside0.mk hr1
 have HC1 := Aside0.mk hc1
 clear hr1 hc1
 have HI0 := Aside0.mk hI
 have HK := Aside0.mk (KeepBut.refl w g none)
 have HL := Aside0.mk hB.size
 clear hI
 have HW0 := Aside0.mk hB.size
 have HB := Aside0.mk hB
 clear hB
 have H : ((spec_l1Below.f s0_0 s0_1 s0_2 (l1.length : Int)).bind fun bt266 => (if 0 ≤ bt266.1 then (if bt266.1 < (l1.length : Int) then (some (rd l1 bt266.1, bt266.2.1, bt266.2.2)) else (none)) else (none))) = some (r1, r2, r3) := h
 clear h
 obtain ⟨⟨t266, t267, t268⟩, A3, H⟩ := bindE H
 try dsimp only at H
 have c4 : 0 ≤ t266 := ifN H
 replace H := ifT H
 have c4b0 := decide_eq_true c4
 clear c4
 have c5 : t266 < (l1.length : Int) := ifN H
 replace H := ifT H
 have c5b0 := decide_eq_true c5
 clear c5
 simp only [Option.some.injEq, Prod.mk.injEq] at H
 obtain ⟨rfl, rfl, rfl⟩ := H
 go_enter Try.func94, Try.ntmps94
 go_wp2_with (first | ((with_reducible refine gate_callee (f := 84) rfl ?_); refine gL (some 9) Try.func84 #[.pointer (some ⟨g, 0, none⟩), .int .i64 (l1.length : Int)] ?_; (with_reducible refine (spec_l1Below.calls g s0_0 s0_1 s0_2 (l1.length : Int) t266 t267 t268 w0 _ ?_ ?_ A3.out).mono ?_); exact sI1380 HI0.out; exact sB1 HB.out (IsS138.ge HI0.out); rintro e w6 ⟨rfl, hi, hb, hk⟩; refine ⟨_, rfl, ?_⟩; replace HK := Aside0.mk (KeepBut.trans (by exact sK0 HK.out) hk (.inl rfl)); replace HB := Aside0.mk (hb); replace HI0 := Aside0.mk (hi); (try clear hb); (try clear hk); (try clear hi); have p269 : 0 ≤ (t266 : Int) := dA; have q269 : t266 < (l1.length : Int) := dA; obtain ⟨ad269, e269, hx269_0⟩ := Kd.at_int HR1.out t266 p269 q269; cases e269; replace hx269_0 := keep_cell HK.out hx269_0 (by first | (rw [add_block]; exact hf1 _ rfl (by omega)) | exact hf1 _ rfl (by omega) | exact hf1 ad269 rfl (by omega)); replace p269 := eq_true p269; replace q269 := eq_true q269))
 go_ret
 exact ⟨rA, by exact sI1380 HI0.out, by exact sB1 HB.out (IsS138.ge HI0.out), by exact sK0 HK.out⟩

/-! ### spec_l4Draw: function 174 -/
def spec_l4Draw.f (s0_0 : List Int) (s0_1 : Int) (s0_2 : Int) (a1 : Int) : Option (Int × Int × Int × Int × Int × Int) := (spec_l1Below.f s0_0 s0_1 s0_2 3).bind fun bt271 => ((spec_l1Below.f s0_0 bt271.2.1 bt271.2.2 4).bind fun bt274 => (if (wrap64 (1 + bt271.1)) = 2 then (some (a1, wrap64 (1 + bt271.1), bt274.1, bt274.1, bt274.2.1, bt274.2.2)) else ((spec_l1Below.f s0_0 bt274.2.1 bt274.2.2 3).bind fun bt278 => (some (a1, wrap64 (1 + bt271.1), bt274.1, Int.tmod (wrap64 ((wrap64 (bt274.1 + 1)) + bt278.1)) 4, bt278.2.1, bt278.2.2)))))
def spec_l4Draw.T4 : Bool × List (List Nat × List Nat) := (true, [([], []), ([0], [0]), ([1], [1]), ([], []), ([3], [3]), ([2, 4], [2, 4]), ([5], [5]), ([0, 1, 2, 3, 4, 5, 6], []), ([7, 6, 4, 0, 1, 2, 3, 4, 5, 6], [6, 7])])
def spec_l4Draw.B4 : List Nat := [0, 1, 3, 0, 8, 31, 63, 127, 255]
theorem spec_l4Draw.tab4 : rtab .any (opsOf Try.f174 4) = spec_l4Draw.T4 := by kernel_rfl
theorem spec_l4Draw.bits4 : waitsOk spec_l4Draw.T4.2 spec_l4Draw.B4 = true := by kernel_rfl
theorem gen_world {P : Program} {ops : Array Oper} {rest : List Oper} {o : Oper} {a : Act} {Q : Exit → Act → World → Prop} {W : World} (F : World → Prop) (hF : F W) (h : ∀ W', F W' → wpList P ops Q (o :: rest) a W') : wpList P ops Q (o :: rest) a W := h W hF
set_option maxHeartbeats 8000000 in
set_option maxRecDepth 100000 in
theorem spec_l4Draw.calls (g : Nat) (s0_0 : List Int) (s0_1 : Int) (s0_2 : Int) (a1 : Int) (r1 : Int) (r2 : Int) (r3 : Int) (r4 : Int) (r5 : Int) (r6 : Int) (w0 w : World) (hI : IsS138 w0 w g s0_0 s0_1 s0_2) (hB : Below w0.heap.size w0 w) (h : spec_l4Draw.f s0_0 s0_1 s0_2 a1 = some (r1, r2, r3, r4, r5, r6)) :
  Calls Try.prog 174 #[.pointer (some ⟨g, 0, none⟩), .int .i64 a1] w fun e w' => e = .returned (.agg #[.int .i64 r1, .int .i64 r2, .int .i64 r3, .int .i64 r4]) ∧ IsS138 w0 w' g s0_0 r5 r6 ∧ Below w0.heap.size w0 w' ∧ KeepBut w w' g none := by
 have hu50 := Try.underlying50
 have HI0 := Aside0.mk hI
 have HK := Aside0.mk (KeepBut.refl w g none)
 have HL := Aside0.mk hB.size
 clear hI
 have HW0 := Aside0.mk hB.size
 have HB := Aside0.mk hB
 clear hB
 have H : ((spec_l1Below.f s0_0 s0_1 s0_2 3).bind fun bt271 => ((spec_l1Below.f s0_0 bt271.2.1 bt271.2.2 4).bind fun bt274 => (if (wrap64 (1 + bt271.1)) = 2 then (some (a1, wrap64 (1 + bt271.1), bt274.1, bt274.1, bt274.2.1, bt274.2.2)) else ((spec_l1Below.f s0_0 bt274.2.1 bt274.2.2 3).bind fun bt278 => (some (a1, wrap64 (1 + bt271.1), bt274.1, Int.tmod (wrap64 ((wrap64 (bt274.1 + 1)) + bt278.1)) 4, bt278.2.1, bt278.2.2)))))) = some (r1, r2, r3, r4, r5, r6) := h
 clear h
 obtain ⟨⟨t271, t272, t273⟩, A3, H⟩ := bindE H
 try dsimp only at H
 obtain ⟨⟨t274, t275, t276⟩, A4, H⟩ := bindE H
 try dsimp only at H
 by_cases c5 : (wrap64 (1 + t271)) = 2
 ·
  rw [if_pos c5] at H
  have c5b0 : ((wrap64 (1 + t271)) == 2) = true := beq_iff_eq.mpr c5
  have c5b1 : ((wrap64 (1 + t271)) != 2) = false := bne_eq_false_iff_eq.mpr c5
  clear c5
  simp only [Option.some.injEq, Prod.mk.injEq] at H
  obtain ⟨rfl, rfl, rfl, rfl, rfl, rfl⟩ := H
  go_enter Try.func174, Try.ntmps174
  have TK_ := Aside0.mk trivial
  go_wp2_with (first | ((with_reducible refine gate_dst (N := 4) rfl ?_); refine bE (N := 4) (cs := #[.int .i64 0, .int .i64 0, .int .i64 0, .int .i64 0]) (t := 50) ?_; intro gb270 hg w6 hbox hb; have n0_ := Aside0.mk (IsS138.below (by exact sI1380 HI0.out) hb); have n1_ := Aside0.mk (KeepBut.trans (by exact sK0 HK.out) (KeepBut.of_below hb g none) (.inl rfl)); have n2_ := Aside0.mk (below_step (by exact sB1 HB.out (IsS138.ge HI0.out)) hb); have n3_ := Aside0.mk (hbox); have n4_ := Aside0.mk ((by rw [hg]; exact (keep_size (w := w) (g := g) (row := none) (by exact sK0 HK.out)) : w.heap.size ≤ gb270)); have n5_ := Aside0.mk ((Nat.le_trans HW0.out (by rw [hg]; exact (keep_size (w := w) (g := g) (row := none) (by exact sK0 HK.out)) : w.heap.size ≤ gb270) : w0.heap.size ≤ gb270)); have n6_ := Aside0.mk ((by rw [hg]; exact Nat.ne_of_lt (IsS138.lt (show IsS138 w0 _ g s0_0 s0_1 s0_2 from by exact sI1380 HI0.out)) : g ≠ gb270)); have n7_ := Aside0.mk ((by rw [hg]; exact Nat.ne_of_gt (IsS138.lt (show IsS138 w0 _ g s0_0 s0_1 s0_2 from by exact sI1380 HI0.out)) : gb270 ≠ g)); clear HI0; clear HK; clear HB; have HI0 := n0_; have HK := n1_; have HB := n2_; have BK270 := n3_; have GW270 := n4_; have GE270 := n5_; have NB0_270 := n6_; have NB270_0 := n7_; clear n0_ n1_ n2_ n3_ n4_ n5_ n6_ n7_; clear hb hbox hg) | ((with_reducible refine gate_callee (f := 84) rfl ?_); refine gL (some 8) Try.func84 #[.pointer (some ⟨g, 0, none⟩), .int .i64 3] ?_; (with_reducible refine (spec_l1Below.calls g s0_0 s0_1 s0_2 3 t271 t272 t273 w0 _ ?_ ?_ A3.out).mono ?_); exact sI1381 HI0.out NB0_270.out; exact sB2 HB.out (IsS138.ge HI0.out) GE270.out; rintro e w7 ⟨rfl, hi, hb, hk⟩; refine ⟨_, rfl, ?_⟩; replace BK270 := Aside0.mk (KeepBut.blk hk (g' := gb270) (o := .cells #[.int .i64 0, .int .i64 0, .int .i64 0, .int .i64 0] 50 (0, 0)) (bK BK270) NB270_0.out (by simp)); replace HK := Aside0.mk (KeepBut.trans (by exact sK1 HK.out GW270.out) hk (.inl rfl)); replace HB := Aside0.mk (hb); replace HI0 := Aside0.mk (hi); (try clear hb); (try clear hk); (try clear hi)) | ((with_reducible refine gate_callee (f := 84) rfl ?_); refine gL (some 11) Try.func84 #[.pointer (some ⟨g, 0, none⟩), .int .i64 4] ?_; (with_reducible refine (spec_l1Below.calls g s0_0 t272 t273 4 t274 t275 t276 w0 _ ?_ ?_ A4.out).mono ?_); exact sI1381 HI0.out NB0_270.out; exact sB2 HB.out (IsS138.ge HI0.out) GE270.out; rintro e w8 ⟨rfl, hi, hb, hk⟩; refine ⟨_, rfl, ?_⟩; replace BK270 := Aside0.mk (KeepBut.blk hk (g' := gb270) (o := .cells #[.int .i64 0, .int .i64 0, .int .i64 0, .int .i64 0] 50 (0, 0)) (bK BK270) NB270_0.out (by simp)); replace HK := Aside0.mk (KeepBut.trans (by exact sK1 HK.out GW270.out) hk (.inl rfl)); replace HB := Aside0.mk (hb); replace HI0 := Aside0.mk (hi); (try clear hb); (try clear hk); (try clear hi)) | ((with_reducible refine gate_dst (N := 5) rfl ?_); refine bE (N := 5) (cs := #[.int .i64 0, .int .i64 0, .int .i64 0, .int .i64 0]) (t := 50) ?_; intro gb277 hg w9 hbox hb; have n0_ := Aside0.mk (IsS138.below (by exact sI1381 HI0.out NB0_270.out) hb); have n1_ := kb BK270 hb; have n2_ := Aside0.mk (KeepBut.trans (by exact sK1 HK.out GW270.out) (KeepBut.of_below hb g none) (.inl rfl)); have n3_ := Aside0.mk (below_step (by exact sB2 HB.out (IsS138.ge HI0.out) GE270.out) hb); have n4_ := Aside0.mk (hbox); have n5_ := Aside0.mk ((by rw [hg]; exact (keep_size (w := w) (g := g) (row := none) (by exact sK1 HK.out GW270.out)) : w.heap.size ≤ gb277)); have n6_ := Aside0.mk ((Nat.le_trans HW0.out (by rw [hg]; exact (keep_size (w := w) (g := g) (row := none) (by exact sK1 HK.out GW270.out)) : w.heap.size ≤ gb277) : w0.heap.size ≤ gb277)); have n7_ := nl BK270 hg; have n8_ := nr BK270 hg; have n9_ := Aside0.mk ((by rw [hg]; exact Nat.ne_of_lt (IsS138.lt (show IsS138 w0 _ g s0_0 t275 t276 from by exact sI1381 HI0.out NB0_270.out)) : g ≠ gb277)); have n10_ := Aside0.mk ((by rw [hg]; exact Nat.ne_of_gt (IsS138.lt (show IsS138 w0 _ g s0_0 t275 t276 from by exact sI1381 HI0.out NB0_270.out)) : gb277 ≠ g)); clear HI0; clear BK270; clear HK; clear HB; have HI0 := n0_; have BK270 := n1_; have HK := n2_; have HB := n3_; have BK277 := n4_; have GW277 := n5_; have GE277 := n6_; have NB270_277 := n7_; have NB277_270 := n8_; have NB0_277 := n9_; have NB277_0 := n10_; clear n0_ n1_ n2_ n3_ n4_ n5_ n6_ n7_ n8_ n9_ n10_; clear hb hbox hg; have hnb10 := NB277_270.out; have hnc10 := NB270_277.out; have hnb11 := NB277_0.out; have hnc11 := NB0_277.out; obtain ⟨_, _, _, _, _, _, _, _⟩ := blkc4 BK277; have hnb13 := NB270_0.out; have hnc13 := NB0_270.out; obtain ⟨_, _, _, _, _, _, _, _⟩ := blkc4 BK270) | ((with_reducible refine gate_dst (N := 27) rfl ?_); clear TK_; refine gen_world (fun W_ => (W_.heap[gb270]? = some (.cells #[.int .i64 0, .int .i64 0, .int .i64 0, .int .i64 0] 50 (0, 0))) ∧ (W_.heap[gb277]? = some (.cells #[.int .i64 a1, .int .i64 (wrap64 (1 + t271)), .int .i64 t274, .int .i64 t274] 50 (0, 0))) ∧ (IsS138 w0 W_ g s0_0 t275 t276) ∧ (KeepBut w W_ g none) ∧ (Below w0.heap.size w0 W_)) ⟨(kf BK270 NB270_277), (kp BK277), (by exact sI1382 HI0.out NB0_270.out NB0_277.out), (by exact sK2 HK.out GW270.out GW277.out), (by exact sB3 HB.out (IsS138.ge HI0.out) GE270.out GE277.out)⟩ ?_; rintro wz ⟨n0_, n1_, n2_, n3_, n4_⟩; (try clear BK270); (try clear BK277); (try clear HI0); (try clear HK); (try clear HB); have BK270 := Aside0.mk n0_; have BK277 := Aside0.mk n1_; have HI0 := Aside0.mk n2_; have HK := Aside0.mk n3_; have HB := Aside0.mk n4_; clear n0_ n1_ n2_ n3_ n4_; obtain ⟨hcy0, hcy1, hcy2, hcy3, hfy0, hfy1, hfy2, hfy3⟩ := blkc4 BK277; obtain ⟨hcx0, hcx1, hcx2, hcx3, hfx0, hfx1, hfx2, hfx3⟩ := blkc4 BK270))
  refine bodyPost_ret (results_cell_row rfl _ _ gb270 50 #[.int .i64 a1, .int .i64 (wrap64 (1 + t271)), .int .i64 t274, .int .i64 t274] (0, 0) _ rfl (kp BK270) Try.underlying50 rfl (by kernel_rfl)) rfl ?_
  exact ⟨rA, by exact sI1382 HI0.out NB0_270.out NB0_277.out, by exact sB3 HB.out (IsS138.ge HI0.out) GE270.out GE277.out, by exact sK2 HK.out GW270.out GW277.out⟩
 rw [if_neg c5] at H
 have c5b0 : ((wrap64 (1 + t271)) == 2) = false := beq_eq_false_iff_ne.mpr c5
 have c5b1 : ((wrap64 (1 + t271)) != 2) = true := bne_iff_ne.mpr c5
 obtain ⟨⟨t278, t279, t280⟩, A15, H⟩ := bindE H
 try dsimp only at H
 simp only [Option.some.injEq, Prod.mk.injEq] at H
 obtain ⟨rfl, rfl, rfl, rfl, rfl, rfl⟩ := H
 go_enter Try.func174, Try.ntmps174
 try go_wp2_with (first | ((with_reducible refine gate_dst (N := 4) rfl ?_); refine bE (N := 4) (cs := #[.int .i64 0, .int .i64 0, .int .i64 0, .int .i64 0]) (t := 50) ?_; intro gb270 hg w16 hbox hb; have n0_ := Aside0.mk (IsS138.below (by exact sI1380 HI0.out) hb); have n1_ := Aside0.mk (KeepBut.trans (by exact sK0 HK.out) (KeepBut.of_below hb g none) (.inl rfl)); have n2_ := Aside0.mk (below_step (by exact sB1 HB.out (IsS138.ge HI0.out)) hb); have n3_ := Aside0.mk (hbox); have n4_ := Aside0.mk ((by rw [hg]; exact (keep_size (w := w) (g := g) (row := none) (by exact sK0 HK.out)) : w.heap.size ≤ gb270)); have n5_ := Aside0.mk ((Nat.le_trans HW0.out (by rw [hg]; exact (keep_size (w := w) (g := g) (row := none) (by exact sK0 HK.out)) : w.heap.size ≤ gb270) : w0.heap.size ≤ gb270)); have n6_ := Aside0.mk ((by rw [hg]; exact Nat.ne_of_lt (IsS138.lt (show IsS138 w0 _ g s0_0 s0_1 s0_2 from by exact sI1380 HI0.out)) : g ≠ gb270)); have n7_ := Aside0.mk ((by rw [hg]; exact Nat.ne_of_gt (IsS138.lt (show IsS138 w0 _ g s0_0 s0_1 s0_2 from by exact sI1380 HI0.out)) : gb270 ≠ g)); clear HI0; clear HK; clear HB; have HI0 := n0_; have HK := n1_; have HB := n2_; have BK270 := n3_; have GW270 := n4_; have GE270 := n5_; have NB0_270 := n6_; have NB270_0 := n7_; clear n0_ n1_ n2_ n3_ n4_ n5_ n6_ n7_; clear hb hbox hg) | ((with_reducible refine gate_callee (f := 84) rfl ?_); refine gL (some 8) Try.func84 #[.pointer (some ⟨g, 0, none⟩), .int .i64 3] ?_; (with_reducible refine (spec_l1Below.calls g s0_0 s0_1 s0_2 3 t271 t272 t273 w0 _ ?_ ?_ A3.out).mono ?_); exact sI1381 HI0.out NB0_270.out; exact sB2 HB.out (IsS138.ge HI0.out) GE270.out; rintro e w17 ⟨rfl, hi, hb, hk⟩; refine ⟨_, rfl, ?_⟩; replace BK270 := Aside0.mk (KeepBut.blk hk (g' := gb270) (o := .cells #[.int .i64 0, .int .i64 0, .int .i64 0, .int .i64 0] 50 (0, 0)) (bK BK270) NB270_0.out (by simp)); replace HK := Aside0.mk (KeepBut.trans (by exact sK1 HK.out GW270.out) hk (.inl rfl)); replace HB := Aside0.mk (hb); replace HI0 := Aside0.mk (hi); (try clear hb); (try clear hk); (try clear hi)) | ((with_reducible refine gate_callee (f := 84) rfl ?_); refine gL (some 11) Try.func84 #[.pointer (some ⟨g, 0, none⟩), .int .i64 4] ?_; (with_reducible refine (spec_l1Below.calls g s0_0 t272 t273 4 t274 t275 t276 w0 _ ?_ ?_ A4.out).mono ?_); exact sI1381 HI0.out NB0_270.out; exact sB2 HB.out (IsS138.ge HI0.out) GE270.out; rintro e w18 ⟨rfl, hi, hb, hk⟩; refine ⟨_, rfl, ?_⟩; replace BK270 := Aside0.mk (KeepBut.blk hk (g' := gb270) (o := .cells #[.int .i64 0, .int .i64 0, .int .i64 0, .int .i64 0] 50 (0, 0)) (bK BK270) NB270_0.out (by simp)); replace HK := Aside0.mk (KeepBut.trans (by exact sK1 HK.out GW270.out) hk (.inl rfl)); replace HB := Aside0.mk (hb); replace HI0 := Aside0.mk (hi); (try clear hb); (try clear hk); (try clear hi)) | ((with_reducible refine gate_dst (N := 5) rfl ?_); refine bE (N := 5) (cs := #[.int .i64 0, .int .i64 0, .int .i64 0, .int .i64 0]) (t := 50) ?_; intro gb277 hg w19 hbox hb; have n0_ := Aside0.mk (IsS138.below (by exact sI1381 HI0.out NB0_270.out) hb); have n1_ := kb BK270 hb; have n2_ := Aside0.mk (KeepBut.trans (by exact sK1 HK.out GW270.out) (KeepBut.of_below hb g none) (.inl rfl)); have n3_ := Aside0.mk (below_step (by exact sB2 HB.out (IsS138.ge HI0.out) GE270.out) hb); have n4_ := Aside0.mk (hbox); have n5_ := Aside0.mk ((by rw [hg]; exact (keep_size (w := w) (g := g) (row := none) (by exact sK1 HK.out GW270.out)) : w.heap.size ≤ gb277)); have n6_ := Aside0.mk ((Nat.le_trans HW0.out (by rw [hg]; exact (keep_size (w := w) (g := g) (row := none) (by exact sK1 HK.out GW270.out)) : w.heap.size ≤ gb277) : w0.heap.size ≤ gb277)); have n7_ := nl BK270 hg; have n8_ := nr BK270 hg; have n9_ := Aside0.mk ((by rw [hg]; exact Nat.ne_of_lt (IsS138.lt (show IsS138 w0 _ g s0_0 t275 t276 from by exact sI1381 HI0.out NB0_270.out)) : g ≠ gb277)); have n10_ := Aside0.mk ((by rw [hg]; exact Nat.ne_of_gt (IsS138.lt (show IsS138 w0 _ g s0_0 t275 t276 from by exact sI1381 HI0.out NB0_270.out)) : gb277 ≠ g)); clear HI0; clear BK270; clear HK; clear HB; have HI0 := n0_; have BK270 := n1_; have HK := n2_; have HB := n3_; have BK277 := n4_; have GW277 := n5_; have GE277 := n6_; have NB270_277 := n7_; have NB277_270 := n8_; have NB0_277 := n9_; have NB277_0 := n10_; clear n0_ n1_ n2_ n3_ n4_ n5_ n6_ n7_ n8_ n9_ n10_; clear hb hbox hg; have hnb20 := NB277_270.out; have hnc20 := NB270_277.out; have hnb21 := NB277_0.out; have hnc21 := NB0_277.out; obtain ⟨_, _, _, _, _, _, _, _⟩ := blkc4 BK277))
 have n0_ : Aside0 ((((((w19.setCell ⟨gb277, 0, none⟩ (.int .i64 a1)).setCell ⟨gb277, 1, none⟩ (.int .i64 (wrap64 (1 + t271)))).setCell ⟨gb277, 2, none⟩ (.int .i64 t274)).setCell ⟨gb277, 3, none⟩ (.int .i64 0)).setCell ⟨gb277, 3, none⟩ (.int .i64 t274)).heap[gb270]? = some (.cells #[.int .i64 0, .int .i64 0, .int .i64 0, .int .i64 0] 50 (0, 0))) := ⟨kf BK270 NB270_277⟩
 have n1_ : Aside0 ((((((w19.setCell ⟨gb277, 0, none⟩ (.int .i64 a1)).setCell ⟨gb277, 1, none⟩ (.int .i64 (wrap64 (1 + t271)))).setCell ⟨gb277, 2, none⟩ (.int .i64 t274)).setCell ⟨gb277, 3, none⟩ (.int .i64 0)).setCell ⟨gb277, 3, none⟩ (.int .i64 t274)).heap[gb277]? = some (.cells #[.int .i64 a1, .int .i64 (wrap64 (1 + t271)), .int .i64 t274, .int .i64 t274] 50 (0, 0))) := ⟨kp BK277⟩
 have n2_ : Aside0 (IsS138 w0 (((((w19.setCell ⟨gb277, 0, none⟩ (.int .i64 a1)).setCell ⟨gb277, 1, none⟩ (.int .i64 (wrap64 (1 + t271)))).setCell ⟨gb277, 2, none⟩ (.int .i64 t274)).setCell ⟨gb277, 3, none⟩ (.int .i64 0)).setCell ⟨gb277, 3, none⟩ (.int .i64 t274)) g s0_0 t275 t276) := ⟨by exact sI1382 HI0.out NB0_270.out NB0_277.out⟩
 have n3_ : Aside0 (KeepBut w (((((w19.setCell ⟨gb277, 0, none⟩ (.int .i64 a1)).setCell ⟨gb277, 1, none⟩ (.int .i64 (wrap64 (1 + t271)))).setCell ⟨gb277, 2, none⟩ (.int .i64 t274)).setCell ⟨gb277, 3, none⟩ (.int .i64 0)).setCell ⟨gb277, 3, none⟩ (.int .i64 t274)) g none) := ⟨by exact sK2 HK.out GW270.out GW277.out⟩
 have n4_ : Aside0 (Below w0.heap.size w0 (((((w19.setCell ⟨gb277, 0, none⟩ (.int .i64 a1)).setCell ⟨gb277, 1, none⟩ (.int .i64 (wrap64 (1 + t271)))).setCell ⟨gb277, 2, none⟩ (.int .i64 t274)).setCell ⟨gb277, 3, none⟩ (.int .i64 0)).setCell ⟨gb277, 3, none⟩ (.int .i64 t274))) := ⟨by exact sB3 HB.out (IsS138.ge HI0.out) GE270.out GE277.out⟩
 (try clear BK270)
 (try clear BK277)
 (try clear HI0)
 (try clear HK)
 (try clear HB)
 generalize (((((w19.setCell ⟨gb277, 0, none⟩ (.int .i64 a1)).setCell ⟨gb277, 1, none⟩ (.int .i64 (wrap64 (1 + t271)))).setCell ⟨gb277, 2, none⟩ (.int .i64 t274)).setCell ⟨gb277, 3, none⟩ (.int .i64 0)).setCell ⟨gb277, 3, none⟩ (.int .i64 t274)) = w23 at n0_ n1_ n2_ n3_ n4_ ⊢
 have BK270 := n0_
 have BK277 := n1_
 have HI0 := n2_
 have HK := n3_
 have HB := n4_
 clear n0_ n1_ n2_ n3_ n4_
 replace BK270 := dk BK270
 replace BK277 := dk BK277
 replace HI0 := Aside0.mk (IsS138.drew HI0.out)
 replace HK := Aside0.mk (keep_drew HK.out)
 have HBo := HB
 replace HB := db HB
 refine sw (ds := [8]) 9 (mb 9 0) spec_l4Draw.tab4 spec_l4Draw.bits4 (h4 BK277) (fun hHeld HT_ HW_ => ?_)
 generalize w23.drew = w24 at BK270 BK277 HI0 HK HB hHeld ⊢
 refine pa 0 19 (mb 9 1) HT_ ?_
 refine pa 3 22 (mb 9 9) HT_ ?_
 refine ta4 1 20 (mb 9 11) HT_ HW_ hHeld ?_
 refine pa 2 21 (mb 9 15) HT_ ?_
 refine oa 4 23 (mb 9 31) HT_ (fun K hK => ?_)
 refine gA Try.func84 #[.pointer (some ⟨g, 0, none⟩), .int .i64 3] ?_
 with_reducible refine (spec_l1Below.calls g s0_0 t275 t276 3 t278 t279 t280 w0 _ ?side1 ?side2 A15.out).mono ?_
 (case side1 => exact sI1382 HI0.out NB0_270.out NB0_277.out)
 (case side2 => exact sB3 HB.out (IsS138.ge HI0.out) GE270.out GE277.out)
 rintro e w25 ⟨rfl, hi, hb, hk⟩
 refine ⟨_, rfl, ?_⟩
 replace BK270 := Aside0.mk (KeepBut.blk hk (g' := gb270) (o := .cells #[.int .i64 0, .int .i64 0, .int .i64 0, .int .i64 0] 50 (0, 0)) (bK BK270) NB270_0.out (by simp))
 replace BK277 := Aside0.mk (KeepBut.blk hk (g' := gb277) (o := .cells #[.int .i64 a1, .int .i64 (wrap64 (1 + t271)), .int .i64 t274, .int .i64 t274] 50 (0, 0)) (bK BK277) NB277_0.out (by simp))
 replace HK := Aside0.mk (KeepBut.trans (by exact sK2 HK.out GW270.out GW277.out) hk (.inl rfl))
 replace HB := Aside0.mk (hb)
 replace HI0 := Aside0.mk (hi)
 (try clear hb)
 (try clear hb2)
 (try clear hk)
 (try clear hi)
 refine hK.out _ _ (cn4 BK277) (fun hHeld => ?_)
 clear hK K
 refine nB ?_
 refine pa 5 24 (mb 9 63) HT_ ?_
 refine pa 6 25 (mb 9 127) HT_ ?_
 refine pa 7 26 (mb 9 255) HT_ ?_
 refine last_ (i := 8) (N := none) (mb 9 511) rfl rfl (one_of HT_.out (by kernel_rfl)) (by decide) (fun K hK => ?_)
 have hs26 : w25.cell? ⟨gb277, 3, none⟩ = some (.int .i64 t274) := bC BK277 3
 have hfs26 := blk_frozen BK277.out 3
 have hns26_0 := NB270_277.out
 have hms26_0 := NB277_270.out
 refine skip_ (w1 := ?_) (by rfl) rfl ?_ ?_
 rotate_left
 ·
  go_simp
  rfl
 refine hK.out _ _ ?_
 clear hK K
 refine eA HT_ ?_
 obtain ⟨_, _, _, _, _, _, _, _⟩ := blkc4 BK277
 have hnb28 := NB270_0.out
 have hnc28 := NB0_270.out
 obtain ⟨_, _, _, _, _, _, _, _⟩ := blkc4 BK270
 try go_wp2
 refine bodyPost_ret (results_cell_row rfl _ _ gb270 50 #[.int .i64 a1, .int .i64 (wrap64 (1 + t271)), .int .i64 t274, .int .i64 (Int.tmod (wrap64 ((wrap64 (t274 + 1)) + t278)) 4)] (0, 0) _ rfl (kP BK270 NB270_277) Try.underlying50 rfl (by kernel_rfl)) rfl ?_
 exact ⟨rA, by exact sI1382 HI0.out NB0_270.out NB0_277.out, by exact sB3 HB.out (IsS138.ge HI0.out) GE270.out GE277.out, by exact sK2 HK.out GW270.out GW277.out⟩

/-! ### spec_l5Draw: function 150 -/
def spec_l5Draw.l0 : Nat → List (S50) → Int → List Int → Int → Int → Option ((List (S50)) × Int × Int)
 | 0, _, _, _, _, _ => none
 | k + 1, x3, x4, x1000, x1001, x1002 => (spec_l1Below.f x1000 x1001 x1002 6).bind fun bt284 => (if x4 ≤ (wrap64 (2 + bt284.1)) then ((spec_l4Draw.f x1000 bt284.2.1 bt284.2.2 x4).bind fun bt287 => (if x3.length < 4398046511104 then (spec_l5Draw.l0 k (x3 ++ [(⟨bt287.1, bt287.2.1, bt287.2.2.1, bt287.2.2.2.1⟩ : S50)]) (wrap64 (x4 + 1)) x1000 bt287.2.2.2.2.1 bt287.2.2.2.2.2) else (none))) else (some (x3, bt284.2.1, bt284.2.2)))
def spec_l5Draw.f (k : Nat) (s0_0 : List Int) (s0_1 : Int) (s0_2 : Int) : Option ((List (S50)) × Int × Int) := spec_l5Draw.l0 k (([] : List (S50))) 1 s0_0 s0_1 s0_2
theorem spec_l5Draw.mono_l : ∀ k, (∀ y0 y1 y2 y3 y4, LeO (spec_l5Draw.l0 k y0 y1 y2 y3 y4) (spec_l5Draw.l0 (k + 1) y0 y1 y2 y3 y4))
 | 0 => fun _ _ _ _ _ r h => by simp [spec_l5Draw.l0] at h
 | k + 1 => by
  have ih0 := spec_l5Draw.mono_l k
  ·
   intro y0 y1 y2 y3 y4
   unfold spec_l5Draw.l0
   exact mz1 ih0
theorem spec_l5Draw.mono : ∀ a0 a1 a2 k, LeO (spec_l5Draw.f k a0 a1 a2) (spec_l5Draw.f (k + 1) a0 a1 a2) := by
 intro a0 a1 a2 k
 have ih0 := spec_l5Draw.mono_l k
 unfold spec_l5Draw.f
 exact mz1 ih0
set_option maxHeartbeats 8000000 in
set_option maxRecDepth 100000 in
theorem spec_l5Draw.calls (k : Nat) (g : Nat) (s0_0 : List Int) (s0_1 : Int) (s0_2 : Int) (r1 : List (S50)) (r2 : Int) (r3 : Int) (w0 w : World) (hI : IsS138 w0 w g s0_0 s0_1 s0_2) (hB : Below w0.heap.size w0 w) (h : spec_l5Draw.f k s0_0 s0_1 s0_2 = some (r1, r2, r3)) :
  Calls Try.prog 150 #[.pointer (some ⟨g, 0, none⟩)] w fun e w' => ∃ v0_ : Value, e = .returned (v0_) ∧ Kd.R k50 50 w' w.heap.size (fun _ => True) v0_ r1 ∧ IsS138 w0 w' g s0_0 r2 r3 ∧ Below w0.heap.size w0 w' ∧ KeepBut w w' g none := by
 have HI0 := Aside0.mk hI
 have HK := Aside0.mk (KeepBut.refl w g none)
 have HL := Aside0.mk hB.size
 clear hI
 have HW0 := Aside0.mk hB.size
 have HB := Aside0.mk hB
 clear hB
 have H : (spec_l5Draw.l0 k (([] : List (S50))) 1 s0_0 s0_1 s0_2) = some (r1, r2, r3) := h
 clear h
 obtain ⟨y281, hy281⟩ : ∃ y_ : List (S50), y_ = (([] : List (S50))) := ⟨_, rfl⟩
 replace H : (spec_l5Draw.l0 k y281 1 s0_0 s0_1 s0_2) = some (r1, r2, r3) := rH H hy281
 have Ny281 := Aside0.mk hy281
 clear hy281
 have H' := Aside0.mk H
 clear H
 go_enter Try.func150, Try.ntmps150
 go_wp2_with (first | ((with_reducible refine gate_dst (N := 5) rfl ?_); refine Kd.R_lit k50 _ 50 ?hg (N := 5) ?hd (xs := ([] : List (S50))) (inner := []) (ok := fun _ => True) (okp := fun _ => True) ?hr ?hp (fun _ hk => hk) trivial (Below.refl _ _) (Nat.le_refl _) (by simp) ?_; (case hd => rfl); (case hg => rfl); (case hr => first | (go_simp; done) | (go_simp; rfl)); (case hp => exact (Reps.none _ _)); intro v282 w2 ho3 hb hg_ hnew_; clear hg_ hnew_; (first | rw [← Ny281.out] at ho3 | (simp only [Int.reduceToNat] at ho3; rw [← Ny281.out] at ho3)); have HO283 := Aside0.mk (Kd.R_lower ho3 (keep_size (w := w) (g := g) (row := none) (by exact sK0 HK.out))); replace HK := Aside0.mk (KeepBut.trans (by exact sK0 HK.out) (KeepBut.of_below hb g none) (.inl rfl)); replace HB := Aside0.mk (below_step (by exact sB1 HB.out (IsS138.ge HI0.out)) hb); replace HI0 := Aside0.mk (IsS138.below (by exact sI1380 HI0.out) hb); clear hb ho3))
 go_loopg [3, 4] k (fun kq v3 v4 w' => ∃ (x3_1 : List (S50)) (x4_1 : Int) (x1001_1 : Int) (x1002_1 : Int), v4 = .int .i64 x4_1 ∧ Aside0 (spec_l5Draw.l0 kq x3_1 x4_1 s0_0 x1001_1 x1002_1 = some (r1, r2, r3)) ∧ Aside0 (kq ≤ k) ∧ Aside0 (Kd.R k50 50 w' w.heap.size (fun _ => True) v3 x3_1) ∧ Aside0 (IsS138 w0 w' g s0_0 x1001_1 x1002_1) ∧ Aside0 (KeepBut w w' g none) ∧ Aside0 (Below w0.heap.size w0 w'))
 case atStart => exact ⟨(y281), (1), (s0_1), (s0_2), rS, H', ⟨Nat.le_refl _⟩, ⟨rK HO283⟩, ⟨by exact sI1380 HI0.out⟩, ⟨by exact sK0 HK.out⟩, ⟨by exact sB1 HB.out (IsS138.ge HI0.out)⟩⟩
 case round =>
  clear H'
  obtain ⟨x3_1, x4_1, x1001_1, x1002_1, rfl, HA, HK1, HO_3, HI0, HK, HB⟩ := hrel
  cases gk with
  | zero => exact absurd HA.out (by simp [spec_l5Draw.l0])
  | succ k1 =>
   have H := HA.out
   clear HA
   simp only [spec_l5Draw.l0] at H
   obtain ⟨⟨t284, t285, t286⟩, A4, H⟩ := bindE H
   try dsimp only at H
   by_cases c5 : x4_1 ≤ (wrap64 (2 + t284))
   ·
    rw [if_pos c5] at H
    have c5b0 := decide_eq_true c5
    clear c5
    obtain ⟨⟨t287, t288, t289, t290, t291, t292⟩, A6, H⟩ := bindE H
    try dsimp only at H
    have c7 : x3_1.length < 4398046511104 := ifN H
    replace H := ifT H
    have LMc7 := Aside0.mk c7
    clear c7
    obtain ⟨y293, hy293⟩ : ∃ y_ : List (S50), y_ = (x3_1 ++ [(⟨t287, t288, t289, t290⟩ : S50)]) := ⟨_, rfl⟩
    replace H : (spec_l5Draw.l0 k1 y293 (wrap64 (x4_1 + 1)) s0_0 t291 t292) = some (r1, r2, r3) := rH H hy293
    have Ny293 := Aside0.mk hy293
    clear hy293
    have H' := Aside0.mk H
    clear H
    go_wp2_with (first | ((with_reducible refine gate_callee (f := 84) rfl ?_); refine gL (some 8) Try.func84 #[.pointer (some ⟨g, 0, none⟩), .int .i64 6] ?_; (with_reducible refine (spec_l1Below.calls g s0_0 x1001_1 x1002_1 6 t284 t285 t286 w0 _ ?_ ?_ A4.out).mono ?_); exact sI1380 HI0.out; exact sB1 HB.out (IsS138.ge HI0.out); rintro e w8 ⟨rfl, hi, hb, hk⟩; refine ⟨_, rfl, ?_⟩; replace HO_3 := Aside0.mk (Kd.R_mono (Kd.R_keep (IsS138.apart (show IsS138 w0 _ g s0_0 x1001_1 x1002_1 from by exact sI1380 HI0.out) (rK HO_3) (by decide)) hk (fun _ h => h.2)) (fun _ h => h.1)); replace HK := Aside0.mk (KeepBut.trans (by exact sK0 HK.out) hk (.inl rfl)); replace HB := Aside0.mk (hb); replace HI0 := Aside0.mk (hi); (try clear hb); (try clear hk); (try clear hi)) | ((with_reducible refine gate_callee (f := 174) rfl ?_); refine gL (some 16) Try.func174 #[.pointer (some ⟨g, 0, none⟩), .int .i64 x4_1] ?_; (with_reducible refine (spec_l4Draw.calls g s0_0 t285 t286 x4_1 t287 t288 t289 t290 t291 t292 w0 _ ?_ ?_ A6.out).mono ?_); exact sI1380 HI0.out; exact sB1 HB.out (IsS138.ge HI0.out); rintro e w9 ⟨rfl, hi, hb, hk⟩; refine ⟨_, rfl, ?_⟩; replace HO_3 := Aside0.mk (Kd.R_mono (Kd.R_keep (IsS138.apart (show IsS138 w0 _ g s0_0 t285 t286 from by exact sI1380 HI0.out) (rK HO_3) (by decide)) hk (fun _ h => h.2)) (fun _ h => h.1)); replace HK := Aside0.mk (KeepBut.trans (by exact sK0 HK.out) hk (.inl rfl)); replace HB := Aside0.mk (hb); replace HI0 := Aside0.mk (hi); (try clear hb); (try clear hk); (try clear hi)) | ((with_reducible refine gate_builtin (b := .append) (xs := #[.tmp 13, .tmp 17]) rfl ?_); at_builtin; refine Kd.R_append k50 w.heap.size rfl (.tmp 13) (.tmp 17) 24 50 (.agg #[(.int .i64 0), (.int .i64 0), (.int .i64 0), (.int .i64 0)]) 32 rfl Try.underlying24 info50 rfl (by decide) (by omega) u3 x3_1 (⟨t287, t288, t289, t290⟩ : S50) [.int .i64 t287, .int .i64 t288, .int .i64 t289, .int .i64 t290] (fun _ => True) (fun _ => False) rfl rfl ?aP (fun _ hk => hk.elim) ?aF ?aO (Below.refl _ _) ?aS ?aL ?_; (case aP => exact k50_mkM _ _ _ (⟨t287, t288, t289, t290⟩ : S50)); (case aF => exact (fun _ _ => trivial)); (case aO => exact (rK HO_3)); (case aS => exact (keep_size (w := w) (g := g) (row := none) (by exact sK0 HK.out))); (case aL => have := LMc7.out; omega); intro v294 w10 ho hb hg hat; rw [← Ny293.out] at ho; have n0_ := Aside0.mk (IsS138.grown (by exact sI1380 HI0.out) hg (IsS138.own_ne HI0.out HO_3.out (by decide))); have n1_ := Aside0.mk (below_weaken (by exact sB1 HB.out (IsS138.ge HI0.out)) HL.out hb); have n2_ := Aside0.mk (KeepBut.trans (by exact sK0 HK.out) (KeepBut.of_grown hg g) (Kd.R_base2 HO_3.out)); have n3_ := Aside0.mk (ho); clear HI0; clear HB; clear HK; clear HO_3; have HI0 := n0_; have HB := n1_; have HK := n2_; have HO295 := n3_; clear n0_ n1_ n2_ n3_; clear ho hb hg hat))
    go_roundg k1
    case measure => have := HK1.out; omega
    case rel => exact ⟨(y293), (wrap64 (x4_1 + 1)), (t291), (t292), rS, H', ⟨by have := HK1.out; omega⟩, ⟨rK HO295⟩, ⟨by exact sI1380 HI0.out⟩, ⟨by exact sK0 HK.out⟩, ⟨by exact sB1 HB.out (IsS138.ge HI0.out)⟩⟩
   rw [if_neg c5] at H
   have c5b0 := decide_eq_false c5
   clear c5
   simp only [Option.some.injEq, Prod.mk.injEq] at H
   obtain ⟨rfl, rfl, rfl⟩ := H
   go_wp2_with (first | ((with_reducible refine gate_callee (f := 84) rfl ?_); refine gL (some 8) Try.func84 #[.pointer (some ⟨g, 0, none⟩), .int .i64 6] ?_; (with_reducible refine (spec_l1Below.calls g s0_0 x1001_1 x1002_1 6 t284 t285 t286 w0 _ ?_ ?_ A4.out).mono ?_); exact sI1380 HI0.out; exact sB1 HB.out (IsS138.ge HI0.out); rintro e w11 ⟨rfl, hi, hb, hk⟩; refine ⟨_, rfl, ?_⟩; replace HO_3 := Aside0.mk (Kd.R_mono (Kd.R_keep (IsS138.apart (show IsS138 w0 _ g s0_0 x1001_1 x1002_1 from by exact sI1380 HI0.out) (rK HO_3) (by decide)) hk (fun _ h => h.2)) (fun _ h => h.1)); replace HK := Aside0.mk (KeepBut.trans (by exact sK0 HK.out) hk (.inl rfl)); replace HB := Aside0.mk (hb); replace HI0 := Aside0.mk (hi); (try clear hb); (try clear hk); (try clear hi)))
   go_ret
   exact ⟨_, rA, rK HO_3, by exact sI1380 HI0.out, by exact sB1 HB.out (IsS138.ge HI0.out), by exact sK0 HK.out⟩

/-! ### spec_l1In: function 111 -/
def spec_l1In.f (a0 : Int) (a1 : Int) (a2 : Int) : Option (Bool) := if a0 ≥ a1 then (some (decide (a0 ≤ a2))) else (some false)
set_option maxHeartbeats 8000000 in
set_option maxRecDepth 100000 in
theorem spec_l1In.calls (a0 : Int) (a1 : Int) (a2 : Int) (r : Bool) (w : World) (h : spec_l1In.f a0 a1 a2 = some r) :
  Calls Try.prog 111 #[.int .i64 a0, .int .i64 a1, .int .i64 a2] w fun e w' => e = .returned (.bool r) ∧ Drawn0 w w' := by
 have H : (if a0 ≥ a1 then (some (decide (a0 ≤ a2))) else (some false)) = some r := h
 clear h
 by_cases c4 : a0 ≥ a1
 ·
  rw [if_pos c4] at H
  have c4b0 := decide_eq_true c4
  clear c4
  obtain rfl := Option.some.inj H
  go_enter Try.func111, Try.ntmps111
  go_wp2
  go_ret
  exact ⟨rS, dD⟩
 rw [if_neg c4] at H
 have c4b0 := decide_eq_false c4
 clear c4
 obtain rfl := Option.some.inj H
 go_enter Try.func111, Try.ntmps111
 go_wp2
 go_ret
 exact ⟨rS, dD⟩

/-! ### spec_IsPath: function 91 -/
def spec_IsPath.f (a0_0 : Int) (a0_1 : Int) (a0_2 : Int) (a0_3 : Int) : Option (Bool) := (spec_l1In.f a0_0 1 20).bind fun t297 => (if t297 = true then ((spec_l1In.f a0_1 1 3).bind fun t298 => (if t298 = true then ((spec_l1In.f a0_2 0 3).bind fun t299 => (if t299 = true then ((spec_l1In.f a0_3 0 3).bind fun t300 => (if t300 = true then (some ((a0_2 == a0_3) == (a0_1 == 2))) else (some false))) else (some false))) else (some false))) else (some false))
set_option maxHeartbeats 8000000 in
set_option maxRecDepth 100000 in
theorem spec_IsPath.calls (a0_0 : Int) (a0_1 : Int) (a0_2 : Int) (a0_3 : Int) (r : Bool) (w : World) (h : spec_IsPath.f a0_0 a0_1 a0_2 a0_3 = some r) :
  Calls Try.prog 91 #[.agg #[.int .i64 a0_0, .int .i64 a0_1, .int .i64 a0_2, .int .i64 a0_3]] w fun e w' => e = .returned (.bool r) ∧ Below w.heap.size w w' := by
 have hu50 := Try.underlying50
 have HB := Aside0.mk (Below.refl w.heap.size w)
 have H : ((spec_l1In.f a0_0 1 20).bind fun t297 => (if t297 = true then ((spec_l1In.f a0_1 1 3).bind fun t298 => (if t298 = true then ((spec_l1In.f a0_2 0 3).bind fun t299 => (if t299 = true then ((spec_l1In.f a0_3 0 3).bind fun t300 => (if t300 = true then (some ((a0_2 == a0_3) == (a0_1 == 2))) else (some false))) else (some false))) else (some false))) else (some false))) = some r := h
 clear h
 obtain ⟨t297, A2, H⟩ := bindE H
 try dsimp only at H
 by_cases c3 : t297 = true
 ·
  subst c3
  have H1 : ((spec_l1In.f a0_1 1 3).bind fun t298 => (if t298 = true then ((spec_l1In.f a0_2 0 3).bind fun t299 => (if t299 = true then ((spec_l1In.f a0_3 0 3).bind fun t300 => (if t300 = true then (some ((a0_2 == a0_3) == (a0_1 == 2))) else (some false))) else (some false))) else (some false))) = some r := by rw [if_pos rfl] at H; exact H
  clear H
  have H := H1
  clear H1
  obtain ⟨t298, A4, H⟩ := bindE H
  try dsimp only at H
  by_cases c5 : t298 = true
  ·
   subst c5
   have H1 : ((spec_l1In.f a0_2 0 3).bind fun t299 => (if t299 = true then ((spec_l1In.f a0_3 0 3).bind fun t300 => (if t300 = true then (some ((a0_2 == a0_3) == (a0_1 == 2))) else (some false))) else (some false))) = some r := by rw [if_pos rfl] at H; exact H
   clear H
   have H := H1
   clear H1
   obtain ⟨t299, A6, H⟩ := bindE H
   try dsimp only at H
   by_cases c7 : t299 = true
   ·
    subst c7
    have H1 : ((spec_l1In.f a0_3 0 3).bind fun t300 => (if t300 = true then (some ((a0_2 == a0_3) == (a0_1 == 2))) else (some false))) = some r := by rw [if_pos rfl] at H; exact H
    clear H
    have H := H1
    clear H1
    obtain ⟨t300, A8, H⟩ := bindE H
    try dsimp only at H
    by_cases c9 : t300 = true
    ·
     subst c9
     have H1 : (some ((a0_2 == a0_3) == (a0_1 == 2))) = some r := by rw [if_pos rfl] at H; exact H
     clear H
     have H := H1
     clear H1
     obtain rfl := Option.some.inj H
     go_enter Try.func91, Try.ntmps91
     go_wp2_with (first | ((with_reducible refine gate_dst (N := 1) rfl ?_); refine bE (N := 1) (cs := #[.int .i64 a0_0, .int .i64 a0_1, .int .i64 a0_2, .int .i64 a0_3]) (t := 50) ?_; intro gb296 hg w10 hbox hb; have BK296 := Aside0.mk (hbox); have GW296 := gw w hg; have GE296 := gw w hg; replace HB := bs HB hb; clear hb hbox hg; obtain ⟨_, _, _, _, _, _, _, _⟩ := blkc4 BK296) | ((with_reducible refine gate_callee (f := 111) rfl ?_); refine gL (some 5) Try.func111 #[.int .i64 a0_0, .int .i64 1, .int .i64 20] ?_; (with_reducible refine (spec_l1In.calls a0_0 1 20 true _ A2.out).mono ?_); rintro e w' ⟨rfl, ⟨nd, rfl⟩⟩; refine ⟨_, rfl, ?_⟩) | (go_at_call 111; (with_reducible refine (spec_l1In.calls a0_1 1 3 true _ A4.out).mono ?_); rintro e w' ⟨rfl, ⟨nd, rfl⟩⟩) | (go_at_call 111; (with_reducible refine (spec_l1In.calls a0_2 0 3 true _ A6.out).mono ?_); rintro e w' ⟨rfl, ⟨nd, rfl⟩⟩) | (go_at_call 111; (with_reducible refine (spec_l1In.calls a0_3 0 3 true _ A8.out).mono ?_); rintro e w' ⟨rfl, ⟨nd, rfl⟩⟩))
     go_ret
     exact ⟨rA, bG⟩
    replace c9 := Bool.eq_false_iff.mpr c9
    subst c9
    have H1 : (some false) = some r := by rw [if_neg (show ¬ (false = true) by decide)] at H; exact H
    clear H
    have H := H1
    clear H1
    obtain rfl := Option.some.inj H
    go_enter Try.func91, Try.ntmps91
    go_wp2_with (first | ((with_reducible refine gate_dst (N := 1) rfl ?_); refine bE (N := 1) (cs := #[.int .i64 a0_0, .int .i64 a0_1, .int .i64 a0_2, .int .i64 a0_3]) (t := 50) ?_; intro gb296 hg w12 hbox hb; have BK296 := Aside0.mk (hbox); have GW296 := gw w hg; have GE296 := gw w hg; replace HB := bs HB hb; clear hb hbox hg; obtain ⟨_, _, _, _, _, _, _, _⟩ := blkc4 BK296) | ((with_reducible refine gate_callee (f := 111) rfl ?_); refine gL (some 5) Try.func111 #[.int .i64 a0_0, .int .i64 1, .int .i64 20] ?_; (with_reducible refine (spec_l1In.calls a0_0 1 20 true _ A2.out).mono ?_); rintro e w' ⟨rfl, ⟨nd, rfl⟩⟩; refine ⟨_, rfl, ?_⟩) | (go_at_call 111; (with_reducible refine (spec_l1In.calls a0_1 1 3 true _ A4.out).mono ?_); rintro e w' ⟨rfl, ⟨nd, rfl⟩⟩) | (go_at_call 111; (with_reducible refine (spec_l1In.calls a0_2 0 3 true _ A6.out).mono ?_); rintro e w' ⟨rfl, ⟨nd, rfl⟩⟩) | (go_at_call 111; (with_reducible refine (spec_l1In.calls a0_3 0 3 false _ A8.out).mono ?_); rintro e w' ⟨rfl, ⟨nd, rfl⟩⟩))
    go_ret
    exact ⟨rA, bG⟩
   replace c7 := Bool.eq_false_iff.mpr c7
   subst c7
   have H1 : (some false) = some r := by rw [if_neg (show ¬ (false = true) by decide)] at H; exact H
   clear H
   have H := H1
   clear H1
   obtain rfl := Option.some.inj H
   go_enter Try.func91, Try.ntmps91
   go_wp2_with (first | ((with_reducible refine gate_dst (N := 1) rfl ?_); refine bE (N := 1) (cs := #[.int .i64 a0_0, .int .i64 a0_1, .int .i64 a0_2, .int .i64 a0_3]) (t := 50) ?_; intro gb296 hg w14 hbox hb; have BK296 := Aside0.mk (hbox); have GW296 := gw w hg; have GE296 := gw w hg; replace HB := bs HB hb; clear hb hbox hg; obtain ⟨_, _, _, _, _, _, _, _⟩ := blkc4 BK296) | ((with_reducible refine gate_callee (f := 111) rfl ?_); refine gL (some 5) Try.func111 #[.int .i64 a0_0, .int .i64 1, .int .i64 20] ?_; (with_reducible refine (spec_l1In.calls a0_0 1 20 true _ A2.out).mono ?_); rintro e w' ⟨rfl, ⟨nd, rfl⟩⟩; refine ⟨_, rfl, ?_⟩) | (go_at_call 111; (with_reducible refine (spec_l1In.calls a0_1 1 3 true _ A4.out).mono ?_); rintro e w' ⟨rfl, ⟨nd, rfl⟩⟩) | (go_at_call 111; (with_reducible refine (spec_l1In.calls a0_2 0 3 false _ A6.out).mono ?_); rintro e w' ⟨rfl, ⟨nd, rfl⟩⟩))
   go_ret
   exact ⟨rA, bG⟩
  replace c5 := Bool.eq_false_iff.mpr c5
  subst c5
  have H1 : (some false) = some r := by rw [if_neg (show ¬ (false = true) by decide)] at H; exact H
  clear H
  have H := H1
  clear H1
  obtain rfl := Option.some.inj H
  go_enter Try.func91, Try.ntmps91
  go_wp2_with (first | ((with_reducible refine gate_dst (N := 1) rfl ?_); refine bE (N := 1) (cs := #[.int .i64 a0_0, .int .i64 a0_1, .int .i64 a0_2, .int .i64 a0_3]) (t := 50) ?_; intro gb296 hg w16 hbox hb; have BK296 := Aside0.mk (hbox); have GW296 := gw w hg; have GE296 := gw w hg; replace HB := bs HB hb; clear hb hbox hg; obtain ⟨_, _, _, _, _, _, _, _⟩ := blkc4 BK296) | ((with_reducible refine gate_callee (f := 111) rfl ?_); refine gL (some 5) Try.func111 #[.int .i64 a0_0, .int .i64 1, .int .i64 20] ?_; (with_reducible refine (spec_l1In.calls a0_0 1 20 true _ A2.out).mono ?_); rintro e w' ⟨rfl, ⟨nd, rfl⟩⟩; refine ⟨_, rfl, ?_⟩) | (go_at_call 111; (with_reducible refine (spec_l1In.calls a0_1 1 3 false _ A4.out).mono ?_); rintro e w' ⟨rfl, ⟨nd, rfl⟩⟩))
  go_ret
  exact ⟨rA, bG⟩
 replace c3 := Bool.eq_false_iff.mpr c3
 subst c3
 have H1 : (some false) = some r := by rw [if_neg (show ¬ (false = true) by decide)] at H; exact H
 clear H
 have H := H1
 clear H1
 obtain rfl := Option.some.inj H
 go_enter Try.func91, Try.ntmps91
 go_wp2_with (first | ((with_reducible refine gate_dst (N := 1) rfl ?_); refine bE (N := 1) (cs := #[.int .i64 a0_0, .int .i64 a0_1, .int .i64 a0_2, .int .i64 a0_3]) (t := 50) ?_; intro gb296 hg w18 hbox hb; have BK296 := Aside0.mk (hbox); have GW296 := gw w hg; have GE296 := gw w hg; replace HB := bs HB hb; clear hb hbox hg; obtain ⟨_, _, _, _, _, _, _, _⟩ := blkc4 BK296) | ((with_reducible refine gate_callee (f := 111) rfl ?_); refine gL (some 5) Try.func111 #[.int .i64 a0_0, .int .i64 1, .int .i64 20] ?_; (with_reducible refine (spec_l1In.calls a0_0 1 20 false _ A2.out).mono ?_); rintro e w' ⟨rfl, ⟨nd, rfl⟩⟩; refine ⟨_, rfl, ?_⟩))
 go_ret
 exact ⟨rA, bG⟩

/-! ### spec_ArePaths: function 33 -/
def spec_ArePaths.l0 : Nat → List (S50) → Int → Option (Bool)
 | 0, _, _ => none
 | k + 1, x0, x3 => if x3 < (x0.length : Int) then (if 0 ≤ x3 then ((spec_IsPath.f ((rd_T50 x0 x3).f0) ((rd_T50 x0 x3).f1) ((rd_T50 x0 x3).f2) ((rd_T50 x0 x3).f3)).bind fun t302 => (if t302 = true then (if x3 > 0 then (if 0 ≤ (wrap64 (x3 - 1)) then (if (wrap64 (x3 - 1)) < (x0.length : Int) then (if ((rd_T50 x0 (wrap64 (x3 - 1))).f0) ≥ ((rd_T50 x0 x3).f0) then (some false) else (spec_ArePaths.l0 k x0 (wrap64 (x3 + 1)))) else (none)) else (none)) else (spec_ArePaths.l0 k x0 (wrap64 (x3 + 1)))) else (some false))) else (none)) else (some (decide ((x0.length : Int) ≤ 12)))
def spec_ArePaths.f (k : Nat) (l0 : List (S50)) : Option (Bool) := spec_ArePaths.l0 k l0 0
theorem spec_ArePaths.mono_l : ∀ k, (∀ y0 y1, LeO (spec_ArePaths.l0 k y0 y1) (spec_ArePaths.l0 (k + 1) y0 y1))
 | 0 => fun _ _ r h => by simp [spec_ArePaths.l0] at h
 | k + 1 => by
  have ih0 := spec_ArePaths.mono_l k
  ·
   intro y0 y1
   unfold spec_ArePaths.l0
   exact mz1 ih0
theorem spec_ArePaths.mono : ∀ a0 k, LeO (spec_ArePaths.f k a0) (spec_ArePaths.f (k + 1) a0) := by
 intro a0 k
 have ih0 := spec_ArePaths.mono_l k
 unfold spec_ArePaths.f
 exact mz1 ih0
def spec_ArePaths.T4 : Bool × List (List Nat × List Nat) := (true, [([], []), ([], []), ([0, 1], [0, 1]), ([2], [2]), ([3], [3]), ([4], [4]), ([5, 4], [5]), ([6], [6]), ([7, 6], [6, 7]), ([8, 6, 6], [6, 8]), ([9], [9]), ([9], [9]), ([11, 9], [9, 11]), ([10, 12, 9], [9, 10, 12]), ([13, 9], [9, 13]), ([14, 9], [9, 14]), ([9], [9]), ([9], [9]), ([16, 17, 9], [9, 16, 17]), ([18, 9], [9, 18]), ([19, 9], [9, 19]), ([15, 20, 9], [9, 15, 20]), ([9, 21, 6], [6, 9, 21]), ([6, 22], [6, 22])])
def spec_ArePaths.B4 : List Nat := [0, 0, 3, 7, 15, 31, 63, 127, 255, 511, 1023, 1023, 3071, 8191, 16383, 32767, 1023, 1023, 197631, 459775, 984063, 2097151, 4194303, 8388607]
theorem spec_ArePaths.tab4 : rtab .any (opsOf Try.f33 4) = spec_ArePaths.T4 := by kernel_rfl
theorem spec_ArePaths.bits4 : waitsOk spec_ArePaths.T4.2 spec_ArePaths.B4 = true := by kernel_rfl
set_option maxHeartbeats 8000000 in
set_option maxRecDepth 100000 in
theorem spec_ArePaths.calls (k : Nat) (A0 : Option Addr) (c0 : Nat) (l0 : List (S50)) (r : Bool) (w : World) (hr0 : Kd.C k50 w A0 l0.length l0) (hc0 : l0.length ≤ c0) (h : spec_ArePaths.f k l0 = some r) :
  Calls Try.prog 33 #[.slice A0 l0.length c0] w fun e w' => e = .returned (.bool r) ∧ Below w.heap.size w w' := by
 have hu50 := Try.underlying50
 have HR0 := Aside0.mk hr0
 have HC0 := Aside0.mk hc0
 clear hr0 hc0
 have HB := Aside0.mk (Below.refl w.heap.size w)
 have H : (spec_ArePaths.l0 k l0 0) = some r := h
 clear h
 have H' := Aside0.mk H
 clear H
 go_enter Try.func33, Try.ntmps33
 go_wp2
 go_loopg [3] k (fun kq v3 w' => ∃ (x3_1 : Int), v3 = .int .i64 x3_1 ∧ Aside0 (spec_ArePaths.l0 kq l0 x3_1 = some r) ∧ Aside0 (kq ≤ k) ∧ Aside0 (Below w.heap.size w w'))
 case atStart => exact ⟨(0), rS, H', ⟨Nat.le_refl _⟩, ⟨bA⟩⟩
 case round =>
  clear H'
  obtain ⟨x3_1, rfl, HA, HK1, HB⟩ := hrel
  cases gk with
  | zero => exact absurd HA.out (by simp [spec_ArePaths.l0])
  | succ k1 =>
   have H := HA.out
   clear HA
   simp only [spec_ArePaths.l0] at H
   by_cases c2 : x3_1 < (l0.length : Int)
   ·
    rw [if_pos c2] at H
    have c2b0 := decide_eq_true c2
    clear c2
    have c3 : 0 ≤ x3_1 := ifN H
    replace H := ifT H
    have c3b0 := decide_eq_true c3
    clear c3
    obtain ⟨t302, A4, H⟩ := bindE H
    try dsimp only at H
    by_cases c5 : t302 = true
    ·
     subst c5
     have H1 : (if x3_1 > 0 then (if 0 ≤ (wrap64 (x3_1 - 1)) then (if (wrap64 (x3_1 - 1)) < (l0.length : Int) then (if ((rd_T50 l0 (wrap64 (x3_1 - 1))).f0) ≥ ((rd_T50 l0 x3_1).f0) then (some false) else (spec_ArePaths.l0 k1 l0 (wrap64 (x3_1 + 1)))) else (none)) else (none)) else (spec_ArePaths.l0 k1 l0 (wrap64 (x3_1 + 1)))) = some r := by rw [if_pos rfl] at H; exact H
     clear H
     have H := H1
     clear H1
     by_cases c6 : x3_1 > 0
     ·
      rw [if_pos c6] at H
      have c6b0 := decide_eq_true c6
      clear c6
      obtain ⟨ji7, hji7⟩ : ∃ j_ : Int, (wrap64 (x3_1 - 1)) = j_ := ⟨_, rfl⟩
      replace H : (if 0 ≤ (ji7) then (if (ji7) < (l0.length : Int) then (if ((rd_T50 l0 (ji7)).f0) ≥ ((rd_T50 l0 x3_1).f0) then (some false) else (spec_ArePaths.l0 k1 l0 (wrap64 (x3_1 + 1)))) else (none)) else (none)) = some r := by first | (rw [hji7] at H; exact H) | (simp only [hji7] at H ⊢; exact H)
      (try rw [hji7] at A4)
      have hji7w : (IntKind.i64.wrap (x3_1 - 1)) = ji7 := (i64_w _).trans hji7
      have c8 : 0 ≤ (ji7) := ifN H
      replace H := ifT H
      have c8b0 := decide_eq_true c8
      clear c8
      have c9 : (ji7) < (l0.length : Int) := ifN H
      replace H := ifT H
      have c9b0 := decide_eq_true c9
      clear c9
      by_cases c10 : ((rd_T50 l0 (ji7)).f0) ≥ ((rd_T50 l0 x3_1).f0)
      ·
       rw [if_pos c10] at H
       have c10b0 := decide_eq_true c10
       clear c10
       obtain rfl := Option.some.inj H
       try go_wp2
       have HBo := HB
       replace HB := db HB
       obtain ⟨p301, q301⟩ : 0 ≤ (x3_1 : Int) ∧ x3_1 < (l0.length : Int) := ⟨dA, dA⟩
       obtain ⟨ad301, e301, hx301_0, hx301_1, hx301_2, hx301_3⟩ := at_T50 HR0.out x3_1 p301 q301
       have hw301_3 := hx301_3
       have hw301_2 := hx301_2
       have hw301_1 := hx301_1
       have hw301_0 := hx301_0
       cases e301
       replace hx301_0 := hC HB hx301_0
       replace hx301_1 := hC HB hx301_1
       replace hx301_2 := hC HB hx301_2
       replace hx301_3 := hC HB hx301_3
       obtain ⟨p301, q301⟩ := eT p301 q301
       obtain ⟨p303, q303⟩ : 0 ≤ ((ji7) : Int) ∧ (ji7) < (l0.length : Int) := ⟨dA, dA⟩
       obtain ⟨ad303, e303, hx303_0, hx303_1, hx303_2, hx303_3⟩ := at_T50 HR0.out (ji7) p303 q303
       have hw303_3 := hx303_3
       have hw303_2 := hx303_2
       have hw303_1 := hx303_1
       have hw303_0 := hx303_0
       obtain rfl : ad301 = ad303 := (by injection e303)
       replace hx303_0 := hC HB hx303_0
       replace hx303_1 := hC HB hx303_1
       replace hx303_2 := hC HB hx303_2
       replace hx303_3 := hC HB hx303_3
       obtain ⟨p303, q303⟩ := eT p303 q303
       obtain ⟨p304, q304⟩ : 0 ≤ (x3_1 : Int) ∧ x3_1 < (l0.length : Int) := ⟨dA, dA⟩
       obtain ⟨ad304, e304, hx304_0, hx304_1, hx304_2, hx304_3⟩ := at_T50 HR0.out x3_1 p304 q304
       have hw304_3 := hx304_3
       have hw304_2 := hx304_2
       have hw304_1 := hx304_1
       have hw304_0 := hx304_0
       obtain rfl : ad301 = ad304 := (by injection e304)
       replace hx304_0 := hC HB hx304_0
       replace hx304_1 := hC HB hx304_1
       replace hx304_2 := hC HB hx304_2
       replace hx304_3 := hC HB hx304_3
       obtain ⟨p304, q304⟩ := eT p304 q304
       refine sw (ds := []) 24 (mb 24 0) spec_ArePaths.tab4 spec_ArePaths.bits4 (h1c (hC HB hw301_0) (h1c (hC HB hw301_1) (h1c (hC HB hw301_2) (h1c (hC HB hw301_3) (h1c (hC HB hw303_0) (h1c (hC HB hw303_1) (h1c (hC HB hw303_2) (h1c (hC HB hw303_3) (h1c (hC HB hw304_0) (h1c (hC HB hw304_1) (h1c (hC HB hw304_2) (h1 (hC HB hw304_3))))))))))))) (fun hHeld HT_ HW_ => ?_)
       generalize wr.drew = w11 at HB hx301_0 hx301_1 hx301_2 hx301_3 hx303_0 hx303_1 hx303_2 hx303_3 hx304_0 hx304_1 hx304_2 hx304_3 hHeld ⊢
       refine pa 0 10 (mb 24 1) HT_ ?_
       refine pa 1 11 (mb 24 3) HT_ ?_
       refine pa 2 12 (mb 24 7) HT_ ?_
       refine ta12 3 13 (mb 24 15) HT_ HW_ hHeld ?_
       refine oa 4 14 (mb 24 31) HT_ (fun K hK => ?_)
       refine gA Try.func91 #[.agg #[.int .i64 ((rd_T50 l0 x3_1).f0), .int .i64 ((rd_T50 l0 x3_1).f1), .int .i64 ((rd_T50 l0 x3_1).f2), .int .i64 ((rd_T50 l0 x3_1).f3)]] ?_
       with_reducible refine (spec_IsPath.calls ((rd_T50 l0 x3_1).f0) ((rd_T50 l0 x3_1).f1) ((rd_T50 l0 x3_1).f2) ((rd_T50 l0 x3_1).f3) true _ A4.out).mono ?_
       rintro e w12 ⟨rfl, hb⟩
       refine ⟨_, rfl, ?_⟩
       replace HB := bs HB hb
       (try clear hb)
       (try clear hb2)
       (try clear hk)
       (try clear hi)
       refine hK.out _ _ ⟨(hC HB hw301_0), (hC HB hw301_1), (hC HB hw301_2), (hC HB hw301_3), (hC HB hw303_0), (hC HB hw303_1), (hC HB hw303_2), (hC HB hw303_3), (hC HB hw304_0), (hC HB hw304_1), (hC HB hw304_2), (hC HB hw304_3)⟩ (fun hHeld => ?_)
       clear hK K
       refine nB ?_
       refine pa 5 15 (mb 24 63) HT_ ?_
       refine pa 6 16 (mb 24 127) HT_ ?_
       refine pa 7 17 (mb 24 255) HT_ ?_
       refine pa 8 18 (mb 24 511) HT_ ?_
       refine pa 9 19 (mb 24 1023) HT_ ?_
       refine pa 10 20 (mb 24 2047) HT_ ?_
       refine pa 11 21 (mb 24 4095) HT_ ?_
       refine pa 12 22 (mb 24 8191) HT_ ?_
       refine pa 13 23 (mb 24 16383) HT_ ?_
       refine pa 14 24 (mb 24 32767) HT_ ?_
       refine pa 16 26 (mb 24 98303) HT_ ?_
       refine pa 17 27 (mb 24 229375) HT_ ?_
       refine pa 18 28 (mb 24 491519) HT_ ?_
       refine pa 19 29 (mb 24 1015807) HT_ ?_
       refine ta12 15 25 (mb 24 1048575) HT_ HW_ hHeld ?_
       refine ta12 20 30 (mb 24 2097151) HT_ HW_ hHeld ?_
       refine pa 21 31 (mb 24 4194303) HT_ ?_
       refine pa 22 32 (mb 24 8388607) HT_ ?_
       refine pa 23 33 (mb 24 16777215) HT_ ?_
       refine eA HT_ ?_
       try go_wp2
       go_ret
       exact ⟨by first | rfl | (simp [errW_none, errW_some] <;> rfl) | (simp only [← hji7]; first | rfl | (simp [errW_none, errW_some] <;> rfl)) | (simp [*, errW_none, errW_some] <;> rfl), bA⟩
      rw [if_neg c10] at H
      have c10b0 := decide_eq_false c10
      clear c10
      have H' := Aside0.mk H
      clear H
      try go_wp2
      have HBo := HB
      replace HB := db HB
      obtain ⟨p301, q301⟩ : 0 ≤ (x3_1 : Int) ∧ x3_1 < (l0.length : Int) := ⟨dA, dA⟩
      obtain ⟨ad301, e301, hx301_0, hx301_1, hx301_2, hx301_3⟩ := at_T50 HR0.out x3_1 p301 q301
      have hw301_3 := hx301_3
      have hw301_2 := hx301_2
      have hw301_1 := hx301_1
      have hw301_0 := hx301_0
      cases e301
      replace hx301_0 := hC HB hx301_0
      replace hx301_1 := hC HB hx301_1
      replace hx301_2 := hC HB hx301_2
      replace hx301_3 := hC HB hx301_3
      obtain ⟨p301, q301⟩ := eT p301 q301
      obtain ⟨p303, q303⟩ : 0 ≤ ((ji7) : Int) ∧ (ji7) < (l0.length : Int) := ⟨dA, dA⟩
      obtain ⟨ad303, e303, hx303_0, hx303_1, hx303_2, hx303_3⟩ := at_T50 HR0.out (ji7) p303 q303
      have hw303_3 := hx303_3
      have hw303_2 := hx303_2
      have hw303_1 := hx303_1
      have hw303_0 := hx303_0
      obtain rfl : ad301 = ad303 := (by injection e303)
      replace hx303_0 := hC HB hx303_0
      replace hx303_1 := hC HB hx303_1
      replace hx303_2 := hC HB hx303_2
      replace hx303_3 := hC HB hx303_3
      obtain ⟨p303, q303⟩ := eT p303 q303
      obtain ⟨p304, q304⟩ : 0 ≤ (x3_1 : Int) ∧ x3_1 < (l0.length : Int) := ⟨dA, dA⟩
      obtain ⟨ad304, e304, hx304_0, hx304_1, hx304_2, hx304_3⟩ := at_T50 HR0.out x3_1 p304 q304
      have hw304_3 := hx304_3
      have hw304_2 := hx304_2
      have hw304_1 := hx304_1
      have hw304_0 := hx304_0
      obtain rfl : ad301 = ad304 := (by injection e304)
      replace hx304_0 := hC HB hx304_0
      replace hx304_1 := hC HB hx304_1
      replace hx304_2 := hC HB hx304_2
      replace hx304_3 := hC HB hx304_3
      obtain ⟨p304, q304⟩ := eT p304 q304
      refine sw (ds := []) 24 (mb 24 0) spec_ArePaths.tab4 spec_ArePaths.bits4 (h1c (hC HB hw301_0) (h1c (hC HB hw301_1) (h1c (hC HB hw301_2) (h1c (hC HB hw301_3) (h1c (hC HB hw303_0) (h1c (hC HB hw303_1) (h1c (hC HB hw303_2) (h1c (hC HB hw303_3) (h1c (hC HB hw304_0) (h1c (hC HB hw304_1) (h1c (hC HB hw304_2) (h1 (hC HB hw304_3))))))))))))) (fun hHeld HT_ HW_ => ?_)
      generalize wr.drew = w13 at HB hx301_0 hx301_1 hx301_2 hx301_3 hx303_0 hx303_1 hx303_2 hx303_3 hx304_0 hx304_1 hx304_2 hx304_3 hHeld ⊢
      refine pa 0 10 (mb 24 1) HT_ ?_
      refine pa 1 11 (mb 24 3) HT_ ?_
      refine pa 2 12 (mb 24 7) HT_ ?_
      refine ta12 3 13 (mb 24 15) HT_ HW_ hHeld ?_
      refine oa 4 14 (mb 24 31) HT_ (fun K hK => ?_)
      refine gA Try.func91 #[.agg #[.int .i64 ((rd_T50 l0 x3_1).f0), .int .i64 ((rd_T50 l0 x3_1).f1), .int .i64 ((rd_T50 l0 x3_1).f2), .int .i64 ((rd_T50 l0 x3_1).f3)]] ?_
      with_reducible refine (spec_IsPath.calls ((rd_T50 l0 x3_1).f0) ((rd_T50 l0 x3_1).f1) ((rd_T50 l0 x3_1).f2) ((rd_T50 l0 x3_1).f3) true _ A4.out).mono ?_
      rintro e w14 ⟨rfl, hb⟩
      refine ⟨_, rfl, ?_⟩
      replace HB := bs HB hb
      (try clear hb)
      (try clear hb2)
      (try clear hk)
      (try clear hi)
      refine hK.out _ _ ⟨(hC HB hw301_0), (hC HB hw301_1), (hC HB hw301_2), (hC HB hw301_3), (hC HB hw303_0), (hC HB hw303_1), (hC HB hw303_2), (hC HB hw303_3), (hC HB hw304_0), (hC HB hw304_1), (hC HB hw304_2), (hC HB hw304_3)⟩ (fun hHeld => ?_)
      clear hK K
      refine nB ?_
      refine pa 5 15 (mb 24 63) HT_ ?_
      refine pa 6 16 (mb 24 127) HT_ ?_
      refine pa 7 17 (mb 24 255) HT_ ?_
      refine pa 8 18 (mb 24 511) HT_ ?_
      refine pa 9 19 (mb 24 1023) HT_ ?_
      refine pa 10 20 (mb 24 2047) HT_ ?_
      refine pa 11 21 (mb 24 4095) HT_ ?_
      refine pa 12 22 (mb 24 8191) HT_ ?_
      refine pa 13 23 (mb 24 16383) HT_ ?_
      refine pa 14 24 (mb 24 32767) HT_ ?_
      refine pa 16 26 (mb 24 98303) HT_ ?_
      refine pa 17 27 (mb 24 229375) HT_ ?_
      refine pa 18 28 (mb 24 491519) HT_ ?_
      refine pa 19 29 (mb 24 1015807) HT_ ?_
      refine ta12 15 25 (mb 24 1048575) HT_ HW_ hHeld ?_
      refine ta12 20 30 (mb 24 2097151) HT_ HW_ hHeld ?_
      refine pa 21 31 (mb 24 4194303) HT_ ?_
      refine pa 22 32 (mb 24 8388607) HT_ ?_
      refine pa 23 33 (mb 24 16777215) HT_ ?_
      refine eA HT_ ?_
      try go_wp2
      go_roundg k1
      case measure => have := HK1.out; omega
      case rel => exact ⟨(wrap64 (x3_1 + 1)), rS, H', ⟨by have := HK1.out; omega⟩, ⟨bA⟩⟩
     rw [if_neg c6] at H
     have c6b0 := decide_eq_false c6
     clear c6
     have H' := Aside0.mk H
     clear H
     try go_wp2
     have HBo := HB
     replace HB := db HB
     obtain ⟨p301, q301⟩ : 0 ≤ (x3_1 : Int) ∧ x3_1 < (l0.length : Int) := ⟨dA, dA⟩
     obtain ⟨ad301, e301, hx301_0, hx301_1, hx301_2, hx301_3⟩ := at_T50 HR0.out x3_1 p301 q301
     have hw301_3 := hx301_3
     have hw301_2 := hx301_2
     have hw301_1 := hx301_1
     have hw301_0 := hx301_0
     cases e301
     replace hx301_0 := hC HB hx301_0
     replace hx301_1 := hC HB hx301_1
     replace hx301_2 := hC HB hx301_2
     replace hx301_3 := hC HB hx301_3
     obtain ⟨p301, q301⟩ := eT p301 q301
     refine sw (ds := []) 24 (mb 24 0) spec_ArePaths.tab4 spec_ArePaths.bits4 (h1c (hC HB hw301_0) (h1c (hC HB hw301_1) (h1c (hC HB hw301_2) (h1 (hC HB hw301_3))))) (fun hHeld HT_ HW_ => ?_)
     generalize wr.drew = w15 at HB hx301_0 hx301_1 hx301_2 hx301_3 hHeld ⊢
     refine pa 0 10 (mb 24 1) HT_ ?_
     refine pa 1 11 (mb 24 3) HT_ ?_
     refine pa 2 12 (mb 24 7) HT_ ?_
     refine ta4 3 13 (mb 24 15) HT_ HW_ hHeld ?_
     refine oa 4 14 (mb 24 31) HT_ (fun K hK => ?_)
     refine gA Try.func91 #[.agg #[.int .i64 ((rd_T50 l0 x3_1).f0), .int .i64 ((rd_T50 l0 x3_1).f1), .int .i64 ((rd_T50 l0 x3_1).f2), .int .i64 ((rd_T50 l0 x3_1).f3)]] ?_
     with_reducible refine (spec_IsPath.calls ((rd_T50 l0 x3_1).f0) ((rd_T50 l0 x3_1).f1) ((rd_T50 l0 x3_1).f2) ((rd_T50 l0 x3_1).f3) true _ A4.out).mono ?_
     rintro e w16 ⟨rfl, hb⟩
     refine ⟨_, rfl, ?_⟩
     replace HB := bs HB hb
     (try clear hb)
     (try clear hb2)
     (try clear hk)
     (try clear hi)
     refine hK.out _ _ ⟨(hC HB hw301_0), (hC HB hw301_1), (hC HB hw301_2), (hC HB hw301_3)⟩ (fun hHeld => ?_)
     clear hK K
     refine nB ?_
     refine pa 5 15 (mb 24 63) HT_ ?_
     refine pa 6 16 (mb 24 127) HT_ ?_
     refine pa 7 17 (mb 24 255) HT_ ?_
     refine pa 8 18 (mb 24 511) HT_ ?_
     refine pa 9 19 (mb 24 1023) HT_ ?_
     refine pu 10 20 (mb 24 2047) HT_ ?_
     refine pu 11 21 (mb 24 4095) HT_ ?_
     refine pu 12 22 (mb 24 8191) HT_ ?_
     refine pu 13 23 (mb 24 16383) HT_ ?_
     refine pu 14 24 (mb 24 32767) HT_ ?_
     refine pu 15 25 (mb 24 65535) HT_ ?_
     refine pu 16 26 (mb 24 131071) HT_ ?_
     refine pu 17 27 (mb 24 262143) HT_ ?_
     refine pu 18 28 (mb 24 524287) HT_ ?_
     refine pu 19 29 (mb 24 1048575) HT_ ?_
     refine pu 20 30 (mb 24 2097151) HT_ ?_
     refine pu 21 31 (mb 24 4194303) HT_ ?_
     refine pa 22 32 (mb 24 8388607) HT_ ?_
     refine pa 23 33 (mb 24 16777215) HT_ ?_
     refine eA HT_ ?_
     try go_wp2
     go_roundg k1
     case measure => have := HK1.out; omega
     case rel => exact ⟨(wrap64 (x3_1 + 1)), rS, H', ⟨by have := HK1.out; omega⟩, ⟨bA⟩⟩
    replace c5 := Bool.eq_false_iff.mpr c5
    subst c5
    have H1 : (some false) = some r := by rw [if_neg (show ¬ (false = true) by decide)] at H; exact H
    clear H
    have H := H1
    clear H1
    obtain rfl := Option.some.inj H
    try go_wp2
    have HBo := HB
    replace HB := db HB
    obtain ⟨p301, q301⟩ : 0 ≤ (x3_1 : Int) ∧ x3_1 < (l0.length : Int) := ⟨dA, dA⟩
    obtain ⟨ad301, e301, hx301_0, hx301_1, hx301_2, hx301_3⟩ := at_T50 HR0.out x3_1 p301 q301
    have hw301_3 := hx301_3
    have hw301_2 := hx301_2
    have hw301_1 := hx301_1
    have hw301_0 := hx301_0
    cases e301
    replace hx301_0 := hC HB hx301_0
    replace hx301_1 := hC HB hx301_1
    replace hx301_2 := hC HB hx301_2
    replace hx301_3 := hC HB hx301_3
    obtain ⟨p301, q301⟩ := eT p301 q301
    refine sw (ds := []) 24 (mb 24 0) spec_ArePaths.tab4 spec_ArePaths.bits4 (h1c (hC HB hw301_0) (h1c (hC HB hw301_1) (h1c (hC HB hw301_2) (h1 (hC HB hw301_3))))) (fun hHeld HT_ HW_ => ?_)
    generalize wr.drew = w17 at HB hx301_0 hx301_1 hx301_2 hx301_3 hHeld ⊢
    refine pa 0 10 (mb 24 1) HT_ ?_
    refine pa 1 11 (mb 24 3) HT_ ?_
    refine pa 2 12 (mb 24 7) HT_ ?_
    refine ta4 3 13 (mb 24 15) HT_ HW_ hHeld ?_
    refine oa 4 14 (mb 24 31) HT_ (fun K hK => ?_)
    refine gA Try.func91 #[.agg #[.int .i64 ((rd_T50 l0 x3_1).f0), .int .i64 ((rd_T50 l0 x3_1).f1), .int .i64 ((rd_T50 l0 x3_1).f2), .int .i64 ((rd_T50 l0 x3_1).f3)]] ?_
    with_reducible refine (spec_IsPath.calls ((rd_T50 l0 x3_1).f0) ((rd_T50 l0 x3_1).f1) ((rd_T50 l0 x3_1).f2) ((rd_T50 l0 x3_1).f3) false _ A4.out).mono ?_
    rintro e w18 ⟨rfl, hb⟩
    refine ⟨_, rfl, ?_⟩
    replace HB := bs HB hb
    (try clear hb)
    (try clear hb2)
    (try clear hk)
    (try clear hi)
    refine hK.out _ _ ⟨(hC HB hw301_0), (hC HB hw301_1), (hC HB hw301_2), (hC HB hw301_3)⟩ (fun hHeld => ?_)
    clear hK K
    refine nB ?_
    refine pa 5 15 (mb 24 63) HT_ ?_
    refine pa 6 16 (mb 24 127) HT_ ?_
    refine pu 7 17 (mb 24 255) HT_ ?_
    refine pu 8 18 (mb 24 511) HT_ ?_
    refine pu 9 19 (mb 24 1023) HT_ ?_
    refine pu 10 20 (mb 24 2047) HT_ ?_
    refine pu 11 21 (mb 24 4095) HT_ ?_
    refine pu 12 22 (mb 24 8191) HT_ ?_
    refine pu 13 23 (mb 24 16383) HT_ ?_
    refine pu 14 24 (mb 24 32767) HT_ ?_
    refine pu 15 25 (mb 24 65535) HT_ ?_
    refine pu 16 26 (mb 24 131071) HT_ ?_
    refine pu 17 27 (mb 24 262143) HT_ ?_
    refine pu 18 28 (mb 24 524287) HT_ ?_
    refine pu 19 29 (mb 24 1048575) HT_ ?_
    refine pu 20 30 (mb 24 2097151) HT_ ?_
    refine pu 21 31 (mb 24 4194303) HT_ ?_
    refine pu 22 32 (mb 24 8388607) HT_ ?_
    refine pa 23 33 (mb 24 16777215) HT_ ?_
    refine eA HT_ ?_
    try go_wp2
    go_ret
    exact ⟨rA, bA⟩
   rw [if_neg c2] at H
   have c2b0 := decide_eq_false c2
   clear c2
   obtain rfl := Option.some.inj H
   go_wp2
   go_ret
   exact ⟨rA, bA⟩

/-! ### spec_FindPath: function 144 -/
def spec_FindPath.l0 : Nat → List (S50) → Int → Int → Option (Int)
 | 0, _, _, _ => none
 | k + 1, x0, x1, x5 => if x5 < (x0.length : Int) then (if 0 ≤ x5 then (if ((rd_T50 x0 x5).f0) = x1 then (some x5) else (spec_FindPath.l0 k x0 x1 (wrap64 (x5 + 1)))) else (none)) else (some (-1))
def spec_FindPath.f (k : Nat) (l0 : List (S50)) (a1 : Int) : Option (Int) := spec_FindPath.l0 k l0 a1 0
theorem spec_FindPath.mono_l : ∀ k, (∀ y0 y1 y2, LeO (spec_FindPath.l0 k y0 y1 y2) (spec_FindPath.l0 (k + 1) y0 y1 y2))
 | 0 => fun _ _ _ r h => by simp [spec_FindPath.l0] at h
 | k + 1 => by
  have ih0 := spec_FindPath.mono_l k
  ·
   intro y0 y1 y2
   unfold spec_FindPath.l0
   exact mz1 ih0
theorem spec_FindPath.mono : ∀ a0 a1 k, LeO (spec_FindPath.f k a0 a1) (spec_FindPath.f (k + 1) a0 a1) := by
 intro a0 a1 k
 have ih0 := spec_FindPath.mono_l k
 unfold spec_FindPath.f
 exact mz1 ih0
set_option maxHeartbeats 8000000 in
set_option maxRecDepth 100000 in
theorem spec_FindPath.calls (k : Nat) (A0 : Option Addr) (c0 : Nat) (l0 : List (S50)) (a1 : Int) (r : Int) (w : World) (hr0 : Kd.C k50 w A0 l0.length l0) (hc0 : l0.length ≤ c0) (h : spec_FindPath.f k l0 a1 = some r) :
  Calls Try.prog 144 #[.slice A0 l0.length c0, .int .i64 a1] w fun e w' => e = .returned (.int .i64 r) ∧ Drawn0 w w' := by
 have HR0 := Aside0.mk hr0
 have HC0 := Aside0.mk hc0
 clear hr0 hc0
 have H : (spec_FindPath.l0 k l0 a1 0) = some r := h
 clear h
 have H' := Aside0.mk H
 clear H
 go_enter Try.func144, Try.ntmps144
 go_wp2
 go_loopg [5] k (fun kq v5 w' => ∃ (x5_1 : Int), v5 = .int .i64 x5_1 ∧ Aside0 (spec_FindPath.l0 kq l0 a1 x5_1 = some r) ∧ Aside0 (kq ≤ k) ∧ Drawn0 w w')
 case atStart => exact ⟨(0), rS, H', ⟨Nat.le_refl _⟩, by repeat (first | exact Drawn0.refl _ | apply Drawn0.step)⟩
 case round =>
  clear H'
  obtain ⟨x5_1, rfl, HA, HK1, ⟨m1, rfl⟩⟩ := hrel
  cases gk with
  | zero => exact absurd HA.out (by simp [spec_FindPath.l0])
  | succ k1 =>
   have H := HA.out
   clear HA
   simp only [spec_FindPath.l0] at H
   by_cases c3 : x5_1 < (l0.length : Int)
   ·
    rw [if_pos c3] at H
    have c3b0 := decide_eq_true c3
    clear c3
    have c4 : 0 ≤ x5_1 := ifN H
    replace H := ifT H
    have c4b0 := decide_eq_true c4
    clear c4
    by_cases c5 : ((rd_T50 l0 x5_1).f0) = a1
    ·
     rw [if_pos c5] at H
     have c5b0 : (((rd_T50 l0 x5_1).f0) == a1) = true := beq_iff_eq.mpr c5
     have c5b1 : (((rd_T50 l0 x5_1).f0) != a1) = false := bne_eq_false_iff_eq.mpr c5
     clear c5
     obtain rfl := Option.some.inj H
     obtain ⟨p305, q305⟩ : 0 ≤ (x5_1 : Int) ∧ x5_1 < (l0.length : Int) := ⟨dA, dA⟩
     obtain ⟨ad305, e305, hx305_0, hx305_1, hx305_2, hx305_3⟩ := at_T50 HR0.out x5_1 p305 q305
     cases e305
     obtain ⟨p305, q305⟩ := eT p305 q305
     go_wp2
     go_ret
     exact ⟨rS, dD⟩
    rw [if_neg c5] at H
    have c5b0 : (((rd_T50 l0 x5_1).f0) == a1) = false := beq_eq_false_iff_ne.mpr c5
    have c5b1 : (((rd_T50 l0 x5_1).f0) != a1) = true := bne_iff_ne.mpr c5
    have H' := Aside0.mk H
    clear H
    obtain ⟨p305, q305⟩ : 0 ≤ (x5_1 : Int) ∧ x5_1 < (l0.length : Int) := ⟨dA, dA⟩
    obtain ⟨ad305, e305, hx305_0, hx305_1, hx305_2, hx305_3⟩ := at_T50 HR0.out x5_1 p305 q305
    cases e305
    obtain ⟨p305, q305⟩ := eT p305 q305
    go_wp2
    go_roundg k1
    case measure => have := HK1.out; omega
    case rel => exact ⟨(wrap64 (x5_1 + 1)), rS, H', ⟨by have := HK1.out; omega⟩, by repeat (first | exact Drawn0.refl _ | apply Drawn0.step)⟩
   rw [if_neg c3] at H
   have c3b0 := decide_eq_false c3
   clear c3
   obtain rfl := Option.some.inj H
   go_wp2
   go_ret
   exact ⟨rS, dD⟩

/-! ### spec_Interleave: function 167 -/
mutual
def spec_Interleave.l0 : Nat → Int → Int → Int → Int → List Int → Int → Option (Bool)
 | 0, _, _, _, _, _, _ => none
 | k + 1, x0, x1, x2, x3, x9, x10 => if x10 < 4 then (spec_Interleave.l1 k x0 x1 x2 x3 x9 x10 0) else (spec_Interleave.l2 k x1 x2 x3 0 (Int.tmod (wrap64 (x0 + 1)) 8))
def spec_Interleave.l1 : Nat → Int → Int → Int → Int → List Int → Int → Int → Option (Bool)
 | 0, _, _, _, _, _, _, _ => none
 | k + 1, x0, x1, x2, x3, x9, x10, x11 => if x11 < x10 then (if 0 ≤ x10 then (if x10 < (x9.length : Int) then (if 0 ≤ x11 then (if x11 < (x9.length : Int) then (if (rd x9 x10) = (rd x9 x11) then (some false) else (spec_Interleave.l1 k x0 x1 x2 x3 x9 x10 (wrap64 (x11 + 1)))) else (none)) else (none)) else (none)) else (none)) else (if 0 ≤ x10 then (if x10 < (x9.length : Int) then ((spec_l1In.f (rd x9 x10) 0 7).bind fun t312 => (if t312 = true then (spec_Interleave.l0 k x0 x1 x2 x3 x9 (wrap64 (x10 + 1))) else (some false))) else (none)) else (none))
def spec_Interleave.l2 : Nat → Int → Int → Int → Int → Int → Option (Bool)
 | 0, _, _, _, _, _ => none
 | k + 1, x1, x2, x3, x12, x13 => if x13 = x1 then (some (x12 == 1)) else (if x13 = x2 then (spec_Interleave.l2 k x1 x2 x3 (wrap64 (x12 + 1)) (Int.tmod (wrap64 (x13 + 1)) 8)) else (if x13 = x3 then (spec_Interleave.l2 k x1 x2 x3 (wrap64 (x12 + 1)) (Int.tmod (wrap64 (x13 + 1)) 8)) else (spec_Interleave.l2 k x1 x2 x3 x12 (Int.tmod (wrap64 (x13 + 1)) 8))))
end
def spec_Interleave.f (k : Nat) (a0 : Int) (a1 : Int) (a2 : Int) (a3 : Int) : Option (Bool) := spec_Interleave.l0 k a0 a1 a2 a3 (([a0, a1, a2, a3] : List Int)) 0
theorem spec_Interleave.mono_l : ∀ k, (∀ y0 y1 y2 y3 y4 y5, LeO (spec_Interleave.l0 k y0 y1 y2 y3 y4 y5) (spec_Interleave.l0 (k + 1) y0 y1 y2 y3 y4 y5)) ∧ (∀ y0 y1 y2 y3 y4 y5 y6, LeO (spec_Interleave.l1 k y0 y1 y2 y3 y4 y5 y6) (spec_Interleave.l1 (k + 1) y0 y1 y2 y3 y4 y5 y6)) ∧ (∀ y0 y1 y2 y3 y4, LeO (spec_Interleave.l2 k y0 y1 y2 y3 y4) (spec_Interleave.l2 (k + 1) y0 y1 y2 y3 y4))
 | 0 => ⟨fun _ _ _ _ _ _ r h => by simp [spec_Interleave.l0] at h, fun _ _ _ _ _ _ _ r h => by simp [spec_Interleave.l1] at h, fun _ _ _ _ _ r h => by simp [spec_Interleave.l2] at h⟩
 | k + 1 => by
  obtain ⟨ih0, ih1, ih2⟩ := spec_Interleave.mono_l k
  refine ⟨?_, ?_, ?_⟩
  ·
   intro y0 y1 y2 y3 y4 y5
   unfold spec_Interleave.l0
   exact mz3 ih0 ih1 ih2
  ·
   intro y0 y1 y2 y3 y4 y5 y6
   unfold spec_Interleave.l1
   exact mz3 ih0 ih1 ih2
  ·
   intro y0 y1 y2 y3 y4
   unfold spec_Interleave.l2
   exact mz3 ih0 ih1 ih2
theorem spec_Interleave.mono : ∀ a0 a1 a2 a3 k, LeO (spec_Interleave.f k a0 a1 a2 a3) (spec_Interleave.f (k + 1) a0 a1 a2 a3) := by
 intro a0 a1 a2 a3 k
 obtain ⟨ih0, ih1, ih2⟩ := spec_Interleave.mono_l k
 unfold spec_Interleave.f
 exact mz3 ih0 ih1 ih2
set_option maxHeartbeats 8000000 in
set_option maxRecDepth 100000 in
theorem spec_Interleave.calls (k : Nat) (a0 : Int) (a1 : Int) (a2 : Int) (a3 : Int) (r : Bool) (w : World) (h : spec_Interleave.f k a0 a1 a2 a3 = some r) :
  Calls Try.prog 167 #[.int .i64 a0, .int .i64 a1, .int .i64 a2, .int .i64 a3] w fun e w' => e = .returned (.bool r) ∧ Below w.heap.size w w' := by
 have HB := Aside0.mk (Below.refl w.heap.size w)
 have H : (spec_Interleave.l0 k a0 a1 a2 a3 (([a0, a1, a2, a3] : List Int)) 0) = some r := h
 clear h
 obtain ⟨y306, hy306⟩ : ∃ y_ : List Int, y_ = (([a0, a1, a2, a3] : List Int)) := ⟨_, rfl⟩
 replace H : (spec_Interleave.l0 k a0 a1 a2 a3 y306 0) = some r := rH H hy306
 have Ny306 := Aside0.mk hy306
 clear hy306
 have H' := Aside0.mk H
 clear H
 go_enter Try.func167, Try.ntmps167
 go_wp2_with (first | ((with_reducible refine gate_dst (N := 18) rfl ?_); refine Kd.R_lit (Kd.int .i64) _ 3 ?hg (N := 18) ?hd (xs := ([a0, a1, a2, a3] : List Int)) (inner := [.int .i64 a0, .int .i64 a1, .int .i64 a2, .int .i64 a3]) (ok := fun _ => True) (okp := fun _ => True) ?hr ?hp (fun _ hk => hk) trivial (Below.refl _ _) (Nat.le_refl _) (by simp) ?_; (case hd => rfl); (case hg => rfl); (case hr => first | (go_simp; done) | (go_simp; rfl)); (case hp => exact (Reps.one (show Kd.M (Kd.int .i64) _ _ _ a0 [.int .i64 a0] from rfl) (Reps.one (show Kd.M (Kd.int .i64) _ _ _ a1 [.int .i64 a1] from rfl) (Reps.one (show Kd.M (Kd.int .i64) _ _ _ a2 [.int .i64 a2] from rfl) (Reps.one (show Kd.M (Kd.int .i64) _ _ _ a3 [.int .i64 a3] from rfl) (Reps.none _ _)))))); intro v307 w5 ho6 hb hg_ hnew_; clear hg_ hnew_; (first | rw [← Ny306.out] at ho6 | (simp only [Int.reduceToNat] at ho6; rw [← Ny306.out] at ho6)); have HO308 := rl w ho6; replace HB := bs HB hb; clear hb ho6))
 repeat (go_quiet (first | ((with_reducible refine gate_dst (N := 18) rfl ?_); refine Kd.R_lit (Kd.int .i64) _ 3 ?hg (N := 18) ?hd (xs := ([a0, a1, a2, a3] : List Int)) (inner := [.int .i64 a0, .int .i64 a1, .int .i64 a2, .int .i64 a3]) (ok := fun _ => True) (okp := fun _ => True) ?hr ?hp (fun _ hk => hk) trivial (Below.refl _ _) (Nat.le_refl _) (by simp) ?_; (case hd => rfl); (case hg => rfl); (case hr => first | (go_simp; done) | (go_simp; rfl)); (case hp => exact (Reps.one (show Kd.M (Kd.int .i64) _ _ _ a0 [.int .i64 a0] from rfl) (Reps.one (show Kd.M (Kd.int .i64) _ _ _ a1 [.int .i64 a1] from rfl) (Reps.one (show Kd.M (Kd.int .i64) _ _ _ a2 [.int .i64 a2] from rfl) (Reps.one (show Kd.M (Kd.int .i64) _ _ _ a3 [.int .i64 a3] from rfl) (Reps.none _ _)))))); intro v307 w5 ho6 hb hg_ hnew_; clear hg_ hnew_; (first | rw [← Ny306.out] at ho6 | (simp only [Int.reduceToNat] at ho6; rw [← Ny306.out] at ho6)); have HO308 := rl w ho6; replace HB := bs HB hb; clear hb ho6)); try go_wp2_with (first | ((with_reducible refine gate_dst (N := 18) rfl ?_); refine Kd.R_lit (Kd.int .i64) _ 3 ?hg (N := 18) ?hd (xs := ([a0, a1, a2, a3] : List Int)) (inner := [.int .i64 a0, .int .i64 a1, .int .i64 a2, .int .i64 a3]) (ok := fun _ => True) (okp := fun _ => True) ?hr ?hp (fun _ hk => hk) trivial (Below.refl _ _) (Nat.le_refl _) (by simp) ?_; (case hd => rfl); (case hg => rfl); (case hr => first | (go_simp; done) | (go_simp; rfl)); (case hp => exact (Reps.one (show Kd.M (Kd.int .i64) _ _ _ a0 [.int .i64 a0] from rfl) (Reps.one (show Kd.M (Kd.int .i64) _ _ _ a1 [.int .i64 a1] from rfl) (Reps.one (show Kd.M (Kd.int .i64) _ _ _ a2 [.int .i64 a2] from rfl) (Reps.one (show Kd.M (Kd.int .i64) _ _ _ a3 [.int .i64 a3] from rfl) (Reps.none _ _)))))); intro v307 w5 ho6 hb hg_ hnew_; clear hg_ hnew_; (first | rw [← Ny306.out] at ho6 | (simp only [Int.reduceToNat] at ho6; rw [← Ny306.out] at ho6)); have HO308 := rl w ho6; replace HB := bs HB hb; clear hb ho6)))
 go_loopg [10] k (fun kq v10 w' => ∃ (x10_1 : Int), v10 = .int .i64 x10_1 ∧ Aside0 (spec_Interleave.l0 kq a0 a1 a2 a3 y306 x10_1 = some r) ∧ Aside0 (kq ≤ k) ∧ Aside0 (Kd.R (Kd.int .i64) 3 w' w.heap.size (fun _ => True) v307 y306) ∧ Aside0 (Below w.heap.size w w'))
 case atStart => exact ⟨(0), rS, H', ⟨Nat.le_refl _⟩, ⟨rK HO308⟩, ⟨bA⟩⟩
 case round =>
  clear H'
  obtain ⟨x10_1, rfl, HA, HK1, HO_9, HB⟩ := hrel
  cases gk with
  | zero => exact absurd HA.out (by simp [spec_Interleave.l0])
  | succ k1 =>
   have H := HA.out
   clear HA
   simp only [spec_Interleave.l0] at H
   by_cases c7 : x10_1 < 4
   ·
    rw [if_pos c7] at H
    have c7b0 := decide_eq_true c7
    clear c7
    have H' := Aside0.mk H
    clear H
    go_wp2
    repeat (go_quiet (fail); try go_wp2)
    go_loopg [11] k1 (fun kq v11 w' => ∃ (x11_2 : Int), v11 = .int .i64 x11_2 ∧ Aside0 (spec_Interleave.l1 kq a0 a1 a2 a3 y306 x10_1 x11_2 = some r) ∧ Aside0 (kq ≤ k1) ∧ Aside0 (Kd.R (Kd.int .i64) 3 w' w.heap.size (fun _ => True) v307 y306) ∧ Aside0 (Below w.heap.size w w'))
    case atStart => exact ⟨(0), rS, H', ⟨Nat.le_refl _⟩, ⟨rK HO_9⟩, ⟨bA⟩⟩
    case round =>
     clear H'
     obtain ⟨x11_2, rfl, HA, HK2, HO_9, HB⟩ := hrel
     cases gk with
     | zero => exact absurd HA.out (by simp [spec_Interleave.l1])
     | succ k2 =>
      have H := HA.out
      clear HA
      simp only [spec_Interleave.l1] at H
      by_cases c8 : x11_2 < x10_1
      ·
       rw [if_pos c8] at H
       have c8b0 := decide_eq_true c8
       clear c8
       have c9 : 0 ≤ x10_1 := ifN H
       replace H := ifT H
       have c9b0 := decide_eq_true c9
       clear c9
       have c10 : x10_1 < (y306.length : Int) := ifN H
       replace H := ifT H
       have c10b0 := decide_eq_true c10
       clear c10
       have c11 : 0 ≤ x11_2 := ifN H
       replace H := ifT H
       have c11b0 := decide_eq_true c11
       clear c11
       have c12 : x11_2 < (y306.length : Int) := ifN H
       replace H := ifT H
       have c12b0 := decide_eq_true c12
       clear c12
       by_cases c13 : (rd y306 x10_1) = (rd y306 x11_2)
       ·
        rw [if_pos c13] at H
        have c13b0 : ((rd y306 x10_1) == (rd y306 x11_2)) = true := beq_iff_eq.mpr c13
        have c13b1 : ((rd y306 x10_1) != (rd y306 x11_2)) = false := bne_eq_false_iff_eq.mpr c13
        clear c13
        obtain rfl := Option.some.inj H
        obtain ⟨Ao14, co14, eo14⟩ := Kd.R_slice HO_9.out
        subst eo14
        obtain ⟨p309, q309⟩ : 0 ≤ (x10_1 : Int) ∧ x10_1 < (y306.length : Int) := ⟨dA, dA⟩
        obtain ⟨ad309, e309, hx309_0⟩ := Kd.at_int (Kd.R_reads' HO_9.out).2.2 x10_1 p309 q309
        cases e309
        obtain ⟨p309, q309⟩ := eT p309 q309
        obtain ⟨p310, q310⟩ : 0 ≤ (x11_2 : Int) ∧ x11_2 < (y306.length : Int) := ⟨dA, dA⟩
        obtain ⟨ad310, e310, hx310_0⟩ := Kd.at_int (Kd.R_reads' HO_9.out).2.2 x11_2 p310 q310
        obtain rfl : ad309 = ad310 := (by injection e310)
        obtain ⟨p310, q310⟩ := eT p310 q310
        go_wp2
        repeat (go_quiet (fail); try go_wp2)
        go_ret
        exact ⟨rA, bA⟩
       rw [if_neg c13] at H
       have c13b0 : ((rd y306 x10_1) == (rd y306 x11_2)) = false := beq_eq_false_iff_ne.mpr c13
       have c13b1 : ((rd y306 x10_1) != (rd y306 x11_2)) = true := bne_iff_ne.mpr c13
       have H' := Aside0.mk H
       clear H
       obtain ⟨Ao15, co15, eo15⟩ := Kd.R_slice HO_9.out
       subst eo15
       obtain ⟨p309, q309⟩ : 0 ≤ (x10_1 : Int) ∧ x10_1 < (y306.length : Int) := ⟨dA, dA⟩
       obtain ⟨ad309, e309, hx309_0⟩ := Kd.at_int (Kd.R_reads' HO_9.out).2.2 x10_1 p309 q309
       cases e309
       obtain ⟨p309, q309⟩ := eT p309 q309
       obtain ⟨p310, q310⟩ : 0 ≤ (x11_2 : Int) ∧ x11_2 < (y306.length : Int) := ⟨dA, dA⟩
       obtain ⟨ad310, e310, hx310_0⟩ := Kd.at_int (Kd.R_reads' HO_9.out).2.2 x11_2 p310 q310
       obtain rfl : ad309 = ad310 := (by injection e310)
       obtain ⟨p310, q310⟩ := eT p310 q310
       go_wp2
       repeat (go_quiet (fail); try go_wp2)
       go_roundg k2
       case measure => have := HK1.out; have := HK2.out; omega
       case rel => exact ⟨(wrap64 (x11_2 + 1)), rS, H', ⟨by have := HK1.out; have := HK2.out; omega⟩, ⟨rK HO_9⟩, ⟨bA⟩⟩
      rw [if_neg c8] at H
      have c8b0 := decide_eq_false c8
      clear c8
      have c16 : 0 ≤ x10_1 := ifN H
      replace H := ifT H
      have c16b0 := decide_eq_true c16
      clear c16
      have c17 : x10_1 < (y306.length : Int) := ifN H
      replace H := ifT H
      have c17b0 := decide_eq_true c17
      clear c17
      obtain ⟨t312, A18, H⟩ := bindE H
      try dsimp only at H
      by_cases c19 : t312 = true
      ·
       subst c19
       have H1 : (spec_Interleave.l0 k2 a0 a1 a2 a3 y306 (wrap64 (x10_1 + 1))) = some r := by rw [if_pos rfl] at H; exact H
       clear H
       have H := H1
       clear H1
       have H' := Aside0.mk H
       clear H
       obtain ⟨Ao20, co20, eo20⟩ := Kd.R_slice HO_9.out
       subst eo20
       obtain ⟨p311, q311⟩ : 0 ≤ (x10_1 : Int) ∧ x10_1 < (y306.length : Int) := ⟨dA, dA⟩
       obtain ⟨ad311, e311, hx311_0⟩ := Kd.at_int (Kd.R_reads' HO_9.out).2.2 x10_1 p311 q311
       cases e311
       obtain ⟨p311, q311⟩ := eT p311 q311
       go_wp2_with (first | (go_at_call 111; (with_reducible refine (spec_l1In.calls (rd y306 x10_1) 0 7 true _ A18.out).mono ?_); rintro e w' ⟨rfl, ⟨nd, rfl⟩⟩; (try first | exact ⟨rfl, _, World.drewN_drewN _ _ _⟩ | exact ⟨rfl, _, Eq.trans (World.drewN_drewN _ _ _) (congrArg (World.drewN _) (Nat.add_assoc _ _ _))⟩)))
       repeat (go_quiet (first | (go_at_call 111; (with_reducible refine (spec_l1In.calls (rd y306 x10_1) 0 7 true _ A18.out).mono ?_); rintro e w' ⟨rfl, ⟨nd, rfl⟩⟩; (try first | exact ⟨rfl, _, World.drewN_drewN _ _ _⟩ | exact ⟨rfl, _, Eq.trans (World.drewN_drewN _ _ _) (congrArg (World.drewN _) (Nat.add_assoc _ _ _))⟩))); try go_wp2_with (first | (go_at_call 111; (with_reducible refine (spec_l1In.calls (rd y306 x10_1) 0 7 true _ A18.out).mono ?_); rintro e w' ⟨rfl, ⟨nd, rfl⟩⟩; (try first | exact ⟨rfl, _, World.drewN_drewN _ _ _⟩ | exact ⟨rfl, _, Eq.trans (World.drewN_drewN _ _ _) (congrArg (World.drewN _) (Nat.add_assoc _ _ _))⟩))))
       go_roundg k2
       case measure => have := HK1.out; have := HK2.out; omega
       case rel => exact ⟨(wrap64 (x10_1 + 1)), rS, H', ⟨by have := HK1.out; have := HK2.out; omega⟩, ⟨rK HO_9⟩, ⟨bA⟩⟩
      replace c19 := Bool.eq_false_iff.mpr c19
      subst c19
      have H1 : (some false) = some r := by rw [if_neg (show ¬ (false = true) by decide)] at H; exact H
      clear H
      have H := H1
      clear H1
      obtain rfl := Option.some.inj H
      obtain ⟨Ao21, co21, eo21⟩ := Kd.R_slice HO_9.out
      subst eo21
      obtain ⟨p311, q311⟩ : 0 ≤ (x10_1 : Int) ∧ x10_1 < (y306.length : Int) := ⟨dA, dA⟩
      obtain ⟨ad311, e311, hx311_0⟩ := Kd.at_int (Kd.R_reads' HO_9.out).2.2 x10_1 p311 q311
      cases e311
      obtain ⟨p311, q311⟩ := eT p311 q311
      go_wp2_with (first | (go_at_call 111; (with_reducible refine (spec_l1In.calls (rd y306 x10_1) 0 7 false _ A18.out).mono ?_); rintro e w' ⟨rfl, ⟨nd, rfl⟩⟩; (try first | exact ⟨rfl, _, World.drewN_drewN _ _ _⟩ | exact ⟨rfl, _, Eq.trans (World.drewN_drewN _ _ _) (congrArg (World.drewN _) (Nat.add_assoc _ _ _))⟩)))
      repeat (go_quiet (first | (go_at_call 111; (with_reducible refine (spec_l1In.calls (rd y306 x10_1) 0 7 false _ A18.out).mono ?_); rintro e w' ⟨rfl, ⟨nd, rfl⟩⟩; (try first | exact ⟨rfl, _, World.drewN_drewN _ _ _⟩ | exact ⟨rfl, _, Eq.trans (World.drewN_drewN _ _ _) (congrArg (World.drewN _) (Nat.add_assoc _ _ _))⟩))); try go_wp2_with (first | (go_at_call 111; (with_reducible refine (spec_l1In.calls (rd y306 x10_1) 0 7 false _ A18.out).mono ?_); rintro e w' ⟨rfl, ⟨nd, rfl⟩⟩; (try first | exact ⟨rfl, _, World.drewN_drewN _ _ _⟩ | exact ⟨rfl, _, Eq.trans (World.drewN_drewN _ _ _) (congrArg (World.drewN _) (Nat.add_assoc _ _ _))⟩))))
      go_ret
      exact ⟨rA, bA⟩
   rw [if_neg c7] at H
   have c7b0 := decide_eq_false c7
   clear c7
   have H' := Aside0.mk H
   clear H
   go_wp2
   repeat (go_quiet (fail); try go_wp2)
   go_loopg [12, 13] k1 (fun kq v12 v13 w' => ∃ (x12_2 : Int) (x13_2 : Int), v12 = .int .i64 x12_2 ∧ v13 = .int .i64 x13_2 ∧ Aside0 (spec_Interleave.l2 kq a1 a2 a3 x12_2 x13_2 = some r) ∧ Aside0 (kq ≤ k1) ∧ Aside0 (Below w.heap.size w w'))
   case atStart => exact ⟨(0), (Int.tmod (wrap64 (a0 + 1)) 8), rS, rS, H', ⟨Nat.le_refl _⟩, ⟨bA⟩⟩
   case round =>
    clear H'
    obtain ⟨x12_2, x13_2, rfl, rfl, HA, HK2, HB⟩ := hrel
    cases gk with
    | zero => exact absurd HA.out (by simp [spec_Interleave.l2])
    | succ k2 =>
     have H := HA.out
     clear HA
     simp only [spec_Interleave.l2] at H
     by_cases c22 : x13_2 = a1
     ·
      rw [if_pos c22] at H
      have c22b0 : (x13_2 == a1) = true := beq_iff_eq.mpr c22
      have c22b1 : (x13_2 != a1) = false := bne_eq_false_iff_eq.mpr c22
      clear c22
      obtain rfl := Option.some.inj H
      go_wp2
      repeat (go_quiet (fail); try go_wp2)
      go_ret
      exact ⟨rA, bA⟩
     rw [if_neg c22] at H
     have c22b0 : (x13_2 == a1) = false := beq_eq_false_iff_ne.mpr c22
     have c22b1 : (x13_2 != a1) = true := bne_iff_ne.mpr c22
     by_cases c23 : x13_2 = a2
     ·
      rw [if_pos c23] at H
      have c23b0 : (x13_2 == a2) = true := beq_iff_eq.mpr c23
      have c23b1 : (x13_2 != a2) = false := bne_eq_false_iff_eq.mpr c23
      clear c23
      have H' := Aside0.mk H
      clear H
      go_wp2
      repeat (go_quiet (fail); try go_wp2)
      go_roundg k2
      case measure => have := HK1.out; have := HK2.out; omega
      case rel => exact ⟨(wrap64 (x12_2 + 1)), (Int.tmod (wrap64 (x13_2 + 1)) 8), rS, rS, H', ⟨by have := HK1.out; have := HK2.out; omega⟩, ⟨bA⟩⟩
     rw [if_neg c23] at H
     have c23b0 : (x13_2 == a2) = false := beq_eq_false_iff_ne.mpr c23
     have c23b1 : (x13_2 != a2) = true := bne_iff_ne.mpr c23
     by_cases c24 : x13_2 = a3
     ·
      rw [if_pos c24] at H
      have c24b0 : (x13_2 == a3) = true := beq_iff_eq.mpr c24
      have c24b1 : (x13_2 != a3) = false := bne_eq_false_iff_eq.mpr c24
      clear c24
      have H' := Aside0.mk H
      clear H
      go_wp2
      repeat (go_quiet (fail); try go_wp2)
      go_roundg k2
      case measure => have := HK1.out; have := HK2.out; omega
      case rel => exact ⟨(wrap64 (x12_2 + 1)), (Int.tmod (wrap64 (x13_2 + 1)) 8), rS, rS, H', ⟨by have := HK1.out; have := HK2.out; omega⟩, ⟨bA⟩⟩
     rw [if_neg c24] at H
     have c24b0 : (x13_2 == a3) = false := beq_eq_false_iff_ne.mpr c24
     have c24b1 : (x13_2 != a3) = true := bne_iff_ne.mpr c24
     have H' := Aside0.mk H
     clear H
     go_wp2
     repeat (go_quiet (fail); try go_wp2)
     go_roundg k2
     case measure => have := HK1.out; have := HK2.out; omega
     case rel => exact ⟨(x12_2), (Int.tmod (wrap64 (x13_2 + 1)) 8), rS, rS, H', ⟨by have := HK1.out; have := HK2.out; omega⟩, ⟨bA⟩⟩

/-! ### spec_InPlace: function 168 -/
def spec_InPlace.f (a0 : Int) : Option (Int) := (spec_l1In.f a0 0 3).bind fun t313 => (if t313 = true then (some (wrap64 (2 * a0))) else (some (-1)))
set_option maxHeartbeats 8000000 in
set_option maxRecDepth 100000 in
theorem spec_InPlace.calls (a0 : Int) (r : Int) (w : World) (h : spec_InPlace.f a0 = some r) :
  Calls Try.prog 168 #[.int .i64 a0] w fun e w' => e = .returned (.int .i64 r) ∧ Drawn0 w w' := by
 have H : ((spec_l1In.f a0 0 3).bind fun t313 => (if t313 = true then (some (wrap64 (2 * a0))) else (some (-1)))) = some r := h
 clear h
 obtain ⟨t313, A2, H⟩ := bindE H
 try dsimp only at H
 by_cases c3 : t313 = true
 ·
  subst c3
  have H1 : (some (wrap64 (2 * a0))) = some r := by rw [if_pos rfl] at H; exact H
  clear H
  have H := H1
  clear H1
  obtain rfl := Option.some.inj H
  go_enter Try.func168, Try.ntmps168
  go_wp2_with (first | ((with_reducible refine gate_callee (f := 111) rfl ?_); refine gL (some 4) Try.func111 #[.int .i64 a0, .int .i64 0, .int .i64 3] ?_; (with_reducible refine (spec_l1In.calls a0 0 3 true _ A2.out).mono ?_); rintro e w' ⟨rfl, ⟨nd, rfl⟩⟩; refine ⟨_, rfl, ?_⟩))
  go_ret
  exact ⟨rS, dD⟩
 replace c3 := Bool.eq_false_iff.mpr c3
 subst c3
 have H1 : (some (-1)) = some r := by rw [if_neg (show ¬ (false = true) by decide)] at H; exact H
 clear H
 have H := H1
 clear H1
 obtain rfl := Option.some.inj H
 go_enter Try.func168, Try.ntmps168
 go_wp2_with (first | ((with_reducible refine gate_callee (f := 111) rfl ?_); refine gL (some 4) Try.func111 #[.int .i64 a0, .int .i64 0, .int .i64 3] ?_; (with_reducible refine (spec_l1In.calls a0 0 3 false _ A2.out).mono ?_); rintro e w' ⟨rfl, ⟨nd, rfl⟩⟩; refine ⟨_, rfl, ?_⟩))
 go_ret
 exact ⟨rS, dD⟩

/-! ### spec_OutPlace: function 169 -/
def spec_OutPlace.f (a0 : Int) : Option (Int) := (spec_l1In.f a0 0 3).bind fun t314 => (if t314 = true then (some (wrap64 ((wrap64 (2 * a0)) + 1))) else (some (-1)))
set_option maxHeartbeats 8000000 in
set_option maxRecDepth 100000 in
theorem spec_OutPlace.calls (a0 : Int) (r : Int) (w : World) (h : spec_OutPlace.f a0 = some r) :
  Calls Try.prog 169 #[.int .i64 a0] w fun e w' => e = .returned (.int .i64 r) ∧ Drawn0 w w' := by
 have H : ((spec_l1In.f a0 0 3).bind fun t314 => (if t314 = true then (some (wrap64 ((wrap64 (2 * a0)) + 1))) else (some (-1)))) = some r := h
 clear h
 obtain ⟨t314, A2, H⟩ := bindE H
 try dsimp only at H
 by_cases c3 : t314 = true
 ·
  subst c3
  have H1 : (some (wrap64 ((wrap64 (2 * a0)) + 1))) = some r := by rw [if_pos rfl] at H; exact H
  clear H
  have H := H1
  clear H1
  obtain rfl := Option.some.inj H
  go_enter Try.func169, Try.ntmps169
  go_wp2_with (first | ((with_reducible refine gate_callee (f := 111) rfl ?_); refine gL (some 4) Try.func111 #[.int .i64 a0, .int .i64 0, .int .i64 3] ?_; (with_reducible refine (spec_l1In.calls a0 0 3 true _ A2.out).mono ?_); rintro e w' ⟨rfl, ⟨nd, rfl⟩⟩; refine ⟨_, rfl, ?_⟩))
  go_ret
  exact ⟨rS, dD⟩
 replace c3 := Bool.eq_false_iff.mpr c3
 subst c3
 have H1 : (some (-1)) = some r := by rw [if_neg (show ¬ (false = true) by decide)] at H; exact H
 clear H
 have H := H1
 clear H1
 obtain rfl := Option.some.inj H
 go_enter Try.func169, Try.ntmps169
 go_wp2_with (first | ((with_reducible refine gate_callee (f := 111) rfl ?_); refine gL (some 4) Try.func111 #[.int .i64 a0, .int .i64 0, .int .i64 3] ?_; (with_reducible refine (spec_l1In.calls a0 0 3 false _ A2.out).mono ?_); rintro e w' ⟨rfl, ⟨nd, rfl⟩⟩; refine ⟨_, rfl, ?_⟩))
 go_ret
 exact ⟨rS, dD⟩

/-! ### spec_Conflict: function 145 -/
def spec_Conflict.j0 : Nat → Bool → Int → Int → Int → Int → Int → Int → Int → Int → Option (Bool)
 | 0, _, _, _, _, _, _, _, _, _ => none
 | k + 1, x5, x316000, x316001, x316002, x316003, x317000, x317001, x317002, x317003 => if x5 = true then (some false) else (if x316001 = 2 then (if x317002 = x316002 then (some true) else (some (x317003 == x316002))) else (if x317001 = 2 then (if x316002 = x317002 then (some true) else (some (x316003 == x317002))) else (if x316002 = x317002 then (some false) else (if x316003 = x317003 then (some true) else ((spec_InPlace.f x316002).bind fun t319 => ((spec_OutPlace.f x316003).bind fun t320 => ((spec_InPlace.f x317002).bind fun t321 => ((spec_OutPlace.f x317003).bind fun t322 => ((spec_Interleave.f k t319 t320 t321 t322).bind fun t323 => (some t323))))))))))
def spec_Conflict.f (k : Nat) (a0_0 : Int) (a0_1 : Int) (a0_2 : Int) (a0_3 : Int) (a1_0 : Int) (a1_1 : Int) (a1_2 : Int) (a1_3 : Int) : Option (Bool) := (spec_IsPath.f a0_0 a0_1 a0_2 a0_3).bind fun t317 => (if t317 = true then ((spec_IsPath.f a1_0 a1_1 a1_2 a1_3).bind fun t318 => (if t318 = true then (if a0_1 = 2 then (spec_Conflict.j0 k (a1_1 == 2) a0_0 a0_1 a0_2 a0_3 a1_0 a1_1 a1_2 a1_3) else (spec_Conflict.j0 k false a0_0 a0_1 a0_2 a0_3 a1_0 a1_1 a1_2 a1_3)) else (spec_Conflict.j0 k true a0_0 a0_1 a0_2 a0_3 a1_0 a1_1 a1_2 a1_3))) else (spec_Conflict.j0 k true a0_0 a0_1 a0_2 a0_3 a1_0 a1_1 a1_2 a1_3))
theorem spec_Conflict.mono_l : ∀ k, (∀ y0 y1 y2 y3 y4 y5 y6 y7 y8, LeO (spec_Conflict.j0 k y0 y1 y2 y3 y4 y5 y6 y7 y8) (spec_Conflict.j0 (k + 1) y0 y1 y2 y3 y4 y5 y6 y7 y8))
 | 0 => fun _ _ _ _ _ _ _ _ _ r h => by simp [spec_Conflict.j0] at h
 | k + 1 => by
  have ih0 := spec_Conflict.mono_l k
  ·
   intro y0 y1 y2 y3 y4 y5 y6 y7 y8
   unfold spec_Conflict.j0
   exact mz2 ih0 spec_Interleave.mono
theorem spec_Conflict.mono : ∀ a0 a1 a2 a3 a4 a5 a6 a7 k, LeO (spec_Conflict.f k a0 a1 a2 a3 a4 a5 a6 a7) (spec_Conflict.f (k + 1) a0 a1 a2 a3 a4 a5 a6 a7) := by
 intro a0 a1 a2 a3 a4 a5 a6 a7 k
 have ih0 := spec_Conflict.mono_l k
 unfold spec_Conflict.f
 exact mz2 ih0 spec_Interleave.mono
def spec_Conflict.T11 : Bool × List (List Nat × List Nat) := (true, [([], []), ([0], [0]), ([1], [1]), ([], []), ([3], [3]), ([4, 2], [4]), ([], []), ([6], [6]), ([7, 5], [7]), ([], []), ([9], [9]), ([10, 8], [10]), ([2, 5, 8, 11, 11], [2, 5, 8, 11]), ([12, 12, 0, 1, 2, 3, 4, 5, 6, 7, 8, 9, 10, 11, 12], [12])])
def spec_Conflict.B11 : List Nat := [0, 1, 3, 0, 8, 31, 0, 64, 255, 0, 512, 2047, 4095, 8191]
theorem spec_Conflict.tab11 : rtab .any (opsOf Try.f145 11) = spec_Conflict.T11 := by kernel_rfl
theorem spec_Conflict.bits11 : waitsOk spec_Conflict.T11.2 spec_Conflict.B11 = true := by kernel_rfl
set_option maxHeartbeats 8000000 in
set_option maxRecDepth 100000 in
theorem spec_Conflict.calls (k : Nat) (a0_0 : Int) (a0_1 : Int) (a0_2 : Int) (a0_3 : Int) (a1_0 : Int) (a1_1 : Int) (a1_2 : Int) (a1_3 : Int) (r : Bool) (w : World) (h : spec_Conflict.f k a0_0 a0_1 a0_2 a0_3 a1_0 a1_1 a1_2 a1_3 = some r) :
  Calls Try.prog 145 #[.agg #[.int .i64 a0_0, .int .i64 a0_1, .int .i64 a0_2, .int .i64 a0_3], .agg #[.int .i64 a1_0, .int .i64 a1_1, .int .i64 a1_2, .int .i64 a1_3]] w fun e w' => e = .returned (.bool r) ∧ Below w.heap.size w w' := by
 have hu50 := Try.underlying50
 have HB := Aside0.mk (Below.refl w.heap.size w)
 have H : ((spec_IsPath.f a0_0 a0_1 a0_2 a0_3).bind fun t317 => (if t317 = true then ((spec_IsPath.f a1_0 a1_1 a1_2 a1_3).bind fun t318 => (if t318 = true then (if a0_1 = 2 then (spec_Conflict.j0 k (a1_1 == 2) a0_0 a0_1 a0_2 a0_3 a1_0 a1_1 a1_2 a1_3) else (spec_Conflict.j0 k false a0_0 a0_1 a0_2 a0_3 a1_0 a1_1 a1_2 a1_3)) else (spec_Conflict.j0 k true a0_0 a0_1 a0_2 a0_3 a1_0 a1_1 a1_2 a1_3))) else (spec_Conflict.j0 k true a0_0 a0_1 a0_2 a0_3 a1_0 a1_1 a1_2 a1_3))) = some r := h
 clear h
 have HC3 := Aside0.mk H
 clear H
 go_enter Try.func145, Try.ntmps145
 go_upto_region 1 with (first | ((with_reducible refine gate_dst (N := 2) rfl ?_); refine bE (N := 2) (cs := #[.int .i64 a0_0, .int .i64 a0_1, .int .i64 a0_2, .int .i64 a0_3]) (t := 50) ?_; intro gb315 hg w4 hbox hb; have BK315 := Aside0.mk (hbox); have GW315 := gw w hg; have GE315 := gw w hg; replace HB := bs HB hb; clear hb hbox hg) | ((with_reducible refine gate_dst (N := 3) rfl ?_); refine bE (N := 3) (cs := #[.int .i64 a1_0, .int .i64 a1_1, .int .i64 a1_2, .int .i64 a1_3]) (t := 50) ?_; intro gb316 hg w5 hbox hb; have BK316 := Aside0.mk (hbox); have GW316 := gw w hg; have GE316 := gw w hg; replace HB := bs HB hb; have NB315_316 := nl BK315 hg; have NB316_315 := nr BK315 hg; replace BK315 := kb BK315 hb; clear hb hbox hg))
 (try simp only [Act.put, List.setIfInBounds_toArray, List.set_cons_zero, List.set_cons_succ])
 go_cut [5] (fun v5 wc => ∃ (kq : Nat) (x5_2 : Bool), v5 = .bool x5_2 ∧ Aside0 (spec_Conflict.j0 kq x5_2 a0_0 a0_1 a0_2 a0_3 a1_0 a1_1 a1_2 a1_3 = some r) ∧ Aside0 (kq ≤ k) ∧ Aside0 (wc.heap[gb315]? = some (.cells #[.int .i64 a0_0, .int .i64 a0_1, .int .i64 a0_2, .int .i64 a0_3] 50 (0, 0))) ∧ Aside0 (wc.heap[gb316]? = some (.cells #[.int .i64 a1_0, .int .i64 a1_1, .int .i64 a1_2, .int .i64 a1_3] 50 (0, 0))) ∧ Aside0 (Below w.heap.size w wc))
 case first =>
  have H := HC3.out
  clear HC3
  obtain ⟨t317, A6, H⟩ := bindE H
  try dsimp only at H
  by_cases c7 : t317 = true
  ·
   subst c7
   have H1 : ((spec_IsPath.f a1_0 a1_1 a1_2 a1_3).bind fun t318 => (if t318 = true then (if a0_1 = 2 then (spec_Conflict.j0 k (a1_1 == 2) a0_0 a0_1 a0_2 a0_3 a1_0 a1_1 a1_2 a1_3) else (spec_Conflict.j0 k false a0_0 a0_1 a0_2 a0_3 a1_0 a1_1 a1_2 a1_3)) else (spec_Conflict.j0 k true a0_0 a0_1 a0_2 a0_3 a1_0 a1_1 a1_2 a1_3))) = some r := by rw [if_pos rfl] at H; exact H
   clear H
   have H := H1
   clear H1
   obtain ⟨t318, A8, H⟩ := bindE H
   try dsimp only at H
   by_cases c9 : t318 = true
   ·
    subst c9
    have H1 : (if a0_1 = 2 then (spec_Conflict.j0 k (a1_1 == 2) a0_0 a0_1 a0_2 a0_3 a1_0 a1_1 a1_2 a1_3) else (spec_Conflict.j0 k false a0_0 a0_1 a0_2 a0_3 a1_0 a1_1 a1_2 a1_3)) = some r := by rw [if_pos rfl] at H; exact H
    clear H
    have H := H1
    clear H1
    by_cases c10 : a0_1 = 2
    ·
     rw [if_pos c10] at H
     have c10b0 : (a0_1 == 2) = true := beq_iff_eq.mpr c10
     have c10b1 : (a0_1 != 2) = false := bne_eq_false_iff_eq.mpr c10
     clear c10
     (first | rw [c10b0] | (simp only [i64_w, i32_w]; rw [c10b0]) | skip)
     have H' := Aside0.mk H
     clear H
     have hnb11 := NB315_316.out
     have hnc11 := NB316_315.out
     obtain ⟨_, _, _, _, _, _, _, _⟩ := blkc4 BK315
     go_wp2_with (first | ((with_reducible refine gate_callee (f := 91) rfl ?_); refine gL (some 7) Try.func91 #[.agg #[.int .i64 a0_0, .int .i64 a0_1, .int .i64 a0_2, .int .i64 a0_3]] ?_; (with_reducible refine (spec_IsPath.calls a0_0 a0_1 a0_2 a0_3 true _ A6.out).mono ?_); rintro e w13 ⟨rfl, hb⟩; refine ⟨_, rfl, ?_⟩; replace BK315 := kb BK315 hb; replace BK316 := kb BK316 hb; replace HB := bs HB hb; (try clear hb); obtain ⟨_, _, _, _, _, _, _, _⟩ := blkc4 BK316) | (go_at_call 91; (with_reducible refine (spec_IsPath.calls a1_0 a1_1 a1_2 a1_3 true _ A8.out).mono ?_); rintro e w15 ⟨rfl, hb⟩; replace BK315 := kb BK315 hb; replace BK316 := kb BK316 hb; replace HB := bs HB hb; (try clear hb); obtain ⟨_, _, _, _, _, _, _, _⟩ := blkc4 BK315; obtain ⟨_, _, _, _, _, _, _, _⟩ := blkc4 BK316))
     go_meet
     case rel => exact ⟨_, ((a1_1 == 2)), rS, H', ⟨oL⟩, ⟨bK BK315⟩, ⟨bK BK316⟩, ⟨bG⟩⟩
    rw [if_neg c10] at H
    have c10b0 : (a0_1 == 2) = false := beq_eq_false_iff_ne.mpr c10
    have c10b1 : (a0_1 != 2) = true := bne_iff_ne.mpr c10
    (first | rw [c10b0] | (simp only [i64_w, i32_w]; rw [c10b0]) | skip)
    have H' := Aside0.mk H
    clear H
    have hnb18 := NB315_316.out
    have hnc18 := NB316_315.out
    obtain ⟨_, _, _, _, _, _, _, _⟩ := blkc4 BK315
    go_wp2_with (first | ((with_reducible refine gate_callee (f := 91) rfl ?_); refine gL (some 7) Try.func91 #[.agg #[.int .i64 a0_0, .int .i64 a0_1, .int .i64 a0_2, .int .i64 a0_3]] ?_; (with_reducible refine (spec_IsPath.calls a0_0 a0_1 a0_2 a0_3 true _ A6.out).mono ?_); rintro e w20 ⟨rfl, hb⟩; refine ⟨_, rfl, ?_⟩; replace BK315 := kb BK315 hb; replace BK316 := kb BK316 hb; replace HB := bs HB hb; (try clear hb); obtain ⟨_, _, _, _, _, _, _, _⟩ := blkc4 BK316) | (go_at_call 91; (with_reducible refine (spec_IsPath.calls a1_0 a1_1 a1_2 a1_3 true _ A8.out).mono ?_); rintro e w22 ⟨rfl, hb⟩; replace BK315 := kb BK315 hb; replace BK316 := kb BK316 hb; replace HB := bs HB hb; (try clear hb); obtain ⟨_, _, _, _, _, _, _, _⟩ := blkc4 BK315))
    go_meet
    case rel => exact ⟨_, (false), rS, H', ⟨oL⟩, ⟨bK BK315⟩, ⟨bK BK316⟩, ⟨bG⟩⟩
   replace c9 := Bool.eq_false_iff.mpr c9
   subst c9
   have H1 : (spec_Conflict.j0 k true a0_0 a0_1 a0_2 a0_3 a1_0 a1_1 a1_2 a1_3) = some r := by rw [if_neg (show ¬ (false = true) by decide)] at H; exact H
   clear H
   have H := H1
   clear H1
   have H' := Aside0.mk H
   clear H
   have hnb24 := NB315_316.out
   have hnc24 := NB316_315.out
   obtain ⟨_, _, _, _, _, _, _, _⟩ := blkc4 BK315
   go_wp2_with (first | ((with_reducible refine gate_callee (f := 91) rfl ?_); refine gL (some 7) Try.func91 #[.agg #[.int .i64 a0_0, .int .i64 a0_1, .int .i64 a0_2, .int .i64 a0_3]] ?_; (with_reducible refine (spec_IsPath.calls a0_0 a0_1 a0_2 a0_3 true _ A6.out).mono ?_); rintro e w26 ⟨rfl, hb⟩; refine ⟨_, rfl, ?_⟩; replace BK315 := kb BK315 hb; replace BK316 := kb BK316 hb; replace HB := bs HB hb; (try clear hb); obtain ⟨_, _, _, _, _, _, _, _⟩ := blkc4 BK316) | (go_at_call 91; (with_reducible refine (spec_IsPath.calls a1_0 a1_1 a1_2 a1_3 false _ A8.out).mono ?_); rintro e w28 ⟨rfl, hb⟩; replace BK315 := kb BK315 hb; replace BK316 := kb BK316 hb; replace HB := bs HB hb; (try clear hb)))
   go_meet
   case rel => exact ⟨_, (true), rS, H', ⟨oL⟩, ⟨bK BK315⟩, ⟨bK BK316⟩, ⟨bG⟩⟩
  replace c7 := Bool.eq_false_iff.mpr c7
  subst c7
  have H1 : (spec_Conflict.j0 k true a0_0 a0_1 a0_2 a0_3 a1_0 a1_1 a1_2 a1_3) = some r := by rw [if_neg (show ¬ (false = true) by decide)] at H; exact H
  clear H
  have H := H1
  clear H1
  have H' := Aside0.mk H
  clear H
  have hnb29 := NB315_316.out
  have hnc29 := NB316_315.out
  obtain ⟨_, _, _, _, _, _, _, _⟩ := blkc4 BK315
  go_wp2_with (first | ((with_reducible refine gate_callee (f := 91) rfl ?_); refine gL (some 7) Try.func91 #[.agg #[.int .i64 a0_0, .int .i64 a0_1, .int .i64 a0_2, .int .i64 a0_3]] ?_; (with_reducible refine (spec_IsPath.calls a0_0 a0_1 a0_2 a0_3 false _ A6.out).mono ?_); rintro e w31 ⟨rfl, hb⟩; refine ⟨_, rfl, ?_⟩; replace BK315 := kb BK315 hb; replace BK316 := kb BK316 hb; replace HB := bs HB hb; (try clear hb)))
  go_meet
  case rel => exact ⟨_, (true), rS, H', ⟨oL⟩, ⟨bK BK315⟩, ⟨bK BK316⟩, ⟨bG⟩⟩
 case rest =>
  clear HC3
  obtain ⟨kq, x5_2, rfl, HA, HJ2, BK315, BK316, HB⟩ := hcut
  cases kq with
  | zero => exact absurd HA.out (by simp [spec_Conflict.j0])
  | succ kj2 =>
   have H := HA.out
   clear HA
   simp only [spec_Conflict.j0] at H
   by_cases c32 : x5_2 = true
   ·
    subst c32
    have H1 : (some false) = some r := by rw [if_pos rfl] at H; exact H
    clear H
    have H := H1
    clear H1
    obtain rfl := Option.some.inj H
    go_wp2
    go_ret
    exact ⟨rA, bG⟩
   replace c32 := Bool.eq_false_iff.mpr c32
   subst c32
   have H1 : (if a0_1 = 2 then (if a1_2 = a0_2 then (some true) else (some (a1_3 == a0_2))) else (if a1_1 = 2 then (if a0_2 = a1_2 then (some true) else (some (a0_3 == a1_2))) else (if a0_2 = a1_2 then (some false) else (if a0_3 = a1_3 then (some true) else ((spec_InPlace.f a0_2).bind fun t319 => ((spec_OutPlace.f a0_3).bind fun t320 => ((spec_InPlace.f a1_2).bind fun t321 => ((spec_OutPlace.f a1_3).bind fun t322 => ((spec_Interleave.f kj2 t319 t320 t321 t322).bind fun t323 => (some t323)))))))))) = some r := by rw [if_neg (show ¬ (false = true) by decide)] at H; exact H
   clear H
   have H := H1
   clear H1
   by_cases c33 : a0_1 = 2
   ·
    rw [if_pos c33] at H
    have c33b0 : (a0_1 == 2) = true := beq_iff_eq.mpr c33
    have c33b1 : (a0_1 != 2) = false := bne_eq_false_iff_eq.mpr c33
    clear c33
    by_cases c34 : a1_2 = a0_2
    ·
     rw [if_pos c34] at H
     have c34b0 : (a1_2 == a0_2) = true := beq_iff_eq.mpr c34
     have c34b1 : (a1_2 != a0_2) = false := bne_eq_false_iff_eq.mpr c34
     clear c34
     obtain rfl := Option.some.inj H
     have hnb35 := NB315_316.out
     have hnc35 := NB316_315.out
     obtain ⟨_, _, _, _, _, _, _, _⟩ := blkc4 BK315
     obtain ⟨_, _, _, _, _, _, _, _⟩ := blkc4 BK316
     go_wp2
     go_ret
     exact ⟨rA, bG⟩
    rw [if_neg c34] at H
    have c34b0 : (a1_2 == a0_2) = false := beq_eq_false_iff_ne.mpr c34
    have c34b1 : (a1_2 != a0_2) = true := bne_iff_ne.mpr c34
    obtain rfl := Option.some.inj H
    have hnb38 := NB315_316.out
    have hnc38 := NB316_315.out
    obtain ⟨_, _, _, _, _, _, _, _⟩ := blkc4 BK315
    obtain ⟨_, _, _, _, _, _, _, _⟩ := blkc4 BK316
    go_wp2
    go_ret
    exact ⟨rA, bG⟩
   rw [if_neg c33] at H
   have c33b0 : (a0_1 == 2) = false := beq_eq_false_iff_ne.mpr c33
   have c33b1 : (a0_1 != 2) = true := bne_iff_ne.mpr c33
   by_cases c41 : a1_1 = 2
   ·
    rw [if_pos c41] at H
    have c41b0 : (a1_1 == 2) = true := beq_iff_eq.mpr c41
    have c41b1 : (a1_1 != 2) = false := bne_eq_false_iff_eq.mpr c41
    clear c41
    by_cases c42 : a0_2 = a1_2
    ·
     rw [if_pos c42] at H
     have c42b0 : (a0_2 == a1_2) = true := beq_iff_eq.mpr c42
     have c42b1 : (a0_2 != a1_2) = false := bne_eq_false_iff_eq.mpr c42
     clear c42
     obtain rfl := Option.some.inj H
     have hnb43 := NB315_316.out
     have hnc43 := NB316_315.out
     obtain ⟨_, _, _, _, _, _, _, _⟩ := blkc4 BK315
     obtain ⟨_, _, _, _, _, _, _, _⟩ := blkc4 BK316
     go_wp2
     go_ret
     exact ⟨rA, bG⟩
    rw [if_neg c42] at H
    have c42b0 : (a0_2 == a1_2) = false := beq_eq_false_iff_ne.mpr c42
    have c42b1 : (a0_2 != a1_2) = true := bne_iff_ne.mpr c42
    obtain rfl := Option.some.inj H
    have hnb46 := NB315_316.out
    have hnc46 := NB316_315.out
    obtain ⟨_, _, _, _, _, _, _, _⟩ := blkc4 BK315
    obtain ⟨_, _, _, _, _, _, _, _⟩ := blkc4 BK316
    go_wp2
    go_ret
    exact ⟨rA, bG⟩
   rw [if_neg c41] at H
   have c41b0 : (a1_1 == 2) = false := beq_eq_false_iff_ne.mpr c41
   have c41b1 : (a1_1 != 2) = true := bne_iff_ne.mpr c41
   by_cases c49 : a0_2 = a1_2
   ·
    rw [if_pos c49] at H
    have c49b0 : (a0_2 == a1_2) = true := beq_iff_eq.mpr c49
    have c49b1 : (a0_2 != a1_2) = false := bne_eq_false_iff_eq.mpr c49
    clear c49
    obtain rfl := Option.some.inj H
    have hnb50 := NB315_316.out
    have hnc50 := NB316_315.out
    obtain ⟨_, _, _, _, _, _, _, _⟩ := blkc4 BK315
    obtain ⟨_, _, _, _, _, _, _, _⟩ := blkc4 BK316
    go_wp2
    go_ret
    exact ⟨rA, bG⟩
   rw [if_neg c49] at H
   have c49b0 : (a0_2 == a1_2) = false := beq_eq_false_iff_ne.mpr c49
   have c49b1 : (a0_2 != a1_2) = true := bne_iff_ne.mpr c49
   by_cases c53 : a0_3 = a1_3
   ·
    rw [if_pos c53] at H
    have c53b0 : (a0_3 == a1_3) = true := beq_iff_eq.mpr c53
    have c53b1 : (a0_3 != a1_3) = false := bne_eq_false_iff_eq.mpr c53
    clear c53
    obtain rfl := Option.some.inj H
    have hnb54 := NB315_316.out
    have hnc54 := NB316_315.out
    obtain ⟨_, _, _, _, _, _, _, _⟩ := blkc4 BK315
    obtain ⟨_, _, _, _, _, _, _, _⟩ := blkc4 BK316
    go_wp2
    go_ret
    exact ⟨rA, bG⟩
   rw [if_neg c53] at H
   have c53b0 : (a0_3 == a1_3) = false := beq_eq_false_iff_ne.mpr c53
   have c53b1 : (a0_3 != a1_3) = true := bne_iff_ne.mpr c53
   obtain ⟨t319, A57, H⟩ := bindE H
   try dsimp only at H
   obtain ⟨t320, A58, H⟩ := bindE H
   try dsimp only at H
   obtain ⟨t321, A59, H⟩ := bindE H
   try dsimp only at H
   obtain ⟨t322, A60, H⟩ := bindE H
   try dsimp only at H
   obtain ⟨t323, A61, H⟩ := bindE H
   try dsimp only at H
   obtain rfl := Option.some.inj H
   have hnb62 := NB315_316.out
   have hnc62 := NB316_315.out
   obtain ⟨_, _, _, _, _, _, _, _⟩ := blkc4 BK315
   obtain ⟨_, _, _, _, _, _, _, _⟩ := blkc4 BK316
   try go_wp2
   replace BK315 := dk BK315
   replace BK316 := dk BK316
   have HBo := HB
   replace HB := db HB
   refine sw (ds := []) 14 (mb 14 0) spec_Conflict.tab11 spec_Conflict.bits11 (h4c BK315 (h4 BK316)) (fun hHeld HT_ HW_ => ?_)
   generalize wc.drew = w65 at BK315 BK316 HB hHeld ⊢
   refine pa 0 68 (mb 14 1) HT_ ?_
   refine pa 3 71 (mb 14 9) HT_ ?_
   refine pa 6 74 (mb 14 73) HT_ ?_
   refine pa 9 77 (mb 14 585) HT_ ?_
   refine ta8 1 69 (mb 14 587) HT_ HW_ hHeld ?_
   refine ta8 4 72 (mb 14 603) HT_ HW_ hHeld ?_
   refine ta8 7 75 (mb 14 731) HT_ HW_ hHeld ?_
   refine ta8 10 78 (mb 14 1755) HT_ HW_ hHeld ?_
   refine oa 2 70 (mb 14 1759) HT_ (fun K hK => ?_)
   refine gA Try.func168 #[.int .i64 a0_2] ?_
   with_reducible refine (spec_InPlace.calls a0_2 t319 _ A57.out).mono ?_
   rintro e w' ⟨rfl, ⟨nd, rfl⟩⟩
   refine ⟨_, rfl, ?_⟩
   refine hK.out _ _ (cm4 BK315 (cn4 BK316)) (fun hHeld => ?_)
   clear hK K
   refine nB ?_
   refine oa 5 73 (mb 14 1791) HT_ (fun K hK => ?_)
   refine gA Try.func169 #[.int .i64 a0_3] ?_
   with_reducible refine (spec_OutPlace.calls a0_3 t320 _ A58.out).mono ?_
   rintro e w' ⟨rfl, ⟨nd, rfl⟩⟩
   refine ⟨_, rfl, ?_⟩
   refine hK.out _ _ (cm4 BK315 (cn4 BK316)) (fun hHeld => ?_)
   clear hK K
   refine nB ?_
   refine oa 8 76 (mb 14 2047) HT_ (fun K hK => ?_)
   refine gA Try.func168 #[.int .i64 a1_2] ?_
   with_reducible refine (spec_InPlace.calls a1_2 t321 _ A59.out).mono ?_
   rintro e w' ⟨rfl, ⟨nd, rfl⟩⟩
   refine ⟨_, rfl, ?_⟩
   refine hK.out _ _ (cm4 BK315 (cn4 BK316)) (fun hHeld => ?_)
   clear hK K
   refine nB ?_
   refine oa 11 79 (mb 14 4095) HT_ (fun K hK => ?_)
   refine gA Try.func169 #[.int .i64 a1_3] ?_
   with_reducible refine (spec_OutPlace.calls a1_3 t322 _ A60.out).mono ?_
   rintro e w' ⟨rfl, ⟨nd, rfl⟩⟩
   refine ⟨_, rfl, ?_⟩
   refine hK.out _ _ (cm4 BK315 (cn4 BK316)) (fun hHeld => ?_)
   clear hK K
   refine nB ?_
   refine oa 12 80 (mb 14 8191) HT_ (fun K hK => ?_)
   refine gA Try.func167 #[.int .i64 t319, .int .i64 t320, .int .i64 t321, .int .i64 t322] ?_
   with_reducible refine (spec_Interleave.calls kj2 t319 t320 t321 t322 t323 _ A61.out).mono ?_
   rintro e w66 ⟨rfl, hb⟩
   refine ⟨_, rfl, ?_⟩
   replace BK315 := kb BK315 hb
   replace BK316 := kb BK316 hb
   replace HB := bs HB hb
   (try clear hb)
   (try clear hb2)
   (try clear hk)
   (try clear hi)
   refine hK.out _ _ (cm4 BK315 (cn4 BK316)) (fun hHeld => ?_)
   clear hK K
   refine nB ?_
   refine pa 13 4 (mb 14 16383) HT_ ?_
   refine eA HT_ ?_
   try go_wp2
   go_ret
   exact ⟨rA, bG⟩

end Go.Proofs.Ytjgonpcajedkjaa.P
