/- Printed by myprint.py (wip/tools) over the kit's print: what Go's functions compute, and that they do. Lean checks it. -/
import Derived.Test.YtjgonpcajedkjaaF0
import Derived.Test.YtjgonpcajedkjaaFX00
import Derived.Shelf.RegionOpenPlain
import Derived.Lib.Overlaps
import Derived.Laws.Externs
namespace Go.Proofs.Ytjgonpcajedkjaa.P
open Go.RowKit Go.Proofs.YtjgonpcajedkjaaW.PrintWords Go.Proofs.YtjgonpcajedkjaaW.PrintLast Go.Proofs.YtjgonpcajedkjaaW.PrintMore Go.Proofs.Ytjgonpcajedkjaa.Sq
attribute [local go_sem] max2_int min2_int max_two min_two max_three min_three max_four min_four
set_option linter.unusedVariables false
set_option linter.unusedSimpArgs false

/-! ### impl_ClearBetween: function 99 -/
mutual
def impl_ClearBetween.j0 : Nat → List (S50) → List Int → List Int → Int → Bool → Option (Int)
 | 0, _, _, _, _, _ => none
 | k + 1, x0, x1, x2, x7, x22 => if x22 = true then (some x7) else ((impl_Closes.f k x1 x2).bind fun t180 => (impl_ClearBetween.l0 k x0 x1 x2 x7 t180 (t180.length : Int) 0))
def impl_ClearBetween.l0 : Nat → List (S50) → List Int → List Int → Int → List Int → Int → Int → Option (Int)
 | 0, _, _, _, _, _, _, _ => none
 | k + 1, x0, x1, x2, x7, x26, x27, x28 => if x28 < x27 then (if 0 ≤ x28 then (if x28 < (x26.length : Int) then ((impl_Closes.f k x2 x1).bind fun t184 => (impl_ClearBetween.l1 k x0 x1 x2 x7 (rd x26 x28) x26 x27 x28 t184 (t184.length : Int) 0)) else (none)) else (none)) else (some x7)
def impl_ClearBetween.l1 : Nat → List (S50) → List Int → List Int → Int → Int → List Int → Int → Int → List Int → Int → Int → Option (Int)
 | 0, _, _, _, _, _, _, _, _, _, _, _ => none
 | k + 1, x0, x1, x2, x7, x9, x26, x27, x28, x34, x35, x36 => if x36 < x35 then (if 0 ≤ x36 then (if x36 < (x34.length : Int) then ((impl_FindPath.f x0 x9).bind fun t188 => (if 0 ≤ t188 then (if t188 < (x0.length : Int) then ((impl_FindPath.f x0 (rd x34 x36)).bind fun t191 => (if 0 ≤ t191 then (if t191 < (x0.length : Int) then ((impl_Conflict.f k ((rd_T50 x0 t188).f0) ((rd_T50 x0 t188).f1) ((rd_T50 x0 t188).f2) ((rd_T50 x0 t188).f3) ((rd_T50 x0 t191).f0) ((rd_T50 x0 t191).f1) ((rd_T50 x0 t191).f2) ((rd_T50 x0 t191).f3)).bind fun t193 => (if t193 = true then ((impl_ClearOf.f ((rd_T50 x0 t188).f0) ((rd_T50 x0 t188).f1) ((rd_T50 x0 t188).f2) ((rd_T50 x0 t188).f3)).bind fun t194 => (impl_ClearBetween.l1 k x0 x1 x2 (mx x7 t194) x9 x26 x27 x28 x34 x35 (wrap64 (x36 + 1)))) else (impl_ClearBetween.l1 k x0 x1 x2 x7 x9 x26 x27 x28 x34 x35 (wrap64 (x36 + 1))))) else (none)) else (none))) else (none)) else (none))) else (none)) else (none)) else (impl_ClearBetween.l0 k x0 x1 x2 x7 x26 x27 (wrap64 (x28 + 1)))
end
def impl_ClearBetween.f (k : Nat) (l0 : List (S50)) (l1 : List Int) (l2 : List Int) : Option (Int) := (impl_IsTogether.f k l0 l1).bind fun t178 => (if t178 = true then ((impl_IsTogether.f k l0 l2).bind fun t179 => (impl_ClearBetween.j0 k l0 l1 l2 0 (!t179))) else (impl_ClearBetween.j0 k l0 l1 l2 0 true))
theorem impl_ClearBetween.mono_l : ∀ k, (∀ y0 y1 y2 y3 y4, LeO (impl_ClearBetween.j0 k y0 y1 y2 y3 y4) (impl_ClearBetween.j0 (k + 1) y0 y1 y2 y3 y4)) ∧ (∀ y0 y1 y2 y3 y4 y5 y6, LeO (impl_ClearBetween.l0 k y0 y1 y2 y3 y4 y5 y6) (impl_ClearBetween.l0 (k + 1) y0 y1 y2 y3 y4 y5 y6)) ∧ (∀ y0 y1 y2 y3 y4 y5 y6 y7 y8 y9 y10, LeO (impl_ClearBetween.l1 k y0 y1 y2 y3 y4 y5 y6 y7 y8 y9 y10) (impl_ClearBetween.l1 (k + 1) y0 y1 y2 y3 y4 y5 y6 y7 y8 y9 y10))
 | 0 => ⟨fun _ _ _ _ _ r h => by simp [impl_ClearBetween.j0] at h, fun _ _ _ _ _ _ _ r h => by simp [impl_ClearBetween.l0] at h, fun _ _ _ _ _ _ _ _ _ _ _ r h => by simp [impl_ClearBetween.l1] at h⟩
 | k + 1 => by
  obtain ⟨ih0, ih1, ih2⟩ := impl_ClearBetween.mono_l k
  refine ⟨?_, ?_, ?_⟩
  ·
   intro y0 y1 y2 y3 y4
   unfold impl_ClearBetween.j0
   exact mz6 ih0 ih1 ih2 impl_Closes.mono impl_Conflict.mono impl_IsTogether.mono
  ·
   intro y0 y1 y2 y3 y4 y5 y6
   unfold impl_ClearBetween.l0
   exact mz6 ih0 ih1 ih2 impl_Closes.mono impl_Conflict.mono impl_IsTogether.mono
  ·
   intro y0 y1 y2 y3 y4 y5 y6 y7 y8 y9 y10
   unfold impl_ClearBetween.l1
   exact mz6 ih0 ih1 ih2 impl_Closes.mono impl_Conflict.mono impl_IsTogether.mono
theorem impl_ClearBetween.mono : ∀ a0 a1 a2 k, LeO (impl_ClearBetween.f k a0 a1 a2) (impl_ClearBetween.f (k + 1) a0 a1 a2) := by
 intro a0 a1 a2 k
 obtain ⟨ih0, ih1, ih2⟩ := impl_ClearBetween.mono_l k
 unfold impl_ClearBetween.f
 exact mz6 ih0 ih1 ih2 impl_Closes.mono impl_Conflict.mono impl_IsTogether.mono
def impl_ClearBetween.T11 : Bool × List (List Nat × List Nat) := (true, [([], []), ([], []), ([], []), ([], []), ([2, 3], [2, 3]), ([1, 4], [1, 4]), ([5], [5]), ([0, 6, 4], [0, 6])])
def impl_ClearBetween.B11 : List Nat := [0, 0, 0, 0, 12, 30, 62, 127]
theorem impl_ClearBetween.tab11 : rtab .any (opsOf Try.f99 11) = impl_ClearBetween.T11 := by kernel_rfl
theorem impl_ClearBetween.bits11 : waitsOk impl_ClearBetween.T11.2 impl_ClearBetween.B11 = true := by kernel_rfl
set_option maxHeartbeats 8000000 in
set_option maxRecDepth 100000 in
theorem impl_ClearBetween.calls (k : Nat) (A0 : Option Addr) (c0 : Nat) (l0 : List (S50)) (A1 : Option Addr) (c1 : Nat) (l1 : List Int) (A2 : Option Addr) (c2 : Nat) (l2 : List Int) (r : Int) (w : World) (hr0 : Kd.C k50 w A0 l0.length l0) (hc0 : l0.length ≤ c0) (hr1 : Kd.C (Kd.int .i64) w A1 l1.length l1) (hc1 : l1.length ≤ c1) (hr2 : Kd.C (Kd.int .i64) w A2 l2.length l2) (hc2 : l2.length ≤ c2) (h : impl_ClearBetween.f k l0 l1 l2 = some r) :
  Calls Try.prog 99 #[.slice A0 l0.length c0, .slice A1 l1.length c1, .slice A2 l2.length c2] w fun e w' => e = .returned (.int .i64 r) ∧ Below w.heap.size w w' := by
 have hu50 := Try.underlying50
 have HR0 := Aside0.mk hr0
 have HC0 := Aside0.mk hc0
 clear hr0 hc0
 have HR1 := Aside0.mk hr1
 have HC1 := Aside0.mk hc1
 clear hr1 hc1
 have HR2 := Aside0.mk hr2
 have HC2 := Aside0.mk hc2
 clear hr2 hc2
 have HB := Aside0.mk (Below.refl w.heap.size w)
 have H : ((impl_IsTogether.f k l0 l1).bind fun t178 => (if t178 = true then ((impl_IsTogether.f k l0 l2).bind fun t179 => (impl_ClearBetween.j0 k l0 l1 l2 0 (!t179))) else (impl_ClearBetween.j0 k l0 l1 l2 0 true))) = some r := h
 clear h
 have HC4 := Aside0.mk H
 clear H
 go_enter Try.func99, Try.ntmps99
 go_upto_region 2 with (fail)
 go_cut [22] (fun v22 wc => ∃ (kq : Nat) (x22_3 : Bool), v22 = .bool x22_3 ∧ Aside0 (impl_ClearBetween.j0 kq l0 l1 l2 0 x22_3 = some r) ∧ Aside0 (kq ≤ k) ∧ Aside0 (Below w.heap.size w wc))
 case first =>
  have H := HC4.out
  clear HC4
  obtain ⟨t178, A5, H⟩ := bindE H
  try dsimp only at H
  by_cases c6 : t178 = true
  ·
   subst c6
   have H1 : ((impl_IsTogether.f k l0 l2).bind fun t179 => (impl_ClearBetween.j0 k l0 l1 l2 0 (!t179))) = some r := by rw [if_pos rfl] at H; exact H
   clear H
   have H := H1
   clear H1
   obtain ⟨t179, A7, H⟩ := bindE H
   try dsimp only at H
   have H' := Aside0.mk H
   clear H
   go_wp2_with (first | ((with_reducible refine gate_callee (f := 68) rfl ?_); refine gL (some 15) Try.func68 #[.slice A0 l0.length c0, .slice A1 l1.length c1] ?_; (with_reducible refine (impl_IsTogether.calls k _ _ l0 _ _ l1 true _ ?_ ?_ ?_ ?_ A5.out).mono ?_); exact cB HR0; exact HC0.out; exact cB HR1; exact HC1.out; rintro e w8 ⟨rfl, hb⟩; refine ⟨_, rfl, ?_⟩; replace HB := bs HB hb; (try clear hb)) | (go_at_call 68; (with_reducible refine (impl_IsTogether.calls k _ _ l0 _ _ l2 t179 _ ?_ ?_ ?_ ?_ A7.out).mono ?_); exact cB HR0; exact HC0.out; exact cB HR2; exact HC2.out; rintro e w9 ⟨rfl, hb⟩; replace HB := bs HB hb; (try clear hb)))
   go_meet
   case rel => exact ⟨_, (!t179), rS, H', ⟨oL⟩, ⟨bA⟩⟩
  replace c6 := Bool.eq_false_iff.mpr c6
  subst c6
  have H1 : (impl_ClearBetween.j0 k l0 l1 l2 0 true) = some r := by rw [if_neg (show ¬ (false = true) by decide)] at H; exact H
  clear H
  have H := H1
  clear H1
  have H' := Aside0.mk H
  clear H
  go_wp2_with (first | ((with_reducible refine gate_callee (f := 68) rfl ?_); refine gL (some 15) Try.func68 #[.slice A0 l0.length c0, .slice A1 l1.length c1] ?_; (with_reducible refine (impl_IsTogether.calls k _ _ l0 _ _ l1 false _ ?_ ?_ ?_ ?_ A5.out).mono ?_); exact cB HR0; exact HC0.out; exact cB HR1; exact HC1.out; rintro e w10 ⟨rfl, hb⟩; refine ⟨_, rfl, ?_⟩; replace HB := bs HB hb; (try clear hb)))
  go_meet
  case rel => exact ⟨_, (true), rS, H', ⟨oL⟩, ⟨bA⟩⟩
 case rest =>
  clear HC4
  obtain ⟨kq, x22_3, rfl, HA, HJ3, HB⟩ := hcut
  cases kq with
  | zero => exact absurd HA.out (by simp [impl_ClearBetween.j0])
  | succ kj3 =>
   have H := HA.out
   clear HA
   simp only [impl_ClearBetween.j0] at H
   by_cases c11 : x22_3 = true
   ·
    subst c11
    have H1 : (some 0) = some r := by rw [if_pos rfl] at H; exact H
    clear H
    have H := H1
    clear H1
    obtain rfl := Option.some.inj H
    go_wp2
    go_ret
    exact ⟨rA, bA⟩
   replace c11 := Bool.eq_false_iff.mpr c11
   subst c11
   have H1 : ((impl_Closes.f kj3 l1 l2).bind fun t180 => (impl_ClearBetween.l0 kj3 l0 l1 l2 0 t180 (t180.length : Int) 0)) = some r := by rw [if_neg (show ¬ (false = true) by decide)] at H; exact H
   clear H
   have H := H1
   clear H1
   obtain ⟨t180, A12, H⟩ := bindE H
   try dsimp only at H
   have H' := Aside0.mk H
   clear H
   go_wp2_with (first | ((with_reducible refine gate_callee (f := 138) rfl ?_); refine gL (some 26) Try.func138 #[.slice A1 l1.length c1, .slice A2 l2.length c2] ?_; (with_reducible refine (impl_Closes.calls kj3 _ _ l1 _ _ l2 t180 _ ?_ ?_ ?_ ?_ A12.out).mono ?_); exact cB HR1; exact HC1.out; exact cB HR2; exact HC2.out; rintro e w13 ⟨v181, rfl, ho0, hb⟩; refine ⟨_, rfl, ?_⟩; have HO182 := rl w ho0; replace HB := bs HB hb; (try clear hb); (try clear ho0); obtain ⟨Ao14, co14, eo14⟩ := Kd.R_slice HO182.out; subst eo14))
   go_loopg [7, 28] kj3 (fun kq v7 v28 w' => ∃ (x7_2 : Int) (x28_2 : Int), v7 = .int .i64 x7_2 ∧ v28 = .int .i64 x28_2 ∧ Aside0 (impl_ClearBetween.l0 kq l0 l1 l2 x7_2 t180 (t180.length : Int) x28_2 = some r) ∧ Aside0 (kq ≤ kj3) ∧ Aside0 (Kd.R (Kd.int .i64) 3 w' w.heap.size (fun _ => True) (.slice Ao14 t180.length co14) t180) ∧ Aside0 (Below w.heap.size w w'))
   case atStart => exact ⟨(0), (0), rS, rS, H', ⟨Nat.le_refl _⟩, ⟨rK HO182⟩, ⟨bA⟩⟩
   case round =>
    clear H'
    obtain ⟨x7_2, x28_2, rfl, rfl, HA, HK2, HO_26, HB⟩ := hrel
    cases gk with
    | zero => exact absurd HA.out (by simp [impl_ClearBetween.l0])
    | succ k2 =>
     have H := HA.out
     clear HA
     simp only [impl_ClearBetween.l0] at H
     by_cases c15 : x28_2 < (t180.length : Int)
     ·
      rw [if_pos c15] at H
      have c15b0 := decide_eq_true c15
      clear c15
      have c16 : 0 ≤ x28_2 := ifN H
      replace H := ifT H
      have c16b0 := decide_eq_true c16
      clear c16
      have c17 : x28_2 < (t180.length : Int) := ifN H
      replace H := ifT H
      have c17b0 := decide_eq_true c17
      clear c17
      obtain ⟨t184, A18, H⟩ := bindE H
      try dsimp only at H
      have H' := Aside0.mk H
      clear H
      obtain ⟨p183, q183⟩ : 0 ≤ (x28_2 : Int) ∧ x28_2 < (t180.length : Int) := ⟨dA, dA⟩
      obtain ⟨ad183, e183, hx183_0⟩ := Kd.at_int (Kd.R_reads' HO_26.out).2.2 x28_2 p183 q183
      cases e183
      obtain ⟨p183, q183⟩ := eT p183 q183
      go_wp2_with (first | ((with_reducible refine gate_callee (f := 138) rfl ?_); refine gL (some 34) Try.func138 #[.slice A2 l2.length c2, .slice A1 l1.length c1] ?_; (with_reducible refine (impl_Closes.calls k2 _ _ l2 _ _ l1 t184 _ ?_ ?_ ?_ ?_ A18.out).mono ?_); exact cB HR2; exact HC2.out; exact cB HR1; exact HC1.out; rintro e w19 ⟨v185, rfl, ho0, hb⟩; refine ⟨_, rfl, ?_⟩; have HO186 := rl w (rn ho0 HO_26); replace HO_26 := re HO_26 ho0 hb; replace HB := bs HB hb; (try clear hb); (try clear ho0); obtain ⟨Ao20, co20, eo20⟩ := Kd.R_slice HO186.out; subst eo20))
      go_loopg [7, 36] k2 (fun kq v7 v36 w' => ∃ (x7_3 : Int) (x36_3 : Int), v7 = .int .i64 x7_3 ∧ v36 = .int .i64 x36_3 ∧ Aside0 (impl_ClearBetween.l1 kq l0 l1 l2 x7_3 (rd t180 x28_2) t180 (t180.length : Int) x28_2 t184 (t184.length : Int) x36_3 = some r) ∧ Aside0 (kq ≤ k2) ∧ Aside0 (Kd.R (Kd.int .i64) 3 w' w.heap.size (n1 (.slice Ao20 t184.length co20)) (.slice (some ad183) t180.length co14) t180) ∧ Aside0 (Kd.R (Kd.int .i64) 3 w' w.heap.size (n1 (.slice (some ad183) t180.length co14)) (.slice Ao20 t184.length co20) t184) ∧ Aside0 (Below w.heap.size w w'))
      case atStart => exact ⟨(x7_2), (0), rS, rS, H', ⟨Nat.le_refl _⟩, ⟨rm HO_26 (fun _ hk => hk.2)⟩, ⟨rm HO186 (fun _ hk => hk.2)⟩, ⟨bA⟩⟩
      case round =>
       clear H'
       obtain ⟨x7_3, x36_3, rfl, rfl, HA, HK3, HO_26, HO_34, HB⟩ := hrel
       cases gk with
       | zero => exact absurd HA.out (by simp [impl_ClearBetween.l1])
       | succ k3 =>
        have H := HA.out
        clear HA
        simp only [impl_ClearBetween.l1] at H
        by_cases c21 : x36_3 < (t184.length : Int)
        ·
         rw [if_pos c21] at H
         have c21b0 := decide_eq_true c21
         clear c21
         have c22 : 0 ≤ x36_3 := ifN H
         replace H := ifT H
         have c22b0 := decide_eq_true c22
         clear c22
         have c23 : x36_3 < (t184.length : Int) := ifN H
         replace H := ifT H
         have c23b0 := decide_eq_true c23
         clear c23
         obtain ⟨t188, A24, H⟩ := bindE H
         try dsimp only at H
         have c25 : 0 ≤ t188 := ifN H
         replace H := ifT H
         have c25b0 := decide_eq_true c25
         clear c25
         have c26 : t188 < (l0.length : Int) := ifN H
         replace H := ifT H
         have c26b0 := decide_eq_true c26
         clear c26
         obtain ⟨t191, A27, H⟩ := bindE H
         try dsimp only at H
         have c28 : 0 ≤ t191 := ifN H
         replace H := ifT H
         have c28b0 := decide_eq_true c28
         clear c28
         have c29 : t191 < (l0.length : Int) := ifN H
         replace H := ifT H
         have c29b0 := decide_eq_true c29
         clear c29
         obtain ⟨t193, A30, H⟩ := bindE H
         try dsimp only at H
         by_cases c31 : t193 = true
         ·
          subst c31
          have H1 : ((impl_ClearOf.f ((rd_T50 l0 t188).f0) ((rd_T50 l0 t188).f1) ((rd_T50 l0 t188).f2) ((rd_T50 l0 t188).f3)).bind fun t194 => (impl_ClearBetween.l1 k3 l0 l1 l2 (mx x7_3 t194) (rd t180 x28_2) t180 (t180.length : Int) x28_2 t184 (t184.length : Int) (wrap64 (x36_3 + 1)))) = some r := by rw [if_pos rfl] at H; exact H
          clear H
          have H := H1
          clear H1
          obtain ⟨t194, A32, H⟩ := bindE H
          try dsimp only at H
          obtain ⟨ji33, hji33⟩ : ∃ j_ : Int, (mx x7_3 t194) = j_ := ⟨_, rfl⟩
          replace H : (impl_ClearBetween.l1 k3 l0 l1 l2 ji33 (rd t180 x28_2) t180 (t180.length : Int) x28_2 t184 (t184.length : Int) (wrap64 (x36_3 + 1))) = some r := by first | (rw [hji33] at H; exact H) | (simp only [hji33] at H ⊢; exact H)
          (try rw [hji33] at A24)
          (try rw [hji33] at A27)
          (try rw [hji33] at A30)
          (try rw [hji33] at A32)
          have hji33_ : (if x7_3 < t194 then t194 else x7_3) = ji33 := hji33
          have H' := Aside0.mk H
          clear H
          obtain ⟨p187, q187⟩ : 0 ≤ (x36_3 : Int) ∧ x36_3 < (t184.length : Int) := ⟨dA, dA⟩
          obtain ⟨ad187, e187, hx187_0⟩ := Kd.at_int (Kd.R_reads' HO_34.out).2.2 x36_3 p187 q187
          cases e187
          obtain ⟨p187, q187⟩ := eT p187 q187
          try go_wp2_with (first | ((with_reducible refine gate_callee (f := 16) rfl ?_); refine gL (some 43) Try.func16 #[.slice A0 l0.length c0, .int .i64 (rd t180 x28_2)] ?_; (with_reducible refine (impl_FindPath.calls _ _ l0 (rd t180 x28_2) t188 _ ?_ ?_ A24.out).mono ?_); exact cB HR0; exact HC0.out; rintro e w34 ⟨rfl, hb⟩; refine ⟨_, rfl, ?_⟩; replace HO_26 := rb HO_26 hb; replace HO_34 := rb HO_34 hb; replace HB := bs HB hb; (try clear hb); have p189 : 0 ≤ (t188 : Int) := dA; have q189 : t188 < (l0.length : Int) := dA; obtain ⟨ad189, e189, hx189_0, hx189_1, hx189_2, hx189_3⟩ := at_T50 HR0.out t188 p189 q189; cases e189; replace hx189_0 := hC HB hx189_0; replace hx189_1 := hC HB hx189_1; replace hx189_2 := hC HB hx189_2; replace hx189_3 := hC HB hx189_3; replace p189 := eq_true p189; replace q189 := eq_true q189) | ((with_reducible refine gate_dst (N := 12) rfl ?_); refine bE (N := 12) (cs := #[.int .i64 0, .int .i64 0, .int .i64 0, .int .i64 0]) (t := 50) ?_; intro gb190 hg w35 hbox hb; replace HO_26 := rb HO_26 hb; replace HO_34 := rb HO_34 hb; have BK190 := Aside0.mk (hbox); have GW190 := gw w hg; have GE190 := gw w hg; replace HB := bs HB hb; clear hb hbox hg; obtain ⟨_, _, _, _, _, _, _, _⟩ := blkc4 BK190))
          have n0_ : Aside0 (Kd.R (Kd.int .i64) 3 ((((w35.setCell ⟨gb190, 0, none⟩ (.int .i64 ((rd_T50 l0 t188).f0))).setCell ⟨gb190, 1, none⟩ (.int .i64 ((rd_T50 l0 t188).f1))).setCell ⟨gb190, 2, none⟩ (.int .i64 ((rd_T50 l0 t188).f2))).setCell ⟨gb190, 3, none⟩ (.int .i64 ((rd_T50 l0 t188).f3))) w.heap.size (n1 (.slice (some ad187) t184.length co20)) (.slice (some ad183) t180.length co14) t180) := ⟨rf HO_26 BK190⟩
          have n1_ : Aside0 (Kd.R (Kd.int .i64) 3 ((((w35.setCell ⟨gb190, 0, none⟩ (.int .i64 ((rd_T50 l0 t188).f0))).setCell ⟨gb190, 1, none⟩ (.int .i64 ((rd_T50 l0 t188).f1))).setCell ⟨gb190, 2, none⟩ (.int .i64 ((rd_T50 l0 t188).f2))).setCell ⟨gb190, 3, none⟩ (.int .i64 ((rd_T50 l0 t188).f3))) w.heap.size (n1 (.slice (some ad183) t180.length co14)) (.slice (some ad187) t184.length co20) t184) := ⟨rf HO_34 BK190⟩
          have n2_ : Aside0 (((((w35.setCell ⟨gb190, 0, none⟩ (.int .i64 ((rd_T50 l0 t188).f0))).setCell ⟨gb190, 1, none⟩ (.int .i64 ((rd_T50 l0 t188).f1))).setCell ⟨gb190, 2, none⟩ (.int .i64 ((rd_T50 l0 t188).f2))).setCell ⟨gb190, 3, none⟩ (.int .i64 ((rd_T50 l0 t188).f3))).heap[gb190]? = some (.cells #[.int .i64 ((rd_T50 l0 t188).f0), .int .i64 ((rd_T50 l0 t188).f1), .int .i64 ((rd_T50 l0 t188).f2), .int .i64 ((rd_T50 l0 t188).f3)] 50 (0, 0))) := ⟨kp BK190⟩
          have n3_ : Aside0 (Below w.heap.size w ((((w35.setCell ⟨gb190, 0, none⟩ (.int .i64 ((rd_T50 l0 t188).f0))).setCell ⟨gb190, 1, none⟩ (.int .i64 ((rd_T50 l0 t188).f1))).setCell ⟨gb190, 2, none⟩ (.int .i64 ((rd_T50 l0 t188).f2))).setCell ⟨gb190, 3, none⟩ (.int .i64 ((rd_T50 l0 t188).f3)))) := ⟨bG⟩
          (try clear HO_26)
          (try clear HO_34)
          (try clear BK190)
          (try clear HB)
          generalize ((((w35.setCell ⟨gb190, 0, none⟩ (.int .i64 ((rd_T50 l0 t188).f0))).setCell ⟨gb190, 1, none⟩ (.int .i64 ((rd_T50 l0 t188).f1))).setCell ⟨gb190, 2, none⟩ (.int .i64 ((rd_T50 l0 t188).f2))).setCell ⟨gb190, 3, none⟩ (.int .i64 ((rd_T50 l0 t188).f3))) = w37 at n0_ n1_ n2_ n3_ ⊢
          have HO_26 := n0_
          have HO_34 := n1_
          have BK190 := n2_
          have HB := n3_
          clear n0_ n1_ n2_ n3_
          replace HO_26 := dr HO_26
          replace HO_34 := dr HO_34
          replace BK190 := dk BK190
          have HBo := HB
          replace HB := db HB
          obtain ⟨p192, q192⟩ : 0 ≤ (t191 : Int) ∧ t191 < (l0.length : Int) := ⟨dA, dA⟩
          obtain ⟨ad192, e192, hx192_0, hx192_1, hx192_2, hx192_3⟩ := at_T50 HR0.out t191 p192 q192
          have hw192_3 := hx192_3
          have hw192_2 := hx192_2
          have hw192_1 := hx192_1
          have hw192_0 := hx192_0
          obtain rfl : ad189 = ad192 := (by injection e192)
          replace hx192_0 := hC HB hx192_0
          replace hx192_1 := hC HB hx192_1
          replace hx192_2 := hC HB hx192_2
          replace hx192_3 := hC HB hx192_3
          obtain ⟨p192, q192⟩ := eT p192 q192
          refine start_ (n := 8) (S := fun w' => w'.cell? ⟨gb190, 0, none⟩ = some (.int .i64 ((rd_T50 l0 t188).f0)) ∧ w'.cell? ⟨gb190, 1, none⟩ = some (.int .i64 ((rd_T50 l0 t188).f1)) ∧ w'.cell? ⟨gb190, 2, none⟩ = some (.int .i64 ((rd_T50 l0 t188).f2)) ∧ w'.cell? ⟨gb190, 3, none⟩ = some (.int .i64 ((rd_T50 l0 t188).f3)) ∧ w'.cell? (ad189.add ((t191).toNat * 4)) = some (.int .i64 ((rd_T50 l0 t191).f0)) ∧ w'.cell? ⟨(ad189.add ((t191).toNat * 4)).block, (ad189.add ((t191).toNat * 4)).off + 1, none⟩ = some (.int .i64 ((rd_T50 l0 t191).f1)) ∧ w'.cell? ⟨(ad189.add ((t191).toNat * 4)).block, (ad189.add ((t191).toNat * 4)).off + 2, none⟩ = some (.int .i64 ((rd_T50 l0 t191).f2)) ∧ w'.cell? ⟨(ad189.add ((t191).toNat * 4)).block, (ad189.add ((t191).toNat * 4)).off + 3, none⟩ = some (.int .i64 ((rd_T50 l0 t191).f3))) (ds := []) (mb 8 0) (by kernel_rfl) rfl rfl (cm4 BK190 ⟨(hC HB hw192_0), (hC HB hw192_1), (hC HB hw192_2), (hC HB hw192_3)⟩) (fun hHeld => ?_); refine with_tabW impl_ClearBetween.tab11 impl_ClearBetween.bits11 (fun HT_ HW_ => ?_)
          generalize w37.drew = w38 at HO_26 HO_34 BK190 HB hx192_0 hx192_1 hx192_2 hx192_3 hHeld ⊢
          refine pa 1 47 (mb 8 2) HT_ ?_
          refine pa 2 48 (mb 8 6) HT_ ?_
          refine pa 3 49 (mb 8 14) HT_ ?_
          refine ta8 0 46 (mb 8 15) HT_ HW_ hHeld ?_
          refine oa 4 50 (mb 8 31) HT_ (fun K hK => ?_)
          refine gA Try.func16 #[.slice (some ad189) l0.length c0, .int .i64 (rd t184 x36_3)] ?_
          with_reducible refine (impl_FindPath.calls _ _ l0 (rd t184 x36_3) t191 _ ?side1 ?side2 A27.out).mono ?_
          (case side1 => exact cB HR0)
          (case side2 => exact HC0.out)
          rintro e w39 ⟨rfl, hb⟩
          refine ⟨_, rfl, ?_⟩
          replace HO_26 := rb HO_26 hb
          replace HO_34 := rb HO_34 hb
          replace BK190 := kb BK190 hb
          replace HB := bs HB hb
          (try clear hb)
          (try clear hb2)
          (try clear hk)
          (try clear hi)
          refine hK.out _ _ (cm4 BK190 ⟨(hC HB hw192_0), (hC HB hw192_1), (hC HB hw192_2), (hC HB hw192_3)⟩) (fun hHeld => ?_)
          clear hK K
          refine nB ?_
          refine pa 5 51 (mb 8 63) HT_ ?_
          refine ta8 6 52 (mb 8 127) HT_ HW_ hHeld ?_
          refine oa 7 53 (mb 8 255) HT_ (fun K hK => ?_)
          refine gA Try.func101 #[.agg #[.int .i64 ((rd_T50 l0 t188).f0), .int .i64 ((rd_T50 l0 t188).f1), .int .i64 ((rd_T50 l0 t188).f2), .int .i64 ((rd_T50 l0 t188).f3)], .agg #[.int .i64 ((rd_T50 l0 t191).f0), .int .i64 ((rd_T50 l0 t191).f1), .int .i64 ((rd_T50 l0 t191).f2), .int .i64 ((rd_T50 l0 t191).f3)]] ?_
          with_reducible refine (impl_Conflict.calls k3 ((rd_T50 l0 t188).f0) ((rd_T50 l0 t188).f1) ((rd_T50 l0 t188).f2) ((rd_T50 l0 t188).f3) ((rd_T50 l0 t191).f0) ((rd_T50 l0 t191).f1) ((rd_T50 l0 t191).f2) ((rd_T50 l0 t191).f3) true _ A30.out).mono ?_
          rintro e w40 ⟨rfl, hb⟩
          refine ⟨_, rfl, ?_⟩
          replace HO_26 := rb HO_26 hb
          replace HO_34 := rb HO_34 hb
          replace BK190 := kb BK190 hb
          replace HB := bs HB hb
          (try clear hb)
          (try clear hb2)
          (try clear hk)
          (try clear hi)
          refine hK.out _ _ (cm4 BK190 ⟨(hC HB hw192_0), (hC HB hw192_1), (hC HB hw192_2), (hC HB hw192_3)⟩) (fun hHeld => ?_)
          clear hK K
          refine nB ?_
          refine eA HT_ ?_
          obtain ⟨_, _, _, _, _, _, _, _⟩ := blkc4 BK190
          try go_wp2_with (first | ((with_reducible refine gate_callee (f := 120) rfl ?_); refine gL (some 56) Try.func120 #[.agg #[.int .i64 ((rd_T50 l0 t188).f0), .int .i64 ((rd_T50 l0 t188).f1), .int .i64 ((rd_T50 l0 t188).f2), .int .i64 ((rd_T50 l0 t188).f3)]] ?_; (with_reducible refine (impl_ClearOf.calls ((rd_T50 l0 t188).f0) ((rd_T50 l0 t188).f1) ((rd_T50 l0 t188).f2) ((rd_T50 l0 t188).f3) t194 _ A32.out).mono ?_); rintro e w42 ⟨rfl, hb⟩; refine ⟨_, rfl, ?_⟩; replace HO_26 := rb HO_26 hb; replace HO_34 := rb HO_34 hb; replace BK190 := kb BK190 hb; replace HB := bs HB hb; (try clear hb)))
          go_roundg k3
          case measure => have := HJ3.out; have := HK2.out; have := HK3.out; omega
          case rel => exact ⟨(ji33), (wrap64 (x36_3 + 1)), (by first | rfl | (simp; done) | (simp only [← hji33] <;> (first | rfl | simp)) | (simp [*]; done)), rS, H', ⟨by have := HJ3.out; have := HK2.out; have := HK3.out; omega⟩, ⟨rK HO_26⟩, ⟨rK HO_34⟩, ⟨bG⟩⟩
         replace c31 := Bool.eq_false_iff.mpr c31
         subst c31
         have H1 : (impl_ClearBetween.l1 k3 l0 l1 l2 x7_3 (rd t180 x28_2) t180 (t180.length : Int) x28_2 t184 (t184.length : Int) (wrap64 (x36_3 + 1))) = some r := by rw [if_neg (show ¬ (false = true) by decide)] at H; exact H
         clear H
         have H := H1
         clear H1
         have H' := Aside0.mk H
         clear H
         obtain ⟨p187, q187⟩ : 0 ≤ (x36_3 : Int) ∧ x36_3 < (t184.length : Int) := ⟨dA, dA⟩
         obtain ⟨ad187, e187, hx187_0⟩ := Kd.at_int (Kd.R_reads' HO_34.out).2.2 x36_3 p187 q187
         cases e187
         obtain ⟨p187, q187⟩ := eT p187 q187
         try go_wp2_with (first | ((with_reducible refine gate_callee (f := 16) rfl ?_); refine gL (some 43) Try.func16 #[.slice A0 l0.length c0, .int .i64 (rd t180 x28_2)] ?_; (with_reducible refine (impl_FindPath.calls _ _ l0 (rd t180 x28_2) t188 _ ?_ ?_ A24.out).mono ?_); exact cB HR0; exact HC0.out; rintro e w43 ⟨rfl, hb⟩; refine ⟨_, rfl, ?_⟩; replace HO_26 := rb HO_26 hb; replace HO_34 := rb HO_34 hb; replace HB := bs HB hb; (try clear hb); have p189 : 0 ≤ (t188 : Int) := dA; have q189 : t188 < (l0.length : Int) := dA; obtain ⟨ad189, e189, hx189_0, hx189_1, hx189_2, hx189_3⟩ := at_T50 HR0.out t188 p189 q189; cases e189; replace hx189_0 := hC HB hx189_0; replace hx189_1 := hC HB hx189_1; replace hx189_2 := hC HB hx189_2; replace hx189_3 := hC HB hx189_3; replace p189 := eq_true p189; replace q189 := eq_true q189) | ((with_reducible refine gate_dst (N := 12) rfl ?_); refine bE (N := 12) (cs := #[.int .i64 0, .int .i64 0, .int .i64 0, .int .i64 0]) (t := 50) ?_; intro gb190 hg w44 hbox hb; replace HO_26 := rb HO_26 hb; replace HO_34 := rb HO_34 hb; have BK190 := Aside0.mk (hbox); have GW190 := gw w hg; have GE190 := gw w hg; replace HB := bs HB hb; clear hb hbox hg; obtain ⟨_, _, _, _, _, _, _, _⟩ := blkc4 BK190))
         have n0_ : Aside0 (Kd.R (Kd.int .i64) 3 ((((w44.setCell ⟨gb190, 0, none⟩ (.int .i64 ((rd_T50 l0 t188).f0))).setCell ⟨gb190, 1, none⟩ (.int .i64 ((rd_T50 l0 t188).f1))).setCell ⟨gb190, 2, none⟩ (.int .i64 ((rd_T50 l0 t188).f2))).setCell ⟨gb190, 3, none⟩ (.int .i64 ((rd_T50 l0 t188).f3))) w.heap.size (n1 (.slice (some ad187) t184.length co20)) (.slice (some ad183) t180.length co14) t180) := ⟨rf HO_26 BK190⟩
         have n1_ : Aside0 (Kd.R (Kd.int .i64) 3 ((((w44.setCell ⟨gb190, 0, none⟩ (.int .i64 ((rd_T50 l0 t188).f0))).setCell ⟨gb190, 1, none⟩ (.int .i64 ((rd_T50 l0 t188).f1))).setCell ⟨gb190, 2, none⟩ (.int .i64 ((rd_T50 l0 t188).f2))).setCell ⟨gb190, 3, none⟩ (.int .i64 ((rd_T50 l0 t188).f3))) w.heap.size (n1 (.slice (some ad183) t180.length co14)) (.slice (some ad187) t184.length co20) t184) := ⟨rf HO_34 BK190⟩
         have n2_ : Aside0 (((((w44.setCell ⟨gb190, 0, none⟩ (.int .i64 ((rd_T50 l0 t188).f0))).setCell ⟨gb190, 1, none⟩ (.int .i64 ((rd_T50 l0 t188).f1))).setCell ⟨gb190, 2, none⟩ (.int .i64 ((rd_T50 l0 t188).f2))).setCell ⟨gb190, 3, none⟩ (.int .i64 ((rd_T50 l0 t188).f3))).heap[gb190]? = some (.cells #[.int .i64 ((rd_T50 l0 t188).f0), .int .i64 ((rd_T50 l0 t188).f1), .int .i64 ((rd_T50 l0 t188).f2), .int .i64 ((rd_T50 l0 t188).f3)] 50 (0, 0))) := ⟨kp BK190⟩
         have n3_ : Aside0 (Below w.heap.size w ((((w44.setCell ⟨gb190, 0, none⟩ (.int .i64 ((rd_T50 l0 t188).f0))).setCell ⟨gb190, 1, none⟩ (.int .i64 ((rd_T50 l0 t188).f1))).setCell ⟨gb190, 2, none⟩ (.int .i64 ((rd_T50 l0 t188).f2))).setCell ⟨gb190, 3, none⟩ (.int .i64 ((rd_T50 l0 t188).f3)))) := ⟨bG⟩
         (try clear HO_26)
         (try clear HO_34)
         (try clear BK190)
         (try clear HB)
         generalize ((((w44.setCell ⟨gb190, 0, none⟩ (.int .i64 ((rd_T50 l0 t188).f0))).setCell ⟨gb190, 1, none⟩ (.int .i64 ((rd_T50 l0 t188).f1))).setCell ⟨gb190, 2, none⟩ (.int .i64 ((rd_T50 l0 t188).f2))).setCell ⟨gb190, 3, none⟩ (.int .i64 ((rd_T50 l0 t188).f3))) = w46 at n0_ n1_ n2_ n3_ ⊢
         have HO_26 := n0_
         have HO_34 := n1_
         have BK190 := n2_
         have HB := n3_
         clear n0_ n1_ n2_ n3_
         replace HO_26 := dr HO_26
         replace HO_34 := dr HO_34
         replace BK190 := dk BK190
         have HBo := HB
         replace HB := db HB
         obtain ⟨p192, q192⟩ : 0 ≤ (t191 : Int) ∧ t191 < (l0.length : Int) := ⟨dA, dA⟩
         obtain ⟨ad192, e192, hx192_0, hx192_1, hx192_2, hx192_3⟩ := at_T50 HR0.out t191 p192 q192
         have hw192_3 := hx192_3
         have hw192_2 := hx192_2
         have hw192_1 := hx192_1
         have hw192_0 := hx192_0
         obtain rfl : ad189 = ad192 := (by injection e192)
         replace hx192_0 := hC HB hx192_0
         replace hx192_1 := hC HB hx192_1
         replace hx192_2 := hC HB hx192_2
         replace hx192_3 := hC HB hx192_3
         obtain ⟨p192, q192⟩ := eT p192 q192
         refine start_ (n := 8) (S := fun w' => w'.cell? ⟨gb190, 0, none⟩ = some (.int .i64 ((rd_T50 l0 t188).f0)) ∧ w'.cell? ⟨gb190, 1, none⟩ = some (.int .i64 ((rd_T50 l0 t188).f1)) ∧ w'.cell? ⟨gb190, 2, none⟩ = some (.int .i64 ((rd_T50 l0 t188).f2)) ∧ w'.cell? ⟨gb190, 3, none⟩ = some (.int .i64 ((rd_T50 l0 t188).f3)) ∧ w'.cell? (ad189.add ((t191).toNat * 4)) = some (.int .i64 ((rd_T50 l0 t191).f0)) ∧ w'.cell? ⟨(ad189.add ((t191).toNat * 4)).block, (ad189.add ((t191).toNat * 4)).off + 1, none⟩ = some (.int .i64 ((rd_T50 l0 t191).f1)) ∧ w'.cell? ⟨(ad189.add ((t191).toNat * 4)).block, (ad189.add ((t191).toNat * 4)).off + 2, none⟩ = some (.int .i64 ((rd_T50 l0 t191).f2)) ∧ w'.cell? ⟨(ad189.add ((t191).toNat * 4)).block, (ad189.add ((t191).toNat * 4)).off + 3, none⟩ = some (.int .i64 ((rd_T50 l0 t191).f3))) (ds := []) (mb 8 0) (by kernel_rfl) rfl rfl (cm4 BK190 ⟨(hC HB hw192_0), (hC HB hw192_1), (hC HB hw192_2), (hC HB hw192_3)⟩) (fun hHeld => ?_); refine with_tabW impl_ClearBetween.tab11 impl_ClearBetween.bits11 (fun HT_ HW_ => ?_)
         generalize w46.drew = w47 at HO_26 HO_34 BK190 HB hx192_0 hx192_1 hx192_2 hx192_3 hHeld ⊢
         refine pa 1 47 (mb 8 2) HT_ ?_
         refine pa 2 48 (mb 8 6) HT_ ?_
         refine pa 3 49 (mb 8 14) HT_ ?_
         refine ta8 0 46 (mb 8 15) HT_ HW_ hHeld ?_
         refine oa 4 50 (mb 8 31) HT_ (fun K hK => ?_)
         refine gA Try.func16 #[.slice (some ad189) l0.length c0, .int .i64 (rd t184 x36_3)] ?_
         with_reducible refine (impl_FindPath.calls _ _ l0 (rd t184 x36_3) t191 _ ?side1 ?side2 A27.out).mono ?_
         (case side1 => exact cB HR0)
         (case side2 => exact HC0.out)
         rintro e w48 ⟨rfl, hb⟩
         refine ⟨_, rfl, ?_⟩
         replace HO_26 := rb HO_26 hb
         replace HO_34 := rb HO_34 hb
         replace BK190 := kb BK190 hb
         replace HB := bs HB hb
         (try clear hb)
         (try clear hb2)
         (try clear hk)
         (try clear hi)
         refine hK.out _ _ (cm4 BK190 ⟨(hC HB hw192_0), (hC HB hw192_1), (hC HB hw192_2), (hC HB hw192_3)⟩) (fun hHeld => ?_)
         clear hK K
         refine nB ?_
         refine pa 5 51 (mb 8 63) HT_ ?_
         refine ta8 6 52 (mb 8 127) HT_ HW_ hHeld ?_
         refine oa 7 53 (mb 8 255) HT_ (fun K hK => ?_)
         refine gA Try.func101 #[.agg #[.int .i64 ((rd_T50 l0 t188).f0), .int .i64 ((rd_T50 l0 t188).f1), .int .i64 ((rd_T50 l0 t188).f2), .int .i64 ((rd_T50 l0 t188).f3)], .agg #[.int .i64 ((rd_T50 l0 t191).f0), .int .i64 ((rd_T50 l0 t191).f1), .int .i64 ((rd_T50 l0 t191).f2), .int .i64 ((rd_T50 l0 t191).f3)]] ?_
         with_reducible refine (impl_Conflict.calls k3 ((rd_T50 l0 t188).f0) ((rd_T50 l0 t188).f1) ((rd_T50 l0 t188).f2) ((rd_T50 l0 t188).f3) ((rd_T50 l0 t191).f0) ((rd_T50 l0 t191).f1) ((rd_T50 l0 t191).f2) ((rd_T50 l0 t191).f3) false _ A30.out).mono ?_
         rintro e w49 ⟨rfl, hb⟩
         refine ⟨_, rfl, ?_⟩
         replace HO_26 := rb HO_26 hb
         replace HO_34 := rb HO_34 hb
         replace BK190 := kb BK190 hb
         replace HB := bs HB hb
         (try clear hb)
         (try clear hb2)
         (try clear hk)
         (try clear hi)
         refine hK.out _ _ (cm4 BK190 ⟨(hC HB hw192_0), (hC HB hw192_1), (hC HB hw192_2), (hC HB hw192_3)⟩) (fun hHeld => ?_)
         clear hK K
         refine nB ?_
         refine eA HT_ ?_
         try go_wp2
         go_roundg k3
         case measure => have := HJ3.out; have := HK2.out; have := HK3.out; omega
         case rel => exact ⟨(x7_3), (wrap64 (x36_3 + 1)), rS, rS, H', ⟨by have := HJ3.out; have := HK2.out; have := HK3.out; omega⟩, ⟨rK HO_26⟩, ⟨rK HO_34⟩, ⟨bG⟩⟩
        rw [if_neg c21] at H
        have c21b0 := decide_eq_false c21
        clear c21
        have H' := Aside0.mk H
        clear H
        go_wp2
        go_roundg k3
        case measure => have := HJ3.out; have := HK2.out; have := HK3.out; omega
        case rel => exact ⟨(x7_3), (wrap64 (x28_2 + 1)), rS, rS, H', ⟨by have := HJ3.out; have := HK2.out; have := HK3.out; omega⟩, ⟨rm HO_26 (fun _ hk => trivial)⟩, ⟨bA⟩⟩
     rw [if_neg c15] at H
     have c15b0 := decide_eq_false c15
     clear c15
     obtain rfl := Option.some.inj H
     go_wp2
     go_ret
     exact ⟨rA, bA⟩

/-! ### impl_nextStage: function 122 -/
def impl_nextStage.f (l0 : List (S85)) (a1 : Int) : Option (List Int) := if (l0.length : Int) = 0 then (none) else (if 0 ≤ (Int.tmod (wrap64 (a1 + 1)) (l0.length : Int)) then (if (Int.tmod (wrap64 (a1 + 1)) (l0.length : Int)) < (l0.length : Int) then (some ((rd_T85 l0 (Int.tmod (wrap64 (a1 + 1)) (l0.length : Int))).f0)) else (none)) else (none))
set_option maxHeartbeats 8000000 in
set_option maxRecDepth 100000 in
theorem impl_nextStage.calls (P0_ : Nat → Prop) (A0 : Option Addr) (c0 : Nat) (l0 : List (S85)) (a1 : Int) (r : List Int) (w : World) (hs0 : Kd.V k85 85 w w.heap.size (fun k_ => P0_ k_) (.slice A0 l0.length c0) l0) (h : impl_nextStage.f l0 a1 = some r) :
  Calls Try.prog 122 #[.slice A0 l0.length c0, .int .i64 a1] w fun e w' => ∃ v0_ : Value, e = .returned (v0_) ∧ Kd.V (Kd.int .i64) 3 w' w.heap.size (fun k_ => (P0_ k_ ∨ w.heap.size ≤ k_)) v0_ r ∧ Below w.heap.size w w' := by
 have HO0 := Aside0.mk (show Kd.V k85 85 w w.heap.size (fun k_ => (P0_ k_ ∨ w.heap.size ≤ k_)) (.slice A0 l0.length c0) l0 from Kd.V_mono hs0 (fun k_ hk => .inl hk))
 have HB := Aside0.mk (Below.refl w.heap.size w)
 have H : (if (l0.length : Int) = 0 then (none) else (if 0 ≤ (Int.tmod (wrap64 (a1 + 1)) (l0.length : Int)) then (if (Int.tmod (wrap64 (a1 + 1)) (l0.length : Int)) < (l0.length : Int) then (some ((rd_T85 l0 (Int.tmod (wrap64 (a1 + 1)) (l0.length : Int))).f0)) else (none)) else (none))) = some r := h
 clear h
 have c3 : ¬ ((l0.length : Int) = 0) := ifN' H
 replace H := ifT' H
 have c3b0 : ((l0.length : Int) == 0) = false := beq_eq_false_iff_ne.mpr c3
 have c3b1 : ((l0.length : Int) != 0) = true := bne_iff_ne.mpr c3
 have c3b2 : ¬ (l0 = []) := fun h_ => c3 (by rw [h_]; rfl)
 obtain ⟨ji4, hji4⟩ : ∃ j_ : Int, (Int.tmod (wrap64 (a1 + 1)) (l0.length : Int)) = j_ := ⟨_, rfl⟩
 replace H : (if 0 ≤ (ji4) then (if (ji4) < (l0.length : Int) then (some ((rd_T85 l0 (ji4)).f0)) else (none)) else (none)) = some r := by first | (rw [hji4] at H; exact H) | (simp only [hji4] at H ⊢; exact H)
 have c5 : 0 ≤ (ji4) := ifN H
 replace H := ifT H
 have c5b0 := decide_eq_true c5
 clear c5
 have c6 : (ji4) < (l0.length : Int) := ifN H
 replace H := ifT H
 have c6b0 := decide_eq_true c6
 clear c6
 obtain rfl := Option.some.inj H
 obtain ⟨p195, q195⟩ : 0 ≤ ((ji4) : Int) ∧ (ji4) < (l0.length : Int) := ⟨dA, dA⟩
 obtain ⟨ad195, A195_0, c195_0, e195, hx195_0, hx195_1, hl195_0, hi195_0⟩ := at_T85 (Kd.V_reads' HO0.out).2.2 (ji4) p195 q195
 cases e195
 obtain ⟨ce195, hce195, hMe195, hcc195⟩ := Kd.V_get HO0.out z85 (ji4) p195 (by first | exact q195 | exact dA | (have e_ := (Kd.V_reads' HO0.out).1; omega))
 obtain ⟨ua195_0, uc195_0, rfl, ul195_0, ge195_0⟩ := k85_openF hMe195
 have hv195_0 := hcc195 0 _ rfl
 rw [Nat.add_zero] at hv195_0
 replace hv195_0 := Option.some.inj (hv195_0.symm.trans hx195_0)
 injection hv195_0 with hva_ hvn_ hvc_
 rw [hva_] at ge195_0
 rw [hvc_] at ul195_0
 have HL195_0 := Aside0.mk (show Kd.V (Kd.int .i64) 3 _ w.heap.size _ _ ((rd_T85 l0 (ji4)).f0) from Kd.V_mk ul195_0 ge195_0)
 clear hva_ hvn_ hvc_ ge195_0 ul195_0
 clear hcc195 hce195
 have HR195_0 := Aside0.mk hi195_0
 have HC195_0 := Aside0.mk hl195_0
 clear hi195_0 hl195_0
 obtain ⟨p195, q195⟩ := eT p195 q195
 go_enter Try.func122, Try.ntmps122
 go_wp2
 go_ret
 exact ⟨_, by first | rfl | (simp [errW_none, errW_some] <;> rfl) | (simp only [← hji4]; first | rfl | (simp [errW_none, errW_some] <;> rfl)) | (simp [*, errW_none, errW_some] <;> rfl), by (with_reducible repeat (first | apply Kd.V_alloc | apply Kd.V_drewN | apply Kd.V_drew)); exact HL195_0.out, bA⟩

/-! ### impl_longOf: function 108 -/
def impl_longOf.f (k : Nat) (l0 : List (S50)) (l1 : List (S85)) (a2 : Int) : Option (Int) := if 0 ≤ a2 then (if a2 < (l1.length : Int) then ((impl_nextStage.f l1 a2).bind fun t198 => ((impl_ClearBetween.f k l0 ((rd_T85 l1 a2).f0) t198).bind fun t201 => (some (wrap64 (((rd_T85 l1 a2).f1) + t201))))) else (none)) else (none)
theorem impl_longOf.mono : ∀ a0 a1 a2 k, LeO (impl_longOf.f k a0 a1 a2) (impl_longOf.f (k + 1) a0 a1 a2) := by
 intro a0 a1 a2 k
 unfold impl_longOf.f
 exact mz1 impl_ClearBetween.mono
def impl_longOf.T1 : Bool × List (List Nat × List Nat) := (true, [([], []), ([], []), ([0, 1], [0, 1]), ([2], [2]), ([3], [3]), ([], []), ([], []), ([], []), ([6, 7], [6, 7]), ([8], [8]), ([9], [9]), ([], []), ([], []), ([11, 12], [11, 12]), ([5, 10, 13, 13], [5, 10, 13]), ([4, 14], [4, 14]), ([15, 14, 0, 1, 2, 3, 4, 5, 6, 7, 8, 9, 10, 11, 12, 13, 14, 15], [15])])
def impl_longOf.B1 : List Nat := [0, 0, 3, 7, 15, 0, 0, 0, 192, 448, 960, 0, 0, 6144, 16352, 32767, 65535]
theorem impl_longOf.tab1 : rtab .any (opsOf Try.f108 1) = impl_longOf.T1 := by kernel_rfl
theorem impl_longOf.bits1 : waitsOk impl_longOf.T1.2 impl_longOf.B1 = true := by kernel_rfl
set_option maxHeartbeats 8000000 in
set_option maxRecDepth 100000 in
theorem impl_longOf.calls (k : Nat) (A0 : Option Addr) (c0 : Nat) (l0 : List (S50)) (A1 : Option Addr) (c1 : Nat) (l1 : List (S85)) (a2 : Int) (r : Int) (w : World) (hr0 : Kd.C k50 w A0 l0.length l0) (hc0 : l0.length ≤ c0) (hr1 : Kd.C k85 w A1 l1.length l1) (hc1 : l1.length ≤ c1) (h : impl_longOf.f k l0 l1 a2 = some r) :
  Calls Try.prog 108 #[.slice A0 l0.length c0, .slice A1 l1.length c1, .int .i64 a2] w fun e w' => e = .returned (.int .i64 r) ∧ Below w.heap.size w w' := by
 have HR0 := Aside0.mk hr0
 have HC0 := Aside0.mk hc0
 clear hr0 hc0
 have HR1 := Aside0.mk hr1
 have HC1 := Aside0.mk hc1
 clear hr1 hc1
 have HB := Aside0.mk (Below.refl w.heap.size w)
 have H : (if 0 ≤ a2 then (if a2 < (l1.length : Int) then ((impl_nextStage.f l1 a2).bind fun t198 => ((impl_ClearBetween.f k l0 ((rd_T85 l1 a2).f0) t198).bind fun t201 => (some (wrap64 (((rd_T85 l1 a2).f1) + t201))))) else (none)) else (none)) = some r := h
 clear h
 have c4 : 0 ≤ a2 := ifN H
 replace H := ifT H
 have c4b0 := decide_eq_true c4
 clear c4
 have c5 : a2 < (l1.length : Int) := ifN H
 replace H := ifT H
 have c5b0 := decide_eq_true c5
 clear c5
 obtain ⟨t198, A6, H⟩ := bindE H
 try dsimp only at H
 obtain ⟨t201, A7, H⟩ := bindE H
 try dsimp only at H
 obtain rfl := Option.some.inj H
 go_enter Try.func108, Try.ntmps108
 try go_wp2
 have HBo := HB
 replace HB := db HB
 obtain ⟨p196, q196⟩ : 0 ≤ (a2 : Int) ∧ a2 < (l1.length : Int) := ⟨dA, dA⟩
 obtain ⟨ad196, A196_0, c196_0, e196, hx196_0, hx196_1, hl196_0, hi196_0⟩ := at_T85 HR1.out a2 p196 q196
 have hw196_1 := hx196_1
 have hw196_0 := hx196_0
 cases e196
 replace hx196_0 := hC HB hx196_0
 replace hx196_1 := hC HB hx196_1
 have HR196_0 := Aside0.mk hi196_0
 have HC196_0 := Aside0.mk hl196_0
 clear hi196_0 hl196_0
 obtain ⟨p196, q196⟩ := eT p196 q196
 obtain ⟨p197, q197⟩ : 0 ≤ (a2 : Int) ∧ a2 < (l1.length : Int) := ⟨dA, dA⟩
 obtain ⟨ad197, A197_0, c197_0, e197, hx197_0, hx197_1, hl197_0, hi197_0⟩ := at_T85 HR1.out a2 p197 q197
 have hw197_1 := hx197_1
 have hw197_0 := hx197_0
 obtain rfl : ad196 = ad197 := (by injection e197)
 replace hx197_0 := hC HB hx197_0
 replace hx197_1 := hC HB hx197_1
 have HR197_0 := Aside0.mk hi197_0
 have HC197_0 := Aside0.mk hl197_0
 clear hi197_0 hl197_0
 obtain ⟨p197, q197⟩ := eT p197 q197
 have ea_ := Option.some.inj (hx196_0.symm.trans hx197_0)
 injection ea_ with ea_ en_ ec_
 subst ea_
 subst ec_
 clear en_
 refine start_ (n := 17) (S := fun w' => w'.cell? (ad196.add ((a2).toNat * 2)) = some (.slice A196_0 ((rd_T85 l1 a2).f0).length c196_0) ∧ w'.cell? ⟨(ad196.add ((a2).toNat * 2)).block, (ad196.add ((a2).toNat * 2)).off + 1, none⟩ = some (.int .i64 ((rd_T85 l1 a2).f1)) ∧ w'.cell? (ad196.add ((a2).toNat * 2)) = some (.slice A196_0 ((rd_T85 l1 a2).f0).length c196_0) ∧ w'.cell? ⟨(ad196.add ((a2).toNat * 2)).block, (ad196.add ((a2).toNat * 2)).off + 1, none⟩ = some (.int .i64 ((rd_T85 l1 a2).f1))) (ds := []) (mb 17 0) (by kernel_rfl) rfl rfl ⟨(hC HB hw196_0), (hC HB hw196_1), (hC HB hw197_0), (hC HB hw197_1)⟩ (fun hHeld => ?_); refine with_tabW impl_longOf.tab1 impl_longOf.bits1 (fun HT_ HW_ => ?_)
 generalize w.drew = w8 at HB HR196_0 HR197_0 hx196_0 hx196_1 hx197_0 hx197_1 hHeld ⊢
 refine pa 0 7 (mb 17 1) HT_ ?_
 refine pa 1 8 (mb 17 3) HT_ ?_
 refine pa 2 9 (mb 17 7) HT_ ?_
 refine pa 3 10 (mb 17 15) HT_ ?_
 refine pa 5 12 (mb 17 47) HT_ ?_
 refine pa 6 13 (mb 17 111) HT_ ?_
 refine pa 7 14 (mb 17 239) HT_ ?_
 refine pa 8 15 (mb 17 495) HT_ ?_
 refine pa 9 16 (mb 17 1007) HT_ ?_
 refine pa 11 18 (mb 17 3055) HT_ ?_
 refine pa 12 19 (mb 17 7151) HT_ ?_
 refine ta4 4 11 (mb 17 7167) HT_ HW_ hHeld ?_
 refine ta4 10 17 (mb 17 8191) HT_ HW_ hHeld ?_
 refine oa 13 20 (mb 17 16383) HT_ (fun K hK => ?_)
 refine gA Try.func122 #[.slice (some ad196) l1.length c1, .int .i64 a2] ?_
 with_reducible refine (impl_nextStage.calls (fun k_ => k_ < w.heap.size) _ _ l1 a2 t198 _ ?side1 A6.out).mono ?_
 (case side1 => exact Kd.V_mk HC1.out (Kd.F_below (Kd.C_F k85_heap HR1.out) bA))
 rintro e w9 ⟨v199, rfl, ho0, hb⟩
 refine ⟨_, rfl, ?_⟩
 have HO200 := Aside0.mk (Kd.V_lower (Kd.V_mono (ok' := fun k_ => True) ho0 (fun k_ hk_ => trivial)) (below_size bA))
 replace HB := bs HB hb
 (try clear hb)
 (try clear hb2)
 (try clear hk)
 (try clear hi)
 (try clear ho0)
 obtain ⟨Ao10, co10, eo10⟩ := Kd.V_slice HO200.out
 (first | subst eo10 | (injection eo10 with f1_ f2_ f3_; have f4_ := f1_.symm; have f5_ := f3_.symm; clear f1_ f2_ f3_; subst f4_; subst f5_))
 refine hK.out _ _ ⟨(hC HB hw196_0), (hC HB hw196_1), (hC HB hw197_0), (hC HB hw197_1)⟩ (fun hHeld => ?_)
 clear hK K
 refine nB ?_
 refine oa 14 21 (mb 17 32767) HT_ (fun K hK => ?_)
 refine gA Try.func99 #[.slice A0 l0.length c0, .slice A196_0 ((rd_T85 l1 a2).f0).length c196_0, .slice Ao10 t198.length co10] ?_
 with_reducible refine (impl_ClearBetween.calls k _ _ l0 _ _ ((rd_T85 l1 a2).f0) _ _ t198 t201 _ ?side1 ?side2 ?side3 ?side4 ?side5 ?side6 A7.out).mono ?_
 (case side1 => exact cB HR0)
 (case side2 => exact HC0.out)
 (case side3 => exact cB HR197_0)
 (case side4 => exact HC197_0.out)
 (case side5 => repeat (first | exact (Kd.V_reads' HO200.out).2.2 | (with_reducible refine Kd.C_alloc ?_ _) | (with_reducible refine Kd.C_drewN ?_ _) | (with_reducible refine Kd.C_drew ?_)))
 (case side6 => exact (Kd.V_reads' HO200.out).2.1)
 rintro e w11 ⟨rfl, hb⟩
 refine ⟨_, rfl, ?_⟩
 replace HO200 := Aside0.mk (Kd.V_below (by (with_reducible repeat (first | apply Kd.V_alloc | apply Kd.V_drewN | apply Kd.V_drew)); exact HO200.out) hb)
 replace HB := bs HB hb
 (try clear hb)
 (try clear hb2)
 (try clear hk)
 (try clear hi)
 refine hK.out _ _ ⟨(hC HB hw196_0), (hC HB hw196_1), (hC HB hw197_0), (hC HB hw197_1)⟩ (fun hHeld => ?_)
 clear hK K
 refine nB ?_
 refine pa 15 22 (mb 17 65535) HT_ ?_
 refine pa 16 6 (mb 17 131071) HT_ ?_
 refine eA HT_ ?_
 try go_wp2
 go_ret
 exact ⟨rA, bA⟩

/-! ### impl_Cycle: function 56 -/
def impl_Cycle.l0 : Nat → List (S50) → List (S85) → Int → Int → Int → Option (Int)
 | 0, _, _, _, _, _ => none
 | k + 1, x0, x1, x5, x12, x13 => if x13 < x12 then ((impl_longOf.f k x0 x1 x13).bind fun t203 => (impl_Cycle.l0 k x0 x1 (wrap64 (x5 + t203)) x12 (wrap64 (x13 + 1)))) else (some x5)
def impl_Cycle.f (k : Nat) (l0 : List (S50)) (l1 : List (S85)) : Option (Int) := (impl_IsPlan.f k l0 l1).bind fun t202 => (if t202 = true then (impl_Cycle.l0 k l0 l1 0 (l1.length : Int) 0) else (some 0))
theorem impl_Cycle.mono_l : ∀ k, (∀ y0 y1 y2 y3 y4, LeO (impl_Cycle.l0 k y0 y1 y2 y3 y4) (impl_Cycle.l0 (k + 1) y0 y1 y2 y3 y4))
 | 0 => fun _ _ _ _ _ r h => by simp [impl_Cycle.l0] at h
 | k + 1 => by
  have ih0 := impl_Cycle.mono_l k
  ·
   intro y0 y1 y2 y3 y4
   unfold impl_Cycle.l0
   exact mz3 ih0 impl_IsPlan.mono impl_longOf.mono
theorem impl_Cycle.mono : ∀ a0 a1 k, LeO (impl_Cycle.f k a0 a1) (impl_Cycle.f (k + 1) a0 a1) := by
 intro a0 a1 k
 have ih0 := impl_Cycle.mono_l k
 unfold impl_Cycle.f
 exact mz3 ih0 impl_IsPlan.mono impl_longOf.mono
set_option maxHeartbeats 8000000 in
set_option maxRecDepth 100000 in
theorem impl_Cycle.calls (k : Nat) (A0 : Option Addr) (c0 : Nat) (l0 : List (S50)) (A1 : Option Addr) (c1 : Nat) (l1 : List (S85)) (r : Int) (w : World) (hr0 : Kd.C k50 w A0 l0.length l0) (hc0 : l0.length ≤ c0) (hr1 : Kd.C k85 w A1 l1.length l1) (hc1 : l1.length ≤ c1) (h : impl_Cycle.f k l0 l1 = some r) :
  Calls Try.prog 56 #[.slice A0 l0.length c0, .slice A1 l1.length c1] w fun e w' => e = .returned (.int .i64 r) ∧ Below w.heap.size w w' := by
 have HR0 := Aside0.mk hr0
 have HC0 := Aside0.mk hc0
 clear hr0 hc0
 have HR1 := Aside0.mk hr1
 have HC1 := Aside0.mk hc1
 clear hr1 hc1
 have HB := Aside0.mk (Below.refl w.heap.size w)
 have H : ((impl_IsPlan.f k l0 l1).bind fun t202 => (if t202 = true then (impl_Cycle.l0 k l0 l1 0 (l1.length : Int) 0) else (some 0))) = some r := h
 clear h
 obtain ⟨t202, A3, H⟩ := bindE H
 try dsimp only at H
 by_cases c4 : t202 = true
 ·
  subst c4
  have H1 : (impl_Cycle.l0 k l0 l1 0 (l1.length : Int) 0) = some r := by rw [if_pos rfl] at H; exact H
  clear H
  have H := H1
  clear H1
  have H' := Aside0.mk H
  clear H
  go_enter Try.func56, Try.ntmps56
  go_wp2_with (first | ((with_reducible refine gate_callee (f := 15) rfl ?_); refine gL (some 9) Try.func15 #[.slice A0 l0.length c0, .slice A1 l1.length c1] ?_; (with_reducible refine (impl_IsPlan.calls k _ _ l0 (fun k_ => k_ < w.heap.size) _ _ l1 true _ ?_ ?_ ?_ A3.out).mono ?_); exact cO HR0; exact HC0.out; exact Kd.V_mk HC1.out (Kd.F_below (Kd.C_F k85_heap HR1.out) bA); rintro e w5 ⟨rfl, hb⟩; refine ⟨_, rfl, ?_⟩; replace HB := bs HB hb; (try clear hb)))
  go_loopg [5, 13] k (fun kq v5 v13 w' => ∃ (x5_1 : Int) (x13_1 : Int), v5 = .int .i64 x5_1 ∧ v13 = .int .i64 x13_1 ∧ Aside0 (impl_Cycle.l0 kq l0 l1 x5_1 (l1.length : Int) x13_1 = some r) ∧ Aside0 (kq ≤ k) ∧ Aside0 (Below w.heap.size w w'))
  case atStart => exact ⟨(0), (0), rS, rS, H', ⟨Nat.le_refl _⟩, ⟨bA⟩⟩
  case round =>
   clear H'
   obtain ⟨x5_1, x13_1, rfl, rfl, HA, HK1, HB⟩ := hrel
   cases gk with
   | zero => exact absurd HA.out (by simp [impl_Cycle.l0])
   | succ k1 =>
    have H := HA.out
    clear HA
    simp only [impl_Cycle.l0] at H
    by_cases c6 : x13_1 < (l1.length : Int)
    ·
     rw [if_pos c6] at H
     have c6b0 := decide_eq_true c6
     clear c6
     obtain ⟨t203, A7, H⟩ := bindE H
     try dsimp only at H
     have H' := Aside0.mk H
     clear H
     go_wp2_with (first | ((with_reducible refine gate_callee (f := 108) rfl ?_); refine gL (some 20) Try.func108 #[.slice A0 l0.length c0, .slice A1 l1.length c1, .int .i64 x13_1] ?_; (with_reducible refine (impl_longOf.calls k1 _ _ l0 _ _ l1 x13_1 t203 _ ?_ ?_ ?_ ?_ A7.out).mono ?_); exact cB HR0; exact HC0.out; exact cB HR1; exact HC1.out; rintro e w8 ⟨rfl, hb⟩; refine ⟨_, rfl, ?_⟩; replace HB := bs HB hb; (try clear hb)))
     go_roundg k1
     case measure => have := HK1.out; omega
     case rel => exact ⟨(wrap64 (x5_1 + t203)), (wrap64 (x13_1 + 1)), rS, rS, H', ⟨by have := HK1.out; omega⟩, ⟨bA⟩⟩
    rw [if_neg c6] at H
    have c6b0 := decide_eq_false c6
    clear c6
    obtain rfl := Option.some.inj H
    go_wp2
    go_ret
    exact ⟨rA, bA⟩
 replace c4 := Bool.eq_false_iff.mpr c4
 subst c4
 have H1 : (some 0) = some r := by rw [if_neg (show ¬ (false = true) by decide)] at H; exact H
 clear H
 have H := H1
 clear H1
 obtain rfl := Option.some.inj H
 go_enter Try.func56, Try.ntmps56
 go_wp2_with (first | ((with_reducible refine gate_callee (f := 15) rfl ?_); refine gL (some 9) Try.func15 #[.slice A0 l0.length c0, .slice A1 l1.length c1] ?_; (with_reducible refine (impl_IsPlan.calls k _ _ l0 (fun k_ => k_ < w.heap.size) _ _ l1 false _ ?_ ?_ ?_ A3.out).mono ?_); exact cO HR0; exact HC0.out; exact Kd.V_mk HC1.out (Kd.F_below (Kd.C_F k85_heap HR1.out) bA); rintro e w9 ⟨rfl, hb⟩; refine ⟨_, rfl, ?_⟩; replace HB := bs HB hb; (try clear hb)))
 go_ret
 exact ⟨rA, bA⟩

/-! ### slices_Equal_int_int: function 98 -/
def slices_Equal_int_int.l0 : Nat → List Int → List Int → Int → Int → Option (Bool)
 | 0, _, _, _, _ => none
 | k + 1, x0, x1, x12, x13 => if x13 < x12 then (if 0 ≤ x13 then (if x13 < (x0.length : Int) then (if x13 < (x1.length : Int) then (if (rd x0 x13) = (rd x1 x13) then (slices_Equal_int_int.l0 k x0 x1 x12 (wrap64 (x13 + 1))) else (some false)) else (none)) else (none)) else (none)) else (some true)
def slices_Equal_int_int.f (k : Nat) (l0 : List Int) (l1 : List Int) : Option (Bool) := if (l0.length : Int) = (l1.length : Int) then (slices_Equal_int_int.l0 k l0 l1 (l0.length : Int) 0) else (some false)
theorem slices_Equal_int_int.mono_l : ∀ k, (∀ y0 y1 y2 y3, LeO (slices_Equal_int_int.l0 k y0 y1 y2 y3) (slices_Equal_int_int.l0 (k + 1) y0 y1 y2 y3))
 | 0 => fun _ _ _ _ r h => by simp [slices_Equal_int_int.l0] at h
 | k + 1 => by
  have ih0 := slices_Equal_int_int.mono_l k
  ·
   intro y0 y1 y2 y3
   unfold slices_Equal_int_int.l0
   exact mz1 ih0
theorem slices_Equal_int_int.mono : ∀ a0 a1 k, LeO (slices_Equal_int_int.f k a0 a1) (slices_Equal_int_int.f (k + 1) a0 a1) := by
 intro a0 a1 k
 have ih0 := slices_Equal_int_int.mono_l k
 unfold slices_Equal_int_int.f
 exact mz1 ih0
set_option maxHeartbeats 8000000 in
set_option maxRecDepth 100000 in
theorem slices_Equal_int_int.calls (k : Nat) (A0 : Option Addr) (c0 : Nat) (l0 : List Int) (A1 : Option Addr) (c1 : Nat) (l1 : List Int) (r : Bool) (w : World) (hr0 : Kd.C (Kd.int .i64) w A0 l0.length l0) (hc0 : l0.length ≤ c0) (hr1 : Kd.C (Kd.int .i64) w A1 l1.length l1) (hc1 : l1.length ≤ c1) (h : slices_Equal_int_int.f k l0 l1 = some r) :
  Calls Try.prog 98 #[.slice A0 l0.length c0, .slice A1 l1.length c1] w fun e w' => e = .returned (.bool r) ∧ Drawn0 w w' := by
 have HR0 := Aside0.mk hr0
 have HC0 := Aside0.mk hc0
 clear hr0 hc0
 have HR1 := Aside0.mk hr1
 have HC1 := Aside0.mk hc1
 clear hr1 hc1
 have H : (if (l0.length : Int) = (l1.length : Int) then (slices_Equal_int_int.l0 k l0 l1 (l0.length : Int) 0) else (some false)) = some r := h
 clear h
 by_cases c3 : (l0.length : Int) = (l1.length : Int)
 ·
  rw [if_pos c3] at H
  have c3b0 : ((l0.length : Int) == (l1.length : Int)) = true := beq_iff_eq.mpr c3
  have c3b1 : ((l0.length : Int) != (l1.length : Int)) = false := bne_eq_false_iff_eq.mpr c3
  have c3b2 : (l0.length == l1.length) = true := by first | simpa using c3 | (simp at c3 ⊢; omega)
  clear c3
  have H' := Aside0.mk H
  clear H
  go_enter Try.func98, Try.ntmps98
  go_wp2
  repeat (go_quiet (fail); try go_wp2)
  go_loopg [13] k (fun kq v13 w' => ∃ (x13_1 : Int), v13 = .int .i64 x13_1 ∧ Aside0 (slices_Equal_int_int.l0 kq l0 l1 (l0.length : Int) x13_1 = some r) ∧ Aside0 (kq ≤ k) ∧ Drawn0 w w')
  case atStart => exact ⟨(0), rS, H', ⟨Nat.le_refl _⟩, by repeat (first | exact Drawn0.refl _ | apply Drawn0.step)⟩
  case round =>
   clear H'
   obtain ⟨x13_1, rfl, HA, HK1, ⟨m1, rfl⟩⟩ := hrel
   cases gk with
   | zero => exact absurd HA.out (by simp [slices_Equal_int_int.l0])
   | succ k1 =>
    have H := HA.out
    clear HA
    simp only [slices_Equal_int_int.l0] at H
    by_cases c4 : x13_1 < (l0.length : Int)
    ·
     rw [if_pos c4] at H
     have c4b0 := decide_eq_true c4
     clear c4
     have c5 : 0 ≤ x13_1 := ifN H
     replace H := ifT H
     have c5b0 := decide_eq_true c5
     clear c5
     have c6 : x13_1 < (l0.length : Int) := ifN H
     replace H := ifT H
     have c6b0 := decide_eq_true c6
     clear c6
     have c7 : x13_1 < (l1.length : Int) := ifN H
     replace H := ifT H
     have c7b0 := decide_eq_true c7
     clear c7
     by_cases c8 : (rd l0 x13_1) = (rd l1 x13_1)
     ·
      rw [if_pos c8] at H
      have c8b0 : ((rd l0 x13_1) == (rd l1 x13_1)) = true := beq_iff_eq.mpr c8
      have c8b1 : ((rd l0 x13_1) != (rd l1 x13_1)) = false := bne_eq_false_iff_eq.mpr c8
      clear c8
      have H' := Aside0.mk H
      clear H
      obtain ⟨p204, q204⟩ : 0 ≤ (x13_1 : Int) ∧ x13_1 < (l0.length : Int) := ⟨dA, dA⟩
      obtain ⟨ad204, e204, hx204_0⟩ := Kd.at_int HR0.out x13_1 p204 q204
      cases e204
      obtain ⟨p204, q204⟩ := eT p204 q204
      obtain ⟨p205, q205⟩ : 0 ≤ (x13_1 : Int) ∧ x13_1 < (l1.length : Int) := ⟨dA, dA⟩
      obtain ⟨ad205, e205, hx205_0⟩ := Kd.at_int HR1.out x13_1 p205 q205
      cases e205
      obtain ⟨p205, q205⟩ := eT p205 q205
      go_wp2
      repeat (go_quiet (fail); try go_wp2)
      go_roundg k1
      case measure => have := HK1.out; omega
      case rel => exact ⟨(wrap64 (x13_1 + 1)), rS, H', ⟨by have := HK1.out; omega⟩, by repeat (first | exact Drawn0.refl _ | apply Drawn0.step)⟩
     rw [if_neg c8] at H
     have c8b0 : ((rd l0 x13_1) == (rd l1 x13_1)) = false := beq_eq_false_iff_ne.mpr c8
     have c8b1 : ((rd l0 x13_1) != (rd l1 x13_1)) = true := bne_iff_ne.mpr c8
     obtain rfl := Option.some.inj H
     obtain ⟨p204, q204⟩ : 0 ≤ (x13_1 : Int) ∧ x13_1 < (l0.length : Int) := ⟨dA, dA⟩
     obtain ⟨ad204, e204, hx204_0⟩ := Kd.at_int HR0.out x13_1 p204 q204
     cases e204
     obtain ⟨p204, q204⟩ := eT p204 q204
     obtain ⟨p205, q205⟩ : 0 ≤ (x13_1 : Int) ∧ x13_1 < (l1.length : Int) := ⟨dA, dA⟩
     obtain ⟨ad205, e205, hx205_0⟩ := Kd.at_int HR1.out x13_1 p205 q205
     cases e205
     obtain ⟨p205, q205⟩ := eT p205 q205
     go_wp2
     repeat (go_quiet (fail); try go_wp2)
     go_ret
     exact ⟨rS, dD⟩
    rw [if_neg c4] at H
    have c4b0 := decide_eq_false c4
    clear c4
    obtain rfl := Option.some.inj H
    go_wp2
    repeat (go_quiet (fail); try go_wp2)
    go_ret
    exact ⟨rS, dD⟩
 rw [if_neg c3] at H
 have c3b0 : ((l0.length : Int) == (l1.length : Int)) = false := beq_eq_false_iff_ne.mpr c3
 have c3b1 : ((l0.length : Int) != (l1.length : Int)) = true := bne_iff_ne.mpr c3
 have c3b2 : (l0.length == l1.length) = false := by first | simpa using c3 | (simp at c3 ⊢; omega)
 obtain rfl := Option.some.inj H
 go_enter Try.func98, Try.ntmps98
 go_wp2
 repeat (go_quiet (fail); try go_wp2)
 go_ret
 exact ⟨rS, dD⟩

/-! ### impl_EqualPlans_1: function 109 -/
def impl_EqualPlans_1.f (k : Nat) (l0_0 : List Int) (a0_1 : Int) (l1_0 : List Int) (a1_1 : Int) : Option (Bool) := if a0_1 = a1_1 then ((slices_Equal_int_int.f k l0_0 l1_0).bind fun t208 => (some t208)) else (some false)
theorem impl_EqualPlans_1.mono : ∀ a0 a1 a2 a3 k, LeO (impl_EqualPlans_1.f k a0 a1 a2 a3) (impl_EqualPlans_1.f (k + 1) a0 a1 a2 a3) := by
 intro a0 a1 a2 a3 k
 unfold impl_EqualPlans_1.f
 exact mz1 slices_Equal_int_int.mono
set_option maxHeartbeats 8000000 in
set_option maxRecDepth 100000 in
theorem impl_EqualPlans_1.calls (k : Nat) (A0_0 : Option Addr) (c0_0 : Nat) (l0_0 : List Int) (a0_1 : Int) (A1_0 : Option Addr) (c1_0 : Nat) (l1_0 : List Int) (a1_1 : Int) (r : Bool) (w : World) (hr0_0 : Kd.C (Kd.int .i64) w A0_0 l0_0.length l0_0) (hc0_0 : l0_0.length ≤ c0_0) (hr1_0 : Kd.C (Kd.int .i64) w A1_0 l1_0.length l1_0) (hc1_0 : l1_0.length ≤ c1_0) (h : impl_EqualPlans_1.f k l0_0 a0_1 l1_0 a1_1 = some r) :
  Calls Try.prog 109 #[.agg #[.slice A0_0 l0_0.length c0_0, .int .i64 a0_1], .agg #[.slice A1_0 l1_0.length c1_0, .int .i64 a1_1]] w fun e w' => e = .returned (.bool r) ∧ Below w.heap.size w w' := by
 have hu85 := Try.underlying85
 have HR0_0 := Aside0.mk hr0_0
 have HC0_0 := Aside0.mk hc0_0
 clear hr0_0 hc0_0
 have HR1_0 := Aside0.mk hr1_0
 have HC1_0 := Aside0.mk hc1_0
 clear hr1_0 hc1_0
 have HB := Aside0.mk (Below.refl w.heap.size w)
 have H : (if a0_1 = a1_1 then ((slices_Equal_int_int.f k l0_0 l1_0).bind fun t208 => (some t208)) else (some false)) = some r := h
 clear h
 by_cases c3 : a0_1 = a1_1
 ·
  rw [if_pos c3] at H
  have c3b0 : (a0_1 == a1_1) = true := beq_iff_eq.mpr c3
  have c3b1 : (a0_1 != a1_1) = false := bne_eq_false_iff_eq.mpr c3
  clear c3
  obtain ⟨t208, A4, H⟩ := bindE H
  try dsimp only at H
  obtain rfl := Option.some.inj H
  go_enter Try.func109, Try.ntmps109
  go_wp2_with (first | ((with_reducible refine gate_dst (N := 2) rfl ?_); refine bE (N := 2) (cs := #[.slice A0_0 l0_0.length c0_0, .int .i64 a0_1]) (t := 85) ?_; intro gb206 hg w5 hbox hb; have BK206 := Aside0.mk (hbox); have GW206 := gw w hg; have GE206 := gw w hg; replace HB := bs HB hb; clear hb hbox hg) | ((with_reducible refine gate_dst (N := 3) rfl ?_); refine bE (N := 3) (cs := #[.slice A1_0 l1_0.length c1_0, .int .i64 a1_1]) (t := 85) ?_; intro gb207 hg w6 hbox hb; have BK207 := Aside0.mk (hbox); have GW207 := gw w hg; have GE207 := gw w hg; replace HB := bs HB hb; have NB206_207 := nl BK206 hg; have NB207_206 := nr BK206 hg; replace BK206 := kb BK206 hb; clear hb hbox hg; have hnb7 := NB206_207.out; have hnc7 := NB207_206.out; obtain ⟨_, _, _, _⟩ := blkc2 BK206; have hcz9_0 : w6.cell? ⟨gb207, 0, none⟩ = some (.slice A1_0 l1_0.length c1_0) := bC BK207 0; have hcz9_1 : w6.cell? ⟨gb207, 1, none⟩ = some (.int .i64 a1_1) := bC BK207 1; have hfz9_0 := blk_frozen BK207.out 0; have hfz9_1 := blk_frozen BK207.out 1) | (go_at_call 98; (with_reducible refine (slices_Equal_int_int.calls k _ _ l0_0 _ _ l1_0 t208 _ ?_ ?_ ?_ ?_ A4.out).mono ?_); exact cB HR0_0; exact HC0_0.out; exact cB HR1_0; exact HC1_0.out; rintro e w' ⟨rfl, ⟨nd, rfl⟩⟩))
  go_ret
  exact ⟨rA, bG⟩
 rw [if_neg c3] at H
 have c3b0 : (a0_1 == a1_1) = false := beq_eq_false_iff_ne.mpr c3
 have c3b1 : (a0_1 != a1_1) = true := bne_iff_ne.mpr c3
 obtain rfl := Option.some.inj H
 go_enter Try.func109, Try.ntmps109
 go_wp2_with (first | ((with_reducible refine gate_dst (N := 2) rfl ?_); refine bE (N := 2) (cs := #[.slice A0_0 l0_0.length c0_0, .int .i64 a0_1]) (t := 85) ?_; intro gb206 hg w10 hbox hb; have BK206 := Aside0.mk (hbox); have GW206 := gw w hg; have GE206 := gw w hg; replace HB := bs HB hb; clear hb hbox hg) | ((with_reducible refine gate_dst (N := 3) rfl ?_); refine bE (N := 3) (cs := #[.slice A1_0 l1_0.length c1_0, .int .i64 a1_1]) (t := 85) ?_; intro gb207 hg w11 hbox hb; have BK207 := Aside0.mk (hbox); have GW207 := gw w hg; have GE207 := gw w hg; replace HB := bs HB hb; have NB206_207 := nl BK206 hg; have NB207_206 := nr BK206 hg; replace BK206 := kb BK206 hb; clear hb hbox hg; have hnb12 := NB206_207.out; have hnc12 := NB207_206.out; obtain ⟨_, _, _, _⟩ := blkc2 BK206; obtain ⟨_, _, _, _⟩ := blkc2 BK207))
 go_ret
 exact ⟨rA, bG⟩

/-! ### impl_EqualPlans: function 58 -/
def impl_EqualPlans.l0 : Nat → List S85 → List S85 → Int → Option Bool
 | 0, _, _, _ => none
 | k + 1, x, y, i => if i < (x.length : Int) then (if 0 ≤ i then ((impl_EqualPlans_1.f k (rd_T85 x i).f0 (rd_T85 x i).f1 (rd_T85 y i).f0 (rd_T85 y i).f1).bind fun t => (if t = true then (impl_EqualPlans.l0 k x y (wrap64 (i + 1))) else (some false))) else (none)) else (some true)
def impl_EqualPlans.f (k : Nat) (l0 : List S85) (l1 : List S85) : Option Bool := if (l0.length : Int) = (l1.length : Int) then (impl_EqualPlans.l0 k l0 l1 0) else (some false)
theorem impl_EqualPlans.mono_l : ∀ k, (∀ y0 y1 y2, LeO (impl_EqualPlans.l0 k y0 y1 y2) (impl_EqualPlans.l0 (k + 1) y0 y1 y2))
 | 0 => fun _ _ _ r h => by simp [impl_EqualPlans.l0] at h
 | k + 1 => by
  have ih0 := impl_EqualPlans.mono_l k
  ·
   intro y0 y1 y2
   unfold impl_EqualPlans.l0
   repeat' first | (with_reducible first | exact LeO.refl _ | exact LeO.none _ | refine LeO.ite ?_ ?_ | refine LeO.bind ?_ (fun _ => ?_) | exact ih0 _ _ _ | exact impl_EqualPlans_1.mono _ _ _ _ _)
theorem impl_EqualPlans.mono : ∀ a0 a1 k, LeO (impl_EqualPlans.f k a0 a1) (impl_EqualPlans.f (k + 1) a0 a1) := by
 intro a0 a1 k
 have ih0 := impl_EqualPlans.mono_l k
 unfold impl_EqualPlans.f
 repeat' first | (with_reducible first | exact LeO.refl _ | exact LeO.none _ | refine LeO.ite ?_ ?_ | refine LeO.bind ?_ (fun _ => ?_) | exact ih0 _ _ _)
set_option maxHeartbeats 8000000 in
set_option maxRecDepth 100000 in
theorem impl_EqualPlans.eqf (k : Nat) (A0 : Option Addr) (c0 : Nat) (l0 : List S85) (A1 : Option Addr) (c1 : Nat) (l1 : List S85) (r : Bool) (w : World) (hr0 : Kd.C k85 w A0 l0.length l0) (hc0 : l0.length ≤ c0) (hr1 : Kd.C k85 w A1 l1.length l1) (hc1 : l1.length ≤ c1) (h : impl_EqualPlans.f k l0 l1 = some r) :
  Calls Try.prog 106 #[.slice A0 l0.length c0, .slice A1 l1.length c1, .func (.func 109) #[] #[]] w fun e w' => e = .returned (.bool r) ∧ Below w.heap.size w w' := by
 have hu := Try.underlying85
 have HR0 := Aside0.mk hr0
 have HC0 := Aside0.mk hc0
 have HR1 := Aside0.mk hr1
 have HC1 := Aside0.mk hc1
 have hlen : l0.length ≤ 9223372036854775807 := hr0.2.1
 clear hr0 hc0 hr1 hc1
 have HB := Aside0.mk (Below.refl w.heap.size w)
 by_cases hn : (l0.length : Int) = (l1.length : Int)
 ·
  have H : impl_EqualPlans.l0 k l0 l1 0 = some r := by unfold impl_EqualPlans.f at h; rw [if_pos hn] at h; exact h
  clear h
  have hnb : ((l0.length : Int) != (l1.length : Int)) = false := bne_eq_false_iff_eq.mpr hn
  have hnn : l0.length = l1.length := by omega
  have HN := Aside0.mk hnn
  have H' := Aside0.mk H
  clear H hn hnn
  go_enter Try.func106, Try.ntmps106
  go_wp2
  go_loopg [17] k (fun kq v17 w' => ∃ (x17 : Int), v17 = .int .i64 x17 ∧ Aside0 (impl_EqualPlans.l0 kq l0 l1 x17 = some r) ∧ Aside0 (kq ≤ k) ∧ Aside0 (Below w.heap.size w w'))
  case atStart => exact ⟨0, rfl, H', ⟨Nat.le_refl _⟩, HB⟩
  case round =>
   clear H' HB
   obtain ⟨x17, rfl, HA, HK1, HB⟩ := hrel
   cases gk with
   | zero => exact absurd HA.out (by simp [impl_EqualPlans.l0])
   | succ k1 =>
    have H := HA.out
    clear HA
    simp only [impl_EqualPlans.l0] at H
    by_cases c3 : x17 < (l0.length : Int)
    ·
     rw [if_pos c3] at H
     have c3b0 := decide_eq_true c3
     have c4 : 0 ≤ x17 := ifN H
     replace H := ifT H
     obtain ⟨t, A5, H⟩ := bindE H
     try dsimp only at H
     have p5 : 0 ≤ (x17 : Int) := c4
     have q5 : (x17 : Int) < (l0.length : Int) := c3
     have q6 : (x17 : Int) < (l1.length : Int) := by have := HN.out; omega
     obtain ⟨ad0, Ai0, ci0, e0, hx0, hy0, hl0, hi0⟩ := at_T85 HR0.out x17 p5 q5
     cases e0
     obtain ⟨ad1, Ai1, ci1, e1, hx1, hy1, hl1, hi1⟩ := at_T85 HR1.out x17 p5 q6
     cases e1
     replace hx0 := hC HB hx0
     replace hy0 := hC HB hy0
     replace hx1 := hC HB hx1
     replace hy1 := hC HB hy1
     have HI0 := Aside0.mk hi0
     have HI1 := Aside0.mk hi1
     have HL0 := Aside0.mk hl0
     have HL1 := Aside0.mk hl1
     have H' := Aside0.mk H
     clear hi0 hi1 hl0 hl1 H c3 c4
     replace p5 := eq_true p5
     replace q5 := eq_true q5
     replace q6 := eq_true q6
     have hx1a : ∀ o, (wr.alloc o).cell? (ad1.add ((x17 : Int).toNat * 2)) = some (.slice Ai1 (rd_T85 l1 x17).f0.length ci1) := fun o => (((Below.refl wr.heap.size wr).alloc (Nat.le_refl _) o).cell (World.block_lt_of_cell? wr _ hx1)).trans hx1
     have hy1a : ∀ o, (wr.alloc o).cell? ⟨(ad1.add ((x17 : Int).toNat * 2)).block, (ad1.add ((x17 : Int).toNat * 2)).off + 1, none⟩ = some (.int .i64 (rd_T85 l1 x17).f1) := fun o => (((Below.refl wr.heap.size wr).alloc (Nat.le_refl _) o).cell (World.block_lt_of_cell? wr _ hy1)).trans hy1
     cases t with
     | true =>
      go_wp2_with ((go_at_call 109; refine (impl_EqualPlans_1.calls k1 Ai0 ci0 _ _ Ai1 ci1 _ _ true _ ?s1 HL0.out ?s2 HL1.out A5.out).mono ?_; (case s1 => exact Kd.C_below HI0.out (below_alloc (below_alloc HB.out _) _)); (case s2 => exact Kd.C_below HI1.out (below_alloc (below_alloc HB.out _) _)); rintro e w1 ⟨rfl, hb1⟩))
      go_roundg k1
      case measure => have := HK1.out; omega
      case rel => exact ⟨wrap64 (x17 + 1), rfl, ⟨by have := H'.out; first | (rw [if_pos trivial] at this; exact this) | (rw [if_pos rfl] at this; exact this)⟩, ⟨by have := HK1.out; omega⟩, ⟨below_step (below_alloc (below_alloc HB.out _) _) hb1⟩⟩
     | false =>
      have hr : r = false := by
       have := H'.out
       rw [if_neg (by decide)] at this
       exact (Option.some.inj this).symm
      subst hr
      go_wp2_with ((go_at_call 109; refine (impl_EqualPlans_1.calls k1 Ai0 ci0 _ _ Ai1 ci1 _ _ false _ ?s1 HL0.out ?s2 HL1.out A5.out).mono ?_; (case s1 => exact Kd.C_below HI0.out (below_alloc (below_alloc HB.out _) _)); (case s2 => exact Kd.C_below HI1.out (below_alloc (below_alloc HB.out _) _)); rintro e w1 ⟨rfl, hb1⟩))
      go_ret
      exact ⟨rfl, below_step (below_alloc (below_alloc HB.out _) _) hb1⟩
    ·
     rw [if_neg c3] at H
     have c3b0 := decide_eq_false c3
     obtain rfl := Option.some.inj H
     go_wp2
     go_ret
     exact ⟨rfl, HB.out⟩
 ·
  have hr : r = false := by unfold impl_EqualPlans.f at h; rw [if_neg hn] at h; exact (Option.some.inj h).symm
  subst hr
  have hnb : ((l0.length : Int) != (l1.length : Int)) = true := bne_iff_ne.mpr hn
  go_enter Try.func106, Try.ntmps106
  go_wp2
  go_ret
  exact ⟨rfl, HB.out⟩
set_option maxHeartbeats 400000 in
set_option maxRecDepth 100000 in
theorem impl_EqualPlans.calls (k : Nat) (A0 : Option Addr) (c0 : Nat) (l0 : List S85) (A1 : Option Addr) (c1 : Nat) (l1 : List S85) (r : Bool) (w : World) (hr0 : Kd.C k85 w A0 l0.length l0) (hc0 : l0.length ≤ c0) (hr1 : Kd.C k85 w A1 l1.length l1) (hc1 : l1.length ≤ c1) (h : impl_EqualPlans.f k l0 l1 = some r) :
  Calls Try.prog 58 #[.slice A0 l0.length c0, .slice A1 l1.length c1] w fun e w' => e = .returned (.bool r) ∧ Below w.heap.size w w' := by
 have HR0 := Aside0.mk hr0
 have HC0 := Aside0.mk hc0
 have HR1 := Aside0.mk hr1
 have HC1 := Aside0.mk hc1
 have HH := Aside0.mk h
 clear hr0 hc0 hr1 hc1 h
 go_enter Try.func58, Try.ntmps58
 go_wp2_with (go_at_call 106; refine (impl_EqualPlans.eqf k A0 c0 l0 A1 c1 l1 r _ HR0.out HC0.out HR1.out HC1.out HH.out).mono ?_; rintro e w1 ⟨rfl, hb1⟩)
 go_ret
 exact ⟨rfl, hb1⟩

/-! ### impl_StartOf: function 63 -/
mutual
def impl_StartOf.j0 : Nat → List (S50) → List (S85) → Int → Bool → Option (Int)
 | 0, _, _, _, _ => none
 | k + 1, x0, x1, x2, x22 => if x22 = true then (some (-1)) else (impl_StartOf.l0 k x0 x1 0 x2 0)
def impl_StartOf.l0 : Nat → List (S50) → List (S85) → Int → Int → Int → Option (Int)
 | 0, _, _, _, _, _ => none
 | k + 1, x0, x1, x7, x23, x24 => if x24 < x23 then ((impl_longOf.f k x0 x1 x24).bind fun t210 => (impl_StartOf.l0 k x0 x1 (wrap64 (x7 + t210)) x23 (wrap64 (x24 + 1)))) else (some x7)
end
def impl_StartOf.f (k : Nat) (l0 : List (S50)) (l1 : List (S85)) (a2 : Int) : Option (Int) := (impl_IsPlan.f k l0 l1).bind fun t209 => (if t209 = true then (if a2 < 0 then (impl_StartOf.j0 k l0 l1 a2 true) else (impl_StartOf.j0 k l0 l1 a2 (decide (a2 ≥ (l1.length : Int))))) else (impl_StartOf.j0 k l0 l1 a2 true))
theorem impl_StartOf.mono_l : ∀ k, (∀ y0 y1 y2 y3, LeO (impl_StartOf.j0 k y0 y1 y2 y3) (impl_StartOf.j0 (k + 1) y0 y1 y2 y3)) ∧ (∀ y0 y1 y2 y3 y4, LeO (impl_StartOf.l0 k y0 y1 y2 y3 y4) (impl_StartOf.l0 (k + 1) y0 y1 y2 y3 y4))
 | 0 => ⟨fun _ _ _ _ r h => by simp [impl_StartOf.j0] at h, fun _ _ _ _ _ r h => by simp [impl_StartOf.l0] at h⟩
 | k + 1 => by
  obtain ⟨ih0, ih1⟩ := impl_StartOf.mono_l k
  refine ⟨?_, ?_⟩
  ·
   intro y0 y1 y2 y3
   unfold impl_StartOf.j0
   exact mz4 ih0 ih1 impl_IsPlan.mono impl_longOf.mono
  ·
   intro y0 y1 y2 y3 y4
   unfold impl_StartOf.l0
   exact mz4 ih0 ih1 impl_IsPlan.mono impl_longOf.mono
theorem impl_StartOf.mono : ∀ a0 a1 a2 k, LeO (impl_StartOf.f k a0 a1 a2) (impl_StartOf.f (k + 1) a0 a1 a2) := by
 intro a0 a1 a2 k
 obtain ⟨ih0, ih1⟩ := impl_StartOf.mono_l k
 unfold impl_StartOf.f
 exact mz4 ih0 ih1 impl_IsPlan.mono impl_longOf.mono
set_option maxHeartbeats 8000000 in
set_option maxRecDepth 100000 in
theorem impl_StartOf.calls (k : Nat) (A0 : Option Addr) (c0 : Nat) (l0 : List (S50)) (A1 : Option Addr) (c1 : Nat) (l1 : List (S85)) (a2 : Int) (r : Int) (w : World) (hr0 : Kd.C k50 w A0 l0.length l0) (hc0 : l0.length ≤ c0) (hr1 : Kd.C k85 w A1 l1.length l1) (hc1 : l1.length ≤ c1) (h : impl_StartOf.f k l0 l1 a2 = some r) :
  Calls Try.prog 63 #[.slice A0 l0.length c0, .slice A1 l1.length c1, .int .i64 a2] w fun e w' => e = .returned (.int .i64 r) ∧ Below w.heap.size w w' := by
 have HR0 := Aside0.mk hr0
 have HC0 := Aside0.mk hc0
 clear hr0 hc0
 have HR1 := Aside0.mk hr1
 have HC1 := Aside0.mk hc1
 clear hr1 hc1
 have HB := Aside0.mk (Below.refl w.heap.size w)
 have H : ((impl_IsPlan.f k l0 l1).bind fun t209 => (if t209 = true then (if a2 < 0 then (impl_StartOf.j0 k l0 l1 a2 true) else (impl_StartOf.j0 k l0 l1 a2 (decide (a2 ≥ (l1.length : Int))))) else (impl_StartOf.j0 k l0 l1 a2 true))) = some r := h
 clear h
 have HC4 := Aside0.mk H
 clear H
 go_enter Try.func63, Try.ntmps63
 go_upto_region 1 with (fail)
 go_cut [22] (fun v22 wc => ∃ (kq : Nat) (x22_3 : Bool), v22 = .bool x22_3 ∧ Aside0 (impl_StartOf.j0 kq l0 l1 a2 x22_3 = some r) ∧ Aside0 (kq ≤ k) ∧ Aside0 (Below w.heap.size w wc))
 case first =>
  have H := HC4.out
  clear HC4
  obtain ⟨t209, A5, H⟩ := bindE H
  try dsimp only at H
  by_cases c6 : t209 = true
  ·
   subst c6
   have H1 : (if a2 < 0 then (impl_StartOf.j0 k l0 l1 a2 true) else (impl_StartOf.j0 k l0 l1 a2 (decide (a2 ≥ (l1.length : Int))))) = some r := by rw [if_pos rfl] at H; exact H
   clear H
   have H := H1
   clear H1
   by_cases c7 : a2 < 0
   ·
    rw [if_pos c7] at H
    have c7b0 := decide_eq_true c7
    clear c7
    (first | rw [c7b0] | (simp only [i64_w, i32_w]; rw [c7b0]) | skip)
    have H' := Aside0.mk H
    clear H
    go_wp2_with (first | ((with_reducible refine gate_callee (f := 15) rfl ?_); refine gL (some 11) Try.func15 #[.slice A0 l0.length c0, .slice A1 l1.length c1] ?_; (with_reducible refine (impl_IsPlan.calls k _ _ l0 (fun k_ => k_ < w.heap.size) _ _ l1 true _ ?_ ?_ ?_ A5.out).mono ?_); exact cB HR0; exact HC0.out; exact Kd.V_mk HC1.out (Kd.F_below (Kd.C_F k85_heap HR1.out) bA); rintro e w8 ⟨rfl, hb⟩; refine ⟨_, rfl, ?_⟩; replace HB := bs HB hb; (try clear hb)))
    go_meet
    case rel => exact ⟨_, (true), rS, H', ⟨oL⟩, ⟨bA⟩⟩
   rw [if_neg c7] at H
   have c7b0 := decide_eq_false c7
   clear c7
   (first | rw [c7b0] | (simp only [i64_w, i32_w]; rw [c7b0]) | skip)
   have H' := Aside0.mk H
   clear H
   go_wp2_with (first | ((with_reducible refine gate_callee (f := 15) rfl ?_); refine gL (some 11) Try.func15 #[.slice A0 l0.length c0, .slice A1 l1.length c1] ?_; (with_reducible refine (impl_IsPlan.calls k _ _ l0 (fun k_ => k_ < w.heap.size) _ _ l1 true _ ?_ ?_ ?_ A5.out).mono ?_); exact cB HR0; exact HC0.out; exact Kd.V_mk HC1.out (Kd.F_below (Kd.C_F k85_heap HR1.out) bA); rintro e w9 ⟨rfl, hb⟩; refine ⟨_, rfl, ?_⟩; replace HB := bs HB hb; (try clear hb)))
   go_meet
   case rel => exact ⟨_, (decide (a2 ≥ (l1.length : Int))), rS, H', ⟨oL⟩, ⟨bA⟩⟩
  replace c6 := Bool.eq_false_iff.mpr c6
  subst c6
  have H1 : (impl_StartOf.j0 k l0 l1 a2 true) = some r := by rw [if_neg (show ¬ (false = true) by decide)] at H; exact H
  clear H
  have H := H1
  clear H1
  have H' := Aside0.mk H
  clear H
  go_wp2_with (first | ((with_reducible refine gate_callee (f := 15) rfl ?_); refine gL (some 11) Try.func15 #[.slice A0 l0.length c0, .slice A1 l1.length c1] ?_; (with_reducible refine (impl_IsPlan.calls k _ _ l0 (fun k_ => k_ < w.heap.size) _ _ l1 false _ ?_ ?_ ?_ A5.out).mono ?_); exact cB HR0; exact HC0.out; exact Kd.V_mk HC1.out (Kd.F_below (Kd.C_F k85_heap HR1.out) bA); rintro e w10 ⟨rfl, hb⟩; refine ⟨_, rfl, ?_⟩; replace HB := bs HB hb; (try clear hb)))
  go_meet
  case rel => exact ⟨_, (true), rS, H', ⟨oL⟩, ⟨bA⟩⟩
 case rest =>
  clear HC4
  obtain ⟨kq, x22_3, rfl, HA, HJ3, HB⟩ := hcut
  cases kq with
  | zero => exact absurd HA.out (by simp [impl_StartOf.j0])
  | succ kj3 =>
   have H := HA.out
   clear HA
   simp only [impl_StartOf.j0] at H
   by_cases c11 : x22_3 = true
   ·
    subst c11
    have H1 : (some (-1)) = some r := by rw [if_pos rfl] at H; exact H
    clear H
    have H := H1
    clear H1
    obtain rfl := Option.some.inj H
    go_wp2
    go_ret
    exact ⟨rA, bA⟩
   replace c11 := Bool.eq_false_iff.mpr c11
   subst c11
   have H1 : (impl_StartOf.l0 kj3 l0 l1 0 a2 0) = some r := by rw [if_neg (show ¬ (false = true) by decide)] at H; exact H
   clear H
   have H := H1
   clear H1
   have H' := Aside0.mk H
   clear H
   go_wp2
   go_loopg [7, 24] kj3 (fun kq v7 v24 w' => ∃ (x7_2 : Int) (x24_2 : Int), v7 = .int .i64 x7_2 ∧ v24 = .int .i64 x24_2 ∧ Aside0 (impl_StartOf.l0 kq l0 l1 x7_2 a2 x24_2 = some r) ∧ Aside0 (kq ≤ kj3) ∧ Aside0 (Below w.heap.size w w'))
   case atStart => exact ⟨(0), (0), rS, rS, H', ⟨Nat.le_refl _⟩, ⟨bA⟩⟩
   case round =>
    clear H'
    obtain ⟨x7_2, x24_2, rfl, rfl, HA, HK2, HB⟩ := hrel
    cases gk with
    | zero => exact absurd HA.out (by simp [impl_StartOf.l0])
    | succ k2 =>
     have H := HA.out
     clear HA
     simp only [impl_StartOf.l0] at H
     by_cases c12 : x24_2 < a2
     ·
      rw [if_pos c12] at H
      have c12b0 := decide_eq_true c12
      clear c12
      obtain ⟨t210, A13, H⟩ := bindE H
      try dsimp only at H
      have H' := Aside0.mk H
      clear H
      go_wp2_with (first | ((with_reducible refine gate_callee (f := 108) rfl ?_); refine gL (some 31) Try.func108 #[.slice A0 l0.length c0, .slice A1 l1.length c1, .int .i64 x24_2] ?_; (with_reducible refine (impl_longOf.calls k2 _ _ l0 _ _ l1 x24_2 t210 _ ?_ ?_ ?_ ?_ A13.out).mono ?_); exact cB HR0; exact HC0.out; exact cB HR1; exact HC1.out; rintro e w14 ⟨rfl, hb⟩; refine ⟨_, rfl, ?_⟩; replace HB := bs HB hb; (try clear hb)))
      go_roundg k2
      case measure => have := HJ3.out; have := HK2.out; omega
      case rel => exact ⟨(wrap64 (x7_2 + t210)), (wrap64 (x24_2 + 1)), rS, rS, H', ⟨by have := HJ3.out; have := HK2.out; omega⟩, ⟨bA⟩⟩
     rw [if_neg c12] at H
     have c12b0 := decide_eq_false c12
     clear c12
     obtain rfl := Option.some.inj H
     go_wp2
     go_ret
     exact ⟨rA, bA⟩

/-- A state of type 138 at block g of W; what its slices lead to came in by w0. -/
def IsS138 (w0 W : World) (g : Nat) (f0 : List Int) (f1 : Int) (f2 : Int) : Prop := ∃ A0 c0, W.heap[g]? = some (.cells #[.slice A0 f0.length c0, .int .i64 f1, .int .i64 f2] 138 (0, 0)) ∧ w0.heap.size ≤ g ∧ Kd.C (Kd.int .u8) w0 A0 f0.length f0
theorem IsS138.grown {w0 W : World} {g : Nat} {f0 : List Int} {f1 : Int} {f2 : Int} {W1 : World} {row : Option Nat} (h : IsS138 w0 W g f0 f1 f2) (hw : W.grownBy W1 row) (hne : some g ≠ row) : IsS138 w0 W1 g f0 f1 f2 := by
 obtain ⟨A0, c0, hb, hg, hr0⟩ := h
 exact ⟨A0, c0, blk_grown hb hw hne, hg, hr0⟩
theorem IsS138.own_neN {w0 W : World} {g : Nat} {f0 : List Int} {f1 : Int} {f2 : Int} {α : Type} {d : Kd α} {e : Nat} {base : Nat} {ok : Nat → Prop} {v : Value} {xs : List α} (h : IsS138 w0 W g f0 f1 f2) (ho : Kd.N d e W base ok v xs) (ht : e ≠ 138) : some g ≠ v.ownBlock := by
 obtain ⟨A0, c0, hb, hg, hr0⟩ := h
 exact Kd.N_ne ho hb ht
theorem IsS138.fresh {w0 W : World} {g : Nat} {f0 : List Int} {f1 : Int} {f2 : Int} (h : IsS138 w0 W g f0 f1 f2) : ∀ k, W.heap.size ≤ k → k ≠ g := by
 obtain ⟨A0, c0, hb, hg, hr0⟩ := h
 exact Kd.freshB hb
theorem IsS138.kept {w0 W : World} {g : Nat} {f0 : List Int} {f1 : Int} {f2 : Int} {W1 : World} {S : Nat → Prop} (h : IsS138 w0 W g f0 f1 f2) (hk : Kept W W1 S) (hne : ¬ S g) : IsS138 w0 W1 g f0 f1 f2 := by
 obtain ⟨A0, c0, hb, hg, hr0⟩ := h
 exact ⟨A0, c0, blk_kept hb hk hne, hg, hr0⟩
theorem IsS138.below {w0 W : World} {g : Nat} {f0 : List Int} {f1 : Int} {f2 : Int} {W1 : World} (h : IsS138 w0 W g f0 f1 f2) (hw : Below W.heap.size W W1) : IsS138 w0 W1 g f0 f1 f2 := h.grown (grown_of_below hw none) (by simp)
theorem IsS138.alloc {w0 W : World} {g : Nat} {f0 : List Int} {f1 : Int} {f2 : Int} (h : IsS138 w0 W g f0 f1 f2) (o : Obj) : IsS138 w0 (W.alloc o) g f0 f1 f2 := h.below (below_alloc (Below.refl _ _) o)
theorem IsS138.drewN {w0 W : World} {g : Nat} {f0 : List Int} {f1 : Int} {f2 : Int} (h : IsS138 w0 W g f0 f1 f2) (m : Nat) : IsS138 w0 (W.drewN m) g f0 f1 f2 := h
theorem IsS138.drew {w0 W : World} {g : Nat} {f0 : List Int} {f1 : Int} {f2 : Int} (h : IsS138 w0 W g f0 f1 f2) : IsS138 w0 W.drew g f0 f1 f2 := h
theorem IsS138.at_ {w0 W : World} {g : Nat} {f0 : List Int} {f1 : Int} {f2 : Int} {w' : World} {m : Nat} (hq : W.drewN m = w') (h : IsS138 w0 W g f0 f1 f2) : IsS138 w0 w' g f0 f1 f2 := by subst hq; exact IsS138.drewN h m
theorem IsS138.apart {w0 W : World} {g : Nat} {f0 : List Int} {f1 : Int} {f2 : Int} {α : Type} {d : Kd α} {e : Nat} {base : Nat} {ok : Nat → Prop} {v : Value} {xs : List α} (h : IsS138 w0 W g f0 f1 f2) (ho : d.R e W base ok v xs) (ht : ∀ q, q ∈ e :: d.E → q ≠ 138) : d.R e W base (fun k => ok k ∧ k ≠ g) v xs := by
 obtain ⟨A0, c0, hb, hg, hr0⟩ := h
 exact Kd.R_types ho hb ht
theorem IsS138.own_ne {w0 W : World} {g : Nat} {f0 : List Int} {f1 : Int} {f2 : Int} {α : Type} {d : Kd α} {e : Nat} {base : Nat} {ok : Nat → Prop} {v : Value} {xs : List α} (h : IsS138 w0 W g f0 f1 f2) (ho : d.R e W base ok v xs) (ht : e ≠ 138) : some g ≠ v.ownBlock := by
 obtain ⟨A0, c0, hb, hg, hr0⟩ := h
 exact Kd.R_ne ho hb ht
theorem IsS138.apartQ {w0 W : World} {g : Nat} {f0 : List Int} {f1 : Int} {f2 : Int} {α : Type} {d : Kd α} {e : Nat} {base : Nat} {ok : Nat → Prop} {v : Value} {xs : List α} (h : IsS138 w0 W g f0 f1 f2) (ho : d.Q e W base ok v xs) (ht : ∀ q, q ∈ e :: d.E → q ≠ 138) : d.Q e W base (fun k => ok k ∧ k ≠ g) v xs := by
 obtain ⟨A0, c0, hb, hg, hr0⟩ := h
 exact Kd.Q_types ho hb ht
theorem IsS138.own_neQ {w0 W : World} {g : Nat} {f0 : List Int} {f1 : Int} {f2 : Int} {α : Type} {d : Kd α} {e : Nat} {base : Nat} {ok : Nat → Prop} {v : Value} {xs : List α} (h : IsS138 w0 W g f0 f1 f2) (ho : d.Q e W base ok v xs) (ht : e ≠ 138) : some g ≠ v.ownBlock := by
 obtain ⟨A0, c0, hb, hg, hr0⟩ := h
 exact Kd.Q_ne ho hb ht
theorem IsS138.apartS {w0 W : World} {g : Nat} {f0 : List Int} {f1 : Int} {f2 : Int} {α : Type} {d : Kd α} {e : Nat} {base : Nat} {ok : Nat → Prop} {v : Value} {xs : List α} (h : IsS138 w0 W g f0 f1 f2) (ho : d.S e W base ok v xs) (ht : ∀ q, q ∈ e :: d.E → q ≠ 138) : d.S e W base (fun k => ok k ∧ k ≠ g) v xs := by
 obtain ⟨A0, c0, hb, hg, hr0⟩ := h
 exact Kd.S_types ho hb ht
theorem IsS138.own_neS {w0 W : World} {g : Nat} {f0 : List Int} {f1 : Int} {f2 : Int} {α : Type} {d : Kd α} {e : Nat} {base : Nat} {ok : Nat → Prop} {v : Value} {xs : List α} (h : IsS138 w0 W g f0 f1 f2) (ho : d.S e W base ok v xs) (ht : e ≠ 138) : some g ≠ v.ownBlock := by
 obtain ⟨A0, c0, hb, hg, hr0⟩ := h
 exact Kd.S_ne ho hb ht
theorem IsS138.lt {w0 W : World} {g : Nat} {f0 : List Int} {f1 : Int} {f2 : Int} (h : IsS138 w0 W g f0 f1 f2) : g < W.heap.size := by
 obtain ⟨A0, c0, hb, hg, hr0⟩ := h
 exact blk_lt hb
theorem IsS138.ge {w0 W : World} {g : Nat} {f0 : List Int} {f1 : Int} {f2 : Int} (h : IsS138 w0 W g f0 f1 f2) : w0.heap.size ≤ g := by
 obtain ⟨A0, c0, hb, hg, hr0⟩ := h
 exact hg
theorem IsS138.ne_blk {w0 W : World} {g : Nat} {f0 : List Int} {f1 : Int} {f2 : Int} {a : Nat} {cs : Array Value} {t : TypeId} {fr : Nat × Nat} (h : IsS138 w0 W g f0 f1 f2) (hb2 : W.heap[a]? = some (.cells cs t fr)) (ht : t ≠ 138) : g ≠ a := by
 obtain ⟨A0, c0, hb, hg, hr0⟩ := h
 rintro rfl
 rw [hb] at hb2
 injection hb2 with hb2
 injection hb2 with _ ht2
 exact ht ht2.symm
theorem IsS138.far {w0 W : World} {g : Nat} {f0 : List Int} {f1 : Int} {f2 : Int} {p : Addr} (h : IsS138 w0 W g f0 f1 f2) (hne : g ≠ p.block) (u : Value) : IsS138 w0 (W.setCell p u) g f0 f1 f2 := by
 obtain ⟨A0, c0, hb, hg, hr0⟩ := h
 exact ⟨A0, c0, blk_far hb hne u, hg, hr0⟩
theorem cellS138_0 {W : World} {g : Nat} {A0 : Option Addr} {c0 : Nat} {f0 : List Int} {f1 : Int} {f2 : Int} (h : W.heap[g]? = some (.cells #[.slice A0 f0.length c0, .int .i64 f1, .int .i64 f2] 138 (0, 0))) : W.cell? ⟨g, 0, none⟩ = some (.slice A0 f0.length c0) := (blk_cell h 0).trans rfl
theorem cellS138_1 {W : World} {g : Nat} {A0 : Option Addr} {c0 : Nat} {f0 : List Int} {f1 : Int} {f2 : Int} (h : W.heap[g]? = some (.cells #[.slice A0 f0.length c0, .int .i64 f1, .int .i64 f2] 138 (0, 0))) : W.cell? ⟨g, 1, none⟩ = some (.int .i64 f1) := (blk_cell h 1).trans rfl
theorem IsS138.set_1 {w0 W : World} {g : Nat} {f0 : List Int} {f1 : Int} {f2 : Int} (h : IsS138 w0 W g f0 f1 f2) (x : Int) : IsS138 w0 (W.setCell ⟨g, 1, none⟩ (.int .i64 x)) g f0 x f2 := by
 obtain ⟨A0, c0, hb, hg, hr0⟩ := h
 exact ⟨A0, c0, by simpa using blk_set hb 1 (.int .i64 x), hg, hr0⟩
theorem cellS138_2 {W : World} {g : Nat} {A0 : Option Addr} {c0 : Nat} {f0 : List Int} {f1 : Int} {f2 : Int} (h : W.heap[g]? = some (.cells #[.slice A0 f0.length c0, .int .i64 f1, .int .i64 f2] 138 (0, 0))) : W.cell? ⟨g, 2, none⟩ = some (.int .i64 f2) := (blk_cell h 2).trans rfl
theorem IsS138.set_2 {w0 W : World} {g : Nat} {f0 : List Int} {f1 : Int} {f2 : Int} (h : IsS138 w0 W g f0 f1 f2) (x : Int) : IsS138 w0 (W.setCell ⟨g, 2, none⟩ (.int .i64 x)) g f0 f1 x := by
 obtain ⟨A0, c0, hb, hg, hr0⟩ := h
 exact ⟨A0, c0, by simpa using blk_set hb 2 (.int .i64 x), hg, hr0⟩
theorem IsS138.new (w0 W : World) (A0 : Option Addr) (c0 : Nat) (f0 : List Int) (f1 : Int) (f2 : Int) (hB : Below w0.heap.size w0 W) (hr0 : Kd.C (Kd.int .u8) w0 A0 f0.length f0) : IsS138 w0 (W.alloc (.cells #[.slice A0 f0.length c0, .int .i64 f1, .int .i64 f2] 138)) W.heap.size f0 f1 f2 := ⟨A0, c0, by simpa using heap_alloc_new W _, hB.size, hr0⟩
theorem sI1380 {p q : Prop} (h : p) (f : p → q := by intro h_ ; repeat (first | (with_reducible first | exact h_ | apply IsS138.alloc | apply IsS138.drewN | apply IsS138.drew | apply IsS138.set_1 | apply IsS138.set_2) | exact h_)) : q := f h
theorem sI1381 {p q r0 : Prop} (h : p) (e0 : r0) (f : p → r0 → q := by intro h_ e0_; repeat (first | (with_reducible first | exact h_ | apply IsS138.alloc | apply IsS138.drewN | apply IsS138.drew | apply IsS138.set_1 | apply IsS138.set_2 | refine IsS138.far ?_ e0_ _) | exact h_)) : q := f h e0
theorem sI1382 {p q r0 r1 : Prop} (h : p) (e0 : r0) (e1 : r1) (f : p → r0 → r1 → q := by intro h_ e0_ e1_; repeat (first | (with_reducible first | exact h_ | apply IsS138.alloc | apply IsS138.drewN | apply IsS138.drew | apply IsS138.set_1 | apply IsS138.set_2 | refine IsS138.far ?_ e0_ _ | refine IsS138.far ?_ e1_ _) | exact h_)) : q := f h e0 e1
theorem sI1383 {p q r0 r1 r2 : Prop} (h : p) (e0 : r0) (e1 : r1) (e2 : r2) (f : p → r0 → r1 → r2 → q := by intro h_ e0_ e1_ e2_; repeat (first | (with_reducible first | exact h_ | apply IsS138.alloc | apply IsS138.drewN | apply IsS138.drew | apply IsS138.set_1 | apply IsS138.set_2 | refine IsS138.far ?_ e0_ _ | refine IsS138.far ?_ e1_ _ | refine IsS138.far ?_ e2_ _) | exact h_)) : q := f h e0 e1 e2
theorem sB0 {p q : Prop} (h : p) (f : p → q := by intro h_ ; repeat (first | (with_reducible first | exact h_ | apply below_alloc | apply pw_below_drewN | apply below_drew1) | exact h_)) : q := f h
theorem sB1 {p q r0 : Prop} (h : p) (e0 : r0) (f : p → r0 → q := by intro h_ e0_; repeat (first | (with_reducible first | exact h_ | apply below_alloc | apply pw_below_drewN | apply below_drew1 | refine below_set ?_ e0_) | exact h_)) : q := f h e0
theorem sB2 {p q r0 r1 : Prop} (h : p) (e0 : r0) (e1 : r1) (f : p → r0 → r1 → q := by intro h_ e0_ e1_; repeat (first | (with_reducible first | exact h_ | apply below_alloc | apply pw_below_drewN | apply below_drew1 | refine below_set ?_ e0_ | refine below_set ?_ e1_) | exact h_)) : q := f h e0 e1
theorem sB3 {p q r0 r1 r2 : Prop} (h : p) (e0 : r0) (e1 : r1) (e2 : r2) (f : p → r0 → r1 → r2 → q := by intro h_ e0_ e1_ e2_; repeat (first | (with_reducible first | exact h_ | apply below_alloc | apply pw_below_drewN | apply below_drew1 | refine below_set ?_ e0_ | refine below_set ?_ e1_ | refine below_set ?_ e2_) | exact h_)) : q := f h e0 e1 e2
theorem sB4 {p q r0 r1 r2 r3 : Prop} (h : p) (e0 : r0) (e1 : r1) (e2 : r2) (e3 : r3) (f : p → r0 → r1 → r2 → r3 → q := by intro h_ e0_ e1_ e2_ e3_; repeat (first | (with_reducible first | exact h_ | apply below_alloc | apply pw_below_drewN | apply below_drew1 | refine below_set ?_ e0_ | refine below_set ?_ e1_ | refine below_set ?_ e2_ | refine below_set ?_ e3_) | exact h_)) : q := f h e0 e1 e2 e3
theorem sK0 {p q : Prop} (h : p) (f : p → q := by intro h_ ; repeat (first | (with_reducible first | exact h_ | apply KeepBut.set_ | apply keep_drewN | apply keep_drew | apply keep_alloc) | exact h_)) : q := f h
theorem sK1 {p q r0 : Prop} (h : p) (e0 : r0) (f : p → r0 → q := by intro h_ e0_; repeat (first | (with_reducible first | exact h_ | apply KeepBut.set_ | apply keep_drewN | apply keep_drew | apply keep_alloc | refine keep_far ?_ e0_ _) | exact h_)) : q := f h e0
theorem sK2 {p q r0 r1 : Prop} (h : p) (e0 : r0) (e1 : r1) (f : p → r0 → r1 → q := by intro h_ e0_ e1_; repeat (first | (with_reducible first | exact h_ | apply KeepBut.set_ | apply keep_drewN | apply keep_drew | apply keep_alloc | refine keep_far ?_ e0_ _ | refine keep_far ?_ e1_ _) | exact h_)) : q := f h e0 e1
theorem sK3 {p q r0 r1 r2 : Prop} (h : p) (e0 : r0) (e1 : r1) (e2 : r2) (f : p → r0 → r1 → r2 → q := by intro h_ e0_ e1_ e2_; repeat (first | (with_reducible first | exact h_ | apply KeepBut.set_ | apply keep_drewN | apply keep_drew | apply keep_alloc | refine keep_far ?_ e0_ _ | refine keep_far ?_ e1_ _ | refine keep_far ?_ e2_ _) | exact h_)) : q := f h e0 e1 e2

/-! ### spec_l1New: function 81 -/
def spec_l1New.l0 : Nat → List Int → Int → Int → Option (List Int × Int × Int)
 | 0, _, _, _ => none
 | k + 1, x0, x3, x4 => if x4 < (x0.length : Int) then (if x4 < 4000 then (if 0 ≤ x4 then (spec_l1New.l0 k x0 (Go.bits .and .i64 (wrap64 ((wrap64 ((wrap64 (x3 * 137)) + (wrap64 (rd x0 x4)))) + 11)) 1073741823) (wrap64 (x4 + 1))) else (none)) else (some (x0, 0, x3))) else (some (x0, 0, x3))
def spec_l1New.f (k : Nat) (l0 : List Int) : Option (List Int × Int × Int) := spec_l1New.l0 k l0 (wrap64 (193017 + (l0.length : Int))) 0
theorem spec_l1New.mono_l : ∀ k, (∀ y0 y1 y2, LeO (spec_l1New.l0 k y0 y1 y2) (spec_l1New.l0 (k + 1) y0 y1 y2))
 | 0 => fun _ _ _ r h => by simp [spec_l1New.l0] at h
 | k + 1 => by
  have ih0 := spec_l1New.mono_l k
  ·
   intro y0 y1 y2
   unfold spec_l1New.l0
   exact mz1 ih0
theorem spec_l1New.mono : ∀ a0 k, LeO (spec_l1New.f k a0) (spec_l1New.f (k + 1) a0) := by
 intro a0 k
 have ih0 := spec_l1New.mono_l k
 unfold spec_l1New.f
 exact mz1 ih0
set_option maxHeartbeats 8000000 in
set_option maxRecDepth 100000 in
theorem spec_l1New.calls (k : Nat) (A0 : Option Addr) (c0 : Nat) (l0 : List Int) (r1 : List Int) (r2 : Int) (r3 : Int) (w0 w : World) (hB : Below w0.heap.size w0 w) (hr0 : Kd.C (Kd.int .u8) w0 A0 l0.length l0) (hc0 : l0.length ≤ c0) (h : spec_l1New.f k l0 = some (r1, r2, r3)) :
  Calls Try.prog 81 #[.slice A0 l0.length c0] w fun e w' => ∃ g_ : Nat, e = .returned (.pointer (some ⟨g_, 0, none⟩)) ∧ IsS138 w0 w' g_ r1 r2 r3 ∧ Below w0.heap.size w0 w' ∧ Below w.heap.size w w' ∧ w.heap.size ≤ g_ := by
 have hu138 := Try.underlying138
 have HR0 := Aside0.mk hr0
 have HC0 := Aside0.mk hc0
 clear hr0 hc0
 have HBW := Aside0.mk (Below.refl w.heap.size w)
 have HW0 := Aside0.mk hB.size
 have HB := Aside0.mk hB
 clear hB
 have H : (spec_l1New.l0 k l0 (wrap64 (193017 + (l0.length : Int))) 0) = some (r1, r2, r3) := h
 clear h
 have H' := Aside0.mk H
 clear H
 go_enter Try.func81, Try.ntmps81
 go_wp2
 go_loopg [3, 4] k (fun kq v3 v4 w' => ∃ (x3_1 : Int) (x4_1 : Int), v3 = .int .i64 x3_1 ∧ v4 = .int .i64 x4_1 ∧ Aside0 (spec_l1New.l0 kq l0 x3_1 x4_1 = some (r1, r2, r3)) ∧ Aside0 (kq ≤ k) ∧ Aside0 (Below w0.heap.size w0 w') ∧ Aside0 (Below w.heap.size w w'))
 case atStart => exact ⟨(wrap64 (193017 + (l0.length : Int))), (0), rS, rS, H', ⟨Nat.le_refl _⟩, ⟨bA⟩, HBW⟩
 case round =>
  clear H' HBW
  obtain ⟨x3_1, x4_1, rfl, rfl, HA, HK1, HB, HBW⟩ := hrel
  cases gk with
  | zero => exact absurd HA.out (by simp [spec_l1New.l0])
  | succ k1 =>
   have H := HA.out
   clear HA
   simp only [spec_l1New.l0] at H
   by_cases c2 : x4_1 < (l0.length : Int)
   ·
    rw [if_pos c2] at H
    have c2b0 := decide_eq_true c2
    clear c2
    by_cases c3 : x4_1 < 4000
    ·
     rw [if_pos c3] at H
     have c3b0 := decide_eq_true c3
     clear c3
     have c4 : 0 ≤ x4_1 := ifN H
     replace H := ifT H
     have c4b0 := decide_eq_true c4
     clear c4
     have H' := Aside0.mk H
     clear H
     obtain ⟨p211, q211⟩ : 0 ≤ (x4_1 : Int) ∧ x4_1 < (l0.length : Int) := ⟨dA, dA⟩
     obtain ⟨ad211, e211, hx211_0⟩ := Kd.at_int HR0.out x4_1 p211 q211
     cases e211
     replace hx211_0 := pw_cell_below HB.out hx211_0
     obtain ⟨p211, q211⟩ := eT p211 q211
     go_wp2
     go_roundg k1
     case measure => have := HK1.out; omega
     case rel => exact ⟨(Go.bits .and .i64 (wrap64 ((wrap64 ((wrap64 (x3_1 * 137)) + (wrap64 (rd l0 x4_1)))) + 11)) 1073741823), (wrap64 (x4_1 + 1)), rS, rS, H', ⟨by have := HK1.out; omega⟩, ⟨bA⟩, HBW⟩
    rw [if_neg c3] at H
    have c3b0 := decide_eq_false c3
    clear c3
    simp only [Option.some.injEq, Prod.mk.injEq] at H
    obtain ⟨rfl, rfl, rfl⟩ := H
    go_wp2
    go_ret
    exact ⟨_, rfl, IsS138.new w0 wr A0 c0 l0 0 x3_1 HB.out HR0.out, below_alloc HB.out _, below_alloc HBW.out _, HBW.out.size⟩
   rw [if_neg c2] at H
   have c2b0 := decide_eq_false c2
   clear c2
   simp only [Option.some.injEq, Prod.mk.injEq] at H
   obtain ⟨rfl, rfl, rfl⟩ := H
   go_wp2
   go_ret
   exact ⟨_, rfl, IsS138.new w0 wr A0 c0 l0 0 x3_1 HB.out HR0.out, below_alloc HB.out _, below_alloc HBW.out _, HBW.out.size⟩

/-! ### spec_l1Byte: function 126 -/
def spec_l1Byte.f (s0_0 : List Int) (s0_1 : Int) (s0_2 : Int) : Option (Int × Int × Int) := if s0_1 < (s0_0.length : Int) then (if 0 ≤ s0_1 then (some (Go.bits .and .i64 (wrap64 ((Go.bits .and .i64 (Go.bits .xor .i64 ((wrap64 ((wrap64 (s0_2 * 6364136223846793005)) + 1442695040888963407)) / 8589934592) ((wrap64 ((wrap64 (s0_2 * 6364136223846793005)) + 1442695040888963407)) / 140737488355328)) 255) + (wrap64 (rd s0_0 s0_1)))) 255, wrap64 (s0_1 + 1), wrap64 ((wrap64 (s0_2 * 6364136223846793005)) + 1442695040888963407))) else (none)) else (some (Go.bits .and .i64 (Go.bits .xor .i64 ((wrap64 ((wrap64 (s0_2 * 6364136223846793005)) + 1442695040888963407)) / 8589934592) ((wrap64 ((wrap64 (s0_2 * 6364136223846793005)) + 1442695040888963407)) / 140737488355328)) 255, s0_1, wrap64 ((wrap64 (s0_2 * 6364136223846793005)) + 1442695040888963407)))
set_option maxHeartbeats 8000000 in
set_option maxRecDepth 100000 in
theorem spec_l1Byte.calls (g : Nat) (s0_0 : List Int) (s0_1 : Int) (s0_2 : Int) (r1 : Int) (r2 : Int) (r3 : Int) (w0 w : World) (hI : IsS138 w0 w g s0_0 s0_1 s0_2) (hB : Below w0.heap.size w0 w) (h : spec_l1Byte.f s0_0 s0_1 s0_2 = some (r1, r2, r3)) :
  Calls Try.prog 126 #[.pointer (some ⟨g, 0, none⟩)] w fun e w' => e = .returned (.int .i64 r1) ∧ IsS138 w0 w' g s0_0 r2 r3 ∧ Below w0.heap.size w0 w' ∧ KeepBut w w' g none := by
 have HI0 := Aside0.mk hI
 have HK := Aside0.mk (KeepBut.refl w g none)
 have HL := Aside0.mk hB.size
 clear hI
 have HW0 := Aside0.mk hB.size
 have HB := Aside0.mk hB
 clear hB
 have H : (if s0_1 < (s0_0.length : Int) then (if 0 ≤ s0_1 then (some (Go.bits .and .i64 (wrap64 ((Go.bits .and .i64 (Go.bits .xor .i64 ((wrap64 ((wrap64 (s0_2 * 6364136223846793005)) + 1442695040888963407)) / 8589934592) ((wrap64 ((wrap64 (s0_2 * 6364136223846793005)) + 1442695040888963407)) / 140737488355328)) 255) + (wrap64 (rd s0_0 s0_1)))) 255, wrap64 (s0_1 + 1), wrap64 ((wrap64 (s0_2 * 6364136223846793005)) + 1442695040888963407))) else (none)) else (some (Go.bits .and .i64 (Go.bits .xor .i64 ((wrap64 ((wrap64 (s0_2 * 6364136223846793005)) + 1442695040888963407)) / 8589934592) ((wrap64 ((wrap64 (s0_2 * 6364136223846793005)) + 1442695040888963407)) / 140737488355328)) 255, s0_1, wrap64 ((wrap64 (s0_2 * 6364136223846793005)) + 1442695040888963407)))) = some (r1, r2, r3) := h
 clear h
 by_cases c2 : s0_1 < (s0_0.length : Int)
 ·
  rw [if_pos c2] at H
  have c2b0 := decide_eq_true c2
  clear c2
  have c3 : 0 ≤ s0_1 := ifN H
  replace H := ifT H
  have c3b0 := decide_eq_true c3
  clear c3
  simp only [Option.some.injEq, Prod.mk.injEq] at H
  obtain ⟨rfl, rfl, rfl⟩ := H
  obtain ⟨ASz4_0, cSz4_0, HGz4, hgz4, HSz4_0⟩ := HI0.out
  have hcz4_0 := cellS138_0 HGz4
  have hcz4_1 := cellS138_1 HGz4
  have hcz4_2 := cellS138_2 HGz4
  have hfz4_1 := blk_frozen HGz4 1
  have hfz4_2 := blk_frozen HGz4 2
  clear HGz4 hgz4
  obtain ⟨p214, q214⟩ : 0 ≤ (s0_1 : Int) ∧ s0_1 < (s0_0.length : Int) := ⟨dA, dA⟩
  obtain ⟨ad214, e214, hx214_0⟩ := Kd.at_int HSz4_0 s0_1 p214 q214
  cases e214
  have hn214_0 : ad214.block ≠ g := Nat.ne_of_lt (Nat.lt_of_lt_of_le (by have := World.block_lt_of_cell? _ _ hx214_0; first | rwa [add_block] at this | exact this) (IsS138.ge HI0.out))
  replace hx214_0 := pw_cell_below HB.out hx214_0
  replace hx214_0 := (cell_far (p := ⟨g, 2, none⟩) (by first | (rw [add_block]; exact hn214_0) | (show (Addr.add _ _).block ≠ _; rw [add_block]; exact hn214_0) | exact hn214_0) (.int .i64 (wrap64 ((wrap64 (s0_2 * 6364136223846793005)) + 1442695040888963407)))).trans hx214_0
  (try have hy214_0 := fun (n_ : Nat) => (show (((w.drewN n_).setCell ⟨g, 2, none⟩ (.int .i64 (wrap64 ((wrap64 (s0_2 * 6364136223846793005)) + 1442695040888963407))))).cell? _ = some _ from hx214_0))
  clear hn214_0
  obtain ⟨p214, q214⟩ := eT p214 q214
  go_enter Try.func126, Try.ntmps126
  go_wp2
  repeat (go_quiet (fail); try go_wp2)
  go_ret
  exact ⟨rA, by exact sI1380 HI0.out, by exact sB1 HB.out (IsS138.ge HI0.out), by exact sK0 HK.out⟩
 rw [if_neg c2] at H
 have c2b0 := decide_eq_false c2
 clear c2
 simp only [Option.some.injEq, Prod.mk.injEq] at H
 obtain ⟨rfl, rfl, rfl⟩ := H
 obtain ⟨ASz5_0, cSz5_0, HGz5, hgz5, HSz5_0⟩ := HI0.out
 have hcz5_0 := cellS138_0 HGz5
 have hcz5_1 := cellS138_1 HGz5
 have hcz5_2 := cellS138_2 HGz5
 have hfz5_1 := blk_frozen HGz5 1
 have hfz5_2 := blk_frozen HGz5 2
 clear HGz5 hgz5
 go_enter Try.func126, Try.ntmps126
 go_wp2
 repeat (go_quiet (fail); try go_wp2)
 go_ret
 exact ⟨rA, by exact sI1380 HI0.out, by exact sB1 HB.out (IsS138.ge HI0.out), by exact sK0 HK.out⟩

/-! ### spec_l1Below: function 84 -/
def spec_l1Below.f (s0_0 : List Int) (s0_1 : Int) (s0_2 : Int) (a1 : Int) : Option (Int × Int × Int) := if a1 ≤ 0 then (some (0, s0_1, s0_2)) else (if a1 ≤ 256 then ((spec_l1Byte.f s0_0 s0_1 s0_2).bind fun bt215 => (if a1 = 0 then (none) else (some (Int.tmod bt215.1 a1, bt215.2.1, bt215.2.2)))) else ((spec_l1Byte.f s0_0 s0_1 s0_2).bind fun bt218 => ((spec_l1Byte.f s0_0 bt218.2.1 bt218.2.2).bind fun bt221 => ((spec_l1Byte.f s0_0 bt221.2.1 bt221.2.2).bind fun bt224 => (if a1 = 0 then (none) else (some (Int.tmod (wrap64 ((wrap64 ((wrap64 (bt218.1 * 65536)) + (wrap64 (bt221.1 * 256)))) + bt224.1)) a1, bt224.2.1, bt224.2.2)))))))
set_option maxHeartbeats 8000000 in
set_option maxRecDepth 100000 in
theorem spec_l1Below.calls (g : Nat) (s0_0 : List Int) (s0_1 : Int) (s0_2 : Int) (a1 : Int) (r1 : Int) (r2 : Int) (r3 : Int) (w0 w : World) (hI : IsS138 w0 w g s0_0 s0_1 s0_2) (hB : Below w0.heap.size w0 w) (h : spec_l1Below.f s0_0 s0_1 s0_2 a1 = some (r1, r2, r3)) :
  Calls Try.prog 84 #[.pointer (some ⟨g, 0, none⟩), .int .i64 a1] w fun e w' => e = .returned (.int .i64 r1) ∧ IsS138 w0 w' g s0_0 r2 r3 ∧ Below w0.heap.size w0 w' ∧ KeepBut w w' g none := by
 have HI0 := Aside0.mk hI
 have HK := Aside0.mk (KeepBut.refl w g none)
 have HL := Aside0.mk hB.size
 clear hI
 have HW0 := Aside0.mk hB.size
 have HB := Aside0.mk hB
 clear hB
 have H : (if a1 ≤ 0 then (some (0, s0_1, s0_2)) else (if a1 ≤ 256 then ((spec_l1Byte.f s0_0 s0_1 s0_2).bind fun bt215 => (if a1 = 0 then (none) else (some (Int.tmod bt215.1 a1, bt215.2.1, bt215.2.2)))) else ((spec_l1Byte.f s0_0 s0_1 s0_2).bind fun bt218 => ((spec_l1Byte.f s0_0 bt218.2.1 bt218.2.2).bind fun bt221 => ((spec_l1Byte.f s0_0 bt221.2.1 bt221.2.2).bind fun bt224 => (if a1 = 0 then (none) else (some (Int.tmod (wrap64 ((wrap64 ((wrap64 (bt218.1 * 65536)) + (wrap64 (bt221.1 * 256)))) + bt224.1)) a1, bt224.2.1, bt224.2.2)))))))) = some (r1, r2, r3) := h
 clear h
 by_cases c3 : a1 ≤ 0
 ·
  rw [if_pos c3] at H
  have c3b0 := decide_eq_true c3
  clear c3
  simp only [Option.some.injEq, Prod.mk.injEq] at H
  obtain ⟨rfl, rfl, rfl⟩ := H
  go_enter Try.func84, Try.ntmps84
  go_wp2
  go_ret
  exact ⟨rA, by exact sI1380 HI0.out, by exact sB1 HB.out (IsS138.ge HI0.out), by exact sK0 HK.out⟩
 rw [if_neg c3] at H
 have c3b0 := decide_eq_false c3
 clear c3
 by_cases c4 : a1 ≤ 256
 ·
  rw [if_pos c4] at H
  have c4b0 := decide_eq_true c4
  clear c4
  obtain ⟨⟨t215, t216, t217⟩, A5, H⟩ := bindE H
  try dsimp only at H
  have c6 : ¬ (a1 = 0) := ifN' H
  replace H := ifT' H
  have c6b0 : (a1 == 0) = false := beq_eq_false_iff_ne.mpr c6
  have c6b1 : (a1 != 0) = true := bne_iff_ne.mpr c6
  simp only [Option.some.injEq, Prod.mk.injEq] at H
  obtain ⟨rfl, rfl, rfl⟩ := H
  go_enter Try.func84, Try.ntmps84
  go_wp2_with (first | ((with_reducible refine gate_callee (f := 126) rfl ?_); refine gL (some 13) Try.func126 #[.pointer (some ⟨g, 0, none⟩)] ?_; (with_reducible refine (spec_l1Byte.calls g s0_0 s0_1 s0_2 t215 t216 t217 w0 _ ?_ ?_ A5.out).mono ?_); exact sI1380 HI0.out; exact sB1 HB.out (IsS138.ge HI0.out); rintro e w7 ⟨rfl, hi, hb, hk⟩; refine ⟨_, rfl, ?_⟩; replace HK := Aside0.mk (KeepBut.trans (by exact sK0 HK.out) hk (.inl rfl)); replace HB := Aside0.mk (hb); replace HI0 := Aside0.mk (hi); (try clear hb); (try clear hk); (try clear hi)))
  go_ret
  exact ⟨rA, by exact sI1380 HI0.out, by exact sB1 HB.out (IsS138.ge HI0.out), by exact sK0 HK.out⟩
 rw [if_neg c4] at H
 have c4b0 := decide_eq_false c4
 clear c4
 obtain ⟨⟨t218, t219, t220⟩, A8, H⟩ := bindE H
 try dsimp only at H
 obtain ⟨⟨t221, t222, t223⟩, A9, H⟩ := bindE H
 try dsimp only at H
 obtain ⟨⟨t224, t225, t226⟩, A10, H⟩ := bindE H
 try dsimp only at H
 have c11 : ¬ (a1 = 0) := ifN' H
 replace H := ifT' H
 have c11b0 : (a1 == 0) = false := beq_eq_false_iff_ne.mpr c11
 have c11b1 : (a1 != 0) = true := bne_iff_ne.mpr c11
 simp only [Option.some.injEq, Prod.mk.injEq] at H
 obtain ⟨rfl, rfl, rfl⟩ := H
 go_enter Try.func84, Try.ntmps84
 go_wp2_with (first | ((with_reducible refine gate_callee (f := 126) rfl ?_); refine gL (some 17) Try.func126 #[.pointer (some ⟨g, 0, none⟩)] ?_; (with_reducible refine (spec_l1Byte.calls g s0_0 s0_1 s0_2 t218 t219 t220 w0 _ ?_ ?_ A8.out).mono ?_); exact sI1380 HI0.out; exact sB1 HB.out (IsS138.ge HI0.out); rintro e w12 ⟨rfl, hi, hb, hk⟩; refine ⟨_, rfl, ?_⟩; replace HK := Aside0.mk (KeepBut.trans (by exact sK0 HK.out) hk (.inl rfl)); replace HB := Aside0.mk (hb); replace HI0 := Aside0.mk (hi); (try clear hb); (try clear hk); (try clear hi)) | ((with_reducible refine gate_callee (f := 126) rfl ?_); refine gL (some 19) Try.func126 #[.pointer (some ⟨g, 0, none⟩)] ?_; (with_reducible refine (spec_l1Byte.calls g s0_0 t219 t220 t221 t222 t223 w0 _ ?_ ?_ A9.out).mono ?_); exact sI1380 HI0.out; exact sB1 HB.out (IsS138.ge HI0.out); rintro e w13 ⟨rfl, hi, hb, hk⟩; refine ⟨_, rfl, ?_⟩; replace HK := Aside0.mk (KeepBut.trans (by exact sK0 HK.out) hk (.inl rfl)); replace HB := Aside0.mk (hb); replace HI0 := Aside0.mk (hi); (try clear hb); (try clear hk); (try clear hi)) | ((with_reducible refine gate_callee (f := 126) rfl ?_); refine gL (some 21) Try.func126 #[.pointer (some ⟨g, 0, none⟩)] ?_; (with_reducible refine (spec_l1Byte.calls g s0_0 t222 t223 t224 t225 t226 w0 _ ?_ ?_ A10.out).mono ?_); exact sI1380 HI0.out; exact sB1 HB.out (IsS138.ge HI0.out); rintro e w14 ⟨rfl, hi, hb, hk⟩; refine ⟨_, rfl, ?_⟩; replace HK := Aside0.mk (KeepBut.trans (by exact sK0 HK.out) hk (.inl rfl)); replace HB := Aside0.mk (hb); replace HI0 := Aside0.mk (hi); (try clear hb); (try clear hk); (try clear hi)))
 go_ret
 exact ⟨rA, by exact sI1380 HI0.out, by exact sB1 HB.out (IsS138.ge HI0.out), by exact sK0 HK.out⟩

/-! ### spec_l1Once: function 93 -/
def spec_l1Once.f (s0_0 : List Int) (s0_1 : Int) (s0_2 : Int) (a1 : Int) : Option (Bool × Int × Int) := (spec_l1Below.f s0_0 s0_1 s0_2 a1).bind fun bt227 => (some ((bt227.1 == 0), bt227.2.1, bt227.2.2))
set_option maxHeartbeats 8000000 in
set_option maxRecDepth 100000 in
theorem spec_l1Once.calls (g : Nat) (s0_0 : List Int) (s0_1 : Int) (s0_2 : Int) (a1 : Int) (r1 : Bool) (r2 : Int) (r3 : Int) (w0 w : World) (hI : IsS138 w0 w g s0_0 s0_1 s0_2) (hB : Below w0.heap.size w0 w) (h : spec_l1Once.f s0_0 s0_1 s0_2 a1 = some (r1, r2, r3)) :
  Calls Try.prog 93 #[.pointer (some ⟨g, 0, none⟩), .int .i64 a1] w fun e w' => e = .returned (.bool r1) ∧ IsS138 w0 w' g s0_0 r2 r3 ∧ Below w0.heap.size w0 w' ∧ KeepBut w w' g none := by
 have HI0 := Aside0.mk hI
 have HK := Aside0.mk (KeepBut.refl w g none)
 have HL := Aside0.mk hB.size
 clear hI
 have HW0 := Aside0.mk hB.size
 have HB := Aside0.mk hB
 clear hB
 have H : ((spec_l1Below.f s0_0 s0_1 s0_2 a1).bind fun bt227 => (some ((bt227.1 == 0), bt227.2.1, bt227.2.2))) = some (r1, r2, r3) := h
 clear h
 obtain ⟨⟨t227, t228, t229⟩, A3, H⟩ := bindE H
 try dsimp only at H
 simp only [Option.some.injEq, Prod.mk.injEq] at H
 obtain ⟨rfl, rfl, rfl⟩ := H
 go_enter Try.func93, Try.ntmps93
 go_wp2_with (first | ((with_reducible refine gate_callee (f := 84) rfl ?_); refine gL (some 7) Try.func84 #[.pointer (some ⟨g, 0, none⟩), .int .i64 a1] ?_; (with_reducible refine (spec_l1Below.calls g s0_0 s0_1 s0_2 a1 t227 t228 t229 w0 _ ?_ ?_ A3.out).mono ?_); exact sI1380 HI0.out; exact sB1 HB.out (IsS138.ge HI0.out); rintro e w4 ⟨rfl, hi, hb, hk⟩; refine ⟨_, rfl, ?_⟩; replace HK := Aside0.mk (KeepBut.trans (by exact sK0 HK.out) hk (.inl rfl)); replace HB := Aside0.mk (hb); replace HI0 := Aside0.mk (hi); (try clear hb); (try clear hk); (try clear hi)))
 go_ret
 exact ⟨rA, by exact sI1380 HI0.out, by exact sB1 HB.out (IsS138.ge HI0.out), by exact sK0 HK.out⟩

/-! ### spec_l4Draw: function 174 -/
def spec_l4Draw.f (s0_0 : List Int) (s0_1 : Int) (s0_2 : Int) (a1 : Int) : Option (Int × Int × Int × Int × Int × Int) := (spec_l1Below.f s0_0 s0_1 s0_2 3).bind fun bt231 => ((spec_l1Below.f s0_0 bt231.2.1 bt231.2.2 4).bind fun bt234 => (if (wrap64 (1 + bt231.1)) = 2 then (some (a1, wrap64 (1 + bt231.1), bt234.1, bt234.1, bt234.2.1, bt234.2.2)) else ((spec_l1Below.f s0_0 bt234.2.1 bt234.2.2 3).bind fun bt238 => (some (a1, wrap64 (1 + bt231.1), bt234.1, Int.tmod (wrap64 ((wrap64 (bt234.1 + 1)) + bt238.1)) 4, bt238.2.1, bt238.2.2)))))
def spec_l4Draw.T4 : Bool × List (List Nat × List Nat) := (true, [([], []), ([0], [0]), ([1], [1]), ([], []), ([3], [3]), ([2, 4], [2, 4]), ([5], [5]), ([0, 1, 2, 3, 4, 5, 6], []), ([7, 6, 4, 0, 1, 2, 3, 4, 5, 6], [6, 7])])
def spec_l4Draw.B4 : List Nat := [0, 1, 3, 0, 8, 31, 63, 127, 255]
theorem spec_l4Draw.tab4 : rtab .any (opsOf Try.f174 4) = spec_l4Draw.T4 := by kernel_rfl
theorem spec_l4Draw.bits4 : waitsOk spec_l4Draw.T4.2 spec_l4Draw.B4 = true := by kernel_rfl
theorem gen_world {P : Program} {ops : Array Oper} {rest : List Oper} {o : Oper} {a : Act} {Q : Exit → Act → World → Prop} {W : World} (F : World → Prop) (hF : F W) (h : ∀ W', F W' → wpList P ops Q (o :: rest) a W') : wpList P ops Q (o :: rest) a W := h W hF
set_option maxHeartbeats 8000000 in
set_option maxRecDepth 100000 in
theorem spec_l4Draw.calls (g : Nat) (s0_0 : List Int) (s0_1 : Int) (s0_2 : Int) (a1 : Int) (r1 : Int) (r2 : Int) (r3 : Int) (r4 : Int) (r5 : Int) (r6 : Int) (w0 w : World) (hI : IsS138 w0 w g s0_0 s0_1 s0_2) (hB : Below w0.heap.size w0 w) (h : spec_l4Draw.f s0_0 s0_1 s0_2 a1 = some (r1, r2, r3, r4, r5, r6)) :
  Calls Try.prog 174 #[.pointer (some ⟨g, 0, none⟩), .int .i64 a1] w fun e w' => e = .returned (.agg #[.int .i64 r1, .int .i64 r2, .int .i64 r3, .int .i64 r4]) ∧ IsS138 w0 w' g s0_0 r5 r6 ∧ Below w0.heap.size w0 w' ∧ KeepBut w w' g none := by
 have hu50 := Try.underlying50
 have HI0 := Aside0.mk hI
 have HK := Aside0.mk (KeepBut.refl w g none)
 have HL := Aside0.mk hB.size
 clear hI
 have HW0 := Aside0.mk hB.size
 have HB := Aside0.mk hB
 clear hB
 have H : ((spec_l1Below.f s0_0 s0_1 s0_2 3).bind fun bt231 => ((spec_l1Below.f s0_0 bt231.2.1 bt231.2.2 4).bind fun bt234 => (if (wrap64 (1 + bt231.1)) = 2 then (some (a1, wrap64 (1 + bt231.1), bt234.1, bt234.1, bt234.2.1, bt234.2.2)) else ((spec_l1Below.f s0_0 bt234.2.1 bt234.2.2 3).bind fun bt238 => (some (a1, wrap64 (1 + bt231.1), bt234.1, Int.tmod (wrap64 ((wrap64 (bt234.1 + 1)) + bt238.1)) 4, bt238.2.1, bt238.2.2)))))) = some (r1, r2, r3, r4, r5, r6) := h
 clear h
 obtain ⟨⟨t231, t232, t233⟩, A3, H⟩ := bindE H
 try dsimp only at H
 obtain ⟨⟨t234, t235, t236⟩, A4, H⟩ := bindE H
 try dsimp only at H
 by_cases c5 : (wrap64 (1 + t231)) = 2
 ·
  rw [if_pos c5] at H
  have c5b0 : ((wrap64 (1 + t231)) == 2) = true := beq_iff_eq.mpr c5
  have c5b1 : ((wrap64 (1 + t231)) != 2) = false := bne_eq_false_iff_eq.mpr c5
  clear c5
  simp only [Option.some.injEq, Prod.mk.injEq] at H
  obtain ⟨rfl, rfl, rfl, rfl, rfl, rfl⟩ := H
  go_enter Try.func174, Try.ntmps174
  have TK_ := Aside0.mk trivial
  go_wp2_with (first | ((with_reducible refine gate_dst (N := 4) rfl ?_); refine bE (N := 4) (cs := #[.int .i64 0, .int .i64 0, .int .i64 0, .int .i64 0]) (t := 50) ?_; intro gb230 hg w6 hbox hb; have n0_ := Aside0.mk (IsS138.below (by exact sI1380 HI0.out) hb); have n1_ := Aside0.mk (KeepBut.trans (by exact sK0 HK.out) (KeepBut.of_below hb g none) (.inl rfl)); have n2_ := Aside0.mk (below_step (by exact sB1 HB.out (IsS138.ge HI0.out)) hb); have n3_ := Aside0.mk (hbox); have n4_ := Aside0.mk ((by rw [hg]; exact (keep_size (w := w) (g := g) (row := none) (by exact sK0 HK.out)) : w.heap.size ≤ gb230)); have n5_ := Aside0.mk ((Nat.le_trans HW0.out (by rw [hg]; exact (keep_size (w := w) (g := g) (row := none) (by exact sK0 HK.out)) : w.heap.size ≤ gb230) : w0.heap.size ≤ gb230)); have n6_ := Aside0.mk ((by rw [hg]; exact Nat.ne_of_lt (IsS138.lt (show IsS138 w0 _ g s0_0 s0_1 s0_2 from by exact sI1380 HI0.out)) : g ≠ gb230)); have n7_ := Aside0.mk ((by rw [hg]; exact Nat.ne_of_gt (IsS138.lt (show IsS138 w0 _ g s0_0 s0_1 s0_2 from by exact sI1380 HI0.out)) : gb230 ≠ g)); clear HI0; clear HK; clear HB; have HI0 := n0_; have HK := n1_; have HB := n2_; have BK230 := n3_; have GW230 := n4_; have GE230 := n5_; have NB0_230 := n6_; have NB230_0 := n7_; clear n0_ n1_ n2_ n3_ n4_ n5_ n6_ n7_; clear hb hbox hg) | ((with_reducible refine gate_callee (f := 84) rfl ?_); refine gL (some 8) Try.func84 #[.pointer (some ⟨g, 0, none⟩), .int .i64 3] ?_; (with_reducible refine (spec_l1Below.calls g s0_0 s0_1 s0_2 3 t231 t232 t233 w0 _ ?_ ?_ A3.out).mono ?_); exact sI1381 HI0.out NB0_230.out; exact sB2 HB.out (IsS138.ge HI0.out) GE230.out; rintro e w7 ⟨rfl, hi, hb, hk⟩; refine ⟨_, rfl, ?_⟩; replace BK230 := Aside0.mk (KeepBut.blk hk (g' := gb230) (o := .cells #[.int .i64 0, .int .i64 0, .int .i64 0, .int .i64 0] 50 (0, 0)) (bK BK230) NB230_0.out (by simp)); replace HK := Aside0.mk (KeepBut.trans (by exact sK1 HK.out GW230.out) hk (.inl rfl)); replace HB := Aside0.mk (hb); replace HI0 := Aside0.mk (hi); (try clear hb); (try clear hk); (try clear hi)) | ((with_reducible refine gate_callee (f := 84) rfl ?_); refine gL (some 11) Try.func84 #[.pointer (some ⟨g, 0, none⟩), .int .i64 4] ?_; (with_reducible refine (spec_l1Below.calls g s0_0 t232 t233 4 t234 t235 t236 w0 _ ?_ ?_ A4.out).mono ?_); exact sI1381 HI0.out NB0_230.out; exact sB2 HB.out (IsS138.ge HI0.out) GE230.out; rintro e w8 ⟨rfl, hi, hb, hk⟩; refine ⟨_, rfl, ?_⟩; replace BK230 := Aside0.mk (KeepBut.blk hk (g' := gb230) (o := .cells #[.int .i64 0, .int .i64 0, .int .i64 0, .int .i64 0] 50 (0, 0)) (bK BK230) NB230_0.out (by simp)); replace HK := Aside0.mk (KeepBut.trans (by exact sK1 HK.out GW230.out) hk (.inl rfl)); replace HB := Aside0.mk (hb); replace HI0 := Aside0.mk (hi); (try clear hb); (try clear hk); (try clear hi)) | ((with_reducible refine gate_dst (N := 5) rfl ?_); refine bE (N := 5) (cs := #[.int .i64 0, .int .i64 0, .int .i64 0, .int .i64 0]) (t := 50) ?_; intro gb237 hg w9 hbox hb; have n0_ := Aside0.mk (IsS138.below (by exact sI1381 HI0.out NB0_230.out) hb); have n1_ := kb BK230 hb; have n2_ := Aside0.mk (KeepBut.trans (by exact sK1 HK.out GW230.out) (KeepBut.of_below hb g none) (.inl rfl)); have n3_ := Aside0.mk (below_step (by exact sB2 HB.out (IsS138.ge HI0.out) GE230.out) hb); have n4_ := Aside0.mk (hbox); have n5_ := Aside0.mk ((by rw [hg]; exact (keep_size (w := w) (g := g) (row := none) (by exact sK1 HK.out GW230.out)) : w.heap.size ≤ gb237)); have n6_ := Aside0.mk ((Nat.le_trans HW0.out (by rw [hg]; exact (keep_size (w := w) (g := g) (row := none) (by exact sK1 HK.out GW230.out)) : w.heap.size ≤ gb237) : w0.heap.size ≤ gb237)); have n7_ := nl BK230 hg; have n8_ := nr BK230 hg; have n9_ := Aside0.mk ((by rw [hg]; exact Nat.ne_of_lt (IsS138.lt (show IsS138 w0 _ g s0_0 t235 t236 from by exact sI1381 HI0.out NB0_230.out)) : g ≠ gb237)); have n10_ := Aside0.mk ((by rw [hg]; exact Nat.ne_of_gt (IsS138.lt (show IsS138 w0 _ g s0_0 t235 t236 from by exact sI1381 HI0.out NB0_230.out)) : gb237 ≠ g)); clear HI0; clear BK230; clear HK; clear HB; have HI0 := n0_; have BK230 := n1_; have HK := n2_; have HB := n3_; have BK237 := n4_; have GW237 := n5_; have GE237 := n6_; have NB230_237 := n7_; have NB237_230 := n8_; have NB0_237 := n9_; have NB237_0 := n10_; clear n0_ n1_ n2_ n3_ n4_ n5_ n6_ n7_ n8_ n9_ n10_; clear hb hbox hg; have hnb10 := NB237_230.out; have hnc10 := NB230_237.out; have hnb11 := NB237_0.out; have hnc11 := NB0_237.out; obtain ⟨_, _, _, _, _, _, _, _⟩ := blkc4 BK237; have hnb13 := NB230_0.out; have hnc13 := NB0_230.out; obtain ⟨_, _, _, _, _, _, _, _⟩ := blkc4 BK230) | ((with_reducible refine gate_dst (N := 27) rfl ?_); clear TK_; refine gen_world (fun W_ => (W_.heap[gb230]? = some (.cells #[.int .i64 0, .int .i64 0, .int .i64 0, .int .i64 0] 50 (0, 0))) ∧ (W_.heap[gb237]? = some (.cells #[.int .i64 a1, .int .i64 (wrap64 (1 + t231)), .int .i64 t234, .int .i64 t234] 50 (0, 0))) ∧ (IsS138 w0 W_ g s0_0 t235 t236) ∧ (KeepBut w W_ g none) ∧ (Below w0.heap.size w0 W_)) ⟨(kf BK230 NB230_237), (kp BK237), (by exact sI1382 HI0.out NB0_230.out NB0_237.out), (by exact sK2 HK.out GW230.out GW237.out), (by exact sB3 HB.out (IsS138.ge HI0.out) GE230.out GE237.out)⟩ ?_; rintro wz ⟨n0_, n1_, n2_, n3_, n4_⟩; (try clear BK230); (try clear BK237); (try clear HI0); (try clear HK); (try clear HB); have BK230 := Aside0.mk n0_; have BK237 := Aside0.mk n1_; have HI0 := Aside0.mk n2_; have HK := Aside0.mk n3_; have HB := Aside0.mk n4_; clear n0_ n1_ n2_ n3_ n4_; obtain ⟨hcy0, hcy1, hcy2, hcy3, hfy0, hfy1, hfy2, hfy3⟩ := blkc4 BK237; obtain ⟨hcx0, hcx1, hcx2, hcx3, hfx0, hfx1, hfx2, hfx3⟩ := blkc4 BK230))
  refine bodyPost_ret (results_cell_row rfl _ _ gb230 50 #[.int .i64 a1, .int .i64 (wrap64 (1 + t231)), .int .i64 t234, .int .i64 t234] (0, 0) _ rfl (kp BK230) Try.underlying50 rfl (by kernel_rfl)) rfl ?_
  exact ⟨rA, by exact sI1382 HI0.out NB0_230.out NB0_237.out, by exact sB3 HB.out (IsS138.ge HI0.out) GE230.out GE237.out, by exact sK2 HK.out GW230.out GW237.out⟩
 rw [if_neg c5] at H
 have c5b0 : ((wrap64 (1 + t231)) == 2) = false := beq_eq_false_iff_ne.mpr c5
 have c5b1 : ((wrap64 (1 + t231)) != 2) = true := bne_iff_ne.mpr c5
 obtain ⟨⟨t238, t239, t240⟩, A15, H⟩ := bindE H
 try dsimp only at H
 simp only [Option.some.injEq, Prod.mk.injEq] at H
 obtain ⟨rfl, rfl, rfl, rfl, rfl, rfl⟩ := H
 go_enter Try.func174, Try.ntmps174
 try go_wp2_with (first | ((with_reducible refine gate_dst (N := 4) rfl ?_); refine bE (N := 4) (cs := #[.int .i64 0, .int .i64 0, .int .i64 0, .int .i64 0]) (t := 50) ?_; intro gb230 hg w16 hbox hb; have n0_ := Aside0.mk (IsS138.below (by exact sI1380 HI0.out) hb); have n1_ := Aside0.mk (KeepBut.trans (by exact sK0 HK.out) (KeepBut.of_below hb g none) (.inl rfl)); have n2_ := Aside0.mk (below_step (by exact sB1 HB.out (IsS138.ge HI0.out)) hb); have n3_ := Aside0.mk (hbox); have n4_ := Aside0.mk ((by rw [hg]; exact (keep_size (w := w) (g := g) (row := none) (by exact sK0 HK.out)) : w.heap.size ≤ gb230)); have n5_ := Aside0.mk ((Nat.le_trans HW0.out (by rw [hg]; exact (keep_size (w := w) (g := g) (row := none) (by exact sK0 HK.out)) : w.heap.size ≤ gb230) : w0.heap.size ≤ gb230)); have n6_ := Aside0.mk ((by rw [hg]; exact Nat.ne_of_lt (IsS138.lt (show IsS138 w0 _ g s0_0 s0_1 s0_2 from by exact sI1380 HI0.out)) : g ≠ gb230)); have n7_ := Aside0.mk ((by rw [hg]; exact Nat.ne_of_gt (IsS138.lt (show IsS138 w0 _ g s0_0 s0_1 s0_2 from by exact sI1380 HI0.out)) : gb230 ≠ g)); clear HI0; clear HK; clear HB; have HI0 := n0_; have HK := n1_; have HB := n2_; have BK230 := n3_; have GW230 := n4_; have GE230 := n5_; have NB0_230 := n6_; have NB230_0 := n7_; clear n0_ n1_ n2_ n3_ n4_ n5_ n6_ n7_; clear hb hbox hg) | ((with_reducible refine gate_callee (f := 84) rfl ?_); refine gL (some 8) Try.func84 #[.pointer (some ⟨g, 0, none⟩), .int .i64 3] ?_; (with_reducible refine (spec_l1Below.calls g s0_0 s0_1 s0_2 3 t231 t232 t233 w0 _ ?_ ?_ A3.out).mono ?_); exact sI1381 HI0.out NB0_230.out; exact sB2 HB.out (IsS138.ge HI0.out) GE230.out; rintro e w17 ⟨rfl, hi, hb, hk⟩; refine ⟨_, rfl, ?_⟩; replace BK230 := Aside0.mk (KeepBut.blk hk (g' := gb230) (o := .cells #[.int .i64 0, .int .i64 0, .int .i64 0, .int .i64 0] 50 (0, 0)) (bK BK230) NB230_0.out (by simp)); replace HK := Aside0.mk (KeepBut.trans (by exact sK1 HK.out GW230.out) hk (.inl rfl)); replace HB := Aside0.mk (hb); replace HI0 := Aside0.mk (hi); (try clear hb); (try clear hk); (try clear hi)) | ((with_reducible refine gate_callee (f := 84) rfl ?_); refine gL (some 11) Try.func84 #[.pointer (some ⟨g, 0, none⟩), .int .i64 4] ?_; (with_reducible refine (spec_l1Below.calls g s0_0 t232 t233 4 t234 t235 t236 w0 _ ?_ ?_ A4.out).mono ?_); exact sI1381 HI0.out NB0_230.out; exact sB2 HB.out (IsS138.ge HI0.out) GE230.out; rintro e w18 ⟨rfl, hi, hb, hk⟩; refine ⟨_, rfl, ?_⟩; replace BK230 := Aside0.mk (KeepBut.blk hk (g' := gb230) (o := .cells #[.int .i64 0, .int .i64 0, .int .i64 0, .int .i64 0] 50 (0, 0)) (bK BK230) NB230_0.out (by simp)); replace HK := Aside0.mk (KeepBut.trans (by exact sK1 HK.out GW230.out) hk (.inl rfl)); replace HB := Aside0.mk (hb); replace HI0 := Aside0.mk (hi); (try clear hb); (try clear hk); (try clear hi)) | ((with_reducible refine gate_dst (N := 5) rfl ?_); refine bE (N := 5) (cs := #[.int .i64 0, .int .i64 0, .int .i64 0, .int .i64 0]) (t := 50) ?_; intro gb237 hg w19 hbox hb; have n0_ := Aside0.mk (IsS138.below (by exact sI1381 HI0.out NB0_230.out) hb); have n1_ := kb BK230 hb; have n2_ := Aside0.mk (KeepBut.trans (by exact sK1 HK.out GW230.out) (KeepBut.of_below hb g none) (.inl rfl)); have n3_ := Aside0.mk (below_step (by exact sB2 HB.out (IsS138.ge HI0.out) GE230.out) hb); have n4_ := Aside0.mk (hbox); have n5_ := Aside0.mk ((by rw [hg]; exact (keep_size (w := w) (g := g) (row := none) (by exact sK1 HK.out GW230.out)) : w.heap.size ≤ gb237)); have n6_ := Aside0.mk ((Nat.le_trans HW0.out (by rw [hg]; exact (keep_size (w := w) (g := g) (row := none) (by exact sK1 HK.out GW230.out)) : w.heap.size ≤ gb237) : w0.heap.size ≤ gb237)); have n7_ := nl BK230 hg; have n8_ := nr BK230 hg; have n9_ := Aside0.mk ((by rw [hg]; exact Nat.ne_of_lt (IsS138.lt (show IsS138 w0 _ g s0_0 t235 t236 from by exact sI1381 HI0.out NB0_230.out)) : g ≠ gb237)); have n10_ := Aside0.mk ((by rw [hg]; exact Nat.ne_of_gt (IsS138.lt (show IsS138 w0 _ g s0_0 t235 t236 from by exact sI1381 HI0.out NB0_230.out)) : gb237 ≠ g)); clear HI0; clear BK230; clear HK; clear HB; have HI0 := n0_; have BK230 := n1_; have HK := n2_; have HB := n3_; have BK237 := n4_; have GW237 := n5_; have GE237 := n6_; have NB230_237 := n7_; have NB237_230 := n8_; have NB0_237 := n9_; have NB237_0 := n10_; clear n0_ n1_ n2_ n3_ n4_ n5_ n6_ n7_ n8_ n9_ n10_; clear hb hbox hg; have hnb20 := NB237_230.out; have hnc20 := NB230_237.out; have hnb21 := NB237_0.out; have hnc21 := NB0_237.out; obtain ⟨_, _, _, _, _, _, _, _⟩ := blkc4 BK237))
 have n0_ : Aside0 ((((((w19.setCell ⟨gb237, 0, none⟩ (.int .i64 a1)).setCell ⟨gb237, 1, none⟩ (.int .i64 (wrap64 (1 + t231)))).setCell ⟨gb237, 2, none⟩ (.int .i64 t234)).setCell ⟨gb237, 3, none⟩ (.int .i64 0)).setCell ⟨gb237, 3, none⟩ (.int .i64 t234)).heap[gb230]? = some (.cells #[.int .i64 0, .int .i64 0, .int .i64 0, .int .i64 0] 50 (0, 0))) := ⟨kf BK230 NB230_237⟩
 have n1_ : Aside0 ((((((w19.setCell ⟨gb237, 0, none⟩ (.int .i64 a1)).setCell ⟨gb237, 1, none⟩ (.int .i64 (wrap64 (1 + t231)))).setCell ⟨gb237, 2, none⟩ (.int .i64 t234)).setCell ⟨gb237, 3, none⟩ (.int .i64 0)).setCell ⟨gb237, 3, none⟩ (.int .i64 t234)).heap[gb237]? = some (.cells #[.int .i64 a1, .int .i64 (wrap64 (1 + t231)), .int .i64 t234, .int .i64 t234] 50 (0, 0))) := ⟨kp BK237⟩
 have n2_ : Aside0 (IsS138 w0 (((((w19.setCell ⟨gb237, 0, none⟩ (.int .i64 a1)).setCell ⟨gb237, 1, none⟩ (.int .i64 (wrap64 (1 + t231)))).setCell ⟨gb237, 2, none⟩ (.int .i64 t234)).setCell ⟨gb237, 3, none⟩ (.int .i64 0)).setCell ⟨gb237, 3, none⟩ (.int .i64 t234)) g s0_0 t235 t236) := ⟨by exact sI1382 HI0.out NB0_230.out NB0_237.out⟩
 have n3_ : Aside0 (KeepBut w (((((w19.setCell ⟨gb237, 0, none⟩ (.int .i64 a1)).setCell ⟨gb237, 1, none⟩ (.int .i64 (wrap64 (1 + t231)))).setCell ⟨gb237, 2, none⟩ (.int .i64 t234)).setCell ⟨gb237, 3, none⟩ (.int .i64 0)).setCell ⟨gb237, 3, none⟩ (.int .i64 t234)) g none) := ⟨by exact sK2 HK.out GW230.out GW237.out⟩
 have n4_ : Aside0 (Below w0.heap.size w0 (((((w19.setCell ⟨gb237, 0, none⟩ (.int .i64 a1)).setCell ⟨gb237, 1, none⟩ (.int .i64 (wrap64 (1 + t231)))).setCell ⟨gb237, 2, none⟩ (.int .i64 t234)).setCell ⟨gb237, 3, none⟩ (.int .i64 0)).setCell ⟨gb237, 3, none⟩ (.int .i64 t234))) := ⟨by exact sB3 HB.out (IsS138.ge HI0.out) GE230.out GE237.out⟩
 (try clear BK230)
 (try clear BK237)
 (try clear HI0)
 (try clear HK)
 (try clear HB)
 generalize (((((w19.setCell ⟨gb237, 0, none⟩ (.int .i64 a1)).setCell ⟨gb237, 1, none⟩ (.int .i64 (wrap64 (1 + t231)))).setCell ⟨gb237, 2, none⟩ (.int .i64 t234)).setCell ⟨gb237, 3, none⟩ (.int .i64 0)).setCell ⟨gb237, 3, none⟩ (.int .i64 t234)) = w23 at n0_ n1_ n2_ n3_ n4_ ⊢
 have BK230 := n0_
 have BK237 := n1_
 have HI0 := n2_
 have HK := n3_
 have HB := n4_
 clear n0_ n1_ n2_ n3_ n4_
 replace BK230 := dk BK230
 replace BK237 := dk BK237
 replace HI0 := Aside0.mk (IsS138.drew HI0.out)
 replace HK := Aside0.mk (keep_drew HK.out)
 have HBo := HB
 replace HB := db HB
 refine start_ (n := 9) (S := fun w' => w'.cell? ⟨gb237, 0, none⟩ = some (.int .i64 a1) ∧ w'.cell? ⟨gb237, 1, none⟩ = some (.int .i64 (wrap64 (1 + t231))) ∧ w'.cell? ⟨gb237, 2, none⟩ = some (.int .i64 t234) ∧ w'.cell? ⟨gb237, 3, none⟩ = some (.int .i64 t234)) (ds := [8]) (mb 9 0) (by kernel_rfl) rfl rfl (cn4 BK237) (fun hHeld => ?_); refine with_tabW spec_l4Draw.tab4 spec_l4Draw.bits4 (fun HT_ HW_ => ?_)
 generalize w23.drew = w24 at BK230 BK237 HI0 HK HB hHeld ⊢
 refine pa 0 19 (mb 9 1) HT_ ?_
 refine pa 3 22 (mb 9 9) HT_ ?_
 refine ta4 1 20 (mb 9 11) HT_ HW_ hHeld ?_
 refine pa 2 21 (mb 9 15) HT_ ?_
 refine oa 4 23 (mb 9 31) HT_ (fun K hK => ?_)
 refine gA Try.func84 #[.pointer (some ⟨g, 0, none⟩), .int .i64 3] ?_
 with_reducible refine (spec_l1Below.calls g s0_0 t235 t236 3 t238 t239 t240 w0 _ ?side1 ?side2 A15.out).mono ?_
 (case side1 => exact sI1382 HI0.out NB0_230.out NB0_237.out)
 (case side2 => exact sB3 HB.out (IsS138.ge HI0.out) GE230.out GE237.out)
 rintro e w25 ⟨rfl, hi, hb, hk⟩
 refine ⟨_, rfl, ?_⟩
 replace BK230 := Aside0.mk (KeepBut.blk hk (g' := gb230) (o := .cells #[.int .i64 0, .int .i64 0, .int .i64 0, .int .i64 0] 50 (0, 0)) (bK BK230) NB230_0.out (by simp))
 replace BK237 := Aside0.mk (KeepBut.blk hk (g' := gb237) (o := .cells #[.int .i64 a1, .int .i64 (wrap64 (1 + t231)), .int .i64 t234, .int .i64 t234] 50 (0, 0)) (bK BK237) NB237_0.out (by simp))
 replace HK := Aside0.mk (KeepBut.trans (by exact sK2 HK.out GW230.out GW237.out) hk (.inl rfl))
 replace HB := Aside0.mk (hb)
 replace HI0 := Aside0.mk (hi)
 (try clear hb)
 (try clear hb2)
 (try clear hk)
 (try clear hi)
 refine hK.out _ _ (cn4 BK237) (fun hHeld => ?_)
 clear hK K
 refine nB ?_
 refine pa 5 24 (mb 9 63) HT_ ?_
 refine pa 6 25 (mb 9 127) HT_ ?_
 refine pa 7 26 (mb 9 255) HT_ ?_
 refine last_ (i := 8) (N := none) (mb 9 511) rfl rfl (one_of HT_.out (by kernel_rfl)) (by decide) (fun K hK => ?_)
 have hs26 : w25.cell? ⟨gb237, 3, none⟩ = some (.int .i64 t234) := bC BK237 3
 have hfs26 := blk_frozen BK237.out 3
 have hns26_0 := NB230_237.out
 have hms26_0 := NB237_230.out
 refine skip_ (w1 := ?_) (by rfl) rfl ?_ ?_
 rotate_left
 ·
  go_simp
  rfl
 refine hK.out _ _ ?_
 clear hK K
 refine eA HT_ ?_
 obtain ⟨_, _, _, _, _, _, _, _⟩ := blkc4 BK237
 have hnb28 := NB230_0.out
 have hnc28 := NB0_230.out
 obtain ⟨_, _, _, _, _, _, _, _⟩ := blkc4 BK230
 try go_wp2
 refine bodyPost_ret (results_cell_row rfl _ _ gb230 50 #[.int .i64 a1, .int .i64 (wrap64 (1 + t231)), .int .i64 t234, .int .i64 (Int.tmod (wrap64 ((wrap64 (t234 + 1)) + t238)) 4)] (0, 0) _ rfl (kP BK230 NB230_237) Try.underlying50 rfl (by kernel_rfl)) rfl ?_
 exact ⟨rA, by exact sI1382 HI0.out NB0_230.out NB0_237.out, by exact sB3 HB.out (IsS138.ge HI0.out) GE230.out GE237.out, by exact sK2 HK.out GW230.out GW237.out⟩

/-! ### spec_l5Draw: function 150 -/
def spec_l5Draw.l0 : Nat → List (S50) → Int → List Int → Int → Int → Option ((List (S50)) × Int × Int)
 | 0, _, _, _, _, _ => none
 | k + 1, x3, x4, x1000, x1001, x1002 => (spec_l1Below.f x1000 x1001 x1002 6).bind fun bt244 => (if x4 ≤ (wrap64 (2 + bt244.1)) then ((spec_l4Draw.f x1000 bt244.2.1 bt244.2.2 x4).bind fun bt247 => (if x3.length < 4398046511104 then (spec_l5Draw.l0 k (x3 ++ [(⟨bt247.1, bt247.2.1, bt247.2.2.1, bt247.2.2.2.1⟩ : S50)]) (wrap64 (x4 + 1)) x1000 bt247.2.2.2.2.1 bt247.2.2.2.2.2) else (none))) else (some (x3, bt244.2.1, bt244.2.2)))
def spec_l5Draw.f (k : Nat) (s0_0 : List Int) (s0_1 : Int) (s0_2 : Int) : Option ((List (S50)) × Int × Int) := spec_l5Draw.l0 k (([] : List (S50))) 1 s0_0 s0_1 s0_2
theorem spec_l5Draw.mono_l : ∀ k, (∀ y0 y1 y2 y3 y4, LeO (spec_l5Draw.l0 k y0 y1 y2 y3 y4) (spec_l5Draw.l0 (k + 1) y0 y1 y2 y3 y4))
 | 0 => fun _ _ _ _ _ r h => by simp [spec_l5Draw.l0] at h
 | k + 1 => by
  have ih0 := spec_l5Draw.mono_l k
  ·
   intro y0 y1 y2 y3 y4
   unfold spec_l5Draw.l0
   exact mz1 ih0
theorem spec_l5Draw.mono : ∀ a0 a1 a2 k, LeO (spec_l5Draw.f k a0 a1 a2) (spec_l5Draw.f (k + 1) a0 a1 a2) := by
 intro a0 a1 a2 k
 have ih0 := spec_l5Draw.mono_l k
 unfold spec_l5Draw.f
 exact mz1 ih0
set_option maxHeartbeats 8000000 in
set_option maxRecDepth 100000 in
theorem spec_l5Draw.calls (k : Nat) (g : Nat) (s0_0 : List Int) (s0_1 : Int) (s0_2 : Int) (r1 : List (S50)) (r2 : Int) (r3 : Int) (w0 w : World) (hI : IsS138 w0 w g s0_0 s0_1 s0_2) (hB : Below w0.heap.size w0 w) (h : spec_l5Draw.f k s0_0 s0_1 s0_2 = some (r1, r2, r3)) :
  Calls Try.prog 150 #[.pointer (some ⟨g, 0, none⟩)] w fun e w' => ∃ v0_ : Value, e = .returned (v0_) ∧ Kd.R k50 50 w' w.heap.size (fun _ => True) v0_ r1 ∧ IsS138 w0 w' g s0_0 r2 r3 ∧ Below w0.heap.size w0 w' ∧ KeepBut w w' g none := by
 have HI0 := Aside0.mk hI
 have HK := Aside0.mk (KeepBut.refl w g none)
 have HL := Aside0.mk hB.size
 clear hI
 have HW0 := Aside0.mk hB.size
 have HB := Aside0.mk hB
 clear hB
 have H : (spec_l5Draw.l0 k (([] : List (S50))) 1 s0_0 s0_1 s0_2) = some (r1, r2, r3) := h
 clear h
 obtain ⟨y241, hy241⟩ : ∃ y_ : List (S50), y_ = (([] : List (S50))) := ⟨_, rfl⟩
 replace H : (spec_l5Draw.l0 k y241 1 s0_0 s0_1 s0_2) = some (r1, r2, r3) := rH H hy241
 have Ny241 := Aside0.mk hy241
 clear hy241
 have H' := Aside0.mk H
 clear H
 go_enter Try.func150, Try.ntmps150
 go_wp2_with (first | ((with_reducible refine gate_dst (N := 5) rfl ?_); refine Kd.R_lit k50 _ 50 ?hg (N := 5) ?hd (xs := ([] : List (S50))) (inner := []) (ok := fun _ => True) (okp := fun _ => True) ?hr ?hp (fun _ hk => hk) trivial (Below.refl _ _) (Nat.le_refl _) (by simp) ?_; (case hd => rfl); (case hg => rfl); (case hr => first | (go_simp; done) | (go_simp; rfl)); (case hp => exact (Reps.none _ _)); intro v242 w2 ho3 hb hg_ hnew_; clear hg_ hnew_; (first | rw [← Ny241.out] at ho3 | (simp only [Int.reduceToNat] at ho3; rw [← Ny241.out] at ho3)); have HO243 := Aside0.mk (Kd.R_lower ho3 (keep_size (w := w) (g := g) (row := none) (by exact sK0 HK.out))); replace HK := Aside0.mk (KeepBut.trans (by exact sK0 HK.out) (KeepBut.of_below hb g none) (.inl rfl)); replace HB := Aside0.mk (below_step (by exact sB1 HB.out (IsS138.ge HI0.out)) hb); replace HI0 := Aside0.mk (IsS138.below (by exact sI1380 HI0.out) hb); clear hb ho3))
 go_loopg [3, 4] k (fun kq v3 v4 w' => ∃ (x3_1 : List (S50)) (x4_1 : Int) (x1001_1 : Int) (x1002_1 : Int), v4 = .int .i64 x4_1 ∧ Aside0 (spec_l5Draw.l0 kq x3_1 x4_1 s0_0 x1001_1 x1002_1 = some (r1, r2, r3)) ∧ Aside0 (kq ≤ k) ∧ Aside0 (Kd.R k50 50 w' w.heap.size (fun _ => True) v3 x3_1) ∧ Aside0 (IsS138 w0 w' g s0_0 x1001_1 x1002_1) ∧ Aside0 (KeepBut w w' g none) ∧ Aside0 (Below w0.heap.size w0 w'))
 case atStart => exact ⟨(y241), (1), (s0_1), (s0_2), rS, H', ⟨Nat.le_refl _⟩, ⟨rK HO243⟩, ⟨by exact sI1380 HI0.out⟩, ⟨by exact sK0 HK.out⟩, ⟨by exact sB1 HB.out (IsS138.ge HI0.out)⟩⟩
 case round =>
  clear H'
  obtain ⟨x3_1, x4_1, x1001_1, x1002_1, rfl, HA, HK1, HO_3, HI0, HK, HB⟩ := hrel
  cases gk with
  | zero => exact absurd HA.out (by simp [spec_l5Draw.l0])
  | succ k1 =>
   have H := HA.out
   clear HA
   simp only [spec_l5Draw.l0] at H
   obtain ⟨⟨t244, t245, t246⟩, A4, H⟩ := bindE H
   try dsimp only at H
   by_cases c5 : x4_1 ≤ (wrap64 (2 + t244))
   ·
    rw [if_pos c5] at H
    have c5b0 := decide_eq_true c5
    clear c5
    obtain ⟨⟨t247, t248, t249, t250, t251, t252⟩, A6, H⟩ := bindE H
    try dsimp only at H
    have c7 : x3_1.length < 4398046511104 := ifN H
    replace H := ifT H
    have LMc7 := Aside0.mk c7
    clear c7
    obtain ⟨y253, hy253⟩ : ∃ y_ : List (S50), y_ = (x3_1 ++ [(⟨t247, t248, t249, t250⟩ : S50)]) := ⟨_, rfl⟩
    replace H : (spec_l5Draw.l0 k1 y253 (wrap64 (x4_1 + 1)) s0_0 t251 t252) = some (r1, r2, r3) := rH H hy253
    have Ny253 := Aside0.mk hy253
    clear hy253
    have H' := Aside0.mk H
    clear H
    go_wp2_with (first | ((with_reducible refine gate_callee (f := 84) rfl ?_); refine gL (some 8) Try.func84 #[.pointer (some ⟨g, 0, none⟩), .int .i64 6] ?_; (with_reducible refine (spec_l1Below.calls g s0_0 x1001_1 x1002_1 6 t244 t245 t246 w0 _ ?_ ?_ A4.out).mono ?_); exact sI1380 HI0.out; exact sB1 HB.out (IsS138.ge HI0.out); rintro e w8 ⟨rfl, hi, hb, hk⟩; refine ⟨_, rfl, ?_⟩; replace HO_3 := Aside0.mk (Kd.R_mono (Kd.R_keep (IsS138.apart (show IsS138 w0 _ g s0_0 x1001_1 x1002_1 from by exact sI1380 HI0.out) (rK HO_3) (by decide)) hk (fun _ h => h.2)) (fun _ h => h.1)); replace HK := Aside0.mk (KeepBut.trans (by exact sK0 HK.out) hk (.inl rfl)); replace HB := Aside0.mk (hb); replace HI0 := Aside0.mk (hi); (try clear hb); (try clear hk); (try clear hi)) | ((with_reducible refine gate_callee (f := 174) rfl ?_); refine gL (some 16) Try.func174 #[.pointer (some ⟨g, 0, none⟩), .int .i64 x4_1] ?_; (with_reducible refine (spec_l4Draw.calls g s0_0 t245 t246 x4_1 t247 t248 t249 t250 t251 t252 w0 _ ?_ ?_ A6.out).mono ?_); exact sI1380 HI0.out; exact sB1 HB.out (IsS138.ge HI0.out); rintro e w9 ⟨rfl, hi, hb, hk⟩; refine ⟨_, rfl, ?_⟩; replace HO_3 := Aside0.mk (Kd.R_mono (Kd.R_keep (IsS138.apart (show IsS138 w0 _ g s0_0 t245 t246 from by exact sI1380 HI0.out) (rK HO_3) (by decide)) hk (fun _ h => h.2)) (fun _ h => h.1)); replace HK := Aside0.mk (KeepBut.trans (by exact sK0 HK.out) hk (.inl rfl)); replace HB := Aside0.mk (hb); replace HI0 := Aside0.mk (hi); (try clear hb); (try clear hk); (try clear hi)) | ((with_reducible refine gate_builtin (b := .append) (xs := #[.tmp 13, .tmp 17]) rfl ?_); at_builtin; refine Kd.R_append k50 w.heap.size rfl (.tmp 13) (.tmp 17) 24 50 (.agg #[(.int .i64 0), (.int .i64 0), (.int .i64 0), (.int .i64 0)]) 32 rfl Try.underlying24 info50 rfl (by decide) (by omega) u3 x3_1 (⟨t247, t248, t249, t250⟩ : S50) [.int .i64 t247, .int .i64 t248, .int .i64 t249, .int .i64 t250] (fun _ => True) (fun _ => False) rfl rfl ?aP (fun _ hk => hk.elim) ?aF ?aO (Below.refl _ _) ?aS ?aL ?_; (case aP => exact k50_mkM _ _ _ (⟨t247, t248, t249, t250⟩ : S50)); (case aF => exact (fun _ _ => trivial)); (case aO => exact (rK HO_3)); (case aS => exact (keep_size (w := w) (g := g) (row := none) (by exact sK0 HK.out))); (case aL => have := LMc7.out; omega); intro v254 w10 ho hb hg hat; rw [← Ny253.out] at ho; have n0_ := Aside0.mk (IsS138.grown (by exact sI1380 HI0.out) hg (IsS138.own_ne HI0.out HO_3.out (by decide))); have n1_ := Aside0.mk (below_weaken (by exact sB1 HB.out (IsS138.ge HI0.out)) HL.out hb); have n2_ := Aside0.mk (KeepBut.trans (by exact sK0 HK.out) (KeepBut.of_grown hg g) (Kd.R_base2 HO_3.out)); have n3_ := Aside0.mk (ho); clear HI0; clear HB; clear HK; clear HO_3; have HI0 := n0_; have HB := n1_; have HK := n2_; have HO255 := n3_; clear n0_ n1_ n2_ n3_; clear ho hb hg hat))
    go_roundg k1
    case measure => have := HK1.out; omega
    case rel => exact ⟨(y253), (wrap64 (x4_1 + 1)), (t251), (t252), rS, H', ⟨by have := HK1.out; omega⟩, ⟨rK HO255⟩, ⟨by exact sI1380 HI0.out⟩, ⟨by exact sK0 HK.out⟩, ⟨by exact sB1 HB.out (IsS138.ge HI0.out)⟩⟩
   rw [if_neg c5] at H
   have c5b0 := decide_eq_false c5
   clear c5
   simp only [Option.some.injEq, Prod.mk.injEq] at H
   obtain ⟨rfl, rfl, rfl⟩ := H
   go_wp2_with (first | ((with_reducible refine gate_callee (f := 84) rfl ?_); refine gL (some 8) Try.func84 #[.pointer (some ⟨g, 0, none⟩), .int .i64 6] ?_; (with_reducible refine (spec_l1Below.calls g s0_0 x1001_1 x1002_1 6 t244 t245 t246 w0 _ ?_ ?_ A4.out).mono ?_); exact sI1380 HI0.out; exact sB1 HB.out (IsS138.ge HI0.out); rintro e w11 ⟨rfl, hi, hb, hk⟩; refine ⟨_, rfl, ?_⟩; replace HO_3 := Aside0.mk (Kd.R_mono (Kd.R_keep (IsS138.apart (show IsS138 w0 _ g s0_0 x1001_1 x1002_1 from by exact sI1380 HI0.out) (rK HO_3) (by decide)) hk (fun _ h => h.2)) (fun _ h => h.1)); replace HK := Aside0.mk (KeepBut.trans (by exact sK0 HK.out) hk (.inl rfl)); replace HB := Aside0.mk (hb); replace HI0 := Aside0.mk (hi); (try clear hb); (try clear hk); (try clear hi)))
   go_ret
   exact ⟨_, rA, rK HO_3, by exact sI1380 HI0.out, by exact sB1 HB.out (IsS138.ge HI0.out), by exact sK0 HK.out⟩

/-! ### spec_l1Int: function 94 -/
def spec_l1Int.f (s0_0 : List Int) (s0_1 : Int) (s0_2 : Int) (l1 : List Int) : Option (Int × Int × Int) := (spec_l1Below.f s0_0 s0_1 s0_2 (l1.length : Int)).bind fun bt256 => (if 0 ≤ bt256.1 then (if bt256.1 < (l1.length : Int) then (some (rd l1 bt256.1, bt256.2.1, bt256.2.2)) else (none)) else (none))
set_option maxHeartbeats 8000000 in
set_option maxRecDepth 100000 in
theorem spec_l1Int.calls (g : Nat) (s0_0 : List Int) (s0_1 : Int) (s0_2 : Int) (A1 : Option Addr) (c1 : Nat) (l1 : List Int) (r1 : Int) (r2 : Int) (r3 : Int) (w0 w : World) (hI : IsS138 w0 w g s0_0 s0_1 s0_2) (hB : Below w0.heap.size w0 w) (hr1 : Kd.C (Kd.int .i64) w A1 l1.length l1) (hc1 : l1.length ≤ c1) (hf1 : ∀ ad, A1 = some ad → 0 < l1.length → ad.block ≠ g) (h : spec_l1Int.f s0_0 s0_1 s0_2 l1 = some (r1, r2, r3)) :
  Calls Try.prog 94 #[.pointer (some ⟨g, 0, none⟩), .slice A1 l1.length c1] w fun e w' => e = .returned (.int .i64 r1) ∧ IsS138 w0 w' g s0_0 r2 r3 ∧ Below w0.heap.size w0 w' ∧ KeepBut w w' g none := by
 have HR1 := Aside0.mk hr1
 have HC1 := Aside0.mk hc1
 clear hr1 hc1
 have HI0 := Aside0.mk hI
 have HK := Aside0.mk (KeepBut.refl w g none)
 have HL := Aside0.mk hB.size
 clear hI
 have HW0 := Aside0.mk hB.size
 have HB := Aside0.mk hB
 clear hB
 have H : ((spec_l1Below.f s0_0 s0_1 s0_2 (l1.length : Int)).bind fun bt256 => (if 0 ≤ bt256.1 then (if bt256.1 < (l1.length : Int) then (some (rd l1 bt256.1, bt256.2.1, bt256.2.2)) else (none)) else (none))) = some (r1, r2, r3) := h
 clear h
 obtain ⟨⟨t256, t257, t258⟩, A3, H⟩ := bindE H
 try dsimp only at H
 have c4 : 0 ≤ t256 := ifN H
 replace H := ifT H
 have c4b0 := decide_eq_true c4
 clear c4
 have c5 : t256 < (l1.length : Int) := ifN H
 replace H := ifT H
 have c5b0 := decide_eq_true c5
 clear c5
 simp only [Option.some.injEq, Prod.mk.injEq] at H
 obtain ⟨rfl, rfl, rfl⟩ := H
 go_enter Try.func94, Try.ntmps94
 go_wp2_with (first | ((with_reducible refine gate_callee (f := 84) rfl ?_); refine gL (some 9) Try.func84 #[.pointer (some ⟨g, 0, none⟩), .int .i64 (l1.length : Int)] ?_; (with_reducible refine (spec_l1Below.calls g s0_0 s0_1 s0_2 (l1.length : Int) t256 t257 t258 w0 _ ?_ ?_ A3.out).mono ?_); exact sI1380 HI0.out; exact sB1 HB.out (IsS138.ge HI0.out); rintro e w6 ⟨rfl, hi, hb, hk⟩; refine ⟨_, rfl, ?_⟩; replace HK := Aside0.mk (KeepBut.trans (by exact sK0 HK.out) hk (.inl rfl)); replace HB := Aside0.mk (hb); replace HI0 := Aside0.mk (hi); (try clear hb); (try clear hk); (try clear hi); have p259 : 0 ≤ (t256 : Int) := dA; have q259 : t256 < (l1.length : Int) := dA; obtain ⟨ad259, e259, hx259_0⟩ := Kd.at_int HR1.out t256 p259 q259; cases e259; replace hx259_0 := keep_cell HK.out hx259_0 (by first | (rw [add_block]; exact hf1 _ rfl (by omega)) | exact hf1 _ rfl (by omega) | exact hf1 ad259 rfl (by omega)); replace p259 := eq_true p259; replace q259 := eq_true q259))
 go_ret
 exact ⟨rA, by exact sI1380 HI0.out, by exact sB1 HB.out (IsS138.ge HI0.out), by exact sK0 HK.out⟩

/-! ### spec_l4Raw: function 129 -/
def spec_l4Raw.f (s0_0 : List Int) (s0_1 : Int) (s0_2 : Int) : Option (Int × Int × Int) := (spec_l1Int.f s0_0 s0_1 s0_2 (([(-1), 0, 4, 7, 20, 21, 9223372036854775807, (-9223372036854775808)] : List Int))).bind fun bt263 => (some (bt263.1, bt263.2.1, bt263.2.2))
set_option maxHeartbeats 8000000 in
set_option maxRecDepth 100000 in
theorem spec_l4Raw.calls (g : Nat) (s0_0 : List Int) (s0_1 : Int) (s0_2 : Int) (r1 : Int) (r2 : Int) (r3 : Int) (w0 w : World) (hI : IsS138 w0 w g s0_0 s0_1 s0_2) (hB : Below w0.heap.size w0 w) (h : spec_l4Raw.f s0_0 s0_1 s0_2 = some (r1, r2, r3)) :
  Calls Try.prog 129 #[.pointer (some ⟨g, 0, none⟩)] w fun e w' => e = .returned (.int .i64 r1) ∧ IsS138 w0 w' g s0_0 r2 r3 ∧ Below w0.heap.size w0 w' ∧ KeepBut w w' g none := by
 have HI0 := Aside0.mk hI
 have HK := Aside0.mk (KeepBut.refl w g none)
 have HL := Aside0.mk hB.size
 clear hI
 have HW0 := Aside0.mk hB.size
 have HB := Aside0.mk hB
 clear hB
 have H : ((spec_l1Int.f s0_0 s0_1 s0_2 (([(-1), 0, 4, 7, 20, 21, 9223372036854775807, (-9223372036854775808)] : List Int))).bind fun bt263 => (some (bt263.1, bt263.2.1, bt263.2.2))) = some (r1, r2, r3) := h
 clear h
 obtain ⟨y260, hy260⟩ : ∃ y_ : List Int, y_ = (([(-1), 0, 4, 7, 20, 21, 9223372036854775807, (-9223372036854775808)] : List Int)) := ⟨_, rfl⟩
 replace H : ((spec_l1Int.f s0_0 s0_1 s0_2 y260).bind fun bt263 => (some (bt263.1, bt263.2.1, bt263.2.2))) = some (r1, r2, r3) := rH H hy260
 have Ny260 := Aside0.mk hy260
 clear hy260
 obtain ⟨⟨t263, t264, t265⟩, A2, H⟩ := bindE H
 try dsimp only at H
 simp only [Option.some.injEq, Prod.mk.injEq] at H
 obtain ⟨rfl, rfl, rfl⟩ := H
 go_enter Try.func129, Try.ntmps129
 go_wp2_with (first | ((with_reducible refine gate_dst (N := 4) rfl ?_); refine Kd.R_lit (Kd.int .i64) _ 3 ?hg (N := 4) ?hd (xs := ([(-1), 0, 4, 7, 20, 21, 9223372036854775807, (-9223372036854775808)] : List Int)) (inner := [.int .i64 (-1), .int .i64 0, .int .i64 4, .int .i64 7, .int .i64 20, .int .i64 21, .int .i64 9223372036854775807, .int .i64 (-9223372036854775808)]) (ok := fun _ => True) (okp := fun _ => True) ?hr ?hp (fun _ hk => hk) trivial (Below.refl _ _) (Nat.le_refl _) (by simp) ?_; (case hd => rfl); (case hg => rfl); (case hr => first | (go_simp; done) | (go_simp; rfl)); (case hp => exact (Reps.one (show Kd.M (Kd.int .i64) _ _ _ (-1) [.int .i64 (-1)] from rfl) (Reps.one (show Kd.M (Kd.int .i64) _ _ _ 0 [.int .i64 0] from rfl) (Reps.one (show Kd.M (Kd.int .i64) _ _ _ 4 [.int .i64 4] from rfl) (Reps.one (show Kd.M (Kd.int .i64) _ _ _ 7 [.int .i64 7] from rfl) (Reps.one (show Kd.M (Kd.int .i64) _ _ _ 20 [.int .i64 20] from rfl) (Reps.one (show Kd.M (Kd.int .i64) _ _ _ 21 [.int .i64 21] from rfl) (Reps.one (show Kd.M (Kd.int .i64) _ _ _ 9223372036854775807 [.int .i64 9223372036854775807] from rfl) (Reps.one (show Kd.M (Kd.int .i64) _ _ _ (-9223372036854775808) [.int .i64 (-9223372036854775808)] from rfl) (Reps.none _ _)))))))))); intro v261 w3 ho4 hb hg_ hnew_; clear hg_ hnew_; (first | rw [← Ny260.out] at ho4 | (simp only [Int.reduceToNat] at ho4; rw [← Ny260.out] at ho4)); have HO262 := Aside0.mk (Kd.R_lower ho4 (keep_size (w := w) (g := g) (row := none) (by exact sK0 HK.out))); replace HK := Aside0.mk (KeepBut.trans (by exact sK0 HK.out) (KeepBut.of_below hb g none) (.inl rfl)); replace HB := Aside0.mk (below_step (by exact sB1 HB.out (IsS138.ge HI0.out)) hb); replace HI0 := Aside0.mk (IsS138.below (by exact sI1380 HI0.out) hb); clear hb ho4; obtain ⟨Ao5, co5, eo5⟩ := Kd.R_slice HO262.out; subst eo5) | ((with_reducible refine gate_callee (f := 94) rfl ?_); refine gL (some 5) Try.func94 #[.pointer (some ⟨g, 0, none⟩), .slice Ao5 y260.length co5] ?_; (with_reducible refine (spec_l1Int.calls g s0_0 s0_1 s0_2 _ _ y260 t263 t264 t265 w0 _ ?_ ?_ ?_ ?_ ?_ A2.out).mono ?_); exact sI1380 HI0.out; exact sB1 HB.out (IsS138.ge HI0.out); exact cO ⟨(Kd.R_reads' HO262.out).2.2⟩; exact (Kd.R_reads' HO262.out).2.1; exact far_slice (IsS138.own_ne HI0.out HO262.out (by decide)); rintro e w6 ⟨rfl, hi, hb, hk⟩; refine ⟨_, rfl, ?_⟩; replace HO262 := Aside0.mk (Kd.R_mono (Kd.R_keep (IsS138.apart (show IsS138 w0 _ g s0_0 s0_1 s0_2 from by exact sI1380 HI0.out) (rK HO262) (by decide)) hk (fun _ h => h.2)) (fun _ h => h.1)); replace HK := Aside0.mk (KeepBut.trans (by exact sK0 HK.out) hk (.inl rfl)); replace HB := Aside0.mk (hb); replace HI0 := Aside0.mk (hi); (try clear hb); (try clear hk); (try clear hi)))
 go_ret
 exact ⟨rA, by exact sI1380 HI0.out, by exact sB1 HB.out (IsS138.ge HI0.out), by exact sK0 HK.out⟩

/-! ### spec_l4Any: function 152 -/
def spec_l4Any.f (s0_0 : List Int) (s0_1 : Int) (s0_2 : Int) : Option (Int × Int × Int × Int × Int × Int) := (spec_l1Below.f s0_0 s0_1 s0_2 20).bind fun bt267 => ((spec_l4Draw.f s0_0 bt267.2.1 bt267.2.2 (wrap64 (1 + bt267.1))).bind fun bt270 => ((spec_l1Below.f s0_0 bt270.2.2.2.2.1 bt270.2.2.2.2.2 10).bind fun bt277 => (if bt277.1 = 0 then ((spec_l1Int.f s0_0 bt277.2.1 bt277.2.2 (([0, 20, 21] : List Int))).bind fun bt283 => (some (bt283.1, bt270.2.1, bt270.2.2.1, bt270.2.2.2.1, bt283.2.1, bt283.2.2))) else (if bt277.1 = 1 then ((spec_l1Int.f s0_0 bt277.2.1 bt277.2.2 (([0, 2, 4] : List Int))).bind fun bt289 => (some (bt270.1, bt289.1, bt270.2.2.1, bt270.2.2.2.1, bt289.2.1, bt289.2.2))) else (if bt277.1 = 2 then ((spec_l4Raw.f s0_0 bt277.2.1 bt277.2.2).bind fun bt292 => (some (bt270.1, bt270.2.1, bt292.1, bt270.2.2.2.1, bt292.2.1, bt292.2.2))) else (if bt277.1 = 3 then ((spec_l4Raw.f s0_0 bt277.2.1 bt277.2.2).bind fun bt295 => (some (bt270.1, bt270.2.1, bt270.2.2.1, bt295.1, bt295.2.1, bt295.2.2))) else (some (bt270.1, bt270.2.1, bt270.2.2.1, bt270.2.2.2.1, bt277.2.1, bt277.2.2))))))))
set_option maxHeartbeats 8000000 in
set_option maxRecDepth 100000 in
theorem spec_l4Any.calls (g : Nat) (s0_0 : List Int) (s0_1 : Int) (s0_2 : Int) (r1 : Int) (r2 : Int) (r3 : Int) (r4 : Int) (r5 : Int) (r6 : Int) (w0 w : World) (hI : IsS138 w0 w g s0_0 s0_1 s0_2) (hB : Below w0.heap.size w0 w) (h : spec_l4Any.f s0_0 s0_1 s0_2 = some (r1, r2, r3, r4, r5, r6)) :
  Calls Try.prog 152 #[.pointer (some ⟨g, 0, none⟩)] w fun e w' => e = .returned (.agg #[.int .i64 r1, .int .i64 r2, .int .i64 r3, .int .i64 r4]) ∧ IsS138 w0 w' g s0_0 r5 r6 ∧ Below w0.heap.size w0 w' ∧ KeepBut w w' g none := by
 have hu50 := Try.underlying50
 have HI0 := Aside0.mk hI
 have HK := Aside0.mk (KeepBut.refl w g none)
 have HL := Aside0.mk hB.size
 clear hI
 have HW0 := Aside0.mk hB.size
 have HB := Aside0.mk hB
 clear hB
 have H : ((spec_l1Below.f s0_0 s0_1 s0_2 20).bind fun bt267 => ((spec_l4Draw.f s0_0 bt267.2.1 bt267.2.2 (wrap64 (1 + bt267.1))).bind fun bt270 => ((spec_l1Below.f s0_0 bt270.2.2.2.2.1 bt270.2.2.2.2.2 10).bind fun bt277 => (if bt277.1 = 0 then ((spec_l1Int.f s0_0 bt277.2.1 bt277.2.2 (([0, 20, 21] : List Int))).bind fun bt283 => (some (bt283.1, bt270.2.1, bt270.2.2.1, bt270.2.2.2.1, bt283.2.1, bt283.2.2))) else (if bt277.1 = 1 then ((spec_l1Int.f s0_0 bt277.2.1 bt277.2.2 (([0, 2, 4] : List Int))).bind fun bt289 => (some (bt270.1, bt289.1, bt270.2.2.1, bt270.2.2.2.1, bt289.2.1, bt289.2.2))) else (if bt277.1 = 2 then ((spec_l4Raw.f s0_0 bt277.2.1 bt277.2.2).bind fun bt292 => (some (bt270.1, bt270.2.1, bt292.1, bt270.2.2.2.1, bt292.2.1, bt292.2.2))) else (if bt277.1 = 3 then ((spec_l4Raw.f s0_0 bt277.2.1 bt277.2.2).bind fun bt295 => (some (bt270.1, bt270.2.1, bt270.2.2.1, bt295.1, bt295.2.1, bt295.2.2))) else (some (bt270.1, bt270.2.1, bt270.2.2.1, bt270.2.2.2.1, bt277.2.1, bt277.2.2))))))))) = some (r1, r2, r3, r4, r5, r6) := h
 clear h
 obtain ⟨⟨t267, t268, t269⟩, A2, H⟩ := bindE H
 try dsimp only at H
 obtain ⟨⟨t270, t271, t272, t273, t274, t275⟩, A3, H⟩ := bindE H
 try dsimp only at H
 obtain ⟨⟨t277, t278, t279⟩, A4, H⟩ := bindE H
 try dsimp only at H
 go_enter Try.func152, Try.ntmps152
 go_upto_region 3 with (first | ((with_reducible refine gate_dst (N := 2) rfl ?_); refine bE (N := 2) (cs := #[.int .i64 0, .int .i64 0, .int .i64 0, .int .i64 0]) (t := 50) ?_; intro gb266 hg w7 hbox hb; have n0_ := Aside0.mk (IsS138.below (by exact sI1380 HI0.out) hb); have n1_ := Aside0.mk (KeepBut.trans (by exact sK0 HK.out) (KeepBut.of_below hb g none) (.inl rfl)); have n2_ := Aside0.mk (below_step (by exact sB1 HB.out (IsS138.ge HI0.out)) hb); have n3_ := Aside0.mk (hbox); have n4_ := Aside0.mk ((by rw [hg]; exact (keep_size (w := w) (g := g) (row := none) (by exact sK0 HK.out)) : w.heap.size ≤ gb266)); have n5_ := Aside0.mk ((Nat.le_trans HW0.out (by rw [hg]; exact (keep_size (w := w) (g := g) (row := none) (by exact sK0 HK.out)) : w.heap.size ≤ gb266) : w0.heap.size ≤ gb266)); have n6_ := Aside0.mk ((by rw [hg]; exact Nat.ne_of_lt (IsS138.lt (show IsS138 w0 _ g s0_0 s0_1 s0_2 from by exact sI1380 HI0.out)) : g ≠ gb266)); have n7_ := Aside0.mk ((by rw [hg]; exact Nat.ne_of_gt (IsS138.lt (show IsS138 w0 _ g s0_0 s0_1 s0_2 from by exact sI1380 HI0.out)) : gb266 ≠ g)); clear HI0; clear HK; clear HB; have HI0 := n0_; have HK := n1_; have HB := n2_; have BK266 := n3_; have GW266 := n4_; have GE266 := n5_; have NB0_266 := n6_; have NB266_0 := n7_; clear n0_ n1_ n2_ n3_ n4_ n5_ n6_ n7_; clear hb hbox hg) | ((with_reducible refine gate_callee (f := 84) rfl ?_); refine gL (some 6) Try.func84 #[.pointer (some ⟨g, 0, none⟩), .int .i64 20] ?_; (with_reducible refine (spec_l1Below.calls g s0_0 s0_1 s0_2 20 t267 t268 t269 w0 _ ?_ ?_ A2.out).mono ?_); exact sI1381 HI0.out NB0_266.out; exact sB2 HB.out (IsS138.ge HI0.out) GE266.out; rintro e w8 ⟨rfl, hi, hb, hk⟩; refine ⟨_, rfl, ?_⟩; replace BK266 := Aside0.mk (KeepBut.blk hk (g' := gb266) (o := .cells #[.int .i64 0, .int .i64 0, .int .i64 0, .int .i64 0] 50 (0, 0)) (bK BK266) NB266_0.out (by simp)); replace HK := Aside0.mk (KeepBut.trans (by exact sK1 HK.out GW266.out) hk (.inl rfl)); replace HB := Aside0.mk (hb); replace HI0 := Aside0.mk (hi); (try clear hb); (try clear hk); (try clear hi)) | ((with_reducible refine gate_callee (f := 174) rfl ?_); refine gL (some 8) Try.func174 #[.pointer (some ⟨g, 0, none⟩), .int .i64 (wrap64 (1 + t267))] ?_; (with_reducible refine (spec_l4Draw.calls g s0_0 t268 t269 (wrap64 (1 + t267)) t270 t271 t272 t273 t274 t275 w0 _ ?_ ?_ A3.out).mono ?_); exact sI1381 HI0.out NB0_266.out; exact sB2 HB.out (IsS138.ge HI0.out) GE266.out; rintro e w9 ⟨rfl, hi, hb, hk⟩; refine ⟨_, rfl, ?_⟩; replace BK266 := Aside0.mk (KeepBut.blk hk (g' := gb266) (o := .cells #[.int .i64 0, .int .i64 0, .int .i64 0, .int .i64 0] 50 (0, 0)) (bK BK266) NB266_0.out (by simp)); replace HK := Aside0.mk (KeepBut.trans (by exact sK1 HK.out GW266.out) hk (.inl rfl)); replace HB := Aside0.mk (hb); replace HI0 := Aside0.mk (hi); (try clear hb); (try clear hk); (try clear hi)) | ((with_reducible refine gate_dst (N := 3) rfl ?_); refine bE (N := 3) (cs := #[.int .i64 0, .int .i64 0, .int .i64 0, .int .i64 0]) (t := 50) ?_; intro gb276 hg w10 hbox hb; have n0_ := Aside0.mk (IsS138.below (by exact sI1381 HI0.out NB0_266.out) hb); have n1_ := kb BK266 hb; have n2_ := Aside0.mk (KeepBut.trans (by exact sK1 HK.out GW266.out) (KeepBut.of_below hb g none) (.inl rfl)); have n3_ := Aside0.mk (below_step (by exact sB2 HB.out (IsS138.ge HI0.out) GE266.out) hb); have n4_ := Aside0.mk (hbox); have n5_ := Aside0.mk ((by rw [hg]; exact (keep_size (w := w) (g := g) (row := none) (by exact sK1 HK.out GW266.out)) : w.heap.size ≤ gb276)); have n6_ := Aside0.mk ((Nat.le_trans HW0.out (by rw [hg]; exact (keep_size (w := w) (g := g) (row := none) (by exact sK1 HK.out GW266.out)) : w.heap.size ≤ gb276) : w0.heap.size ≤ gb276)); have n7_ := nl BK266 hg; have n8_ := nr BK266 hg; have n9_ := Aside0.mk ((by rw [hg]; exact Nat.ne_of_lt (IsS138.lt (show IsS138 w0 _ g s0_0 t274 t275 from by exact sI1381 HI0.out NB0_266.out)) : g ≠ gb276)); have n10_ := Aside0.mk ((by rw [hg]; exact Nat.ne_of_gt (IsS138.lt (show IsS138 w0 _ g s0_0 t274 t275 from by exact sI1381 HI0.out NB0_266.out)) : gb276 ≠ g)); clear HI0; clear BK266; clear HK; clear HB; have HI0 := n0_; have BK266 := n1_; have HK := n2_; have HB := n3_; have BK276 := n4_; have GW276 := n5_; have GE276 := n6_; have NB266_276 := n7_; have NB276_266 := n8_; have NB0_276 := n9_; have NB276_0 := n10_; clear n0_ n1_ n2_ n3_ n4_ n5_ n6_ n7_ n8_ n9_ n10_; clear hb hbox hg; have hnb11 := NB276_266.out; have hnc11 := NB266_276.out; have hnb12 := NB276_0.out; have hnc12 := NB0_276.out; have hcz13_0 : w10.cell? ⟨gb276, 0, none⟩ = some (.int .i64 0) := bC BK276 0; have hcz13_1 : w10.cell? ⟨gb276, 1, none⟩ = some (.int .i64 0) := bC BK276 1; have hcz13_2 : w10.cell? ⟨gb276, 2, none⟩ = some (.int .i64 0) := bC BK276 2; have hcz13_3 : w10.cell? ⟨gb276, 3, none⟩ = some (.int .i64 0) := bC BK276 3; have hfz13_0 := blk_frozen BK276.out 0; have hfz13_1 := blk_frozen BK276.out 1; have hfz13_2 := blk_frozen BK276.out 2; have hfz13_3 := blk_frozen BK276.out 3) | ((with_reducible refine gate_callee (f := 84) rfl ?_); refine gL (some 10) Try.func84 #[.pointer (some ⟨g, 0, none⟩), .int .i64 10] ?_; (with_reducible refine (spec_l1Below.calls g s0_0 t274 t275 10 t277 t278 t279 w0 _ ?_ ?_ A4.out).mono ?_); exact sI1382 HI0.out NB0_266.out NB0_276.out; exact sB3 HB.out (IsS138.ge HI0.out) GE266.out GE276.out; rintro e w14 ⟨rfl, hi, hb, hk⟩; refine ⟨_, rfl, ?_⟩; replace BK266 := Aside0.mk (KeepBut.blk hk (g' := gb266) (o := .cells #[.int .i64 0, .int .i64 0, .int .i64 0, .int .i64 0] 50 (0, 0)) (kf BK266 NB266_276) NB266_0.out (by simp)); replace BK276 := Aside0.mk (KeepBut.blk hk (g' := gb276) (o := .cells #[.int .i64 t270, .int .i64 t271, .int .i64 t272, .int .i64 t273] 50 (0, 0)) (kp BK276) NB276_0.out (by simp)); replace HK := Aside0.mk (KeepBut.trans (by exact sK2 HK.out GW266.out GW276.out) hk (.inl rfl)); replace HB := Aside0.mk (hb); replace HI0 := Aside0.mk (hi); (try clear hb); (try clear hk); (try clear hi)))
 by_cases c5 : t277 = 0
 ·
  rw [if_pos c5] at H
  have c5b0 : (t277 == 0) = true := beq_iff_eq.mpr c5
  have c5b1 : (t277 != 0) = false := bne_eq_false_iff_eq.mpr c5
  clear c5
  obtain ⟨y280, hy280⟩ : ∃ y_ : List Int, y_ = (([0, 20, 21] : List Int)) := ⟨_, rfl⟩
  replace H : ((spec_l1Int.f s0_0 t278 t279 y280).bind fun bt283 => (some (bt283.1, t271, t272, t273, bt283.2.1, bt283.2.2))) = some (r1, r2, r3, r4, r5, r6) := rH H hy280
  have Ny280 := Aside0.mk hy280
  clear hy280
  obtain ⟨⟨t283, t284, t285⟩, A6, H⟩ := bindE H
  try dsimp only at H
  simp only [Option.some.injEq, Prod.mk.injEq] at H
  obtain ⟨rfl, rfl, rfl, rfl, rfl, rfl⟩ := H
  go_wp2_with (first | ((with_reducible refine gate_dst (N := 14) rfl ?_); refine Kd.R_lit (Kd.int .i64) _ 3 ?hg (N := 14) ?hd (xs := ([0, 20, 21] : List Int)) (inner := [.int .i64 0, .int .i64 20, .int .i64 21]) (ok := fun _ => True) (okp := fun _ => True) ?hr ?hp (fun _ hk => hk) trivial (Below.refl _ _) (Nat.le_refl _) (by simp) ?_; (case hd => rfl); (case hg => rfl); (case hr => first | (go_simp; done) | (go_simp; rfl)); (case hp => exact (Reps.one (show Kd.M (Kd.int .i64) _ _ _ 0 [.int .i64 0] from rfl) (Reps.one (show Kd.M (Kd.int .i64) _ _ _ 20 [.int .i64 20] from rfl) (Reps.one (show Kd.M (Kd.int .i64) _ _ _ 21 [.int .i64 21] from rfl) (Reps.none _ _))))); intro v281 w15 ho16 hb hg_ hnew_; clear hg_ hnew_; (first | rw [← Ny280.out] at ho16 | (simp only [Int.reduceToNat] at ho16; rw [← Ny280.out] at ho16)); have HO282 := Aside0.mk (Kd.R_lower ho16 (keep_size (w := w) (g := g) (row := none) (by exact sK2 HK.out GW266.out GW276.out))); replace BK266 := kb BK266 hb; replace BK276 := kb BK276 hb; replace HK := Aside0.mk (KeepBut.trans (by exact sK2 HK.out GW266.out GW276.out) (KeepBut.of_below hb g none) (.inl rfl)); replace HB := Aside0.mk (below_step (by exact sB3 HB.out (IsS138.ge HI0.out) GE266.out GE276.out) hb); replace HI0 := Aside0.mk (IsS138.below (by exact sI1382 HI0.out NB0_266.out NB0_276.out) hb); clear hb ho16; obtain ⟨Ao17, co17, eo17⟩ := Kd.R_slice HO282.out; subst eo17) | ((with_reducible refine gate_callee (f := 94) rfl ?_); refine gL (some 15) Try.func94 #[.pointer (some ⟨g, 0, none⟩), .slice Ao17 y280.length co17] ?_; (with_reducible refine (spec_l1Int.calls g s0_0 t278 t279 _ _ y280 t283 t284 t285 w0 _ ?_ ?_ ?_ ?_ ?_ A6.out).mono ?_); exact sI1382 HI0.out NB0_266.out NB0_276.out; exact sB3 HB.out (IsS138.ge HI0.out) GE266.out GE276.out; exact cO ⟨(Kd.R_reads' HO282.out).2.2⟩; exact (Kd.R_reads' HO282.out).2.1; exact far_slice (IsS138.own_ne HI0.out HO282.out (by decide)); rintro e w18 ⟨rfl, hi, hb, hk⟩; refine ⟨_, rfl, ?_⟩; replace BK266 := Aside0.mk (KeepBut.blk hk (g' := gb266) (o := .cells #[.int .i64 0, .int .i64 0, .int .i64 0, .int .i64 0] 50 (0, 0)) (bK BK266) NB266_0.out (by simp)); replace BK276 := Aside0.mk (KeepBut.blk hk (g' := gb276) (o := .cells #[.int .i64 t270, .int .i64 t271, .int .i64 t272, .int .i64 t273] 50 (0, 0)) (bK BK276) NB276_0.out (by simp)); replace HO282 := Aside0.mk (Kd.R_mono (Kd.R_keep (IsS138.apart (show IsS138 w0 _ g s0_0 t278 t279 from by exact sI1382 HI0.out NB0_266.out NB0_276.out) (rK HO282) (by decide)) hk (fun _ h => h.2)) (fun _ h => h.1)); replace HK := Aside0.mk (KeepBut.trans (by exact sK2 HK.out GW266.out GW276.out) hk (.inl rfl)); replace HB := Aside0.mk (hb); replace HI0 := Aside0.mk (hi); (try clear hb); (try clear hk); (try clear hi); obtain ⟨_, _, _, _, _, _, _, _⟩ := blkc4 BK276; have hnb20 := NB266_0.out; have hnc20 := NB0_266.out; obtain ⟨_, _, _, _, _, _, _, _⟩ := blkc4 BK266))
  refine bodyPost_ret (results_cell_row rfl _ _ gb266 50 #[.int .i64 t283, .int .i64 t271, .int .i64 t272, .int .i64 t273] (0, 0) _ rfl (kP BK266 NB266_276) Try.underlying50 rfl (by kernel_rfl)) rfl ?_
  exact ⟨rA, by exact sI1382 HI0.out NB0_266.out NB0_276.out, by exact sB3 HB.out (IsS138.ge HI0.out) GE266.out GE276.out, by exact sK2 HK.out GW266.out GW276.out⟩
 rw [if_neg c5] at H
 have c5b0 : (t277 == 0) = false := beq_eq_false_iff_ne.mpr c5
 have c5b1 : (t277 != 0) = true := bne_iff_ne.mpr c5
 by_cases c22 : t277 = 1
 ·
  rw [if_pos c22] at H
  have c22b0 : (t277 == 1) = true := beq_iff_eq.mpr c22
  have c22b1 : (t277 != 1) = false := bne_eq_false_iff_eq.mpr c22
  clear c22
  obtain ⟨y286, hy286⟩ : ∃ y_ : List Int, y_ = (([0, 2, 4] : List Int)) := ⟨_, rfl⟩
  replace H : ((spec_l1Int.f s0_0 t278 t279 y286).bind fun bt289 => (some (t270, bt289.1, t272, t273, bt289.2.1, bt289.2.2))) = some (r1, r2, r3, r4, r5, r6) := rH H hy286
  have Ny286 := Aside0.mk hy286
  clear hy286
  obtain ⟨⟨t289, t290, t291⟩, A23, H⟩ := bindE H
  try dsimp only at H
  simp only [Option.some.injEq, Prod.mk.injEq] at H
  obtain ⟨rfl, rfl, rfl, rfl, rfl, rfl⟩ := H
  go_wp2_with (first | ((with_reducible refine gate_dst (N := 20) rfl ?_); refine Kd.R_lit (Kd.int .i64) _ 3 ?hg (N := 20) ?hd (xs := ([0, 2, 4] : List Int)) (inner := [.int .i64 0, .int .i64 2, .int .i64 4]) (ok := fun _ => True) (okp := fun _ => True) ?hr ?hp (fun _ hk => hk) trivial (Below.refl _ _) (Nat.le_refl _) (by simp) ?_; (case hd => rfl); (case hg => rfl); (case hr => first | (go_simp; done) | (go_simp; rfl)); (case hp => exact (Reps.one (show Kd.M (Kd.int .i64) _ _ _ 0 [.int .i64 0] from rfl) (Reps.one (show Kd.M (Kd.int .i64) _ _ _ 2 [.int .i64 2] from rfl) (Reps.one (show Kd.M (Kd.int .i64) _ _ _ 4 [.int .i64 4] from rfl) (Reps.none _ _))))); intro v287 w32 ho33 hb hg_ hnew_; clear hg_ hnew_; (first | rw [← Ny286.out] at ho33 | (simp only [Int.reduceToNat] at ho33; rw [← Ny286.out] at ho33)); have HO288 := Aside0.mk (Kd.R_lower ho33 (keep_size (w := w) (g := g) (row := none) (by exact sK2 HK.out GW266.out GW276.out))); replace BK266 := kb BK266 hb; replace BK276 := kb BK276 hb; replace HK := Aside0.mk (KeepBut.trans (by exact sK2 HK.out GW266.out GW276.out) (KeepBut.of_below hb g none) (.inl rfl)); replace HB := Aside0.mk (below_step (by exact sB3 HB.out (IsS138.ge HI0.out) GE266.out GE276.out) hb); replace HI0 := Aside0.mk (IsS138.below (by exact sI1382 HI0.out NB0_266.out NB0_276.out) hb); clear hb ho33; obtain ⟨Ao34, co34, eo34⟩ := Kd.R_slice HO288.out; subst eo34) | ((with_reducible refine gate_callee (f := 94) rfl ?_); refine gL (some 21) Try.func94 #[.pointer (some ⟨g, 0, none⟩), .slice Ao34 y286.length co34] ?_; (with_reducible refine (spec_l1Int.calls g s0_0 t278 t279 _ _ y286 t289 t290 t291 w0 _ ?_ ?_ ?_ ?_ ?_ A23.out).mono ?_); exact sI1382 HI0.out NB0_266.out NB0_276.out; exact sB3 HB.out (IsS138.ge HI0.out) GE266.out GE276.out; exact cO ⟨(Kd.R_reads' HO288.out).2.2⟩; exact (Kd.R_reads' HO288.out).2.1; exact far_slice (IsS138.own_ne HI0.out HO288.out (by decide)); rintro e w35 ⟨rfl, hi, hb, hk⟩; refine ⟨_, rfl, ?_⟩; replace BK266 := Aside0.mk (KeepBut.blk hk (g' := gb266) (o := .cells #[.int .i64 0, .int .i64 0, .int .i64 0, .int .i64 0] 50 (0, 0)) (bK BK266) NB266_0.out (by simp)); replace BK276 := Aside0.mk (KeepBut.blk hk (g' := gb276) (o := .cells #[.int .i64 t270, .int .i64 t271, .int .i64 t272, .int .i64 t273] 50 (0, 0)) (bK BK276) NB276_0.out (by simp)); replace HO288 := Aside0.mk (Kd.R_mono (Kd.R_keep (IsS138.apart (show IsS138 w0 _ g s0_0 t278 t279 from by exact sI1382 HI0.out NB0_266.out NB0_276.out) (rK HO288) (by decide)) hk (fun _ h => h.2)) (fun _ h => h.1)); replace HK := Aside0.mk (KeepBut.trans (by exact sK2 HK.out GW266.out GW276.out) hk (.inl rfl)); replace HB := Aside0.mk (hb); replace HI0 := Aside0.mk (hi); (try clear hb); (try clear hk); (try clear hi); obtain ⟨_, _, _, _, _, _, _, _⟩ := blkc4 BK276; have hnb37 := NB266_0.out; have hnc37 := NB0_266.out; obtain ⟨_, _, _, _, _, _, _, _⟩ := blkc4 BK266))
  refine bodyPost_ret (results_cell_row rfl _ _ gb266 50 #[.int .i64 t270, .int .i64 t289, .int .i64 t272, .int .i64 t273] (0, 0) _ rfl (kP BK266 NB266_276) Try.underlying50 rfl (by kernel_rfl)) rfl ?_
  exact ⟨rA, by exact sI1382 HI0.out NB0_266.out NB0_276.out, by exact sB3 HB.out (IsS138.ge HI0.out) GE266.out GE276.out, by exact sK2 HK.out GW266.out GW276.out⟩
 rw [if_neg c22] at H
 have c22b0 : (t277 == 1) = false := beq_eq_false_iff_ne.mpr c22
 have c22b1 : (t277 != 1) = true := bne_iff_ne.mpr c22
 by_cases c39 : t277 = 2
 ·
  rw [if_pos c39] at H
  have c39b0 : (t277 == 2) = true := beq_iff_eq.mpr c39
  have c39b1 : (t277 != 2) = false := bne_eq_false_iff_eq.mpr c39
  clear c39
  obtain ⟨⟨t292, t293, t294⟩, A40, H⟩ := bindE H
  try dsimp only at H
  simp only [Option.some.injEq, Prod.mk.injEq] at H
  obtain ⟨rfl, rfl, rfl, rfl, rfl, rfl⟩ := H
  go_wp2_with (first | ((with_reducible refine gate_callee (f := 129) rfl ?_); refine gL (some 26) Try.func129 #[.pointer (some ⟨g, 0, none⟩)] ?_; (with_reducible refine (spec_l4Raw.calls g s0_0 t278 t279 t292 t293 t294 w0 _ ?_ ?_ A40.out).mono ?_); exact sI1382 HI0.out NB0_266.out NB0_276.out; exact sB3 HB.out (IsS138.ge HI0.out) GE266.out GE276.out; rintro e w49 ⟨rfl, hi, hb, hk⟩; refine ⟨_, rfl, ?_⟩; replace BK266 := Aside0.mk (KeepBut.blk hk (g' := gb266) (o := .cells #[.int .i64 0, .int .i64 0, .int .i64 0, .int .i64 0] 50 (0, 0)) (bK BK266) NB266_0.out (by simp)); replace BK276 := Aside0.mk (KeepBut.blk hk (g' := gb276) (o := .cells #[.int .i64 t270, .int .i64 t271, .int .i64 t272, .int .i64 t273] 50 (0, 0)) (bK BK276) NB276_0.out (by simp)); replace HK := Aside0.mk (KeepBut.trans (by exact sK2 HK.out GW266.out GW276.out) hk (.inl rfl)); replace HB := Aside0.mk (hb); replace HI0 := Aside0.mk (hi); (try clear hb); (try clear hk); (try clear hi); obtain ⟨_, _, _, _, _, _, _, _⟩ := blkc4 BK276; have hnb51 := NB266_0.out; have hnc51 := NB0_266.out; obtain ⟨_, _, _, _, _, _, _, _⟩ := blkc4 BK266))
  refine bodyPost_ret (results_cell_row rfl _ _ gb266 50 #[.int .i64 t270, .int .i64 t271, .int .i64 t292, .int .i64 t273] (0, 0) _ rfl (kP BK266 NB266_276) Try.underlying50 rfl (by kernel_rfl)) rfl ?_
  exact ⟨rA, by exact sI1382 HI0.out NB0_266.out NB0_276.out, by exact sB3 HB.out (IsS138.ge HI0.out) GE266.out GE276.out, by exact sK2 HK.out GW266.out GW276.out⟩
 rw [if_neg c39] at H
 have c39b0 : (t277 == 2) = false := beq_eq_false_iff_ne.mpr c39
 have c39b1 : (t277 != 2) = true := bne_iff_ne.mpr c39
 by_cases c53 : t277 = 3
 ·
  rw [if_pos c53] at H
  have c53b0 : (t277 == 3) = true := beq_iff_eq.mpr c53
  have c53b1 : (t277 != 3) = false := bne_eq_false_iff_eq.mpr c53
  clear c53
  obtain ⟨⟨t295, t296, t297⟩, A54, H⟩ := bindE H
  try dsimp only at H
  simp only [Option.some.injEq, Prod.mk.injEq] at H
  obtain ⟨rfl, rfl, rfl, rfl, rfl, rfl⟩ := H
  go_wp2_with (first | ((with_reducible refine gate_callee (f := 129) rfl ?_); refine gL (some 31) Try.func129 #[.pointer (some ⟨g, 0, none⟩)] ?_; (with_reducible refine (spec_l4Raw.calls g s0_0 t278 t279 t295 t296 t297 w0 _ ?_ ?_ A54.out).mono ?_); exact sI1382 HI0.out NB0_266.out NB0_276.out; exact sB3 HB.out (IsS138.ge HI0.out) GE266.out GE276.out; rintro e w63 ⟨rfl, hi, hb, hk⟩; refine ⟨_, rfl, ?_⟩; replace BK266 := Aside0.mk (KeepBut.blk hk (g' := gb266) (o := .cells #[.int .i64 0, .int .i64 0, .int .i64 0, .int .i64 0] 50 (0, 0)) (bK BK266) NB266_0.out (by simp)); replace BK276 := Aside0.mk (KeepBut.blk hk (g' := gb276) (o := .cells #[.int .i64 t270, .int .i64 t271, .int .i64 t272, .int .i64 t273] 50 (0, 0)) (bK BK276) NB276_0.out (by simp)); replace HK := Aside0.mk (KeepBut.trans (by exact sK2 HK.out GW266.out GW276.out) hk (.inl rfl)); replace HB := Aside0.mk (hb); replace HI0 := Aside0.mk (hi); (try clear hb); (try clear hk); (try clear hi); obtain ⟨_, _, _, _, _, _, _, _⟩ := blkc4 BK276; have hnb65 := NB266_0.out; have hnc65 := NB0_266.out; obtain ⟨_, _, _, _, _, _, _, _⟩ := blkc4 BK266))
  refine bodyPost_ret (results_cell_row rfl _ _ gb266 50 #[.int .i64 t270, .int .i64 t271, .int .i64 t272, .int .i64 t295] (0, 0) _ rfl (kP BK266 NB266_276) Try.underlying50 rfl (by kernel_rfl)) rfl ?_
  exact ⟨rA, by exact sI1382 HI0.out NB0_266.out NB0_276.out, by exact sB3 HB.out (IsS138.ge HI0.out) GE266.out GE276.out, by exact sK2 HK.out GW266.out GW276.out⟩
 rw [if_neg c53] at H
 have c53b0 : (t277 == 3) = false := beq_eq_false_iff_ne.mpr c53
 have c53b1 : (t277 != 3) = true := bne_iff_ne.mpr c53
 simp only [Option.some.injEq, Prod.mk.injEq] at H
 obtain ⟨rfl, rfl, rfl, rfl, rfl, rfl⟩ := H
 obtain ⟨_, _, _, _, _, _, _, _⟩ := blkc4 BK276
 have hnb76 := NB266_0.out
 have hnc76 := NB0_266.out
 obtain ⟨_, _, _, _, _, _, _, _⟩ := blkc4 BK266
 go_wp2
 refine bodyPost_ret (results_cell_row rfl _ _ gb266 50 #[.int .i64 t270, .int .i64 t271, .int .i64 t272, .int .i64 t273] (0, 0) _ rfl (kp BK266) Try.underlying50 rfl (by kernel_rfl)) rfl ?_
 exact ⟨rA, by exact sI1382 HI0.out NB0_266.out NB0_276.out, by exact sB3 HB.out (IsS138.ge HI0.out) GE266.out GE276.out, by exact sK2 HK.out GW266.out GW276.out⟩

/-! ### spec_l5Any: function 125 -/
def spec_l5Any.f (k : Nat) (s0_0 : List Int) (s0_1 : Int) (s0_2 : Int) : Option ((List (S50)) × Int × Int) := (spec_l5Draw.f k s0_0 s0_1 s0_2).bind fun bt298 => ((spec_l1Once.f s0_0 bt298.2.1 bt298.2.2 6).bind fun bt303 => (if bt303.1 = true then ((spec_l1Below.f s0_0 bt303.2.1 bt303.2.2 (bt298.1.length : Int)).bind fun bt306 => ((spec_l4Any.f s0_0 bt306.2.1 bt306.2.2).bind fun bt309 => (if 0 ≤ bt306.1 then (if bt306.1 < (bt298.1.length : Int) then (some ((bt298.1.set (bt306.1 : Int).toNat (⟨bt309.1, bt309.2.1, bt309.2.2.1, bt309.2.2.2.1⟩ : S50)), bt309.2.2.2.2.1, bt309.2.2.2.2.2)) else (none)) else (none)))) else (some (bt298.1, bt303.2.1, bt303.2.2))))
theorem spec_l5Any.mono : ∀ a0 a1 a2 k, LeO (spec_l5Any.f k a0 a1 a2) (spec_l5Any.f (k + 1) a0 a1 a2) := by
 intro a0 a1 a2 k
 unfold spec_l5Any.f
 exact mz1 spec_l5Draw.mono
set_option maxHeartbeats 8000000 in
set_option maxRecDepth 100000 in
theorem spec_l5Any.calls (k : Nat) (g : Nat) (s0_0 : List Int) (s0_1 : Int) (s0_2 : Int) (r1 : List (S50)) (r2 : Int) (r3 : Int) (w0 w : World) (hI : IsS138 w0 w g s0_0 s0_1 s0_2) (hB : Below w0.heap.size w0 w) (h : spec_l5Any.f k s0_0 s0_1 s0_2 = some (r1, r2, r3)) :
  Calls Try.prog 125 #[.pointer (some ⟨g, 0, none⟩)] w fun e w' => ∃ v0_ : Value, e = .returned (v0_) ∧ Kd.R k50 50 w' w.heap.size (fun _ => True) v0_ r1 ∧ IsS138 w0 w' g s0_0 r2 r3 ∧ Below w0.heap.size w0 w' ∧ KeepBut w w' g none := by
 have hu50 := Try.underlying50
 have HI0 := Aside0.mk hI
 have HK := Aside0.mk (KeepBut.refl w g none)
 have HL := Aside0.mk hB.size
 clear hI
 have HW0 := Aside0.mk hB.size
 have HB := Aside0.mk hB
 clear hB
 have H : ((spec_l5Draw.f k s0_0 s0_1 s0_2).bind fun bt298 => ((spec_l1Once.f s0_0 bt298.2.1 bt298.2.2 6).bind fun bt303 => (if bt303.1 = true then ((spec_l1Below.f s0_0 bt303.2.1 bt303.2.2 (bt298.1.length : Int)).bind fun bt306 => ((spec_l4Any.f s0_0 bt306.2.1 bt306.2.2).bind fun bt309 => (if 0 ≤ bt306.1 then (if bt306.1 < (bt298.1.length : Int) then (some ((bt298.1.set (bt306.1 : Int).toNat (⟨bt309.1, bt309.2.1, bt309.2.2.1, bt309.2.2.2.1⟩ : S50)), bt309.2.2.2.2.1, bt309.2.2.2.2.2)) else (none)) else (none)))) else (some (bt298.1, bt303.2.1, bt303.2.2))))) = some (r1, r2, r3) := h
 clear h
 obtain ⟨⟨t298, t301, t302⟩, A2, H⟩ := bindE H
 try dsimp only at H
 obtain ⟨⟨t303, t304, t305⟩, A3, H⟩ := bindE H
 try dsimp only at H
 by_cases c4 : t303 = true
 ·
  subst c4
  have H1 : ((spec_l1Below.f s0_0 t304 t305 (t298.length : Int)).bind fun bt306 => ((spec_l4Any.f s0_0 bt306.2.1 bt306.2.2).bind fun bt309 => (if 0 ≤ bt306.1 then (if bt306.1 < (t298.length : Int) then (some ((t298.set (bt306.1 : Int).toNat (⟨bt309.1, bt309.2.1, bt309.2.2.1, bt309.2.2.2.1⟩ : S50)), bt309.2.2.2.2.1, bt309.2.2.2.2.2)) else (none)) else (none)))) = some (r1, r2, r3) := by rw [if_pos rfl] at H; exact H
  clear H
  have H := H1
  clear H1
  obtain ⟨⟨t306, t307, t308⟩, A5, H⟩ := bindE H
  try dsimp only at H
  obtain ⟨⟨t309, t310, t311, t312, t313, t314⟩, A6, H⟩ := bindE H
  try dsimp only at H
  have c7 : 0 ≤ t306 := ifN H
  replace H := ifT H
  have c7b0 := decide_eq_true c7
  clear c7
  have c8 : t306 < (t298.length : Int) := ifN H
  replace H := ifT H
  have c8b0 := decide_eq_true c8
  clear c8
  obtain ⟨y315, hy315⟩ : ∃ y_ : List (S50), y_ = (t298.set (t306 : Int).toNat (⟨t309, t310, t311, t312⟩ : S50)) := ⟨_, rfl⟩
  replace H : (some (y315, t313, t314)) = some (r1, r2, r3) := rH H hy315
  have Ny315 := Aside0.mk hy315
  clear hy315
  simp only [Option.some.injEq, Prod.mk.injEq] at H
  obtain ⟨rfl, rfl, rfl⟩ := H
  go_enter Try.func125, Try.ntmps125
  go_wp2_with (first | ((with_reducible refine gate_callee (f := 150) rfl ?_); refine gL (some 5) Try.func150 #[.pointer (some ⟨g, 0, none⟩)] ?_; (with_reducible refine (spec_l5Draw.calls k g s0_0 s0_1 s0_2 t298 t301 t302 w0 _ ?_ ?_ A2.out).mono ?_); exact sI1380 HI0.out; exact sB1 HB.out (IsS138.ge HI0.out); rintro e w10 ⟨v299, rfl, ho0, hi, hb, hk⟩; refine ⟨_, rfl, ?_⟩; have HO300 := Aside0.mk (Kd.R_lower ho0 (keep_size (w := w) (g := g) (row := none) (by exact sK0 HK.out))); replace HK := Aside0.mk (KeepBut.trans (by exact sK0 HK.out) hk (.inl rfl)); replace HB := Aside0.mk (hb); replace HI0 := Aside0.mk (hi); (try clear hb); (try clear hk); (try clear hi); (try clear ho0)) | ((with_reducible refine gate_callee (f := 93) rfl ?_); refine gL (some 7) Try.func93 #[.pointer (some ⟨g, 0, none⟩), .int .i64 6] ?_; (with_reducible refine (spec_l1Once.calls g s0_0 t301 t302 6 true t304 t305 w0 _ ?_ ?_ A3.out).mono ?_); exact sI1380 HI0.out; exact sB1 HB.out (IsS138.ge HI0.out); rintro e w11 ⟨rfl, hi, hb, hk⟩; refine ⟨_, rfl, ?_⟩; replace HO300 := Aside0.mk (Kd.R_mono (Kd.R_keep (IsS138.apart (show IsS138 w0 _ g s0_0 t301 t302 from by exact sI1380 HI0.out) (rK HO300) (by decide)) hk (fun _ h => h.2)) (fun _ h => h.1)); replace HK := Aside0.mk (KeepBut.trans (by exact sK0 HK.out) hk (.inl rfl)); replace HB := Aside0.mk (hb); replace HI0 := Aside0.mk (hi); (try clear hb); (try clear hk); (try clear hi); obtain ⟨Ao12, co12, eo12⟩ := Kd.R_slice HO300.out; subst eo12) | ((with_reducible refine gate_callee (f := 84) rfl ?_); refine gL (some 12) Try.func84 #[.pointer (some ⟨g, 0, none⟩), .int .i64 (t298.length : Int)] ?_; (with_reducible refine (spec_l1Below.calls g s0_0 t304 t305 (t298.length : Int) t306 t307 t308 w0 _ ?_ ?_ A5.out).mono ?_); exact sI1380 HI0.out; exact sB1 HB.out (IsS138.ge HI0.out); rintro e w13 ⟨rfl, hi, hb, hk⟩; refine ⟨_, rfl, ?_⟩; replace HO300 := Aside0.mk (Kd.R_mono (Kd.R_keep (IsS138.apart (show IsS138 w0 _ g s0_0 t304 t305 from by exact sI1380 HI0.out) (rK HO300) (by decide)) hk (fun _ h => h.2)) (fun _ h => h.1)); replace HK := Aside0.mk (KeepBut.trans (by exact sK0 HK.out) hk (.inl rfl)); replace HB := Aside0.mk (hb); replace HI0 := Aside0.mk (hi); (try clear hb); (try clear hk); (try clear hi)) | ((with_reducible refine gate_callee (f := 152) rfl ?_); refine gL (some 14) Try.func152 #[.pointer (some ⟨g, 0, none⟩)] ?_; (with_reducible refine (spec_l4Any.calls g s0_0 t307 t308 t309 t310 t311 t312 t313 t314 w0 _ ?_ ?_ A6.out).mono ?_); exact sI1380 HI0.out; exact sB1 HB.out (IsS138.ge HI0.out); rintro e w14 ⟨rfl, hi, hb, hk⟩; refine ⟨_, rfl, ?_⟩; replace HO300 := Aside0.mk (Kd.R_mono (Kd.R_keep (IsS138.apart (show IsS138 w0 _ g s0_0 t307 t308 from by exact sI1380 HI0.out) (rK HO300) (by decide)) hk (fun _ h => h.2)) (fun _ h => h.1)); replace HK := Aside0.mk (KeepBut.trans (by exact sK0 HK.out) hk (.inl rfl)); replace HB := Aside0.mk (hb); replace HI0 := Aside0.mk (hi); (try clear hb); (try clear hk); (try clear hi); have p9 : 0 ≤ (t306 : Int) := dA; have q9 : (t306 : Int) < ((t298.length : Int) : Int) := dA; obtain ⟨go9, co9, eo9, gb9, gl9, cl9, HG9⟩ := Kd.R_form HO300.out (by omega); (first | cases eo9 | (injection eo9 with ea_ en_ ec_; (first | subst ea_ | (injection ea_ with ea_; subst ea_)); subst ec_; clear en_)); have GB9 := Aside0.mk gb9; have GG9 := Aside0.mk HG9; clear gb9 gl9 HG9; obtain ⟨ce9, hcl9, hM9, hcc9, hfr9⟩ := Kd.R_elem HO300.out z50 (t306 : Int) p9 q9; obtain rfl := k50_openM hM9; have hx9_0 : w14.cell? ⟨go9, (t306 : Int).toNat * 4, none⟩ = some (.int .i64 ((rd_T50 t298 t306).f0)) := hcc9 0 _ rfl; have hx9_1 : w14.cell? ⟨go9, (t306 : Int).toNat * 4 + 1, none⟩ = some (.int .i64 ((rd_T50 t298 t306).f1)) := hcc9 1 _ rfl; have hx9_2 : w14.cell? ⟨go9, (t306 : Int).toNat * 4 + 2, none⟩ = some (.int .i64 ((rd_T50 t298 t306).f2)) := hcc9 2 _ rfl; have hx9_3 : w14.cell? ⟨go9, (t306 : Int).toNat * 4 + 3, none⟩ = some (.int .i64 ((rd_T50 t298 t306).f3)) := hcc9 3 _ rfl; have hf9_0 : w14.frozen? ⟨go9, (t306 : Int).toNat * 4, none⟩ = false := hfr9 0; have hf9_1 : w14.frozen? ⟨go9, (t306 : Int).toNat * 4 + 1, none⟩ = false := hfr9 1; have hf9_2 : w14.frozen? ⟨go9, (t306 : Int).toNat * 4 + 2, none⟩ = false := hfr9 2; have hf9_3 : w14.frozen? ⟨go9, (t306 : Int).toNat * 4 + 3, none⟩ = false := hfr9 3; clear hcl9 hcc9 hfr9 hM9; replace p9 := eq_true p9; replace q9 := eq_true q9; have HX15 := Aside0.mk (show Kd.R k50 50 w14 w.heap.size (fun _ => True) (.slice (some ⟨go9, 0, none⟩) t298.length co12) t298 from (rK HO300)); obtain ⟨ce15, hcl15, hM15, hcc15, hfr15⟩ := Kd.R_elem HX15.out z50 (t306 : Int) (dA) (by have h_ : (t306 : Int) < ((t298.length : Int) : Int) := dA; first | exact h_ | (have e_ := (Kd.R_reads' HO300.out).1; omega) | simpa using h_); obtain rfl := k50_openM hM15; have HP15 := Kd.R_seg HX15.out (t306 : Int) (dA) (by have h_ : (t306 : Int) < ((t298.length : Int) : Int) := dA; first | exact h_ | (have e_ := (Kd.R_reads' HO300.out).1; omega) | simpa using h_) (seg := [.int .i64 t309, .int .i64 t310, .int .i64 t311, .int .i64 t312]) (j := 0) hcl15 hcc15 (show 4 ≤ 4 from by decide) (x' := (⟨t309, t310, t311, t312⟩ : S50)) (k50_mkM _ _ _ (⟨t309, t310, t311, t312⟩ : S50) ) (fun _ hk => hk); have hx15_0 := hcc15 0 _ rfl; (try simp only [show (k50).sz = 4 from rfl, Nat.mul_one, Nat.add_zero] at hx15_0); have hf15_0 := hfr15 0; (try simp only [show (k50).sz = 4 from rfl, Nat.mul_one, Nat.add_zero] at hf15_0); have hx15_1 := hcc15 1 _ rfl; (try simp only [show (k50).sz = 4 from rfl, Nat.mul_one, Nat.add_zero] at hx15_1); have hf15_1 := hfr15 1; (try simp only [show (k50).sz = 4 from rfl, Nat.mul_one, Nat.add_zero] at hf15_1); have hx15_2 := hcc15 2 _ rfl; (try simp only [show (k50).sz = 4 from rfl, Nat.mul_one, Nat.add_zero] at hx15_2); have hf15_2 := hfr15 2; (try simp only [show (k50).sz = 4 from rfl, Nat.mul_one, Nat.add_zero] at hf15_2); have hx15_3 := hcc15 3 _ rfl; (try simp only [show (k50).sz = 4 from rfl, Nat.mul_one, Nat.add_zero] at hx15_3); have hf15_3 := hfr15 3; (try simp only [show (k50).sz = 4 from rfl, Nat.mul_one, Nat.add_zero] at hf15_3); clear hcl15 hcc15 hfr15 hM15) | ((with_reducible refine gate_store (t := 50) (p := 15) rfl ?_); refine store_event (t := 50) (p := 15) (v := ?vo_w16) (w1 := ((((w14.setCell ⟨go9, (t306 : Int).toNat * 4, none⟩ (.int .i64 t309)).setCell ⟨go9, (t306 : Int).toNat * 4 + 1, none⟩ (.int .i64 t310)).setCell ⟨go9, (t306 : Int).toNat * 4 + 2, none⟩ (.int .i64 t311)).setCell ⟨go9, (t306 : Int).toNat * 4 + 3, none⟩ (.int .i64 t312))) ?hg ?ho ?hn ?hr ?_; (case ho => rfl); (case hg => rfl); (case hn => rfl); (case hr => first | (go_simp; done) | (go_simp; rfl)); intro w16 hw; have hg : w14.grownBy w16 (some go9) := (by rw [hw]; exact HP15.2); have hp_ : Kd.R k50 50 w16 w.heap.size (fun _ => True) (.slice (some ⟨go9, 0, none⟩) t298.length co12) y315 := (by rw [hw, Ny315.out]; exact HP15.1); clear HP15; have n0_ := Aside0.mk (IsS138.grown (by exact sI1380 HI0.out) hg (IsS138.own_ne HI0.out HO300.out (by decide))); have n1_ := Aside0.mk (hp_); have n2_ := Aside0.mk ((by rw [hw]; exact below_set (below_set (below_set (below_set (HB.out) (Nat.le_trans HL.out GB9.out)) (Nat.le_trans HL.out GB9.out)) (Nat.le_trans HL.out GB9.out)) (Nat.le_trans HL.out GB9.out) : Below w0.heap.size w0 w16)); have n3_ := Aside0.mk (KeepBut.trans (by exact sK0 HK.out) (KeepBut.of_grown hg g) (Kd.R_base2 HO300.out)); clear HI0; clear HO300; clear HB; clear HK; have HI0 := n0_; have HO300 := n1_; have HB := n2_; have HK := n3_; clear n0_ n1_ n2_ n3_; clear hg hw hp_))
  go_ret
  exact ⟨_, rA, rK HO300, by exact sI1380 HI0.out, by exact sB1 HB.out (IsS138.ge HI0.out), by exact sK0 HK.out⟩
 replace c4 := Bool.eq_false_iff.mpr c4
 subst c4
 have H1 : (some (t298, t304, t305)) = some (r1, r2, r3) := by rw [if_neg (show ¬ (false = true) by decide)] at H; exact H
 clear H
 have H := H1
 clear H1
 simp only [Option.some.injEq, Prod.mk.injEq] at H
 obtain ⟨rfl, rfl, rfl⟩ := H
 go_enter Try.func125, Try.ntmps125
 go_wp2_with (first | ((with_reducible refine gate_callee (f := 150) rfl ?_); refine gL (some 5) Try.func150 #[.pointer (some ⟨g, 0, none⟩)] ?_; (with_reducible refine (spec_l5Draw.calls k g s0_0 s0_1 s0_2 t298 t301 t302 w0 _ ?_ ?_ A2.out).mono ?_); exact sI1380 HI0.out; exact sB1 HB.out (IsS138.ge HI0.out); rintro e w17 ⟨v299, rfl, ho0, hi, hb, hk⟩; refine ⟨_, rfl, ?_⟩; have HO300 := Aside0.mk (Kd.R_lower ho0 (keep_size (w := w) (g := g) (row := none) (by exact sK0 HK.out))); replace HK := Aside0.mk (KeepBut.trans (by exact sK0 HK.out) hk (.inl rfl)); replace HB := Aside0.mk (hb); replace HI0 := Aside0.mk (hi); (try clear hb); (try clear hk); (try clear hi); (try clear ho0)) | ((with_reducible refine gate_callee (f := 93) rfl ?_); refine gL (some 7) Try.func93 #[.pointer (some ⟨g, 0, none⟩), .int .i64 6] ?_; (with_reducible refine (spec_l1Once.calls g s0_0 t301 t302 6 false t304 t305 w0 _ ?_ ?_ A3.out).mono ?_); exact sI1380 HI0.out; exact sB1 HB.out (IsS138.ge HI0.out); rintro e w18 ⟨rfl, hi, hb, hk⟩; refine ⟨_, rfl, ?_⟩; replace HO300 := Aside0.mk (Kd.R_mono (Kd.R_keep (IsS138.apart (show IsS138 w0 _ g s0_0 t301 t302 from by exact sI1380 HI0.out) (rK HO300) (by decide)) hk (fun _ h => h.2)) (fun _ h => h.1)); replace HK := Aside0.mk (KeepBut.trans (by exact sK0 HK.out) hk (.inl rfl)); replace HB := Aside0.mk (hb); replace HI0 := Aside0.mk (hi); (try clear hb); (try clear hk); (try clear hi)))
 go_ret
 exact ⟨_, rA, rK HO300, by exact sI1380 HI0.out, by exact sB1 HB.out (IsS138.ge HI0.out), by exact sK0 HK.out⟩

/-! ### spec_DrawArePaths: function 117 -/
def spec_DrawArePaths.f (k : Nat) (l0 : List Int) : Option ((List (S50))) := (spec_l1New.f k l0).bind fun bt316 => ((spec_l5Any.f k bt316.1 bt316.2.1 bt316.2.2).bind fun bt320 => (some bt320.1))
theorem spec_DrawArePaths.mono : ∀ a0 k, LeO (spec_DrawArePaths.f k a0) (spec_DrawArePaths.f (k + 1) a0) := by
 intro a0 k
 unfold spec_DrawArePaths.f
 exact mz2 spec_l1New.mono spec_l5Any.mono
set_option maxHeartbeats 8000000 in
set_option maxRecDepth 100000 in
theorem spec_DrawArePaths.calls (k : Nat) (A0 : Option Addr) (c0 : Nat) (l0 : List Int) (r : List (S50)) (w : World) (hr0 : Kd.C (Kd.int .u8) w A0 l0.length l0) (hc0 : l0.length ≤ c0) (h : spec_DrawArePaths.f k l0 = some r) :
  Calls Try.prog 117 #[.slice A0 l0.length c0] w fun e w' => ∃ v0_ : Value, e = .returned (v0_) ∧ Kd.R k50 50 w' w.heap.size (fun _ => True) v0_ r ∧ Below w.heap.size w w' := by
 have HR0 := Aside0.mk hr0
 have HC0 := Aside0.mk hc0
 clear hr0 hc0
 have HB := Aside0.mk (Below.refl w.heap.size w)
 have H : ((spec_l1New.f k l0).bind fun bt316 => ((spec_l5Any.f k bt316.1 bt316.2.1 bt316.2.2).bind fun bt320 => (some bt320.1))) = some r := h
 clear h
 obtain ⟨⟨t316, t317, t318⟩, A2, H⟩ := bindE H
 try dsimp only at H
 obtain ⟨⟨t320, t323, t324⟩, A3, H⟩ := bindE H
 try dsimp only at H
 obtain rfl := Option.some.inj H
 go_enter Try.func117, Try.ntmps117
 go_wp2_with (first | ((with_reducible refine gate_callee (f := 81) rfl ?_); refine gL (some 5) Try.func81 #[.slice A0 l0.length c0] ?_; (with_reducible refine (spec_l1New.calls k _ _ l0 t316 t317 t318 w _ ?_ ?_ ?_ A2.out).mono ?_); exact sB0 HB.out; exact HR0.out; exact HC0.out; rintro e w4 ⟨g319, rfl, hi, hb, hb2, -⟩; refine ⟨_, rfl, ?_⟩; replace HB := Aside0.mk (hb); have HI319 := Aside0.mk (hi); (try clear hb); (try clear hb2); (try clear hi)) | ((with_reducible refine gate_callee (f := 125) rfl ?_); refine gL (some 7) Try.func125 #[.pointer (some ⟨g319, 0, none⟩)] ?_; (with_reducible refine (spec_l5Any.calls k g319 t316 t317 t318 t320 t323 t324 w _ ?_ ?_ A3.out).mono ?_); exact sI1380 HI319.out; exact sB1 HB.out (IsS138.ge HI319.out); rintro e w5 ⟨v321, rfl, ho0, hi, hb, hk⟩; refine ⟨_, rfl, ?_⟩; have n0_ := Aside0.mk (Kd.R_lower ho0 (below_size (by exact sB1 HB.out (IsS138.ge HI319.out)))); have n1_ := Aside0.mk (hb); have n2_ := Aside0.mk (hi); clear HB; clear HI319; have HO322 := n0_; have HB := n1_; have HI319 := n2_; clear n0_ n1_ n2_; (try clear hb); (try clear hk); (try clear hi); (try clear ho0)))
 go_ret
 exact ⟨_, rA, rK HO322, by exact sB1 HB.out (IsS138.ge HI319.out)⟩

/-! ### spec_DrawPlanFor: function 69 -/
def spec_DrawPlanFor.f (k : Nat) (l0 : List Int) : Option ((List (S50))) := (spec_DrawArePaths.f k l0).bind fun t325 => (some t325)
theorem spec_DrawPlanFor.mono : ∀ a0 k, LeO (spec_DrawPlanFor.f k a0) (spec_DrawPlanFor.f (k + 1) a0) := by
 intro a0 k
 unfold spec_DrawPlanFor.f
 exact mz1 spec_DrawArePaths.mono
set_option maxHeartbeats 8000000 in
set_option maxRecDepth 100000 in
theorem spec_DrawPlanFor.calls (k : Nat) (A0 : Option Addr) (c0 : Nat) (l0 : List Int) (r : List (S50)) (w : World) (hr0 : Kd.C (Kd.int .u8) w A0 l0.length l0) (hc0 : l0.length ≤ c0) (h : spec_DrawPlanFor.f k l0 = some r) :
  Calls Try.prog 69 #[.slice A0 l0.length c0] w fun e w' => ∃ v0_ : Value, e = .returned (v0_) ∧ Kd.R k50 50 w' w.heap.size (fun _ => True) v0_ r ∧ Below w.heap.size w w' := by
 have HR0 := Aside0.mk hr0
 have HC0 := Aside0.mk hc0
 clear hr0 hc0
 have HB := Aside0.mk (Below.refl w.heap.size w)
 have H : ((spec_DrawArePaths.f k l0).bind fun t325 => (some t325)) = some r := h
 clear h
 obtain ⟨t325, A2, H⟩ := bindE H
 try dsimp only at H
 obtain rfl := Option.some.inj H
 go_enter Try.func69, Try.ntmps69
 go_wp2_with (first | ((with_reducible refine gate_callee (f := 117) rfl ?_); refine gL (some 4) Try.func117 #[.slice A0 l0.length c0] ?_; (with_reducible refine (spec_DrawArePaths.calls k _ _ l0 t325 _ ?_ ?_ A2.out).mono ?_); exact cO HR0; exact HC0.out; rintro e w3 ⟨v326, rfl, ho0, hb⟩; refine ⟨_, rfl, ?_⟩; have HO327 := rl w ho0; replace HB := bs HB hb; (try clear hb); (try clear ho0)))
 go_ret
 exact ⟨_, rA, rK HO327, bA⟩

/-! ### slices_Clone_int_int: function 100 -/
def slices_Clone_int_int.f (l0 : List Int) : Option (List Int) := if l0.length < 17592186044416 then some l0 else none
theorem slices_Clone_int_int.eq0 {P : Program} (w : World) (d : Nat) (t e : TypeId) (a : Option Addr) (n c n' c' : Nat) (h : P.underlying t = some (.slice e)) : (Op.equalIn (d + 1) t (.slice a n c) (.slice none n' c')).run P w = .ok a.isNone w := by
 cases a <;> simp [Op.equalIn, run_underlying h]
theorem slices_Clone_int_int.eq1 {P : Program} (w : World) (t e : TypeId) (a : Option Addr) (n c n' c' : Nat) (h : P.underlying t = some (.slice e)) : (binOp .eql t (.slice a n c) (.slice none n' c')).run P w = .ok (.bool a.isNone) w := by
 simp only [binOp]
 simp [Op.equal, Op.maxDepth, slices_Clone_int_int.eq0 w 9999 t e a n c n' c' h]
set_option maxHeartbeats 4000000 in
set_option maxRecDepth 100000 in
theorem slices_Clone_int_int.calls (A0 : Option Addr) (c0 : Nat) (l0 : List Int) (r : List Int) (w : World) (hr0 : Kd.C (Kd.int .i64) w A0 l0.length l0) (hc0 : l0.length ≤ c0) (h : slices_Clone_int_int.f l0 = some r) :
  Calls Try.prog 100 #[.slice A0 l0.length c0] w fun e w' => ∃ v0_ : Value, e = .returned (v0_) ∧ Kd.R (Kd.int .i64) 3 w' w.heap.size (fun _ => True) v0_ r ∧ Below w.heap.size w w' := by
 unfold slices_Clone_int_int.f at h
 have hlim := ifN h
 replace h := ifT h
 obtain rfl := Option.some.inj h
 have HL := Aside0.mk hlim
 have HR0 := Aside0.mk hr0
 have HC0 := Aside0.mk hc0
 clear hr0 hc0 h hlim
 have q_ : ∀ (w : World) (a : Option Addr) (n c n' c' : Nat), (binOp .eql 35 (.slice a n c) (.slice none n' c')).run Try.prog w = .ok (.bool a.isNone) w := fun w a n c n' c' => slices_Clone_int_int.eq1 w _ _ a n c n' c' Try.underlying35
 cases A0 with
 | none =>
  have hl0 : l0 = [] := by
   rcases Nat.eq_zero_or_pos l0.length with h0 | h0
   ·
    exact List.eq_nil_of_length_eq_zero h0
   ·
    obtain ⟨ad, ha, _⟩ := HR0.out.2.2 h0
    cases ha
  subst hl0
  go_enter Try.func100, Try.ntmps100
  go_wp2
  go_ret
  exact ⟨_, rfl, Kd.R_nil _ _ _ _ _, Below.refl _ _⟩
 | some ad =>
  go_enter Try.func100, Try.ntmps100
  go_wp2_with (first
   | ((with_reducible refine gate_dst (N := 5) rfl ?_); refine Kd.R_lit (Kd.int .i64) _ 3 ?hg (N := 5) ?hd (xs := ([] : List Int)) (inner := []) (ok := fun _ => True) (okp := fun _ => True) ?hr ?hp (fun _ hk => hk) trivial (Below.refl w.heap.size w) (Nat.le_refl _) (by simp) ?_; (case hd => rfl); (case hg => rfl); (case hr => first | (go_simp; done) | (go_simp; rfl)); (case hp => exact (Reps.none _ _)); intro v304 w3 ho4 hb hg_ hnew_; have HO := Aside0.mk ho4; have HB := Aside0.mk hb; clear ho4 hb hg_ hnew_)
   | ((with_reducible refine gate_builtin (b := .append) (xs := #[.tmp 5, .tmp 6]) rfl ?_); at_builtin; refine Kd.R_append_rows (Kd.int .i64) (w0 := w) w.heap.size rfl (.tmp 5) (.tmp 6) 35 3 (.int .i64 0) 8 rfl Try.underlying35 info3 rfl (by decide) (by omega) v304 ([] : List Int) l0 _ _ _ (fun _ => True) (fun _ => False) rfl rfl ?aO ?aR (fun _ _ h => h) (fun _ h => h.elim) ?aF ?aB ?aS ?aL ?_; (case aR => exact Kd.C_below HR0.out HB.out); (case aB => exact HB.out); (case aF => exact (fun _ _ => trivial)); (case aO => exact HO.out); (case aS => exact HB.out.size); (case aL => have := HL.out; simp; omega); intro v1 w9 ho hb hg hat; rw [List.nil_append] at ho; have HO1 := Aside0.mk ho; have HB1 := Aside0.mk hb; clear ho hb hg hat))
  go_ret
  exact ⟨_, rfl, HO1.out, HB1.out⟩

/-! ### cmp_isNaN_int: function 180 -/
def cmp_isNaN_int.f (a0 : Int) : Option (Bool) := some (a0 != a0)
set_option maxHeartbeats 8000000 in
set_option maxRecDepth 100000 in
theorem cmp_isNaN_int.calls (a0 : Int) (r : Bool) (w : World) (h : cmp_isNaN_int.f a0 = some r) :
  Calls Try.prog 180 #[.int .i64 a0] w fun e w' => e = .returned (.bool r) ∧ Drawn0 w w' := by
 have H : (some (a0 != a0)) = some r := h
 clear h
 obtain rfl := Option.some.inj H
 go_enter Try.func180, Try.ntmps180
 go_wp2
 go_ret
 exact ⟨rS, dD⟩

/-! ### cmp_Less_int: function 159 -/
def cmp_Less_int.f (a0 : Int) (a1 : Int) : Option (Bool) := (cmp_isNaN_int.f a0).bind fun t328 => (if t328 = true then ((cmp_isNaN_int.f a1).bind fun t329 => (if t329 = true then (some (decide (a0 < a1))) else (some true))) else (some (decide (a0 < a1))))
set_option maxHeartbeats 8000000 in
set_option maxRecDepth 100000 in
theorem cmp_Less_int.calls (a0 : Int) (a1 : Int) (r : Bool) (w : World) (h : cmp_Less_int.f a0 a1 = some r) :
  Calls Try.prog 159 #[.int .i64 a0, .int .i64 a1] w fun e w' => e = .returned (.bool r) ∧ Drawn0 w w' := by
 have H : ((cmp_isNaN_int.f a0).bind fun t328 => (if t328 = true then ((cmp_isNaN_int.f a1).bind fun t329 => (if t329 = true then (some (decide (a0 < a1))) else (some true))) else (some (decide (a0 < a1))))) = some r := h
 clear h
 obtain ⟨t328, A3, H⟩ := bindE H
 try dsimp only at H
 by_cases c4 : t328 = true
 ·
  subst c4
  have H1 : ((cmp_isNaN_int.f a1).bind fun t329 => (if t329 = true then (some (decide (a0 < a1))) else (some true))) = some r := by rw [if_pos rfl] at H; exact H
  clear H
  have H := H1
  clear H1
  obtain ⟨t329, A5, H⟩ := bindE H
  try dsimp only at H
  by_cases c6 : t329 = true
  ·
   subst c6
   have H1 : (some (decide (a0 < a1))) = some r := by rw [if_pos rfl] at H; exact H
   clear H
   have H := H1
   clear H1
   obtain rfl := Option.some.inj H
   go_enter Try.func159, Try.ntmps159
   go_wp2_with (first | ((with_reducible refine gate_callee (f := 180) rfl ?_); refine gL (some 6) Try.func180 #[.int .i64 a0] ?_; (with_reducible refine (cmp_isNaN_int.calls a0 true _ A3.out).mono ?_); rintro e w' ⟨rfl, ⟨nd, rfl⟩⟩; refine ⟨_, rfl, ?_⟩) | (go_at_call 180; (with_reducible refine (cmp_isNaN_int.calls a1 true _ A5.out).mono ?_); rintro e w' ⟨rfl, ⟨nd, rfl⟩⟩))
   go_ret
   exact ⟨rS, dD⟩
  replace c6 := Bool.eq_false_iff.mpr c6
  subst c6
  have H1 : (some true) = some r := by rw [if_neg (show ¬ (false = true) by decide)] at H; exact H
  clear H
  have H := H1
  clear H1
  obtain rfl := Option.some.inj H
  go_enter Try.func159, Try.ntmps159
  go_wp2_with (first | ((with_reducible refine gate_callee (f := 180) rfl ?_); refine gL (some 6) Try.func180 #[.int .i64 a0] ?_; (with_reducible refine (cmp_isNaN_int.calls a0 true _ A3.out).mono ?_); rintro e w' ⟨rfl, ⟨nd, rfl⟩⟩; refine ⟨_, rfl, ?_⟩) | (go_at_call 180; (with_reducible refine (cmp_isNaN_int.calls a1 false _ A5.out).mono ?_); rintro e w' ⟨rfl, ⟨nd, rfl⟩⟩))
  go_ret
  exact ⟨rS, dD⟩
 replace c4 := Bool.eq_false_iff.mpr c4
 subst c4
 have H1 : (some (decide (a0 < a1))) = some r := by rw [if_neg (show ¬ (false = true) by decide)] at H; exact H
 clear H
 have H := H1
 clear H1
 obtain rfl := Option.some.inj H
 go_enter Try.func159, Try.ntmps159
 go_wp2_with (first | ((with_reducible refine gate_callee (f := 180) rfl ?_); refine gL (some 6) Try.func180 #[.int .i64 a0] ?_; (with_reducible refine (cmp_isNaN_int.calls a0 false _ A3.out).mono ?_); rintro e w' ⟨rfl, ⟨nd, rfl⟩⟩; refine ⟨_, rfl, ?_⟩))
 go_ret
 exact ⟨rS, dD⟩

/-! ### slices_isNaN_int: function 195 -/
def slices_isNaN_int.f (a0 : Int) : Option (Bool) := some (a0 != a0)
set_option maxHeartbeats 8000000 in
set_option maxRecDepth 100000 in
theorem slices_isNaN_int.calls (a0 : Int) (r : Bool) (w : World) (h : slices_isNaN_int.f a0 = some r) :
  Calls Try.prog 195 #[.int .i64 a0] w fun e w' => e = .returned (.bool r) ∧ Drawn0 w w' := by
 have H : (some (a0 != a0)) = some r := h
 clear h
 obtain rfl := Option.some.inj H
 go_enter Try.func195, Try.ntmps195
 go_wp2
 go_ret
 exact ⟨rS, dD⟩

/-! ### slices_BinarySearch_int_int: function 186 -/
def slices_BinarySearch_int_int.l0 : Nat → List Int → Int → Int → Int → Int → Option (Int × Bool)
 | 0, _, _, _, _, _ => none
 | k + 1, x0, x1, x6, x7, x8 => if x7 < x8 then (if 0 ≤ (wrap64 ((IntKind.u64.wrap (wrap64 (x7 + x8))) / 2)) then (if (wrap64 ((IntKind.u64.wrap (wrap64 (x7 + x8))) / 2)) < (x0.length : Int) then ((cmp_Less_int.f (rd x0 (wrap64 ((IntKind.u64.wrap (wrap64 (x7 + x8))) / 2))) x1).bind fun t331 => (if t331 = true then (slices_BinarySearch_int_int.l0 k x0 x1 x6 (wrap64 ((wrap64 ((IntKind.u64.wrap (wrap64 (x7 + x8))) / 2)) + 1)) x8) else (slices_BinarySearch_int_int.l0 k x0 x1 x6 x7 (wrap64 ((IntKind.u64.wrap (wrap64 (x7 + x8))) / 2))))) else (none)) else (none)) else (if x7 < x6 then (if 0 ≤ x7 then (if x7 < (x0.length : Int) then (if (rd x0 x7) = x1 then (some (x7, true)) else ((slices_isNaN_int.f (rd x0 x7)).bind fun t334 => (if t334 = true then ((slices_isNaN_int.f x1).bind fun t335 => (some (x7, t335))) else (some (x7, false))))) else (none)) else (none)) else (some (x7, false)))
def slices_BinarySearch_int_int.f (k : Nat) (l0 : List Int) (a1 : Int) : Option (Int × Bool) := slices_BinarySearch_int_int.l0 k l0 a1 (l0.length : Int) 0 (l0.length : Int)
theorem slices_BinarySearch_int_int.mono_l : ∀ k, (∀ y0 y1 y2 y3 y4, LeO (slices_BinarySearch_int_int.l0 k y0 y1 y2 y3 y4) (slices_BinarySearch_int_int.l0 (k + 1) y0 y1 y2 y3 y4))
 | 0 => fun _ _ _ _ _ r h => by simp [slices_BinarySearch_int_int.l0] at h
 | k + 1 => by
  have ih0 := slices_BinarySearch_int_int.mono_l k
  ·
   intro y0 y1 y2 y3 y4
   unfold slices_BinarySearch_int_int.l0
   exact mz1 ih0
theorem slices_BinarySearch_int_int.mono : ∀ a0 a1 k, LeO (slices_BinarySearch_int_int.f k a0 a1) (slices_BinarySearch_int_int.f (k + 1) a0 a1) := by
 intro a0 a1 k
 have ih0 := slices_BinarySearch_int_int.mono_l k
 unfold slices_BinarySearch_int_int.f
 exact mz1 ih0
set_option maxHeartbeats 8000000 in
set_option maxRecDepth 100000 in
theorem slices_BinarySearch_int_int.calls (k : Nat) (A0 : Option Addr) (c0 : Nat) (l0 : List Int) (a1 : Int) (r1 : Int) (r2 : Bool) (w : World) (hr0 : Kd.C (Kd.int .i64) w A0 l0.length l0) (hc0 : l0.length ≤ c0) (h : slices_BinarySearch_int_int.f k l0 a1 = some (r1, r2)) :
  Calls Try.prog 186 #[.slice A0 l0.length c0, .int .i64 a1] w fun e w' => e = .returned (.tuple #[.int .i64 r1, .bool r2]) ∧ Drawn0 w w' := by
 have HR0 := Aside0.mk hr0
 have HC0 := Aside0.mk hc0
 clear hr0 hc0
 have H : (slices_BinarySearch_int_int.l0 k l0 a1 (l0.length : Int) 0 (l0.length : Int)) = some (r1, r2) := h
 clear h
 have H' := Aside0.mk H
 clear H
 go_enter Try.func186, Try.ntmps186
 go_wp2
 go_loopg [7, 8] k (fun kq v7 v8 w' => ∃ (x7_1 : Int) (x8_1 : Int), v7 = .int .i64 x7_1 ∧ v8 = .int .i64 x8_1 ∧ Aside0 (slices_BinarySearch_int_int.l0 kq l0 a1 (l0.length : Int) x7_1 x8_1 = some (r1, r2)) ∧ Aside0 (kq ≤ k) ∧ Drawn0 w w')
 case atStart => exact ⟨(0), ((l0.length : Int)), rS, rS, H', ⟨Nat.le_refl _⟩, by repeat (first | exact Drawn0.refl _ | apply Drawn0.step)⟩
 case round =>
  clear H'
  obtain ⟨x7_1, x8_1, rfl, rfl, HA, HK1, ⟨m1, rfl⟩⟩ := hrel
  cases gk with
  | zero => exact absurd HA.out (by simp [slices_BinarySearch_int_int.l0])
  | succ k1 =>
   have H := HA.out
   clear HA
   simp only [slices_BinarySearch_int_int.l0] at H
   by_cases c3 : x7_1 < x8_1
   ·
    rw [if_pos c3] at H
    have c3b0 := decide_eq_true c3
    clear c3
    obtain ⟨ji4, hji4⟩ : ∃ j_ : Int, (wrap64 ((IntKind.u64.wrap (wrap64 (x7_1 + x8_1))) / 2)) = j_ := ⟨_, rfl⟩
    replace H : (if 0 ≤ (ji4) then (if (ji4) < (l0.length : Int) then ((cmp_Less_int.f (rd l0 (ji4)) a1).bind fun t331 => (if t331 = true then (slices_BinarySearch_int_int.l0 k1 l0 a1 (l0.length : Int) (wrap64 ((ji4) + 1)) x8_1) else (slices_BinarySearch_int_int.l0 k1 l0 a1 (l0.length : Int) x7_1 ji4))) else (none)) else (none)) = some (r1, r2) := by first | (rw [hji4] at H; exact H) | (simp only [hji4] at H ⊢; exact H)
    have hji4w : (IntKind.i64.wrap ((IntKind.u64.wrap (wrap64 (x7_1 + x8_1))) / 2)) = ji4 := (i64_w _).trans hji4
    have c5 : 0 ≤ (ji4) := ifN H
    replace H := ifT H
    have c5b0 := decide_eq_true c5
    clear c5
    have c6 : (ji4) < (l0.length : Int) := ifN H
    replace H := ifT H
    have c6b0 := decide_eq_true c6
    clear c6
    obtain ⟨t331, A7, H⟩ := bindE H
    try dsimp only at H
    by_cases c8 : t331 = true
    ·
     subst c8
     have H1 : (slices_BinarySearch_int_int.l0 k1 l0 a1 (l0.length : Int) (wrap64 ((ji4) + 1)) x8_1) = some (r1, r2) := by rw [if_pos rfl] at H; exact H
     clear H
     have H := H1
     clear H1
     have H' := Aside0.mk H
     clear H
     obtain ⟨p330, q330⟩ : 0 ≤ ((ji4) : Int) ∧ (ji4) < (l0.length : Int) := ⟨dA, dA⟩
     obtain ⟨ad330, e330, hx330_0⟩ := Kd.at_int HR0.out (ji4) p330 q330
     cases e330
     obtain ⟨p330, q330⟩ := eT p330 q330
     go_wp2_with (first | ((with_reducible refine gate_callee (f := 159) rfl ?_); refine goesL_ (some 27) rfl rfl Try.func159 (by kernel_rfl) rfl #[.int .i64 (rd l0 (ji4)), .int .i64 a1] rfl (by (try simp only [List.map_toArray, List.map_cons, List.map_nil]); first | done | (simp only [hji4]; rfl) | rfl | (simp only [List.length_drop, List.length_take]; rfl)) ?_; (with_reducible refine (cmp_Less_int.calls (rd l0 (ji4)) a1 true _ A7.out).mono ?_); rintro e w' ⟨rfl, ⟨nd, rfl⟩⟩; refine ⟨_, rfl, ?_⟩))
     go_roundg k1
     case measure => have := HK1.out; omega
     case rel => exact ⟨(wrap64 ((ji4) + 1)), (x8_1), (by first | rfl | (simp; done) | (simp only [← hji4] <;> (first | rfl | simp)) | (simp [*]; done)), rS, H', ⟨by have := HK1.out; omega⟩, by repeat (first | exact Drawn0.refl _ | apply Drawn0.step)⟩
    replace c8 := Bool.eq_false_iff.mpr c8
    subst c8
    have H1 : (slices_BinarySearch_int_int.l0 k1 l0 a1 (l0.length : Int) x7_1 ji4) = some (r1, r2) := by rw [if_neg (show ¬ (false = true) by decide)] at H; exact H
    clear H
    have H := H1
    clear H1
    have H' := Aside0.mk H
    clear H
    obtain ⟨p330, q330⟩ : 0 ≤ ((ji4) : Int) ∧ (ji4) < (l0.length : Int) := ⟨dA, dA⟩
    obtain ⟨ad330, e330, hx330_0⟩ := Kd.at_int HR0.out (ji4) p330 q330
    cases e330
    obtain ⟨p330, q330⟩ := eT p330 q330
    go_wp2_with (first | ((with_reducible refine gate_callee (f := 159) rfl ?_); refine goesL_ (some 27) rfl rfl Try.func159 (by kernel_rfl) rfl #[.int .i64 (rd l0 (ji4)), .int .i64 a1] rfl (by (try simp only [List.map_toArray, List.map_cons, List.map_nil]); first | done | (simp only [hji4]; rfl) | rfl | (simp only [List.length_drop, List.length_take]; rfl)) ?_; (with_reducible refine (cmp_Less_int.calls (rd l0 (ji4)) a1 false _ A7.out).mono ?_); rintro e w' ⟨rfl, ⟨nd, rfl⟩⟩; refine ⟨_, rfl, ?_⟩))
    go_roundg k1
    case measure => have := HK1.out; omega
    case rel => exact ⟨(x7_1), (ji4), rS, (by first | rfl | (simp; done) | (simp only [← hji4] <;> (first | rfl | simp)) | (simp [*]; done)), H', ⟨by have := HK1.out; omega⟩, by repeat (first | exact Drawn0.refl _ | apply Drawn0.step)⟩
   rw [if_neg c3] at H
   have c3b0 := decide_eq_false c3
   clear c3
   by_cases c9 : x7_1 < (l0.length : Int)
   ·
    rw [if_pos c9] at H
    have c9b0 := decide_eq_true c9
    clear c9
    have c10 : 0 ≤ x7_1 := ifN H
    replace H := ifT H
    have c10b0 := decide_eq_true c10
    clear c10
    have c11 : x7_1 < (l0.length : Int) := ifN H
    replace H := ifT H
    have c11b0 := decide_eq_true c11
    clear c11
    by_cases c12 : (rd l0 x7_1) = a1
    ·
     rw [if_pos c12] at H
     have c12b0 : ((rd l0 x7_1) == a1) = true := beq_iff_eq.mpr c12
     have c12b1 : ((rd l0 x7_1) != a1) = false := bne_eq_false_iff_eq.mpr c12
     clear c12
     simp only [Option.some.injEq, Prod.mk.injEq] at H
     obtain ⟨rfl, rfl⟩ := H
     obtain ⟨p332, q332⟩ : 0 ≤ (x7_1 : Int) ∧ x7_1 < (l0.length : Int) := ⟨dA, dA⟩
     obtain ⟨ad332, e332, hx332_0⟩ := Kd.at_int HR0.out x7_1 p332 q332
     cases e332
     obtain ⟨p332, q332⟩ := eT p332 q332
     go_wp2
     go_ret2
     exact ⟨rS, dD⟩
    rw [if_neg c12] at H
    have c12b0 : ((rd l0 x7_1) == a1) = false := beq_eq_false_iff_ne.mpr c12
    have c12b1 : ((rd l0 x7_1) != a1) = true := bne_iff_ne.mpr c12
    obtain ⟨t334, A13, H⟩ := bindE H
    try dsimp only at H
    by_cases c14 : t334 = true
    ·
     subst c14
     have H1 : ((slices_isNaN_int.f a1).bind fun t335 => (some (x7_1, t335))) = some (r1, r2) := by rw [if_pos rfl] at H; exact H
     clear H
     have H := H1
     clear H1
     obtain ⟨t335, A15, H⟩ := bindE H
     try dsimp only at H
     simp only [Option.some.injEq, Prod.mk.injEq] at H
     obtain ⟨rfl, rfl⟩ := H
     obtain ⟨p332, q332⟩ : 0 ≤ (x7_1 : Int) ∧ x7_1 < (l0.length : Int) := ⟨dA, dA⟩
     obtain ⟨ad332, e332, hx332_0⟩ := Kd.at_int HR0.out x7_1 p332 q332
     cases e332
     obtain ⟨p332, q332⟩ := eT p332 q332
     obtain ⟨p333, q333⟩ : 0 ≤ (x7_1 : Int) ∧ x7_1 < (l0.length : Int) := ⟨dA, dA⟩
     obtain ⟨ad333, e333, hx333_0⟩ := Kd.at_int HR0.out x7_1 p333 q333
     obtain rfl : ad332 = ad333 := (by injection e333)
     obtain ⟨p333, q333⟩ := eT p333 q333
     go_wp2_with (first | (go_at_call 195; (with_reducible refine (slices_isNaN_int.calls (rd l0 x7_1) true _ A13.out).mono ?_); rintro e w' ⟨rfl, ⟨nd, rfl⟩⟩) | (go_at_call 195; (with_reducible refine (slices_isNaN_int.calls a1 t335 _ A15.out).mono ?_); rintro e w' ⟨rfl, ⟨nd, rfl⟩⟩))
     go_ret2
     exact ⟨rS, dD⟩
    replace c14 := Bool.eq_false_iff.mpr c14
    subst c14
    have H1 : (some (x7_1, false)) = some (r1, r2) := by rw [if_neg (show ¬ (false = true) by decide)] at H; exact H
    clear H
    have H := H1
    clear H1
    simp only [Option.some.injEq, Prod.mk.injEq] at H
    obtain ⟨rfl, rfl⟩ := H
    obtain ⟨p332, q332⟩ : 0 ≤ (x7_1 : Int) ∧ x7_1 < (l0.length : Int) := ⟨dA, dA⟩
    obtain ⟨ad332, e332, hx332_0⟩ := Kd.at_int HR0.out x7_1 p332 q332
    cases e332
    obtain ⟨p332, q332⟩ := eT p332 q332
    obtain ⟨p333, q333⟩ : 0 ≤ (x7_1 : Int) ∧ x7_1 < (l0.length : Int) := ⟨dA, dA⟩
    obtain ⟨ad333, e333, hx333_0⟩ := Kd.at_int HR0.out x7_1 p333 q333
    obtain rfl : ad332 = ad333 := (by injection e333)
    obtain ⟨p333, q333⟩ := eT p333 q333
    go_wp2_with (first | (go_at_call 195; (with_reducible refine (slices_isNaN_int.calls (rd l0 x7_1) false _ A13.out).mono ?_); rintro e w' ⟨rfl, ⟨nd, rfl⟩⟩))
    go_ret2
    exact ⟨rS, dD⟩
   rw [if_neg c9] at H
   have c9b0 := decide_eq_false c9
   clear c9
   simp only [Option.some.injEq, Prod.mk.injEq] at H
   obtain ⟨rfl, rfl⟩ := H
   go_wp2
   go_ret2
   exact ⟨rS, dD⟩

/-! ### impl_inserted: function 172 -/
theorem impl_inserted.one {α : Type} {R : α → List Value → Prop} {size : Nat} {ps : List α} {cs : List Value} (h : Reps R size ps cs) (hs : 0 < size) (hR : ∀ p c, R p c → ∀ u ∈ c, u.oneCell' = true) : ∀ u ∈ cs, u.oneCell' = true := by
 intro u hu
 obtain ⟨q, hq, rfl⟩ := List.mem_iff_getElem.1 hu
 have hj : q / size < ps.length := by
  rw [Nat.div_lt_iff_lt_mul hs, ← h.1]
  exact hq
 refine hR _ _ (h.2 (q / size) _ (List.getElem?_eq_getElem hj)) _ (List.mem_iff_getElem?.2 ⟨q % size, ?_⟩)
 rw [List.getElem?_take, if_pos (Nat.mod_lt _ hs), List.getElem?_drop, Nat.mul_comm, Nat.div_add_mod, List.getElem?_eq_getElem hq]
theorem impl_inserted.cp {P : Program} (w : World) (t ty e : TypeId) (sz b o dLen dCap : Nat) (a : Addr) (sLen sCap q : Nat) (cs : List Value)
  (hu : P.underlying t = some (.slice e)) (hs : (P.info? e).map (·.size) = some sz) (hq : Nat.min sLen dLen = q) (hn : cs.length = q * sz)
  (hsrc : ∀ j v, cs[j]? = some v → w.cell? (a.add j) = some v) (hc : ∀ j, j < cs.length → (w.cell? ⟨b, o + j, none⟩).isSome = true) (hf : ∀ j, j < cs.length → w.frozen? ⟨b, o + j, none⟩ = false) (h1 : ∀ v ∈ cs, v.oneCell' = true) :
  (Builtin.copy_ #[t, t] ty #[.slice (some ⟨b, o, none⟩) dLen dCap, .slice (some a) sLen sCap]).run P w = .ok (goInt q) (w.setCells b o cs) := by
 have hst := run_storeCells_cells (P := P) b o cs 0 w (by simpa using hc) (by simpa using hf) h1
 simp only [Nat.add_zero] at hst
 cases hi : P.info? e with
 | none => simp [hi] at hs
 | some i =>
  have hz : i.size = sz := by simpa [hi] using hs
  subst hz
  have hfc := run_firstCells_some (P := P) w i.size q a sLen sCap cs hn hsrc
  simp [Builtin.copy_, run_underlying hu, Builtin.lenOf, sizeOf, typeInfo, hi, hq, hfc, hst]
theorem impl_inserted.az {P : Program} (w : World) (t ti ty e : TypeId) (i : TypeInfo) (z : Value) (size bytes : Nat) (ht : P.underlying t = some (.slice e)) {k : IntKind} (hti : P.underlying ti = some (.int k)) (hi : P.info? e = some i) (hz : i.zero = some z)
  (hsize : i.size = size) (hby : i.bytes = bytes) (hzs : z.cells.size = size) (hsz : 0 < size) (hb0 : 0 < bytes)
  (A : Addr) (n cap : Nat) (xs : List Value) (hxl : xs.length = n * size) (hxc : ∀ j u, xs[j]? = some u → w.cell? (A.add j) = some u) (kx : IntKind) (m : Nat) (hm : ¬ m = 0) (hcap : cap < n + m)
  (hbytes : (n + m) * bytes ≤ 140737488355328) :
  ∃ C cells, (Builtin.append_ #[t, ti] ty #[.slice (some A) n cap, .int kx m]).run P w = .ok (.slice (some ⟨w.heap.size, 0, none⟩) (n + m) C) (w.drew.alloc (.cells cells e)) ∧ n + m ≤ C ∧ C ≤ maxLen ∧ cells.size = C * size ∧ cells.toList.take (n * size) = xs := by
 subst hsize
 subst hby
 have hle : n + m ≤ 140737488355328 := Nat.le_trans (Nat.le_mul_of_pos_right _ hb0) hbytes
 have h63 : n + m ≤ maxLen := by simp only [maxLen]; omega
 have hw : IntKind.i64.wrap (m : Int) = m := by rw [IntKind.wrap_i64]; omega
 have hneg : ¬ ((m : Int) < 0) := by omega
 have hmb : m * i.bytes ≤ 140737488355328 := Nat.le_trans (Nat.mul_le_mul_right _ (Nat.le_add_left m n)) hbytes
 have hbig : ¬ (281474976710656 < (m : Int) * (i.bytes : Int)) := by
  rw [← Int.natCast_mul]
  omega
 have hsn : i.size ≠ 0 := by omega
 obtain ⟨news, hnews⟩ : ∃ news, news = (Builtin.zeroCells z.cells m).toList := ⟨_, rfl⟩
 have hl : news.length = m * i.size := by rw [hnews, Array.length_toList, size_zeroCells, hzs]
 have hna : Builtin.zeroCells z.cells m = news.toArray := by rw [hnews]
 have hge := grownCap_ge w (n + m) cap e
 have hcm : grownCap w (n + m) cap e ≤ maxLen := grownCap_le_maxLen w (n + m) cap e h63
 have hfo : (Builtin.firstCells i.size n (.slice (some A) n cap)).run P w.drew = .ok xs.toArray w.drew := run_firstCells_some (P := P) w.drew i.size n _ n cap xs hxl (by simpa using hxc)
 have runs : (Builtin.append_ #[t, ti] ty #[.slice (some A) n cap, .int kx m]).run P w =
   .ok (.slice (some ⟨w.heap.size, 0, none⟩) (n + m) (grownCap w (n + m) cap e)) (w.drew.alloc (.cells (xs.toArray ++ news.toArray ++ Builtin.zeroCells z.cells (grownCap w (n + m) cap e - (n + m))) e)) := by
  have hn : ¬ (n + m ≤ cap) := by omega
  have h63' : ¬ (9223372036854775807 < ((n : Int) + (m : Int))) := by omega
  have hfit := growslice_fits hcap hbytes
  have h48' : ¬ (281474976710656 < Builtin.nextslicecap (n + m) cap * i.bytes) := by omega
  have hmz : ¬ (m * i.size = 0) := Nat.mul_ne_zero hm hsn
  simp [Builtin.append_, run_underlying ht, run_underlying hti, sizeOf, typeInfo, zeroValue, hi, hz, asInt, asIntOf, hw, hneg, hbig, hn, h63', h48', Question.forced, hfo, newRow, grownCap, hmz, hna]
  congr 2
  apply Array.ext'
  simp [List.append_assoc]
 refine ⟨_, _, runs, hge, hcm, ?_, ?_⟩
 ·
  simp only [Array.size_append, List.size_toArray, size_zeroCells, hzs, hxl, hl, ← Nat.add_mul]
  congr 1
  omega
 ·
  simp only [Array.toList_append, List.append_assoc]
  rw [← hxl]
  exact List.take_left
theorem impl_inserted.two {e g : Nat} (w w1 : World) (cur : Array Value) (cs rest : List Value) (o : Nat) (h : w.heap[g]? = some (.cells cur e (0, 0))) (hw1 : w1.heap[g]? = (w.setCells g o cs).heap[g]?) (hl : o + cs.length + rest.length ≤ cur.size) :
  ∃ cur', (w1.setCells g (o + cs.length) rest).heap[g]? = some (.cells cur' e (0, 0)) ∧ cur'.size = cur.size ∧ cur'.toList.take (o + cs.length + rest.length) = cur.toList.take o ++ cs ++ rest := by
 obtain ⟨c1, h1, h2, h3⟩ := setCells_row cs o w cur h (by omega)
 obtain ⟨c2, h4, h5, h6⟩ := setCells_row rest (o + cs.length) w1 c1 (hw1.trans h1) (by omega)
 have hlen : (cur.toList.take o).length = o := by rw [List.length_take, Array.length_toList]; omega
 refine ⟨c2, h4, by omega, ?_⟩
 rw [h6, h3]
 have ha : (cur.toList.take o ++ cs ++ cur.toList.drop (o + cs.length)).take (o + cs.length) = cur.toList.take o ++ cs := List.take_left' (by rw [List.length_append, hlen])
 rw [ha]
 exact List.take_left' (by rw [List.length_append, List.length_append, hlen])
theorem impl_inserted.two' {e g : Nat} (w : World) (cur : Array Value) (cs rest : List Value) (o : Nat) (h : w.heap[g]? = some (.cells cur e (0, 0))) (hl : o + cs.length + rest.length ≤ cur.size) :
  ∃ cur', ((w.setCells g (o + cs.length) rest).setCells g o cs).heap[g]? = some (.cells cur' e (0, 0)) ∧ cur'.size = cur.size ∧ cur'.toList.take (o + cs.length + rest.length) = cur.toList.take o ++ cs ++ rest := by
 obtain ⟨c1, h1, h2, h3⟩ := setCells_row rest (o + cs.length) w cur h (by omega)
 obtain ⟨c2, h4, h5, h6⟩ := setCells_row cs o (w.setCells g (o + cs.length) rest) c1 h1 (by omega)
 have hlen : (cur.toList.take o).length = o := by rw [List.length_take, Array.length_toList]; omega
 have hlen2 : (cur.toList.take (o + cs.length)).length = o + cs.length := by rw [List.length_take, show cur.toList.length = cur.size from Array.length_toList]; omega
 refine ⟨c2, h4, by omega, ?_⟩
 rw [h6, h3]
 have ha : (cur.toList.take (o + cs.length) ++ rest ++ cur.toList.drop (o + cs.length + rest.length)).take o = cur.toList.take o := by
  rw [List.append_assoc, List.take_append_of_le_length (by omega), List.take_take, Nat.min_eq_left (by omega)]
 have hb : (cur.toList.take (o + cs.length) ++ rest ++ cur.toList.drop (o + cs.length + rest.length)).drop (o + cs.length) = rest ++ cur.toList.drop (o + cs.length + rest.length) := by
  rw [List.append_assoc]
  exact List.drop_left' hlen2
 rw [ha, hb, ← List.append_assoc]
 exact List.take_left' (by rw [List.length_append, List.length_append, hlen])
theorem impl_inserted.mk {α : Type} (d : Kd α) (e : Nat) (w' : World) (base g C k : Nat) (cur : Array Value) (xs : List α) (x : α) (inner cs : List Value)
  (hr : Reps (d.M w' base (fun k => True ∧ some k ≠ some g)) d.sz xs inner) (hx : d.M w' base (fun k => True ∧ some k ≠ some g) x cs) (hk : k ≤ xs.length) (hb : base ≤ g) (hg : w'.heap[g]? = some (.cells cur e (0, 0)))
  (hC : xs.length + 1 ≤ C) (hCm : C ≤ maxLen) (hcs : cur.size = C * d.sz) (ht : cur.toList.take ((xs.length + 1) * d.sz) = inner.take (k * d.sz) ++ cs ++ inner.drop (k * d.sz)) :
  d.R e w' base (fun _ => True) (.slice (some ⟨g, 0, none⟩) (xs.length + 1) C) (xs.take k ++ [x] ++ xs.drop k) := by
 have hl : (xs.take k ++ [x] ++ xs.drop k).length = xs.length + 1 := by simp; omega
 have hcl : cs.length = d.sz := d.K_len (d.K_of_M hx)
 have h1 : Reps (d.M w' base (fun k => True ∧ some k ≠ some g)) d.sz (xs.take k ++ [x] ++ xs.drop k) (inner.take (k * d.sz) ++ cs ++ inner.drop (k * d.sz)) :=
  Kd.reps_append (Reps.snoc (Kd.reps_take hr hk) hx hcl) (Kd.reps_drop hr)
 exact ⟨fun _ _ => trivial, _, ⟨h1.1, .inr ⟨g, C, cur, by rw [hl], hb, hg, by rw [hl]; exact hC, hCm, hcs, by rw [hl]; exact ht⟩⟩, h1⟩
theorem impl_inserted.wcopy {P : Program} (w : World) {ops : Array Oper} {rest : List Oper} {o : Oper} {a : Act} {Q : Exit → Act → World → Prop} (hgd : o.guard = none) (d s : Operand) (t t' : TypeId)
  (ho : o.op = .call { callee := .builtin .copy, args := #[d, s], argTypes := #[t, t'] }) (v u : Value) (hd : a.eval d = v) (hs : a.eval s = u) {v' : Value} {w' : World}
  (hr : (Builtin.copy_ #[t, t'] o.type #[v, u]).run P w = .ok v' w') (h : wpList P ops Q rest (a.put o.dst v') w') : wpList P ops Q (o :: rest) a w :=
 wpList_plain hgd fun K hK => by
  unfold Oper.wp execOp
  simp only [ho, resolve, invoke, builtin, Sem.run_bind, Sem.run_pure, Result.andThen_ok, List.map_toArray, List.map_cons, List.map_nil, hd, hs, hr]
  exact hK _ _ h
theorem impl_inserted.wapp {P : Program} (w : World) {ops : Array Oper} {rest : List Oper} {o : Oper} {a : Act} {Q : Exit → Act → World → Prop} (hgd : o.guard = none) (d s : Operand) (t t' : TypeId)
  (ho : o.op = .call { callee := .builtin .append, args := #[d, s], argTypes := #[t, t'] }) (v u : Value) (hd : a.eval d = v) (hs : a.eval s = u) {v' : Value} {w' : World}
  (hr : (Builtin.append_ #[t, t'] o.type #[v, u]).run P w = .ok v' w') (h : wpList P ops Q rest (a.put o.dst v') w') : wpList P ops Q (o :: rest) a w :=
 wpList_plain hgd fun K hK => by
  unfold Oper.wp execOp
  simp only [ho, resolve, invoke, builtin, Sem.run_bind, Sem.run_pure, Result.andThen_ok, List.map_toArray, List.map_cons, List.map_nil, hd, hs, hr]
  exact hK _ _ h
theorem impl_inserted.scopy {P : Program} {ops : Array Oper} {o : Oper} {a : Act} {w : World} {K : Act → World → Prop} {Q : Exit → Act → World → Prop} {E : Prop}
  (hg : o.guard = none) (d x : Operand) (dT sT : TypeId) (hop : o.op = Op.call { callee := Callee.builtin Builtin.copy, args := #[d, x], argTypes := #[dT, sT] })
  (v u : Value) (hd : a.eval d = v) (hx : a.eval x = u) {v' : Value} {w' : World} (hr : (Builtin.copy_ #[dT, sT] o.type #[v, u]).run P w = .ok v' w') (hK : K (a.put o.dst v') w') :
  if Region.wanted o (yielded ops a.tmps) = true then Oper.wp P o a w K Q else E := by
 have hw : Region.wanted o (yielded ops a.tmps) = true := by simp [Region.wanted, hg]
 rw [if_pos hw]
 unfold Oper.wp
 simp [execOp, hop, resolve, invoke, builtin, hd, hx, hr, Result.andThen]
 exact hK
theorem impl_inserted.flat {w w' : World} {base base' : Nat} {ok ok' : Nat → Prop} {p : Int} {cs : List Value} (h : ((Kd.int .i64)).M w base ok p cs) : ((Kd.int .i64)).M w' base' ok' p cs := h
theorem impl_inserted.end_fact (base c gv cv : Nat) (l0 : List Int) (x : Int) (ok okv : Nat → Prop) (w0 w : World) (hlim : l0.length < 8796093022208) (A : Option Addr)
  (HO : Kd.R (Kd.int .i64) 3 w base ok (.slice A l0.length c) l0) (HV : Kd.R (Kd.int .i64) 3 w base okv (.slice (some ⟨gv, 0, none⟩) 1 cv) [x]) (hb : Below base w0 w) (hbase : base ≤ w.heap.size) :
  ∃ v1 w1, (Builtin.append_ #[35, 35] 35 #[.slice A l0.length c, .slice (some ⟨gv, 0, none⟩) 1 cv]).run Try.prog w = .ok v1 w1 ∧ Kd.R (Kd.int .i64) 3 w1 base (fun _ => True) v1 (l0 ++ [x]) ∧ Below base w0 w1 := by
 obtain ⟨_, inner, hown, hr⟩ := HO
 obtain ⟨_, innv, hownv, hrv⟩ := HV
 obtain ⟨i0, hi0, hz0, hz1, hz2⟩ : ∃ i, Try.prog.info? 3 = some i ∧ i.zero = some (.int .i64 0) ∧ i.size = 1 ∧ i.bytes = 8 := by
  have h := info3
  cases hq : Try.prog.info? 3 with
  | none => rw [hq] at h; simp at h
  | some i => rw [hq] at h; simp at h; exact ⟨i, rfl, h.1, h.2.1, h.2.2⟩
 obtain ⟨v1, w1, hrun, h2, hg, _, hat⟩ := run_append_own_at (P := Try.prog) w base 35 35 3 i0 (.int .i64 0) 1 8 Try.underlying35 hi0 hz0 hz1 hz2 rfl (by decide) (.slice A l0.length c) l0.length inner hown ⟨gv, 0, none⟩ 1 cv innv (by rw [hrv.1]; rfl) (hownv.cells (g := gv) rfl) (impl_inserted.one hrv (by decide) (fun _ _ hp => ((Kd.int .i64)).K_one (((Kd.int .i64)).K_of_M hp))) (by simp only [maxLen]; omega) (by omega) hbase
 refine ⟨v1, w1, hrun, ⟨fun _ _ => trivial, inner ++ innv, by rw [List.length_append]; exact h2, Kd.reps_append (hr.imp_ (fun _ _ hp => impl_inserted.flat hp)) (hrv.imp_ (fun _ _ hp => impl_inserted.flat hp))⟩, hb.grown hg hbase (own_base hown)⟩
set_option maxHeartbeats 4000000 in
set_option maxRecDepth 100000 in
theorem impl_inserted.at_end (base c gv cv : Nat) (l0 : List Int) (x : Int) (ok okv : Nat → Prop) (w0 w : World) (hlim : l0.length < 8796093022208) (A : Option Addr)
  (HO : Kd.R (Kd.int .i64) 3 w base ok (.slice A l0.length c) l0) (HV : Kd.R (Kd.int .i64) 3 w base okv (.slice (some ⟨gv, 0, none⟩) 1 cv) [x]) (hb : Below base w0 w) (hbase : base ≤ w.heap.size) :
  Calls Try.prog 187 #[.slice A l0.length c, .int .i64 (l0.length : Int), .slice (some ⟨gv, 0, none⟩) 1 cv] w fun e w' => ∃ v0_ : Value, e = .returned v0_ ∧ Kd.R (Kd.int .i64) 3 w' base (fun _ => True) v0_ (l0 ++ [x]) ∧ Below base w0 w' := by
 obtain ⟨v1, w1, hap, ho1, hb1⟩ := impl_inserted.end_fact base c gv cv l0 x ok okv w0 w hlim A HO HV hb hbase
 have HO1 := Aside0.mk ho1
 have HB1 := Aside0.mk hb1
 have HO0 := Aside0.mk HO
 have HV0 := Aside0.mk HV
 have HL := Aside0.mk hlim
 have HB := Aside0.mk hb
 have HS := Aside0.mk hbase
 clear HO HV hlim hb hbase ho1 hb1
 go_enter Try.func187, Try.ntmps187
 go_wp2_with (at_builtin; refine impl_inserted.wapp _ rfl _ _ _ _ rfl _ _ rfl rfl hap ?_)
 all_goals
  go_ret
  exact ⟨_, rfl, HO1.out, HB1.out⟩
set_option maxHeartbeats 4000000 in
set_option maxRecDepth 100000 in
theorem impl_inserted.grow_facts (base g gv cv k : Nat) (l0 : List Int) (x : Int) (ok okv : Nat → Prop) (w0 w : World) (hlim : l0.length < 4398046511104) (hk : k < l0.length) (hne : gv ≠ g)
  (HO : Kd.R (Kd.int .i64) 3 w base ok (.slice (some ⟨g, 0, none⟩) l0.length l0.length) l0) (HV : Kd.R (Kd.int .i64) 3 w base okv (.slice (some ⟨gv, 0, none⟩) 1 cv) [x]) (hb : Below base w0 w) (hbase : base ≤ w.heap.size) :
  ∃ (C : Nat) (W1 W2 W3 : World), l0.length + 1 ≤ C ∧
   (Builtin.append_ #[35, 3] 35 #[.slice (some ⟨g, 0, none⟩) k l0.length, .int .i64 ((l0.length : Int) + 1 - (k : Int))]).run Try.prog w = .ok (.slice (some ⟨w.heap.size, 0, none⟩) (l0.length + 1) C) W1 ∧
   (∀ ty dc, (Builtin.copy_ #[35, 35] ty #[.slice (some ⟨w.heap.size, k * 1, none⟩) (l0.length + 1 - k) dc, .slice (some ⟨gv, 0, none⟩) 1 cv]).run Try.prog W1 = .ok (goInt ((1 : Nat) : Int)) W2) ∧
   (∀ ty dc sc, (Builtin.copy_ #[35, 35] ty #[.slice (some ⟨w.heap.size, (k + 1) * 1, none⟩) (l0.length - k) dc, .slice (some ⟨g, k * 1, none⟩) (l0.length - k) sc]).run Try.prog W2.drew = .ok (goInt ((l0.length - k : Nat) : Int)) W3) ∧
   Kd.R (Kd.int .i64) 3 W3 base (fun _ => True) (.slice (some ⟨w.heap.size, 0, none⟩) (l0.length + 1) C) (l0.take k ++ [x] ++ l0.drop k) ∧ Below base w0 W3 := by
 obtain ⟨_, inner, hown, hr⟩ := HO
 obtain ⟨_, innv, hownv, hrv⟩ := HV
 rcases hown.2 with ⟨hv, _⟩ | ⟨g', c', cur, hv, hbg, hh, _, hcm, hcs, htake⟩
 ·
  cases hv
 injection hv with ha _ hcc
 injection ha with ha
 injection ha with hgg
 subst hgg; subst hcc
 rcases hownv.2 with ⟨hv, _⟩ | ⟨g', c', curv, hv, hbgv, hhv, hv1, hcmv, hcsv, htakev⟩
 ·
  cases hv
 injection hv with ha _ hcc
 injection ha with ha
 injection ha with hgg
 subst hgg; subst hcc
 have hil : inner.length = l0.length * 1 := hr.1
 have hivl : innv.length = 1 := by rw [hrv.1]; rfl
 have hx0 := hrv.2 0 x rfl
 have hx1 : (innv.drop (0 * ((Kd.int .i64)).sz)).take ((Kd.int .i64)).sz = innv := by rw [Nat.zero_mul, List.drop_zero]; exact List.take_of_length_le (Nat.le_of_eq hivl)
 rw [hx1] at hx0
 have hsz : (Try.prog.info? 3).map (·.size) = some 1 := by
  have h := info3
  cases hq : Try.prog.info? 3 with
  | none => rw [hq] at h; simp at h
  | some i => rw [hq] at h; simp at h; simp [h]
 have h1i : ∀ u ∈ inner, u.oneCell' = true := impl_inserted.one hr (by decide) (fun _ _ hp => ((Kd.int .i64)).K_one (((Kd.int .i64)).K_of_M hp))
 have h1v : ∀ u ∈ innv, u.oneCell' = true := ((Kd.int .i64)).K_one (((Kd.int .i64)).K_of_M hx0)
 have hsc : cur.size = l0.length * 1 := hcs
 have hscv : curv.size = cv * 1 := hcsv
 have hcur : ∀ q, q < l0.length * 1 → cur.toList[q]? = inner[q]? := by
  intro q hq
  rw [← (show cur.toList.take (l0.length * 1) = inner from htake), List.getElem?_take, if_pos hq]
 have hcv : ∀ (W : World), W.heap[gv]? = some (.cells curv 3 (0, 0)) → ∀ j v, innv[j]? = some v → W.cell? ((⟨gv, 0, none⟩ : Addr).add j) = some v := by
  intro W hW j v hj
  have hlt : j < innv.length := (List.getElem?_eq_some_iff.1 hj).1
  rw [add_plain, cell_of_row W gv _ curv 3 (0, 0) hW, ← Array.getElem?_toList]
  rw [← (show curv.toList.take ([x].length * 1) = innv from htakev), List.getElem?_take] at hj
  rw [if_pos (by simp; omega)] at hj
  exact hj
 have hdl : (inner.drop (k * 1)).length = (l0.length - k) * 1 := by rw [List.length_drop, hil]; omega
 have htl : (inner.take (k * 1)).length = k * 1 := by rw [List.length_take, hil]; omega
 have hgl : g < w.heap.size := blk_lt hh
 have hgvl : gv < w.heap.size := blk_lt hhv
 obtain ⟨i0, hi0, hz0, hz1, hz2⟩ : ∃ i, Try.prog.info? 3 = some i ∧ i.zero = some (.int .i64 0) ∧ i.size = 1 ∧ i.bytes = 8 := by
  have h := info3
  cases hq : Try.prog.info? 3 with
  | none => rw [hq] at h; simp at h
  | some i => rw [hq] at h; simp at h; exact ⟨i, rfl, h.1, h.2.1, h.2.2⟩
 obtain ⟨C, cells, hap, hC, hCm, hCs, hCt⟩ := impl_inserted.az (P := Try.prog) w 35 3 35 3 i0 (.int .i64 0) 1 8 Try.underlying35 Try.underlying3 hi0 hz0 hz1 hz2 rfl (by decide) (by decide) ⟨g, 0, none⟩ k l0.length (inner.take (k * 1)) htl
  (fun j u hu => by
   have hlt : j < (inner.take (k * 1)).length := (List.getElem?_eq_some_iff.1 hu).1
   rw [add_plain, cell_of_row w g _ cur 3 (0, 0) hh, ← Array.getElem?_toList, hcur _ (by omega)]
   rw [List.getElem?_take, if_pos (by omega)] at hu
   exact hu) .i64 (l0.length + 1 - k) (by omega) (by omega) (by omega)
 have hkn : k + (l0.length + 1 - k) = l0.length + 1 := by omega
 have hcast : ((l0.length + 1 - k : Nat) : Int) = (l0.length : Int) + 1 - (k : Int) := by omega
 rw [hkn, hcast] at hap
 rw [hkn] at hC
 obtain ⟨W1, hW1⟩ : ∃ W1, W1 = w.drew.alloc (.cells cells 3) := ⟨_, rfl⟩
 have hG : W1.heap[w.heap.size]? = some (.cells cells 3 (0, 0)) := by rw [hW1]; exact heap_alloc_new w.drew _
 have hold : ∀ q, q < w.heap.size → W1.heap[q]? = w.heap[q]? := fun q hq => by rw [hW1]; exact heap_alloc_old w.drew _ hq
 have hgr1 : w.grownBy W1 none := by rw [hW1]; exact ⟨rfl, rfl, rfl, by simp, fun q hq _ => heap_alloc_old w.drew _ hq⟩
 rw [← hW1] at hap
 have hcp2 : ∀ ty dc, (Builtin.copy_ #[35, 35] ty #[.slice (some ⟨w.heap.size, k * 1, none⟩) (l0.length + 1 - k) dc, .slice (some ⟨gv, 0, none⟩) 1 cv]).run Try.prog W1 = .ok (goInt ((1 : Nat) : Int)) (W1.setCells w.heap.size (k * 1) innv) := fun ty dc =>
  impl_inserted.cp W1 35 ty 3 1 w.heap.size (k * 1) (l0.length + 1 - k) dc ⟨gv, 0, none⟩ 1 cv 1 innv Try.underlying35 hsz (by simp only [Nat.min_def]; split <;> omega) (by rw [hivl])
   (hcv W1 ((hold gv hgvl).trans hhv))
   (fun j hj => by rw [cell_of_row W1 w.heap.size _ cells 3 (0, 0) hG]; simp; omega) (fun j _ => blk_frozen (w := W1) hG _) h1v
 obtain ⟨W2, hW2⟩ : ∃ W2, W2 = W1.setCells w.heap.size (k * 1) innv := ⟨_, rfl⟩
 obtain ⟨c1, hd1, hd2, hd3⟩ := setCells_row innv (k * 1) W1 cells hG (by omega)
 rw [← hW2] at hcp2 hd1
 have hg2 : W2.drew.heap[g]? = some (.cells cur 3 (0, 0)) := by
  show W2.heap[g]? = _
  rw [hW2, setCells_far _ _ g (by omega), hold g hgl, hh]
 have hcp1 : ∀ ty dc sc, (Builtin.copy_ #[35, 35] ty #[.slice (some ⟨w.heap.size, (k + 1) * 1, none⟩) (l0.length - k) dc, .slice (some ⟨g, k * 1, none⟩) (l0.length - k) sc]).run Try.prog W2.drew = .ok (goInt ((l0.length - k : Nat) : Int)) (W2.drew.setCells w.heap.size ((k + 1) * 1) (inner.drop (k * 1))) := fun ty dc sc =>
  impl_inserted.cp W2.drew 35 ty 3 1 w.heap.size ((k + 1) * 1) (l0.length - k) dc ⟨g, k * 1, none⟩ (l0.length - k) sc (l0.length - k) (inner.drop (k * 1)) Try.underlying35 hsz (by simp only [Nat.min_def]; split <;> omega) hdl
   (fun j v hj => by
    have hlt : j < (inner.drop (k * 1)).length := (List.getElem?_eq_some_iff.1 hj).1
    rw [add_at, cell_of_row W2.drew g _ cur 3 (0, 0) hg2, ← Array.getElem?_toList, hcur _ (by omega)]
    rwa [List.getElem?_drop] at hj)
   (fun j hj => by rw [cell_of_row W2.drew w.heap.size _ c1 3 (0, 0) hd1]; simp; omega) (fun j _ => blk_frozen (w := W2.drew) hd1 _) (fun v hv => h1i v (List.mem_of_mem_drop hv))
 have hin2 : k * 1 + innv.length = (k + 1) * 1 := by omega
 obtain ⟨c2, he1, he2, he3⟩ := impl_inserted.two (e := 3) (g := w.heap.size) W1 W2.drew cells innv (inner.drop (k * 1)) (k * 1) hG (by rw [hW2]; rfl) (by omega)
 rw [hin2] at he1
 obtain ⟨W3, hW3⟩ : ∃ W3, W3 = W2.drew.setCells w.heap.size ((k + 1) * 1) (inner.drop (k * 1)) := ⟨_, rfl⟩
 rw [← hW3] at hcp1 he1
 have hB3 : Below base w0 W3 := by
  refine Below.grown hb ?_ hbase (row := none) (fun q hq => by cases hq)
  obtain ⟨s1, s2, s3, s4⟩ := setCells_same w.heap.size (inner.drop (k * 1)) ((k + 1) * 1) W2.drew
  obtain ⟨t1, t2, t3, t4⟩ := setCells_same w.heap.size innv (k * 1) W1
  rw [hW3]
  refine ⟨s1.trans ?_, s2.trans ?_, s3.trans ?_, ?_, fun q hql _ => ?_⟩
  ·
   show W2.os = _; rw [hW2]; exact t1.trans hgr1.os
  ·
   show W2.tape = _; rw [hW2]; exact t2.trans hgr1.tape
  ·
   show W2.output = _; rw [hW2]; exact t3.trans hgr1.output
  ·
   rw [s4]; show _ ≤ W2.heap.size; rw [hW2, t4]; exact hgr1.size
  ·
   rw [setCells_far _ _ q (by omega)]; show W2.heap[q]? = _; rw [hW2, setCells_far _ _ q (by omega)]; exact hold q hql
 have hR3 : Kd.R (Kd.int .i64) 3 W3 base (fun _ => True) (.slice (some ⟨w.heap.size, 0, none⟩) (l0.length + 1) C) (l0.take k ++ [x] ++ l0.drop k) :=
  impl_inserted.mk (Kd.int .i64) 3 W3 base w.heap.size C k c2 l0 x inner innv (hr.imp_ (fun _ _ hp => impl_inserted.flat hp)) (impl_inserted.flat hx0) (by omega) hbase he1 hC hCm (by rw [he2]; exact hCs) (by
   have h6 : k * 1 + innv.length + (inner.drop (k * 1)).length = (l0.length + 1) * 1 := by omega
   rw [h6, hCt] at he3
   exact he3)
 exact ⟨C, W1, W2, W3, hC, hap, hcp2, hcp1, hR3, hB3⟩
set_option maxHeartbeats 4000000 in
set_option maxRecDepth 100000 in
theorem impl_inserted.at_grow (base g gv cv k : Nat) (l0 : List Int) (x : Int) (ok okv : Nat → Prop) (w0 w : World) (hlim : l0.length < 4398046511104) (hk : k < l0.length) (hne : gv ≠ g)
  (HO : Kd.R (Kd.int .i64) 3 w base ok (.slice (some ⟨g, 0, none⟩) l0.length l0.length) l0) (HV : Kd.R (Kd.int .i64) 3 w base okv (.slice (some ⟨gv, 0, none⟩) 1 cv) [x]) (hb : Below base w0 w) (hbase : base ≤ w.heap.size) :
  Calls Try.prog 187 #[.slice (some ⟨g, 0, none⟩) l0.length l0.length, .int .i64 (k : Int), .slice (some ⟨gv, 0, none⟩) 1 cv] w fun e w' => ∃ v0_ : Value, e = .returned v0_ ∧ Kd.R (Kd.int .i64) 3 w' base (fun _ => True) v0_ (l0.take k ++ [x] ++ l0.drop k) ∧ Below base w0 w' := by
 obtain ⟨C, W1, W2, W3, hC, hap, hcp2, hcp1, hR3, hB3⟩ := impl_inserted.grow_facts base g gv cv k l0 x ok okv w0 w hlim hk hne HO HV hb hbase
 have HR3 := Aside0.mk hR3
 have HB3 := Aside0.mk hB3
 simp only [Nat.mul_one] at hcp1 hcp2
 have hlen : l0.length ≤ 9223372036854775807 := by omega
 have n1 : (l0.length = k) = False := eq_false (by omega)
 have n1b : (C = k) = False := eq_false (by omega)
 have n1c : (C = k + 1) = False := eq_false (by omega)
 have n2 : (k = l0.length) = False := eq_false (by omega)
 have n3 : ((k : Int) == (l0.length : Int)) = false := by simp; omega
 have n4 : IntKind.i64.wrap ((l0.length : Int) + 1) = (l0.length : Int) + 1 := by rw [IntKind.wrap_i64]; omega
 have n5 : IntKind.i64.wrap ((l0.length : Int) + 1 - (k : Int)) = (l0.length : Int) + 1 - (k : Int) := by rw [IntKind.wrap_i64]; omega
 have n6 : IntKind.i64.wrap ((k : Int) + 1) = (k : Int) + 1 := by rw [IntKind.wrap_i64]; omega
 have n7 : k ≤ l0.length := by omega
 have n8 : decide ((l0.length : Int) < (l0.length : Int) + 1) = true := decide_eq_true (by omega)
 have n9 : (0 : Int) ≤ (l0.length : Int) + 1 := by omega
 have n12 : ((k : Int) + 1).toNat = k + 1 := by omega
 have n13 : (0 : Int) ≤ (k : Int) + 1 := by omega
 have n14 : (k : Int) ≤ (l0.length : Int) + 1 := by omega
 have n15 : k ≤ l0.length + 1 := by omega
 have mixed : Try.prog.follows Departure.mixedOrders = true := by kernel_rfl
 clear hR3 hB3 HO HV hb hbase hne hk hlim hC
 go_enter Try.func187, Try.ntmps187
 go_wp2_with (first
  | (at_builtin; refine impl_inserted.wapp _ rfl _ _ _ _ rfl _ _ rfl rfl hap ?_)
  | (at_builtin; refine impl_inserted.wcopy _ rfl _ _ 35 35 rfl _ _ rfl rfl (hcp2 _ _) ?_))
 go_region_law_o (refine impl_inserted.scopy rfl _ _ 35 35 rfl _ _ (by simp [Act.eval, Act.put]) (by simp [Act.eval, Act.put]) (hcp1 _ _ _) ?_)
 go_wp2
 go_ret
 exact ⟨_, rfl, HR3.out, HB3.out⟩
set_option maxHeartbeats 4000000 in
set_option maxRecDepth 100000 in
theorem impl_inserted.room_facts (base g c gv cv k : Nat) (l0 : List Int) (x : Int) (ok okv : Nat → Prop) (w0 w : World) (hlim : l0.length < 8796093022208) (hk : k < l0.length) (hc : l0.length < c) (hne : gv ≠ g)
  (HO : Kd.R (Kd.int .i64) 3 w base ok (.slice (some ⟨g, 0, none⟩) l0.length c) l0) (HV : Kd.R (Kd.int .i64) 3 w base okv (.slice (some ⟨gv, 0, none⟩) 1 cv) [x]) (hb : Below base w0 w) (hbase : base ≤ w.heap.size) :
  ∃ W1 W2 : World, (∀ ty dc sc, (Builtin.copy_ #[35, 35] ty #[.slice (some ⟨g, (k + 1) * 1, none⟩) (l0.length - k) dc, .slice (some ⟨g, k * 1, none⟩) (l0.length + 1 - k) sc]).run Try.prog w.drew = .ok (goInt ((l0.length - k : Nat) : Int)) W1) ∧
   (∀ ty dc, (Builtin.copy_ #[35, 35] ty #[.slice (some ⟨g, k * 1, none⟩) (l0.length + 1 - k) dc, .slice (some ⟨gv, 0, none⟩) 1 cv]).run Try.prog W1 = .ok (goInt ((1 : Nat) : Int)) W2) ∧
   Kd.R (Kd.int .i64) 3 W2 base (fun _ => True) (.slice (some ⟨g, 0, none⟩) (l0.length + 1) c) (l0.take k ++ [x] ++ l0.drop k) ∧ Below base w0 W2 ∧
   (∀ lb cb, (callFunc 196 #[.slice (some ⟨gv, 0, none⟩) 1 cv, .slice (some ⟨g, (k + 1) * 1, none⟩) lb cb]).run Try.prog w = .ok (.value (.bool false)) w) := by
 obtain ⟨_, inner, hown, hr⟩ := HO
 obtain ⟨_, innv, hownv, hrv⟩ := HV
 rcases hown.2 with ⟨hv, _⟩ | ⟨g', c', cur, hv, hbg, hh, _, hcm, hcs, htake⟩
 ·
  cases hv
 injection hv with ha _ hcc
 injection ha with ha
 injection ha with hgg
 subst hgg; subst hcc
 rcases hownv.2 with ⟨hv, _⟩ | ⟨g', c', curv, hv, hbgv, hhv, hv1, hcmv, hcsv, htakev⟩
 ·
  cases hv
 injection hv with ha _ hcc
 injection ha with ha
 injection ha with hgg
 subst hgg; subst hcc
 have hil : inner.length = l0.length * 1 := hr.1
 have hivl : innv.length = 1 := by rw [hrv.1]; rfl
 have hx0 := hrv.2 0 x rfl
 have hx1 : (innv.drop (0 * ((Kd.int .i64)).sz)).take ((Kd.int .i64)).sz = innv := by rw [Nat.zero_mul, List.drop_zero]; exact List.take_of_length_le (Nat.le_of_eq hivl)
 rw [hx1] at hx0
 have hsz : (Try.prog.info? 3).map (·.size) = some 1 := by
  have h := info3
  cases hq : Try.prog.info? 3 with
  | none => rw [hq] at h; simp at h
  | some i => rw [hq] at h; simp at h; simp [h]
 have h1i : ∀ u ∈ inner, u.oneCell' = true := impl_inserted.one hr (by decide) (fun _ _ hp => ((Kd.int .i64)).K_one (((Kd.int .i64)).K_of_M hp))
 have h1v : ∀ u ∈ innv, u.oneCell' = true := ((Kd.int .i64)).K_one (((Kd.int .i64)).K_of_M hx0)
 have hsc : cur.size = c * 1 := hcs
 have hscv : curv.size = cv * 1 := hcsv
 have hcur : ∀ q, q < l0.length * 1 → cur.toList[q]? = inner[q]? := by
  intro q hq
  rw [← (show cur.toList.take (l0.length * 1) = inner from htake), List.getElem?_take, if_pos hq]
 have hcv : ∀ (W : World), W.heap[gv]? = some (.cells curv 3 (0, 0)) → ∀ j v, innv[j]? = some v → W.cell? ((⟨gv, 0, none⟩ : Addr).add j) = some v := by
  intro W hW j v hj
  have hlt : j < innv.length := (List.getElem?_eq_some_iff.1 hj).1
  rw [add_plain, cell_of_row W gv _ curv 3 (0, 0) hW, ← Array.getElem?_toList]
  rw [← (show curv.toList.take ([x].length * 1) = innv from htakev), List.getElem?_take] at hj
  rw [if_pos (by simp; omega)] at hj
  exact hj
 have hdl : (inner.drop (k * 1)).length = (l0.length - k) * 1 := by rw [List.length_drop, hil]; omega
 have hcp1 : ∀ ty dc sc, (Builtin.copy_ #[35, 35] ty #[.slice (some ⟨g, (k + 1) * 1, none⟩) (l0.length - k) dc, .slice (some ⟨g, k * 1, none⟩) (l0.length + 1 - k) sc]).run Try.prog w.drew = .ok (goInt ((l0.length - k : Nat) : Int)) (w.drew.setCells g ((k + 1) * 1) (inner.drop (k * 1))) := fun ty dc sc =>
  impl_inserted.cp w.drew 35 ty 3 1 g ((k + 1) * 1) (l0.length - k) dc ⟨g, k * 1, none⟩ (l0.length + 1 - k) sc (l0.length - k) (inner.drop (k * 1)) Try.underlying35 hsz (by simp only [Nat.min_def]; split <;> omega) hdl
   (fun j v hj => by
    have hlt : j < (inner.drop (k * 1)).length := (List.getElem?_eq_some_iff.1 hj).1
    rw [add_at, cell_of_row w.drew g _ cur 3 (0, 0) hh, ← Array.getElem?_toList, hcur _ (by omega)]
    rwa [List.getElem?_drop] at hj)
   (fun j hj => by rw [cell_of_row w.drew g _ cur 3 (0, 0) hh]; simp; omega) (fun j _ => blk_frozen (w := w.drew) hh _) (fun v hv => h1i v (List.mem_of_mem_drop hv))
 obtain ⟨c1, hd1, hd2, hd3⟩ := setCells_row (inner.drop (k * 1)) ((k + 1) * 1) w.drew cur hh (by omega)
 have hfv : (w.drew.setCells g ((k + 1) * 1) (inner.drop (k * 1))).heap[gv]? = some (.cells curv 3 (0, 0)) := (setCells_far _ _ gv hne).trans hhv
 obtain ⟨W1, hW1⟩ : ∃ W1, W1 = w.drew.setCells g ((k + 1) * 1) (inner.drop (k * 1)) := ⟨_, rfl⟩
 rw [← hW1] at hcp1 hd1 hfv
 have hcp2 : ∀ ty dc, (Builtin.copy_ #[35, 35] ty #[.slice (some ⟨g, k * 1, none⟩) (l0.length + 1 - k) dc, .slice (some ⟨gv, 0, none⟩) 1 cv]).run Try.prog W1 = .ok (goInt ((1 : Nat) : Int)) (W1.setCells g (k * 1) innv) := fun ty dc =>
  impl_inserted.cp W1 35 ty 3 1 g (k * 1) (l0.length + 1 - k) dc ⟨gv, 0, none⟩ 1 cv 1 innv Try.underlying35 hsz (by simp only [Nat.min_def]; split <;> omega) (by rw [hivl])
   (hcv W1 hfv)
   (fun j hj => by rw [cell_of_row W1 g _ c1 3 (0, 0) hd1]; simp; omega) (fun j _ => blk_frozen (w := W1) hd1 _) h1v
 have hin2 : k * 1 + innv.length = (k + 1) * 1 := by omega
 obtain ⟨c2, he1, he2, he3⟩ := impl_inserted.two' (e := 3) (g := g) w.drew cur innv (inner.drop (k * 1)) (k * 1) hh (by omega)
 rw [hin2, ← hW1] at he1
 obtain ⟨W2, hW2⟩ : ∃ W2, W2 = W1.setCells g (k * 1) innv := ⟨_, rfl⟩
 rw [← hW2] at hcp2 he1
 have hB2 : Below base w0 W2 := by
  refine Below.grown hb ?_ hbase (row := some g) (fun q hq => by injection hq with hq; omega)
  obtain ⟨s1, s2, s3, s4⟩ := setCells_same g innv (k * 1) W1
  obtain ⟨t1, t2, t3, t4⟩ := setCells_same g (inner.drop (k * 1)) ((k + 1) * 1) w.drew
  rw [hW2]
  refine ⟨s1.trans (by rw [hW1]; exact t1), s2.trans (by rw [hW1]; exact t2), s3.trans (by rw [hW1]; exact t3), by rw [s4, hW1, t4]; exact Nat.le_refl _, fun q _ hq => ?_⟩
  rw [setCells_far _ _ q (fun he => hq (by rw [he])), hW1, setCells_far _ _ q (fun he => hq (by rw [he]))]
  rfl
 have hR2 : Kd.R (Kd.int .i64) 3 W2 base (fun _ => True) (.slice (some ⟨g, 0, none⟩) (l0.length + 1) c) (l0.take k ++ [x] ++ l0.drop k) :=
  impl_inserted.mk (Kd.int .i64) 3 W2 base g c k c2 l0 x inner innv (hr.imp_ (fun _ _ hp => impl_inserted.flat hp)) (impl_inserted.flat hx0) (by omega) hbg he1 (by omega) hcm (by rw [he2, hcs]) (by
   have h5 : cur.toList.take (k * 1) = inner.take (k * 1) := by
    rw [← (show cur.toList.take (l0.length * 1) = inner from htake), List.take_take, Nat.min_eq_left (by omega)]
   have h6 : k * 1 + innv.length + (inner.drop (k * 1)).length = (l0.length + 1) * 1 := by omega
   rw [h6, h5] at he3
   exact he3)
 have hov : ∀ lb cb, (callFunc 196 #[.slice (some ⟨gv, 0, none⟩) 1 cv, .slice (some ⟨g, (k + 1) * 1, none⟩) lb cb]).run Try.prog w = .ok (.value (.bool false)) w := fun lb cb => by
  rw [run_callFunc_extern Try.func196 (by kernel_rfl) (by kernel_rfl) (by kernel_rfl) (e := Extern.SlicesOverlaps.overlaps #[35, 35] #[4]) (by kernel_rfl),
   Lib.run_overlaps_apart w 35 4 3 Try.underlying35 1 Try.sizeOf3 ⟨gv, 0, none⟩ ⟨g, (k + 1) * 1, none⟩ 1 cv lb cb hne 3 3 curv.size cur.size (by simp [World.shape?, hhv]) (by simp [World.shape?, hh]) (by omega) (blk_frozen hhv _) (blk_frozen hhv _)]
  rfl
 exact ⟨W1, W2, hcp1, hcp2, hR2, hB2, hov⟩
set_option maxHeartbeats 4000000 in
set_option maxRecDepth 100000 in
theorem impl_inserted.at_room (base g c gv cv k : Nat) (l0 : List Int) (x : Int) (ok okv : Nat → Prop) (w0 w : World) (hlim : l0.length < 8796093022208) (hk : k < l0.length) (hc : l0.length < c) (hne : gv ≠ g)
  (HO : Kd.R (Kd.int .i64) 3 w base ok (.slice (some ⟨g, 0, none⟩) l0.length c) l0) (HV : Kd.R (Kd.int .i64) 3 w base okv (.slice (some ⟨gv, 0, none⟩) 1 cv) [x]) (hb : Below base w0 w) (hbase : base ≤ w.heap.size) :
  Calls Try.prog 187 #[.slice (some ⟨g, 0, none⟩) l0.length c, .int .i64 (k : Int), .slice (some ⟨gv, 0, none⟩) 1 cv] w fun e w' => ∃ v0_ : Value, e = .returned v0_ ∧ Kd.R (Kd.int .i64) 3 w' base (fun _ => True) v0_ (l0.take k ++ [x] ++ l0.drop k) ∧ Below base w0 w' := by
 obtain ⟨W1, W2, hcp1, hcp2, hR2, hB2, hov⟩ := impl_inserted.room_facts base g c gv cv k l0 x ok okv w0 w hlim hk hc hne HO HV hb hbase
 have HR2 := Aside0.mk hR2
 have HB2 := Aside0.mk hB2
 have HK := Aside0.mk hk
 simp only [Nat.mul_one] at hcp1 hcp2 hov
 have hlen : l0.length ≤ 9223372036854775807 := by omega
 have n1 : (c = k) = False := eq_false (by omega)
 have n1b : (c = k + 1) = False := eq_false (by omega)
 have n2 : (k = l0.length) = False := eq_false (by omega)
 have n3 : ((k : Int) == (l0.length : Int)) = false := by simp; omega
 have n4 : IntKind.i64.wrap ((l0.length : Int) + 1) = (l0.length : Int) + 1 := by rw [IntKind.wrap_i64]; omega
 have n6 : IntKind.i64.wrap ((k : Int) + 1) = (k : Int) + 1 := by rw [IntKind.wrap_i64]; omega
 have n7 : k ≤ l0.length := by omega
 have n8 : decide ((c : Int) < (l0.length : Int) + 1) = false := decide_eq_false (by omega)
 have n9 : (0 : Int) ≤ (l0.length : Int) + 1 := by omega
 have n10 : (l0.length : Int) + 1 ≤ (c : Int) := by omega
 have n11 : ((l0.length : Int) + 1).toNat = l0.length + 1 := by omega
 have n12 : ((k : Int) + 1).toNat = k + 1 := by omega
 have n13 : (0 : Int) ≤ (k : Int) + 1 := by omega
 have n14 : (k : Int) ≤ (l0.length : Int) + 1 := by omega
 have n15 : k ≤ l0.length + 1 := by omega
 have n16 : l0.length + 1 ≤ c := by omega
 have mixed : Try.prog.follows Departure.mixedOrders = true := by kernel_rfl
 clear hR2 hB2 HO HV hb hbase hne hk hc hlim
 go_enter Try.func187, Try.ntmps187
 go_wp2_with (simp only [hov])
 go_region_law_o (refine impl_inserted.scopy rfl _ _ 35 35 rfl _ _ (by simp [Act.eval, Act.put]) (by simp [Act.eval, Act.put]) (hcp1 _ _ _) ?_)
 go_wp2_with (at_builtin; refine impl_inserted.wcopy _ rfl _ _ 35 35 rfl _ _ rfl rfl (hcp2 _ _) ?_)
 go_ret
 exact ⟨_, rfl, HR2.out, HB2.out⟩
set_option maxHeartbeats 4000000 in
theorem impl_inserted.ins (base c gv cv k : Nat) (l0 : List Int) (x : Int) (ok okv : Nat → Prop) (w0 w : World) (hlim : l0.length < 4398046511104) (A : Option Addr) (hk : k ≤ l0.length) (hne : ∀ q, (Value.slice A l0.length c).ownBlock = some q → gv ≠ q)
  (HO : Kd.R (Kd.int .i64) 3 w base ok (.slice A l0.length c) l0) (HV : Kd.R (Kd.int .i64) 3 w base okv (.slice (some ⟨gv, 0, none⟩) 1 cv) [x]) (hb : Below base w0 w) (hbase : base ≤ w.heap.size) :
  Calls Try.prog 187 #[.slice A l0.length c, .int .i64 (k : Int), .slice (some ⟨gv, 0, none⟩) 1 cv] w fun e w' => ∃ v0_ : Value, e = .returned v0_ ∧ Kd.R (Kd.int .i64) 3 w' base (fun _ => True) v0_ (l0.take k ++ [x] ++ l0.drop k) ∧ Below base w0 w' := by
 by_cases hkl : k = l0.length
 ·
  subst hkl
  rw [List.take_length, List.drop_length, List.append_nil]
  exact impl_inserted.at_end base c gv cv l0 x ok okv w0 w (by omega) A HO HV hb hbase
 ·
  obtain ⟨g, cap, he, _, _, _⟩ := Kd.R_form HO (by omega)
  injection he with ha _ hcc
  subst ha; subst hcc
  have hg := hne g (by simp [Value.ownBlock])
  have hc := (Kd.R_reads' HO).2.1
  by_cases hcl : c = l0.length
  ·
   subst hcl
   exact impl_inserted.at_grow base g gv cv k l0 x ok okv w0 w hlim (by omega) hg HO HV hb hbase
  ·
   exact impl_inserted.at_room base g c gv cv k l0 x ok okv w0 w (by omega) (by omega) (by omega) hg HO HV hb hbase
def impl_inserted.f (k : Nat) (l0 : List Int) (a1 : Int) : Option (List Int) :=
 if l0.length < 4398046511104 then ((slices_BinarySearch_int_int.f k l0 a1).bind fun r => if 0 ≤ r.1 ∧ r.1.toNat ≤ l0.length then some (l0.take r.1.toNat ++ [a1] ++ l0.drop r.1.toNat) else none) else none
theorem impl_inserted.mono : ∀ a0 a1 k, LeO (impl_inserted.f k a0 a1) (impl_inserted.f (k + 1) a0 a1) := by
 intro a0 a1 k
 unfold impl_inserted.f
 exact LeO.ite (LeO.bind (slices_BinarySearch_int_int.mono _ _ _) (fun _ => LeO.refl _)) (LeO.none _)
set_option maxHeartbeats 4000000 in
set_option maxRecDepth 100000 in
theorem impl_inserted.calls (k : Nat) (A0 : Option Addr) (c0 : Nat) (l0 : List Int) (a1 : Int) (r : List Int) (w : World) (hr0 : Kd.C (Kd.int .i64) w A0 l0.length l0) (hc0 : l0.length ≤ c0) (h : impl_inserted.f k l0 a1 = some r) :
  Calls Try.prog 172 #[.slice A0 l0.length c0, .int .i64 a1] w fun e w' => ∃ v0_ : Value, e = .returned (v0_) ∧ Kd.R (Kd.int .i64) 3 w' w.heap.size (fun _ => True) v0_ r ∧ Below w.heap.size w w' := by
 have HR0 := Aside0.mk hr0
 have HC0 := Aside0.mk hc0
 have hlen : l0.length ≤ 9223372036854775807 := hr0.2.1
 have mixed : Try.prog.follows Departure.mixedOrders = true := by kernel_rfl
 clear hr0 hc0
 unfold impl_inserted.f at h
 have hlim := ifN h
 replace h := ifT h
 obtain ⟨⟨p, b⟩, hbs, h⟩ := Option.bind_eq_some_iff.1 h
 have hp : 0 ≤ p ∧ p.toNat ≤ l0.length := ifN h
 replace h := ifT h
 obtain ⟨kk, rfl⟩ := Int.eq_ofNat_of_zero_le hp.1
 replace hp : kk ≤ l0.length := hp.2
 replace h := Option.some.inj h
 rw [show (((kk : Nat) : Int), b).1.toNat = kk from rfl] at h
 have HE := Aside0.mk h
 have HL := Aside0.mk hlim
 have HK := Aside0.mk hp
 have HBS := Aside0.mk hbs
 have hcl : slices_Clone_int_int.f l0 = some l0 := by
  unfold slices_Clone_int_int.f
  exact if_pos (by omega)
 have HCL := Aside0.mk hcl
 clear h hlim hp hbs hcl
 go_enter Try.func172, Try.ntmps172
 go_wp2_with (first
  | (go_at_call 186; refine (slices_BinarySearch_int_int.calls k A0 c0 l0 a1 kk b _ HR0.out HC0.out HBS.out).mono ?_; rintro e w1 ⟨rfl, hb1⟩; have B1 := Aside0.mk (show Below w.heap.size w w1 from hb1.below); clear hb1)
  | (go_at_call 100; refine (slices_Clone_int_int.calls A0 c0 l0 l0 _ ?s1 HC0.out HCL.out).mono ?_; (case s1 => exact Kd.C_below HR0.out B1.out); rintro e w2 ⟨v2, rfl, ho2, hb2⟩; obtain ⟨Ao, co, eo⟩ := Kd.R_slice ho2; subst eo; have B2 := Aside0.mk (below_step B1.out hb2); have O2 := Aside0.mk (Kd.R_lower ho2 B1.out.size); have V2 := Aside0.mk (show Kd.R (Kd.int .i64) 3 (w2.alloc (.cells #[.int .i64 a1] 3)) w.heap.size (fun _ => True) (.slice (some ⟨w2.heap.size, 0, none⟩) 1 1) [a1] from ⟨fun _ _ => trivial, [.int .i64 a1], World.ownsRow_lit w2 _ 1 B2.out.size (by decide) rfl, Reps.front rfl rfl (Reps.none _ _) rfl⟩); clear ho2 hb2)
  | (go_at_call 187; refine (impl_inserted.ins w.heap.size co w2.heap.size 1 kk l0 a1 (fun _ => True) (fun _ => True) w _ HL.out Ao HK.out ?t2 ?t3 ?t4 ?t5 ?t6).mono ?_; (case t2 => (intro q hq he; have h1 := Kd.R_lt O2.out q hq; omega)); (case t3 => exact Kd.R_alloc O2.out _); (case t4 => exact V2.out); (case t5 => exact below_alloc B2.out _); (case t6 => exact (below_alloc B2.out _).size); rintro e w5 ⟨v5, rfl, ho5, hb5⟩; rw [HE.out] at ho5; have O5 := Aside0.mk ho5; have B5 := Aside0.mk hb5; clear ho5 hb5))
 go_ret
 exact ⟨_, rfl, O5.out, B5.out⟩

end Go.Proofs.Ytjgonpcajedkjaa.P
