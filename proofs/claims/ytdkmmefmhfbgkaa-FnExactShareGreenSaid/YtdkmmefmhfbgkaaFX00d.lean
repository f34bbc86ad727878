/- Printed by myprint.py (wip/tools) over the kit's print: what Go's functions compute, and that they do. Lean checks it. -/
import Derived.Test.YtdkmmefmhfbgkaaF0
import Derived.Test.YtdkmmefmhfbgkaaFX00
import Derived.Test.YtdkmmefmhfbgkaaFX00b
import Derived.Test.YtdkmmefmhfbgkaaFX00c
namespace Go.Proofs.Ytdkmmefmhfbgkaa.P
open Go.RowKit Go.Proofs.YtdkmmefmhfbgkaaW.PrintWords Go.Proofs.YtdkmmefmhfbgkaaW.PrintLast Go.Proofs.YtdkmmefmhfbgkaaW.PrintMore Go.Proofs.Ytdkmmefmhfbgkaa.Sq
attribute [local go_sem] max2_int min2_int max_two min_two max_three min_three max_four min_four
set_option linter.unusedVariables false
set_option linter.unusedSimpArgs false

/-! ### impl_ClearBetween: function 89 -/
mutual
def impl_ClearBetween.j0 : Nat → List (S89) → List Int → List Int → Int → Bool → Option (Int)
 | 0, _, _, _, _, _ => none
 | k + 1, x0, x1, x2, x7, x22 => if x22 = true then (some x7) else ((impl_Closes.f k x1 x2).bind fun t425 => (impl_ClearBetween.l0 k x0 x1 x2 x7 t425 (t425.length : Int) 0))
def impl_ClearBetween.l0 : Nat → List (S89) → List Int → List Int → Int → List Int → Int → Int → Option (Int)
 | 0, _, _, _, _, _, _, _ => none
 | k + 1, x0, x1, x2, x7, x26, x27, x28 => if x28 < x27 then (if 0 ≤ x28 then (if x28 < (x26.length : Int) then ((impl_Closes.f k x2 x1).bind fun t429 => (impl_ClearBetween.l1 k x0 x1 x2 x7 (rd x26 x28) x26 x27 x28 t429 (t429.length : Int) 0)) else (none)) else (none)) else (some x7)
def impl_ClearBetween.l1 : Nat → List (S89) → List Int → List Int → Int → Int → List Int → Int → Int → List Int → Int → Int → Option (Int)
 | 0, _, _, _, _, _, _, _, _, _, _, _ => none
 | k + 1, x0, x1, x2, x7, x9, x26, x27, x28, x34, x35, x36 => if x36 < x35 then (if 0 ≤ x36 then (if x36 < (x34.length : Int) then ((impl_FindPath.f x0 x9).bind fun t433 => (if 0 ≤ t433 then (if t433 < (x0.length : Int) then ((impl_FindPath.f x0 (rd x34 x36)).bind fun t436 => (if 0 ≤ t436 then (if t436 < (x0.length : Int) then ((impl_Conflict.f k ((rd_T89 x0 t433).f0) ((rd_T89 x0 t433).f1) ((rd_T89 x0 t433).f2) ((rd_T89 x0 t433).f3) ((rd_T89 x0 t436).f0) ((rd_T89 x0 t436).f1) ((rd_T89 x0 t436).f2) ((rd_T89 x0 t436).f3)).bind fun t438 => (if t438 = true then ((impl_ClearOf.f ((rd_T89 x0 t433).f0) ((rd_T89 x0 t433).f1) ((rd_T89 x0 t433).f2) ((rd_T89 x0 t433).f3)).bind fun t439 => (impl_ClearBetween.l1 k x0 x1 x2 (mx x7 t439) x9 x26 x27 x28 x34 x35 (wrap64 (x36 + 1)))) else (impl_ClearBetween.l1 k x0 x1 x2 x7 x9 x26 x27 x28 x34 x35 (wrap64 (x36 + 1))))) else (none)) else (none))) else (none)) else (none))) else (none)) else (none)) else (impl_ClearBetween.l0 k x0 x1 x2 x7 x26 x27 (wrap64 (x28 + 1)))
end
def impl_ClearBetween.f (k : Nat) (l0 : List (S89)) (l1 : List Int) (l2 : List Int) : Option (Int) := (impl_IsTogether.f k l0 l1).bind fun t423 => (if t423 = true then ((impl_IsTogether.f k l0 l2).bind fun t424 => (impl_ClearBetween.j0 k l0 l1 l2 0 (!t424))) else (impl_ClearBetween.j0 k l0 l1 l2 0 true))
theorem impl_ClearBetween.mono_l : ∀ k, (∀ y0 y1 y2 y3 y4, LeO (impl_ClearBetween.j0 k y0 y1 y2 y3 y4) (impl_ClearBetween.j0 (k + 1) y0 y1 y2 y3 y4)) ∧ (∀ y0 y1 y2 y3 y4 y5 y6, LeO (impl_ClearBetween.l0 k y0 y1 y2 y3 y4 y5 y6) (impl_ClearBetween.l0 (k + 1) y0 y1 y2 y3 y4 y5 y6)) ∧ (∀ y0 y1 y2 y3 y4 y5 y6 y7 y8 y9 y10, LeO (impl_ClearBetween.l1 k y0 y1 y2 y3 y4 y5 y6 y7 y8 y9 y10) (impl_ClearBetween.l1 (k + 1) y0 y1 y2 y3 y4 y5 y6 y7 y8 y9 y10))
 | 0 => ⟨fun _ _ _ _ _ r h => by simp [impl_ClearBetween.j0] at h, fun _ _ _ _ _ _ _ r h => by simp [impl_ClearBetween.l0] at h, fun _ _ _ _ _ _ _ _ _ _ _ r h => by simp [impl_ClearBetween.l1] at h⟩
 | k + 1 => by
  obtain ⟨ih0, ih1, ih2⟩ := impl_ClearBetween.mono_l k
  refine ⟨?_, ?_, ?_⟩
  ·
   intro y0 y1 y2 y3 y4
   unfold impl_ClearBetween.j0
   exact mz6 ih0 ih1 ih2 impl_Closes.mono impl_Conflict.mono impl_IsTogether.mono
  ·
   intro y0 y1 y2 y3 y4 y5 y6
   unfold impl_ClearBetween.l0
   exact mz6 ih0 ih1 ih2 impl_Closes.mono impl_Conflict.mono impl_IsTogether.mono
  ·
   intro y0 y1 y2 y3 y4 y5 y6 y7 y8 y9 y10
   unfold impl_ClearBetween.l1
   exact mz6 ih0 ih1 ih2 impl_Closes.mono impl_Conflict.mono impl_IsTogether.mono
theorem impl_ClearBetween.mono : ∀ a0 a1 a2 k, LeO (impl_ClearBetween.f k a0 a1 a2) (impl_ClearBetween.f (k + 1) a0 a1 a2) := by
 intro a0 a1 a2 k
 obtain ⟨ih0, ih1, ih2⟩ := impl_ClearBetween.mono_l k
 unfold impl_ClearBetween.f
 exact mz6 ih0 ih1 ih2 impl_Closes.mono impl_Conflict.mono impl_IsTogether.mono
def impl_ClearBetween.T11 : Bool × List (List Nat × List Nat) := (true, [([], []), ([], []), ([], []), ([], []), ([2, 3], [2, 3]), ([1, 4], [1, 4]), ([5], [5]), ([0, 6, 4], [0, 6])])
def impl_ClearBetween.B11 : List Nat := [0, 0, 0, 0, 12, 30, 62, 127]
theorem impl_ClearBetween.tab11 : rtab .any (opsOf Try.f89 11) = impl_ClearBetween.T11 := by kernel_rfl
theorem impl_ClearBetween.bits11 : waitsOk impl_ClearBetween.T11.2 impl_ClearBetween.B11 = true := by kernel_rfl
set_option maxHeartbeats 8000000 in
set_option maxRecDepth 100000 in
theorem impl_ClearBetween.calls (k : Nat) (A0 : Option Addr) (c0 : Nat) (l0 : List (S89)) (A1 : Option Addr) (c1 : Nat) (l1 : List Int) (A2 : Option Addr) (c2 : Nat) (l2 : List Int) (r : Int) (w : World) (hr0 : Kd.C k89 w A0 l0.length l0) (hc0 : l0.length ≤ c0) (hr1 : Kd.C (Kd.int .i64) w A1 l1.length l1) (hc1 : l1.length ≤ c1) (hr2 : Kd.C (Kd.int .i64) w A2 l2.length l2) (hc2 : l2.length ≤ c2) (h : impl_ClearBetween.f k l0 l1 l2 = some r) :
  Calls Try.prog 89 #[.slice A0 l0.length c0, .slice A1 l1.length c1, .slice A2 l2.length c2] w fun e w' => e = .returned (.int .i64 r) ∧ Below w.heap.size w w' := by
 have hu89 := Try.underlying89
 have HR0 := Aside0.mk hr0
 have HC0 := Aside0.mk hc0
 clear hr0 hc0
 have HR1 := Aside0.mk hr1
 have HC1 := Aside0.mk hc1
 clear hr1 hc1
 have HR2 := Aside0.mk hr2
 have HC2 := Aside0.mk hc2
 clear hr2 hc2
 have HB := Aside0.mk (Below.refl w.heap.size w)
 have H : ((impl_IsTogether.f k l0 l1).bind fun t423 => (if t423 = true then ((impl_IsTogether.f k l0 l2).bind fun t424 => (impl_ClearBetween.j0 k l0 l1 l2 0 (!t424))) else (impl_ClearBetween.j0 k l0 l1 l2 0 true))) = some r := h
 clear h
 have HC4 := Aside0.mk H
 clear H
 go_enter Try.func89, Try.ntmps89
 go_upto_region 2 with (fail)
 go_cut [22] (fun v22 wc => ∃ (kq : Nat) (x22_3 : Bool), v22 = .bool x22_3 ∧ Aside0 (impl_ClearBetween.j0 kq l0 l1 l2 0 x22_3 = some r) ∧ Aside0 (kq ≤ k) ∧ Aside0 (Below w.heap.size w wc))
 case first =>
  have H := HC4.out
  clear HC4
  obtain ⟨t423, A5, H⟩ := bindE H
  try dsimp only at H
  by_cases c6 : t423 = true
  ·
   subst c6
   have H1 : ((impl_IsTogether.f k l0 l2).bind fun t424 => (impl_ClearBetween.j0 k l0 l1 l2 0 (!t424))) = some r := by rw [if_pos rfl] at H; exact H
   clear H
   have H := H1
   clear H1
   obtain ⟨t424, A7, H⟩ := bindE H
   try dsimp only at H
   have H' := Aside0.mk H
   clear H
   go_wp2_with (first | ((with_reducible refine gate_callee (f := 87) rfl ?_); refine gL (some 15) Try.func87 #[.slice A0 l0.length c0, .slice A1 l1.length c1] ?_; (with_reducible refine (impl_IsTogether.calls k _ _ l0 _ _ l1 true _ ?_ ?_ ?_ ?_ A5.out).mono ?_); exact cB HR0; exact HC0.out; exact cB HR1; exact HC1.out; rintro e w8 ⟨rfl, hb⟩; refine ⟨_, rfl, ?_⟩; replace HB := bs HB hb; (try clear hb)) | (go_at_call 87; (with_reducible refine (impl_IsTogether.calls k _ _ l0 _ _ l2 t424 _ ?_ ?_ ?_ ?_ A7.out).mono ?_); exact cB HR0; exact HC0.out; exact cB HR2; exact HC2.out; rintro e w9 ⟨rfl, hb⟩; replace HB := bs HB hb; (try clear hb)))
   go_meet
   case rel => exact ⟨_, (!t424), rS, H', ⟨oL⟩, ⟨bA⟩⟩
  replace c6 := Bool.eq_false_iff.mpr c6
  subst c6
  have H1 : (impl_ClearBetween.j0 k l0 l1 l2 0 true) = some r := by rw [if_neg (show ¬ (false = true) by decide)] at H; exact H
  clear H
  have H := H1
  clear H1
  have H' := Aside0.mk H
  clear H
  go_wp2_with (first | ((with_reducible refine gate_callee (f := 87) rfl ?_); refine gL (some 15) Try.func87 #[.slice A0 l0.length c0, .slice A1 l1.length c1] ?_; (with_reducible refine (impl_IsTogether.calls k _ _ l0 _ _ l1 false _ ?_ ?_ ?_ ?_ A5.out).mono ?_); exact cB HR0; exact HC0.out; exact cB HR1; exact HC1.out; rintro e w10 ⟨rfl, hb⟩; refine ⟨_, rfl, ?_⟩; replace HB := bs HB hb; (try clear hb)))
  go_meet
  case rel => exact ⟨_, (true), rS, H', ⟨oL⟩, ⟨bA⟩⟩
 case rest =>
  clear HC4
  obtain ⟨kq, x22_3, rfl, HA, HJ3, HB⟩ := hcut
  cases kq with
  | zero => exact absurd HA.out (by simp [impl_ClearBetween.j0])
  | succ kj3 =>
   have H := HA.out
   clear HA
   simp only [impl_ClearBetween.j0] at H
   by_cases c11 : x22_3 = true
   ·
    subst c11
    have H1 : (some 0) = some r := by rw [if_pos rfl] at H; exact H
    clear H
    have H := H1
    clear H1
    obtain rfl := Option.some.inj H
    go_wp2
    go_ret
    exact ⟨rA, bA⟩
   replace c11 := Bool.eq_false_iff.mpr c11
   subst c11
   have H1 : ((impl_Closes.f kj3 l1 l2).bind fun t425 => (impl_ClearBetween.l0 kj3 l0 l1 l2 0 t425 (t425.length : Int) 0)) = some r := by rw [if_neg (show ¬ (false = true) by decide)] at H; exact H
   clear H
   have H := H1
   clear H1
   obtain ⟨t425, A12, H⟩ := bindE H
   try dsimp only at H
   have H' := Aside0.mk H
   clear H
   go_wp2_with (first | ((with_reducible refine gate_callee (f := 134) rfl ?_); refine gL (some 26) Try.func134 #[.slice A1 l1.length c1, .slice A2 l2.length c2] ?_; (with_reducible refine (impl_Closes.calls kj3 _ _ l1 _ _ l2 t425 _ ?_ ?_ ?_ ?_ A12.out).mono ?_); exact cB HR1; exact HC1.out; exact cB HR2; exact HC2.out; rintro e w13 ⟨v426, rfl, ho0, hb⟩; refine ⟨_, rfl, ?_⟩; have HO427 := rl w ho0; replace HB := bs HB hb; (try clear hb); (try clear ho0); obtain ⟨Ao14, co14, eo14⟩ := Kd.R_slice HO427.out; subst eo14))
   go_loopg [7, 28] kj3 (fun kq v7 v28 w' => ∃ (x7_2 : Int) (x28_2 : Int), v7 = .int .i64 x7_2 ∧ v28 = .int .i64 x28_2 ∧ Aside0 (impl_ClearBetween.l0 kq l0 l1 l2 x7_2 t425 (t425.length : Int) x28_2 = some r) ∧ Aside0 (kq ≤ kj3) ∧ Aside0 (Kd.R (Kd.int .i64) 3 w' w.heap.size (fun _ => True) (.slice Ao14 t425.length co14) t425) ∧ Aside0 (Below w.heap.size w w'))
   case atStart => exact ⟨(0), (0), rS, rS, H', ⟨Nat.le_refl _⟩, ⟨rK HO427⟩, ⟨bA⟩⟩
   case round =>
    clear H'
    obtain ⟨x7_2, x28_2, rfl, rfl, HA, HK2, HO_26, HB⟩ := hrel
    cases gk with
    | zero => exact absurd HA.out (by simp [impl_ClearBetween.l0])
    | succ k2 =>
     have H := HA.out
     clear HA
     simp only [impl_ClearBetween.l0] at H
     by_cases c15 : x28_2 < (t425.length : Int)
     ·
      rw [if_pos c15] at H
      have c15b0 := decide_eq_true c15
      clear c15
      have c16 : 0 ≤ x28_2 := ifN H
      replace H := ifT H
      have c16b0 := decide_eq_true c16
      clear c16
      have c17 : x28_2 < (t425.length : Int) := ifN H
      replace H := ifT H
      have c17b0 := decide_eq_true c17
      clear c17
      obtain ⟨t429, A18, H⟩ := bindE H
      try dsimp only at H
      have H' := Aside0.mk H
      clear H
      obtain ⟨p428, q428⟩ : 0 ≤ (x28_2 : Int) ∧ x28_2 < (t425.length : Int) := ⟨dA, dA⟩
      obtain ⟨ad428, e428, hx428_0⟩ := Kd.at_int (Kd.R_reads' HO_26.out).2.2 x28_2 p428 q428
      cases e428
      obtain ⟨p428, q428⟩ := eT p428 q428
      go_wp2_with (first | ((with_reducible refine gate_callee (f := 134) rfl ?_); refine gL (some 34) Try.func134 #[.slice A2 l2.length c2, .slice A1 l1.length c1] ?_; (with_reducible refine (impl_Closes.calls k2 _ _ l2 _ _ l1 t429 _ ?_ ?_ ?_ ?_ A18.out).mono ?_); exact cB HR2; exact HC2.out; exact cB HR1; exact HC1.out; rintro e w19 ⟨v430, rfl, ho0, hb⟩; refine ⟨_, rfl, ?_⟩; have HO431 := rl w (rn ho0 HO_26); replace HO_26 := re HO_26 ho0 hb; replace HB := bs HB hb; (try clear hb); (try clear ho0); obtain ⟨Ao20, co20, eo20⟩ := Kd.R_slice HO431.out; subst eo20))
      go_loopg [7, 36] k2 (fun kq v7 v36 w' => ∃ (x7_3 : Int) (x36_3 : Int), v7 = .int .i64 x7_3 ∧ v36 = .int .i64 x36_3 ∧ Aside0 (impl_ClearBetween.l1 kq l0 l1 l2 x7_3 (rd t425 x28_2) t425 (t425.length : Int) x28_2 t429 (t429.length : Int) x36_3 = some r) ∧ Aside0 (kq ≤ k2) ∧ Aside0 (Kd.R (Kd.int .i64) 3 w' w.heap.size (n1 (.slice Ao20 t429.length co20)) (.slice (some ad428) t425.length co14) t425) ∧ Aside0 (Kd.R (Kd.int .i64) 3 w' w.heap.size (n1 (.slice (some ad428) t425.length co14)) (.slice Ao20 t429.length co20) t429) ∧ Aside0 (Below w.heap.size w w'))
      case atStart => exact ⟨(x7_2), (0), rS, rS, H', ⟨Nat.le_refl _⟩, ⟨rm HO_26 (fun _ hk => hk.2)⟩, ⟨rm HO431 (fun _ hk => hk.2)⟩, ⟨bA⟩⟩
      case round =>
       clear H'
       obtain ⟨x7_3, x36_3, rfl, rfl, HA, HK3, HO_26, HO_34, HB⟩ := hrel
       cases gk with
       | zero => exact absurd HA.out (by simp [impl_ClearBetween.l1])
       | succ k3 =>
        have H := HA.out
        clear HA
        simp only [impl_ClearBetween.l1] at H
        by_cases c21 : x36_3 < (t429.length : Int)
        ·
         rw [if_pos c21] at H
         have c21b0 := decide_eq_true c21
         clear c21
         have c22 : 0 ≤ x36_3 := ifN H
         replace H := ifT H
         have c22b0 := decide_eq_true c22
         clear c22
         have c23 : x36_3 < (t429.length : Int) := ifN H
         replace H := ifT H
         have c23b0 := decide_eq_true c23
         clear c23
         obtain ⟨t433, A24, H⟩ := bindE H
         try dsimp only at H
         have c25 : 0 ≤ t433 := ifN H
         replace H := ifT H
         have c25b0 := decide_eq_true c25
         clear c25
         have c26 : t433 < (l0.length : Int) := ifN H
         replace H := ifT H
         have c26b0 := decide_eq_true c26
         clear c26
         obtain ⟨t436, A27, H⟩ := bindE H
         try dsimp only at H
         have c28 : 0 ≤ t436 := ifN H
         replace H := ifT H
         have c28b0 := decide_eq_true c28
         clear c28
         have c29 : t436 < (l0.length : Int) := ifN H
         replace H := ifT H
         have c29b0 := decide_eq_true c29
         clear c29
         obtain ⟨t438, A30, H⟩ := bindE H
         try dsimp only at H
         by_cases c31 : t438 = true
         ·
          subst c31
          have H1 : ((impl_ClearOf.f ((rd_T89 l0 t433).f0) ((rd_T89 l0 t433).f1) ((rd_T89 l0 t433).f2) ((rd_T89 l0 t433).f3)).bind fun t439 => (impl_ClearBetween.l1 k3 l0 l1 l2 (mx x7_3 t439) (rd t425 x28_2) t425 (t425.length : Int) x28_2 t429 (t429.length : Int) (wrap64 (x36_3 + 1)))) = some r := by rw [if_pos rfl] at H; exact H
          clear H
          have H := H1
          clear H1
          obtain ⟨t439, A32, H⟩ := bindE H
          try dsimp only at H
          obtain ⟨ji33, hji33⟩ : ∃ j_ : Int, (mx x7_3 t439) = j_ := ⟨_, rfl⟩
          replace H : (impl_ClearBetween.l1 k3 l0 l1 l2 ji33 (rd t425 x28_2) t425 (t425.length : Int) x28_2 t429 (t429.length : Int) (wrap64 (x36_3 + 1))) = some r := by first | (rw [hji33] at H; exact H) | (simp only [hji33] at H ⊢; exact H)
          (try rw [hji33] at A24)
          (try rw [hji33] at A27)
          (try rw [hji33] at A30)
          (try rw [hji33] at A32)
          have hji33_ : (if x7_3 < t439 then t439 else x7_3) = ji33 := hji33
          have H' := Aside0.mk H
          clear H
          obtain ⟨p432, q432⟩ : 0 ≤ (x36_3 : Int) ∧ x36_3 < (t429.length : Int) := ⟨dA, dA⟩
          obtain ⟨ad432, e432, hx432_0⟩ := Kd.at_int (Kd.R_reads' HO_34.out).2.2 x36_3 p432 q432
          cases e432
          obtain ⟨p432, q432⟩ := eT p432 q432
          try go_wp2_with (first | ((with_reducible refine gate_callee (f := 119) rfl ?_); refine gL (some 43) Try.func119 #[.slice A0 l0.length c0, .int .i64 (rd t425 x28_2)] ?_; (with_reducible refine (impl_FindPath.calls _ _ l0 (rd t425 x28_2) t433 _ ?_ ?_ A24.out).mono ?_); exact cB HR0; exact HC0.out; rintro e w34 ⟨rfl, hb⟩; refine ⟨_, rfl, ?_⟩; replace HO_26 := rb HO_26 hb; replace HO_34 := rb HO_34 hb; replace HB := bs HB hb; (try clear hb); have p434 : 0 ≤ (t433 : Int) := dA; have q434 : t433 < (l0.length : Int) := dA; obtain ⟨ad434, e434, hx434_0, hx434_1, hx434_2, hx434_3⟩ := at_T89 HR0.out t433 p434 q434; cases e434; replace hx434_0 := hC HB hx434_0; replace hx434_1 := hC HB hx434_1; replace hx434_2 := hC HB hx434_2; replace hx434_3 := hC HB hx434_3; replace p434 := eq_true p434; replace q434 := eq_true q434) | ((with_reducible refine gate_dst (N := 12) rfl ?_); refine bE (N := 12) (cs := #[.int .i64 0, .int .i64 0, .int .i64 0, .int .i64 0]) (t := 89) ?_; intro gb435 hg w35 hbox hb; replace HO_26 := rb HO_26 hb; replace HO_34 := rb HO_34 hb; have BK435 := Aside0.mk (hbox); have GW435 := gw w hg; have GE435 := gw w hg; replace HB := bs HB hb; clear hb hbox hg; obtain ⟨_, _, _, _, _, _, _, _⟩ := blkc4 BK435))
          have n0_ : Aside0 (Kd.R (Kd.int .i64) 3 ((((w35.setCell ⟨gb435, 0, none⟩ (.int .i64 ((rd_T89 l0 t433).f0))).setCell ⟨gb435, 1, none⟩ (.int .i64 ((rd_T89 l0 t433).f1))).setCell ⟨gb435, 2, none⟩ (.int .i64 ((rd_T89 l0 t433).f2))).setCell ⟨gb435, 3, none⟩ (.int .i64 ((rd_T89 l0 t433).f3))) w.heap.size (n1 (.slice (some ad432) t429.length co20)) (.slice (some ad428) t425.length co14) t425) := ⟨rf HO_26 BK435⟩
          have n1_ : Aside0 (Kd.R (Kd.int .i64) 3 ((((w35.setCell ⟨gb435, 0, none⟩ (.int .i64 ((rd_T89 l0 t433).f0))).setCell ⟨gb435, 1, none⟩ (.int .i64 ((rd_T89 l0 t433).f1))).setCell ⟨gb435, 2, none⟩ (.int .i64 ((rd_T89 l0 t433).f2))).setCell ⟨gb435, 3, none⟩ (.int .i64 ((rd_T89 l0 t433).f3))) w.heap.size (n1 (.slice (some ad428) t425.length co14)) (.slice (some ad432) t429.length co20) t429) := ⟨rf HO_34 BK435⟩
          have n2_ : Aside0 (((((w35.setCell ⟨gb435, 0, none⟩ (.int .i64 ((rd_T89 l0 t433).f0))).setCell ⟨gb435, 1, none⟩ (.int .i64 ((rd_T89 l0 t433).f1))).setCell ⟨gb435, 2, none⟩ (.int .i64 ((rd_T89 l0 t433).f2))).setCell ⟨gb435, 3, none⟩ (.int .i64 ((rd_T89 l0 t433).f3))).heap[gb435]? = some (.cells #[.int .i64 ((rd_T89 l0 t433).f0), .int .i64 ((rd_T89 l0 t433).f1), .int .i64 ((rd_T89 l0 t433).f2), .int .i64 ((rd_T89 l0 t433).f3)] 89 (0, 0))) := ⟨kp BK435⟩
          have n3_ : Aside0 (Below w.heap.size w ((((w35.setCell ⟨gb435, 0, none⟩ (.int .i64 ((rd_T89 l0 t433).f0))).setCell ⟨gb435, 1, none⟩ (.int .i64 ((rd_T89 l0 t433).f1))).setCell ⟨gb435, 2, none⟩ (.int .i64 ((rd_T89 l0 t433).f2))).setCell ⟨gb435, 3, none⟩ (.int .i64 ((rd_T89 l0 t433).f3)))) := ⟨bG⟩
          (try clear HO_26)
          (try clear HO_34)
          (try clear BK435)
          (try clear HB)
          generalize ((((w35.setCell ⟨gb435, 0, none⟩ (.int .i64 ((rd_T89 l0 t433).f0))).setCell ⟨gb435, 1, none⟩ (.int .i64 ((rd_T89 l0 t433).f1))).setCell ⟨gb435, 2, none⟩ (.int .i64 ((rd_T89 l0 t433).f2))).setCell ⟨gb435, 3, none⟩ (.int .i64 ((rd_T89 l0 t433).f3))) = w37 at n0_ n1_ n2_ n3_ ⊢
          have HO_26 := n0_
          have HO_34 := n1_
          have BK435 := n2_
          have HB := n3_
          clear n0_ n1_ n2_ n3_
          replace HO_26 := dr HO_26
          replace HO_34 := dr HO_34
          replace BK435 := dk BK435
          have HBo := HB
          replace HB := db HB
          obtain ⟨p437, q437⟩ : 0 ≤ (t436 : Int) ∧ t436 < (l0.length : Int) := ⟨dA, dA⟩
          obtain ⟨ad437, e437, hx437_0, hx437_1, hx437_2, hx437_3⟩ := at_T89 HR0.out t436 p437 q437
          have hw437_3 := hx437_3
          have hw437_2 := hx437_2
          have hw437_1 := hx437_1
          have hw437_0 := hx437_0
          obtain rfl : ad434 = ad437 := (by injection e437)
          replace hx437_0 := hC HB hx437_0
          replace hx437_1 := hC HB hx437_1
          replace hx437_2 := hC HB hx437_2
          replace hx437_3 := hC HB hx437_3
          obtain ⟨p437, q437⟩ := eT p437 q437
          refine sw (ds := []) 8 (mb 8 0) impl_ClearBetween.tab11 impl_ClearBetween.bits11 (h4c BK435 (h1c (hC HB hw437_0) (h1c (hC HB hw437_1) (h1c (hC HB hw437_2) (h1 (hC HB hw437_3)))))) (fun hHeld HT_ HW_ => ?_)
          generalize w37.drew = w38 at HO_26 HO_34 BK435 HB hx437_0 hx437_1 hx437_2 hx437_3 hHeld ⊢
          refine pa 1 47 (mb 8 2) HT_ ?_
          refine pa 2 48 (mb 8 6) HT_ ?_
          refine pa 3 49 (mb 8 14) HT_ ?_
          refine ta8 0 46 (mb 8 15) HT_ HW_ hHeld ?_
          refine oa 4 50 (mb 8 31) HT_ (fun K hK => ?_)
          refine gA Try.func119 #[.slice (some ad434) l0.length c0, .int .i64 (rd t429 x36_3)] ?_
          with_reducible refine (impl_FindPath.calls _ _ l0 (rd t429 x36_3) t436 _ ?side1 ?side2 A27.out).mono ?_
          (case side1 => exact cB HR0)
          (case side2 => exact HC0.out)
          rintro e w39 ⟨rfl, hb⟩
          refine ⟨_, rfl, ?_⟩
          replace HO_26 := rb HO_26 hb
          replace HO_34 := rb HO_34 hb
          replace BK435 := kb BK435 hb
          replace HB := bs HB hb
          (try clear hb)
          (try clear hb2)
          (try clear hk)
          (try clear hi)
          refine hK.out _ _ (cm4 BK435 ⟨(hC HB hw437_0), (hC HB hw437_1), (hC HB hw437_2), (hC HB hw437_3)⟩) (fun hHeld => ?_)
          clear hK K
          refine nB ?_
          refine pa 5 51 (mb 8 63) HT_ ?_
          refine ta8 6 52 (mb 8 127) HT_ HW_ hHeld ?_
          refine oa 7 53 (mb 8 255) HT_ (fun K hK => ?_)
          refine gA Try.func133 #[.agg #[.int .i64 ((rd_T89 l0 t433).f0), .int .i64 ((rd_T89 l0 t433).f1), .int .i64 ((rd_T89 l0 t433).f2), .int .i64 ((rd_T89 l0 t433).f3)], .agg #[.int .i64 ((rd_T89 l0 t436).f0), .int .i64 ((rd_T89 l0 t436).f1), .int .i64 ((rd_T89 l0 t436).f2), .int .i64 ((rd_T89 l0 t436).f3)]] ?_
          with_reducible refine (impl_Conflict.calls k3 ((rd_T89 l0 t433).f0) ((rd_T89 l0 t433).f1) ((rd_T89 l0 t433).f2) ((rd_T89 l0 t433).f3) ((rd_T89 l0 t436).f0) ((rd_T89 l0 t436).f1) ((rd_T89 l0 t436).f2) ((rd_T89 l0 t436).f3) true _ A30.out).mono ?_
          rintro e w40 ⟨rfl, hb⟩
          refine ⟨_, rfl, ?_⟩
          replace HO_26 := rb HO_26 hb
          replace HO_34 := rb HO_34 hb
          replace BK435 := kb BK435 hb
          replace HB := bs HB hb
          (try clear hb)
          (try clear hb2)
          (try clear hk)
          (try clear hi)
          refine hK.out _ _ (cm4 BK435 ⟨(hC HB hw437_0), (hC HB hw437_1), (hC HB hw437_2), (hC HB hw437_3)⟩) (fun hHeld => ?_)
          clear hK K
          refine nB ?_
          refine eA HT_ ?_
          obtain ⟨_, _, _, _, _, _, _, _⟩ := blkc4 BK435
          try go_wp2_with (first | ((with_reducible refine gate_callee (f := 135) rfl ?_); refine gL (some 56) Try.func135 #[.agg #[.int .i64 ((rd_T89 l0 t433).f0), .int .i64 ((rd_T89 l0 t433).f1), .int .i64 ((rd_T89 l0 t433).f2), .int .i64 ((rd_T89 l0 t433).f3)]] ?_; (with_reducible refine (impl_ClearOf.calls ((rd_T89 l0 t433).f0) ((rd_T89 l0 t433).f1) ((rd_T89 l0 t433).f2) ((rd_T89 l0 t433).f3) t439 _ A32.out).mono ?_); rintro e w42 ⟨rfl, hb⟩; refine ⟨_, rfl, ?_⟩; replace HO_26 := rb HO_26 hb; replace HO_34 := rb HO_34 hb; replace BK435 := kb BK435 hb; replace HB := bs HB hb; (try clear hb)))
          go_roundg k3
          case measure => have := HJ3.out; have := HK2.out; have := HK3.out; omega
          case rel => exact ⟨(ji33), (wrap64 (x36_3 + 1)), (by first | rfl | (simp; done) | (simp only [← hji33] <;> (first | rfl | simp)) | (simp [*]; done)), rS, H', ⟨by have := HJ3.out; have := HK2.out; have := HK3.out; omega⟩, ⟨rK HO_26⟩, ⟨rK HO_34⟩, ⟨bG⟩⟩
         replace c31 := Bool.eq_false_iff.mpr c31
         subst c31
         have H1 : (impl_ClearBetween.l1 k3 l0 l1 l2 x7_3 (rd t425 x28_2) t425 (t425.length : Int) x28_2 t429 (t429.length : Int) (wrap64 (x36_3 + 1))) = some r := by rw [if_neg (show ¬ (false = true) by decide)] at H; exact H
         clear H
         have H := H1
         clear H1
         have H' := Aside0.mk H
         clear H
         obtain ⟨p432, q432⟩ : 0 ≤ (x36_3 : Int) ∧ x36_3 < (t429.length : Int) := ⟨dA, dA⟩
         obtain ⟨ad432, e432, hx432_0⟩ := Kd.at_int (Kd.R_reads' HO_34.out).2.2 x36_3 p432 q432
         cases e432
         obtain ⟨p432, q432⟩ := eT p432 q432
         try go_wp2_with (first | ((with_reducible refine gate_callee (f := 119) rfl ?_); refine gL (some 43) Try.func119 #[.slice A0 l0.length c0, .int .i64 (rd t425 x28_2)] ?_; (with_reducible refine (impl_FindPath.calls _ _ l0 (rd t425 x28_2) t433 _ ?_ ?_ A24.out).mono ?_); exact cB HR0; exact HC0.out; rintro e w43 ⟨rfl, hb⟩; refine ⟨_, rfl, ?_⟩; replace HO_26 := rb HO_26 hb; replace HO_34 := rb HO_34 hb; replace HB := bs HB hb; (try clear hb); have p434 : 0 ≤ (t433 : Int) := dA; have q434 : t433 < (l0.length : Int) := dA; obtain ⟨ad434, e434, hx434_0, hx434_1, hx434_2, hx434_3⟩ := at_T89 HR0.out t433 p434 q434; cases e434; replace hx434_0 := hC HB hx434_0; replace hx434_1 := hC HB hx434_1; replace hx434_2 := hC HB hx434_2; replace hx434_3 := hC HB hx434_3; replace p434 := eq_true p434; replace q434 := eq_true q434) | ((with_reducible refine gate_dst (N := 12) rfl ?_); refine bE (N := 12) (cs := #[.int .i64 0, .int .i64 0, .int .i64 0, .int .i64 0]) (t := 89) ?_; intro gb435 hg w44 hbox hb; replace HO_26 := rb HO_26 hb; replace HO_34 := rb HO_34 hb; have BK435 := Aside0.mk (hbox); have GW435 := gw w hg; have GE435 := gw w hg; replace HB := bs HB hb; clear hb hbox hg; obtain ⟨_, _, _, _, _, _, _, _⟩ := blkc4 BK435))
         have n0_ : Aside0 (Kd.R (Kd.int .i64) 3 ((((w44.setCell ⟨gb435, 0, none⟩ (.int .i64 ((rd_T89 l0 t433).f0))).setCell ⟨gb435, 1, none⟩ (.int .i64 ((rd_T89 l0 t433).f1))).setCell ⟨gb435, 2, none⟩ (.int .i64 ((rd_T89 l0 t433).f2))).setCell ⟨gb435, 3, none⟩ (.int .i64 ((rd_T89 l0 t433).f3))) w.heap.size (n1 (.slice (some ad432) t429.length co20)) (.slice (some ad428) t425.length co14) t425) := ⟨rf HO_26 BK435⟩
         have n1_ : Aside0 (Kd.R (Kd.int .i64) 3 ((((w44.setCell ⟨gb435, 0, none⟩ (.int .i64 ((rd_T89 l0 t433).f0))).setCell ⟨gb435, 1, none⟩ (.int .i64 ((rd_T89 l0 t433).f1))).setCell ⟨gb435, 2, none⟩ (.int .i64 ((rd_T89 l0 t433).f2))).setCell ⟨gb435, 3, none⟩ (.int .i64 ((rd_T89 l0 t433).f3))) w.heap.size (n1 (.slice (some ad428) t425.length co14)) (.slice (some ad432) t429.length co20) t429) := ⟨rf HO_34 BK435⟩
         have n2_ : Aside0 (((((w44.setCell ⟨gb435, 0, none⟩ (.int .i64 ((rd_T89 l0 t433).f0))).setCell ⟨gb435, 1, none⟩ (.int .i64 ((rd_T89 l0 t433).f1))).setCell ⟨gb435, 2, none⟩ (.int .i64 ((rd_T89 l0 t433).f2))).setCell ⟨gb435, 3, none⟩ (.int .i64 ((rd_T89 l0 t433).f3))).heap[gb435]? = some (.cells #[.int .i64 ((rd_T89 l0 t433).f0), .int .i64 ((rd_T89 l0 t433).f1), .int .i64 ((rd_T89 l0 t433).f2), .int .i64 ((rd_T89 l0 t433).f3)] 89 (0, 0))) := ⟨kp BK435⟩
         have n3_ : Aside0 (Below w.heap.size w ((((w44.setCell ⟨gb435, 0, none⟩ (.int .i64 ((rd_T89 l0 t433).f0))).setCell ⟨gb435, 1, none⟩ (.int .i64 ((rd_T89 l0 t433).f1))).setCell ⟨gb435, 2, none⟩ (.int .i64 ((rd_T89 l0 t433).f2))).setCell ⟨gb435, 3, none⟩ (.int .i64 ((rd_T89 l0 t433).f3)))) := ⟨bG⟩
         (try clear HO_26)
         (try clear HO_34)
         (try clear BK435)
         (try clear HB)
         generalize ((((w44.setCell ⟨gb435, 0, none⟩ (.int .i64 ((rd_T89 l0 t433).f0))).setCell ⟨gb435, 1, none⟩ (.int .i64 ((rd_T89 l0 t433).f1))).setCell ⟨gb435, 2, none⟩ (.int .i64 ((rd_T89 l0 t433).f2))).setCell ⟨gb435, 3, none⟩ (.int .i64 ((rd_T89 l0 t433).f3))) = w46 at n0_ n1_ n2_ n3_ ⊢
         have HO_26 := n0_
         have HO_34 := n1_
         have BK435 := n2_
         have HB := n3_
         clear n0_ n1_ n2_ n3_
         replace HO_26 := dr HO_26
         replace HO_34 := dr HO_34
         replace BK435 := dk BK435
         have HBo := HB
         replace HB := db HB
         obtain ⟨p437, q437⟩ : 0 ≤ (t436 : Int) ∧ t436 < (l0.length : Int) := ⟨dA, dA⟩
         obtain ⟨ad437, e437, hx437_0, hx437_1, hx437_2, hx437_3⟩ := at_T89 HR0.out t436 p437 q437
         have hw437_3 := hx437_3
         have hw437_2 := hx437_2
         have hw437_1 := hx437_1
         have hw437_0 := hx437_0
         obtain rfl : ad434 = ad437 := (by injection e437)
         replace hx437_0 := hC HB hx437_0
         replace hx437_1 := hC HB hx437_1
         replace hx437_2 := hC HB hx437_2
         replace hx437_3 := hC HB hx437_3
         obtain ⟨p437, q437⟩ := eT p437 q437
         refine sw (ds := []) 8 (mb 8 0) impl_ClearBetween.tab11 impl_ClearBetween.bits11 (h4c BK435 (h1c (hC HB hw437_0) (h1c (hC HB hw437_1) (h1c (hC HB hw437_2) (h1 (hC HB hw437_3)))))) (fun hHeld HT_ HW_ => ?_)
         generalize w46.drew = w47 at HO_26 HO_34 BK435 HB hx437_0 hx437_1 hx437_2 hx437_3 hHeld ⊢
         refine pa 1 47 (mb 8 2) HT_ ?_
         refine pa 2 48 (mb 8 6) HT_ ?_
         refine pa 3 49 (mb 8 14) HT_ ?_
         refine ta8 0 46 (mb 8 15) HT_ HW_ hHeld ?_
         refine oa 4 50 (mb 8 31) HT_ (fun K hK => ?_)
         refine gA Try.func119 #[.slice (some ad434) l0.length c0, .int .i64 (rd t429 x36_3)] ?_
         with_reducible refine (impl_FindPath.calls _ _ l0 (rd t429 x36_3) t436 _ ?side1 ?side2 A27.out).mono ?_
         (case side1 => exact cB HR0)
         (case side2 => exact HC0.out)
         rintro e w48 ⟨rfl, hb⟩
         refine ⟨_, rfl, ?_⟩
         replace HO_26 := rb HO_26 hb
         replace HO_34 := rb HO_34 hb
         replace BK435 := kb BK435 hb
         replace HB := bs HB hb
         (try clear hb)
         (try clear hb2)
         (try clear hk)
         (try clear hi)
         refine hK.out _ _ (cm4 BK435 ⟨(hC HB hw437_0), (hC HB hw437_1), (hC HB hw437_2), (hC HB hw437_3)⟩) (fun hHeld => ?_)
         clear hK K
         refine nB ?_
         refine pa 5 51 (mb 8 63) HT_ ?_
         refine ta8 6 52 (mb 8 127) HT_ HW_ hHeld ?_
         refine oa 7 53 (mb 8 255) HT_ (fun K hK => ?_)
         refine gA Try.func133 #[.agg #[.int .i64 ((rd_T89 l0 t433).f0), .int .i64 ((rd_T89 l0 t433).f1), .int .i64 ((rd_T89 l0 t433).f2), .int .i64 ((rd_T89 l0 t433).f3)], .agg #[.int .i64 ((rd_T89 l0 t436).f0), .int .i64 ((rd_T89 l0 t436).f1), .int .i64 ((rd_T89 l0 t436).f2), .int .i64 ((rd_T89 l0 t436).f3)]] ?_
         with_reducible refine (impl_Conflict.calls k3 ((rd_T89 l0 t433).f0) ((rd_T89 l0 t433).f1) ((rd_T89 l0 t433).f2) ((rd_T89 l0 t433).f3) ((rd_T89 l0 t436).f0) ((rd_T89 l0 t436).f1) ((rd_T89 l0 t436).f2) ((rd_T89 l0 t436).f3) false _ A30.out).mono ?_
         rintro e w49 ⟨rfl, hb⟩
         refine ⟨_, rfl, ?_⟩
         replace HO_26 := rb HO_26 hb
         replace HO_34 := rb HO_34 hb
         replace BK435 := kb BK435 hb
         replace HB := bs HB hb
         (try clear hb)
         (try clear hb2)
         (try clear hk)
         (try clear hi)
         refine hK.out _ _ (cm4 BK435 ⟨(hC HB hw437_0), (hC HB hw437_1), (hC HB hw437_2), (hC HB hw437_3)⟩) (fun hHeld => ?_)
         clear hK K
         refine nB ?_
         refine eA HT_ ?_
         try go_wp2
         go_roundg k3
         case measure => have := HJ3.out; have := HK2.out; have := HK3.out; omega
         case rel => exact ⟨(x7_3), (wrap64 (x36_3 + 1)), rS, rS, H', ⟨by have := HJ3.out; have := HK2.out; have := HK3.out; omega⟩, ⟨rK HO_26⟩, ⟨rK HO_34⟩, ⟨bG⟩⟩
        rw [if_neg c21] at H
        have c21b0 := decide_eq_false c21
        clear c21
        have H' := Aside0.mk H
        clear H
        go_wp2
        go_roundg k3
        case measure => have := HJ3.out; have := HK2.out; have := HK3.out; omega
        case rel => exact ⟨(x7_3), (wrap64 (x28_2 + 1)), rS, rS, H', ⟨by have := HJ3.out; have := HK2.out; have := HK3.out; omega⟩, ⟨rm HO_26 (fun _ hk => trivial)⟩, ⟨bA⟩⟩
     rw [if_neg c15] at H
     have c15b0 := decide_eq_false c15
     clear c15
     obtain rfl := Option.some.inj H
     go_wp2
     go_ret
     exact ⟨rA, bA⟩

/-! ### impl_nextStage: function 159 -/
def impl_nextStage.f (l0 : List (S92)) (a1 : Int) : Option (List Int) := if (l0.length : Int) = 0 then (none) else (if 0 ≤ (Int.tmod (wrap64 (a1 + 1)) (l0.length : Int)) then (if (Int.tmod (wrap64 (a1 + 1)) (l0.length : Int)) < (l0.length : Int) then (some ((rd_T92 l0 (Int.tmod (wrap64 (a1 + 1)) (l0.length : Int))).f0)) else (none)) else (none))
set_option maxHeartbeats 8000000 in
set_option maxRecDepth 100000 in
theorem impl_nextStage.calls (P0_ : Nat → Prop) (A0 : Option Addr) (c0 : Nat) (l0 : List (S92)) (a1 : Int) (r : List Int) (w : World) (hs0 : Kd.V k92 92 w w.heap.size (fun k_ => P0_ k_) (.slice A0 l0.length c0) l0) (h : impl_nextStage.f l0 a1 = some r) :
  Calls Try.prog 159 #[.slice A0 l0.length c0, .int .i64 a1] w fun e w' => ∃ v0_ : Value, e = .returned (v0_) ∧ Kd.V (Kd.int .i64) 3 w' w.heap.size (fun k_ => (P0_ k_ ∨ w.heap.size ≤ k_)) v0_ r ∧ Below w.heap.size w w' := by
 have HO0 := Aside0.mk (show Kd.V k92 92 w w.heap.size (fun k_ => (P0_ k_ ∨ w.heap.size ≤ k_)) (.slice A0 l0.length c0) l0 from Kd.V_mono hs0 (fun k_ hk => .inl hk))
 have HB := Aside0.mk (Below.refl w.heap.size w)
 have H : (if (l0.length : Int) = 0 then (none) else (if 0 ≤ (Int.tmod (wrap64 (a1 + 1)) (l0.length : Int)) then (if (Int.tmod (wrap64 (a1 + 1)) (l0.length : Int)) < (l0.length : Int) then (some ((rd_T92 l0 (Int.tmod (wrap64 (a1 + 1)) (l0.length : Int))).f0)) else (none)) else (none))) = some r := h
 clear h
 have c3 : ¬ ((l0.length : Int) = 0) := ifN' H
 replace H := ifT' H
 have c3b0 : ((l0.length : Int) == 0) = false := beq_eq_false_iff_ne.mpr c3
 have c3b1 : ((l0.length : Int) != 0) = true := bne_iff_ne.mpr c3
 have c3b2 : ¬ (l0 = []) := fun h_ => c3 (by rw [h_]; rfl)
 obtain ⟨ji4, hji4⟩ : ∃ j_ : Int, (Int.tmod (wrap64 (a1 + 1)) (l0.length : Int)) = j_ := ⟨_, rfl⟩
 replace H : (if 0 ≤ (ji4) then (if (ji4) < (l0.length : Int) then (some ((rd_T92 l0 (ji4)).f0)) else (none)) else (none)) = some r := by first | (rw [hji4] at H; exact H) | (simp only [hji4] at H ⊢; exact H)
 have c5 : 0 ≤ (ji4) := ifN H
 replace H := ifT H
 have c5b0 := decide_eq_true c5
 clear c5
 have c6 : (ji4) < (l0.length : Int) := ifN H
 replace H := ifT H
 have c6b0 := decide_eq_true c6
 clear c6
 obtain rfl := Option.some.inj H
 obtain ⟨p440, q440⟩ : 0 ≤ ((ji4) : Int) ∧ (ji4) < (l0.length : Int) := ⟨dA, dA⟩
 obtain ⟨ad440, A440_0, c440_0, e440, hx440_0, hx440_1, hl440_0, hi440_0⟩ := at_T92 (Kd.V_reads' HO0.out).2.2 (ji4) p440 q440
 cases e440
 obtain ⟨ce440, hce440, hMe440, hcc440⟩ := Kd.V_get HO0.out z92 (ji4) p440 (by first | exact q440 | exact dA | (have e_ := (Kd.V_reads' HO0.out).1; omega))
 obtain ⟨ua440_0, uc440_0, rfl, ul440_0, ge440_0⟩ := k92_openF hMe440
 have hv440_0 := hcc440 0 _ rfl
 rw [Nat.add_zero] at hv440_0
 replace hv440_0 := Option.some.inj (hv440_0.symm.trans hx440_0)
 injection hv440_0 with hva_ hvn_ hvc_
 rw [hva_] at ge440_0
 rw [hvc_] at ul440_0
 have HL440_0 := Aside0.mk (show Kd.V (Kd.int .i64) 3 _ w.heap.size _ _ ((rd_T92 l0 (ji4)).f0) from Kd.V_mk ul440_0 ge440_0)
 clear hva_ hvn_ hvc_ ge440_0 ul440_0
 clear hcc440 hce440
 have HR440_0 := Aside0.mk hi440_0
 have HC440_0 := Aside0.mk hl440_0
 clear hi440_0 hl440_0
 obtain ⟨p440, q440⟩ := eT p440 q440
 go_enter Try.func159, Try.ntmps159
 go_wp2
 go_ret
 exact ⟨_, by first | rfl | (simp [errW_none, errW_some] <;> rfl) | (simp only [← hji4]; first | rfl | (simp [errW_none, errW_some] <;> rfl)) | (simp [*, errW_none, errW_some] <;> rfl), by (with_reducible repeat (first | apply Kd.V_alloc | apply Kd.V_drewN | apply Kd.V_drew)); exact HL440_0.out, bA⟩

/-! ### impl_longOf: function 140 -/
def impl_longOf.f (k : Nat) (l0 : List (S89)) (l1 : List (S92)) (a2 : Int) : Option (Int) := if 0 ≤ a2 then (if a2 < (l1.length : Int) then ((impl_nextStage.f l1 a2).bind fun t443 => ((impl_ClearBetween.f k l0 ((rd_T92 l1 a2).f0) t443).bind fun t446 => (some (wrap64 (((rd_T92 l1 a2).f1) + t446))))) else (none)) else (none)
theorem impl_longOf.mono : ∀ a0 a1 a2 k, LeO (impl_longOf.f k a0 a1 a2) (impl_longOf.f (k + 1) a0 a1 a2) := by
 intro a0 a1 a2 k
 unfold impl_longOf.f
 exact mz1 impl_ClearBetween.mono
def impl_longOf.T1 : Bool × List (List Nat × List Nat) := (true, [([], []), ([], []), ([0, 1], [0, 1]), ([2], [2]), ([3], [3]), ([], []), ([], []), ([], []), ([6, 7], [6, 7]), ([8], [8]), ([9], [9]), ([], []), ([], []), ([11, 12], [11, 12]), ([5, 10, 13, 13], [5, 10, 13]), ([4, 14], [4, 14]), ([15, 14, 0, 1, 2, 3, 4, 5, 6, 7, 8, 9, 10, 11, 12, 13, 14, 15], [15])])
def impl_longOf.B1 : List Nat := [0, 0, 3, 7, 15, 0, 0, 0, 192, 448, 960, 0, 0, 6144, 16352, 32767, 65535]
theorem impl_longOf.tab1 : rtab .any (opsOf Try.f140 1) = impl_longOf.T1 := by kernel_rfl
theorem impl_longOf.bits1 : waitsOk impl_longOf.T1.2 impl_longOf.B1 = true := by kernel_rfl
set_option maxHeartbeats 8000000 in
set_option maxRecDepth 100000 in
theorem impl_longOf.calls (k : Nat) (A0 : Option Addr) (c0 : Nat) (l0 : List (S89)) (A1 : Option Addr) (c1 : Nat) (l1 : List (S92)) (a2 : Int) (r : Int) (w : World) (hr0 : Kd.C k89 w A0 l0.length l0) (hc0 : l0.length ≤ c0) (hr1 : Kd.C k92 w A1 l1.length l1) (hc1 : l1.length ≤ c1) (h : impl_longOf.f k l0 l1 a2 = some r) :
  Calls Try.prog 140 #[.slice A0 l0.length c0, .slice A1 l1.length c1, .int .i64 a2] w fun e w' => e = .returned (.int .i64 r) ∧ Below w.heap.size w w' := by
 have HR0 := Aside0.mk hr0
 have HC0 := Aside0.mk hc0
 clear hr0 hc0
 have HR1 := Aside0.mk hr1
 have HC1 := Aside0.mk hc1
 clear hr1 hc1
 have HB := Aside0.mk (Below.refl w.heap.size w)
 have H : (if 0 ≤ a2 then (if a2 < (l1.length : Int) then ((impl_nextStage.f l1 a2).bind fun t443 => ((impl_ClearBetween.f k l0 ((rd_T92 l1 a2).f0) t443).bind fun t446 => (some (wrap64 (((rd_T92 l1 a2).f1) + t446))))) else (none)) else (none)) = some r := h
 clear h
 have c4 : 0 ≤ a2 := ifN H
 replace H := ifT H
 have c4b0 := decide_eq_true c4
 clear c4
 have c5 : a2 < (l1.length : Int) := ifN H
 replace H := ifT H
 have c5b0 := decide_eq_true c5
 clear c5
 obtain ⟨t443, A6, H⟩ := bindE H
 try dsimp only at H
 obtain ⟨t446, A7, H⟩ := bindE H
 try dsimp only at H
 obtain rfl := Option.some.inj H
 go_enter Try.func140, Try.ntmps140
 try go_wp2
 have HBo := HB
 replace HB := db HB
 obtain ⟨p441, q441⟩ : 0 ≤ (a2 : Int) ∧ a2 < (l1.length : Int) := ⟨dA, dA⟩
 obtain ⟨ad441, A441_0, c441_0, e441, hx441_0, hx441_1, hl441_0, hi441_0⟩ := at_T92 HR1.out a2 p441 q441
 have hw441_1 := hx441_1
 have hw441_0 := hx441_0
 cases e441
 replace hx441_0 := hC HB hx441_0
 replace hx441_1 := hC HB hx441_1
 have HR441_0 := Aside0.mk hi441_0
 have HC441_0 := Aside0.mk hl441_0
 clear hi441_0 hl441_0
 obtain ⟨p441, q441⟩ := eT p441 q441
 obtain ⟨p442, q442⟩ : 0 ≤ (a2 : Int) ∧ a2 < (l1.length : Int) := ⟨dA, dA⟩
 obtain ⟨ad442, A442_0, c442_0, e442, hx442_0, hx442_1, hl442_0, hi442_0⟩ := at_T92 HR1.out a2 p442 q442
 have hw442_1 := hx442_1
 have hw442_0 := hx442_0
 obtain rfl : ad441 = ad442 := (by injection e442)
 replace hx442_0 := hC HB hx442_0
 replace hx442_1 := hC HB hx442_1
 have HR442_0 := Aside0.mk hi442_0
 have HC442_0 := Aside0.mk hl442_0
 clear hi442_0 hl442_0
 obtain ⟨p442, q442⟩ := eT p442 q442
 have ea_ := Option.some.inj (hx441_0.symm.trans hx442_0)
 injection ea_ with ea_ en_ ec_
 subst ea_
 subst ec_
 clear en_
 refine sw (ds := []) 17 (mb 17 0) impl_longOf.tab1 impl_longOf.bits1 (h1c (hC HB hw441_0) (h1c (hC HB hw441_1) (h1c (hC HB hw442_0) (h1 (hC HB hw442_1))))) (fun hHeld HT_ HW_ => ?_)
 generalize w.drew = w8 at HB HR441_0 HR442_0 hx441_0 hx441_1 hx442_0 hx442_1 hHeld ⊢
 refine pa 0 7 (mb 17 1) HT_ ?_
 refine pa 1 8 (mb 17 3) HT_ ?_
 refine pa 2 9 (mb 17 7) HT_ ?_
 refine pa 3 10 (mb 17 15) HT_ ?_
 refine pa 5 12 (mb 17 47) HT_ ?_
 refine pa 6 13 (mb 17 111) HT_ ?_
 refine pa 7 14 (mb 17 239) HT_ ?_
 refine pa 8 15 (mb 17 495) HT_ ?_
 refine pa 9 16 (mb 17 1007) HT_ ?_
 refine pa 11 18 (mb 17 3055) HT_ ?_
 refine pa 12 19 (mb 17 7151) HT_ ?_
 refine ta4 4 11 (mb 17 7167) HT_ HW_ hHeld ?_
 refine ta4 10 17 (mb 17 8191) HT_ HW_ hHeld ?_
 refine oa 13 20 (mb 17 16383) HT_ (fun K hK => ?_)
 refine gA Try.func159 #[.slice (some ad441) l1.length c1, .int .i64 a2] ?_
 with_reducible refine (impl_nextStage.calls (fun k_ => k_ < w.heap.size) _ _ l1 a2 t443 _ ?side1 A6.out).mono ?_
 (case side1 => exact Kd.V_mk HC1.out (Kd.F_below (Kd.C_F k92_heap HR1.out) bA))
 rintro e w9 ⟨v444, rfl, ho0, hb⟩
 refine ⟨_, rfl, ?_⟩
 have HO445 := Aside0.mk (Kd.V_lower (Kd.V_mono (ok' := fun k_ => True) ho0 (fun k_ hk_ => trivial)) (below_size bA))
 replace HB := bs HB hb
 (try clear hb)
 (try clear hb2)
 (try clear hk)
 (try clear hi)
 (try clear ho0)
 obtain ⟨Ao10, co10, eo10⟩ := Kd.V_slice HO445.out
 (first | subst eo10 | (injection eo10 with f1_ f2_ f3_; have f4_ := f1_.symm; have f5_ := f3_.symm; clear f1_ f2_ f3_; subst f4_; subst f5_))
 refine hK.out _ _ ⟨(hC HB hw441_0), (hC HB hw441_1), (hC HB hw442_0), (hC HB hw442_1)⟩ (fun hHeld => ?_)
 clear hK K
 refine nB ?_
 refine oa 14 21 (mb 17 32767) HT_ (fun K hK => ?_)
 refine gA Try.func89 #[.slice A0 l0.length c0, .slice A441_0 ((rd_T92 l1 a2).f0).length c441_0, .slice Ao10 t443.length co10] ?_
 with_reducible refine (impl_ClearBetween.calls k _ _ l0 _ _ ((rd_T92 l1 a2).f0) _ _ t443 t446 _ ?side1 ?side2 ?side3 ?side4 ?side5 ?side6 A7.out).mono ?_
 (case side1 => exact cB HR0)
 (case side2 => exact HC0.out)
 (case side3 => exact cB HR442_0)
 (case side4 => exact HC442_0.out)
 (case side5 => repeat (first | exact (Kd.V_reads' HO445.out).2.2 | (with_reducible refine Kd.C_alloc ?_ _) | (with_reducible refine Kd.C_drewN ?_ _) | (with_reducible refine Kd.C_drew ?_)))
 (case side6 => exact (Kd.V_reads' HO445.out).2.1)
 rintro e w11 ⟨rfl, hb⟩
 refine ⟨_, rfl, ?_⟩
 replace HO445 := Aside0.mk (Kd.V_below (by (with_reducible repeat (first | apply Kd.V_alloc | apply Kd.V_drewN | apply Kd.V_drew)); exact HO445.out) hb)
 replace HB := bs HB hb
 (try clear hb)
 (try clear hb2)
 (try clear hk)
 (try clear hi)
 refine hK.out _ _ ⟨(hC HB hw441_0), (hC HB hw441_1), (hC HB hw442_0), (hC HB hw442_1)⟩ (fun hHeld => ?_)
 clear hK K
 refine nB ?_
 refine pa 15 22 (mb 17 65535) HT_ ?_
 refine pa 16 6 (mb 17 131071) HT_ ?_
 refine eA HT_ ?_
 try go_wp2
 go_ret
 exact ⟨rA, bA⟩

/-! ### impl_SpareGreen: function 112 -/
mutual
def impl_SpareGreen.j0 : Nat → List (S89) → List (S92) → Int → Bool → Option (Int)
 | 0, _, _, _, _ => none
 | k + 1, x0, x1, x2, x18 => if x18 = true then (some (-1)) else (impl_SpareGreen.l0 k x0 x1 x2 x1 (x1.length : Int) 0)
def impl_SpareGreen.l0 : Nat → List (S89) → List (S92) → Int → List (S92) → Int → Int → Option (Int)
 | 0, _, _, _, _, _, _ => none
 | k + 1, x0, x1, x7, x20, x21, x22 => if x22 < x21 then (if 0 ≤ x22 then (if x22 < (x20.length : Int) then ((impl_longOf.f k x0 x1 x22).bind fun t451 => ((impl_LeastGreen.f k x0 ((rd_T92 x20 x22).f0)).bind fun t452 => (impl_SpareGreen.l0 k x0 x1 (wrap64 (x7 - (wrap64 ((wrap64 (t451 - ((rd_T92 x20 x22).f1))) + t452)))) x20 x21 (wrap64 (x22 + 1))))) else (none)) else (none)) else (some (mx x7 (-1)))
end
def impl_SpareGreen.f (k : Nat) (l0 : List (S89)) (l1 : List (S92)) (a2 : Int) : Option (Int) := (impl_IsPlan.f k l0 l1).bind fun t447 => (if t447 = true then ((impl_InRange.f a2 1 1000).bind fun t448 => (impl_SpareGreen.j0 k l0 l1 a2 (!t448))) else (impl_SpareGreen.j0 k l0 l1 a2 true))
theorem impl_SpareGreen.mono_l : ∀ k, (∀ y0 y1 y2 y3, LeO (impl_SpareGreen.j0 k y0 y1 y2 y3) (impl_SpareGreen.j0 (k + 1) y0 y1 y2 y3)) ∧ (∀ y0 y1 y2 y3 y4 y5, LeO (impl_SpareGreen.l0 k y0 y1 y2 y3 y4 y5) (impl_SpareGreen.l0 (k + 1) y0 y1 y2 y3 y4 y5))
 | 0 => ⟨fun _ _ _ _ r h => by simp [impl_SpareGreen.j0] at h, fun _ _ _ _ _ _ r h => by simp [impl_SpareGreen.l0] at h⟩
 | k + 1 => by
  obtain ⟨ih0, ih1⟩ := impl_SpareGreen.mono_l k
  refine ⟨?_, ?_⟩
  ·
   intro y0 y1 y2 y3
   unfold impl_SpareGreen.j0
   exact mz5 ih0 ih1 impl_IsPlan.mono impl_LeastGreen.mono impl_longOf.mono
  ·
   intro y0 y1 y2 y3 y4 y5
   unfold impl_SpareGreen.l0
   exact mz5 ih0 ih1 impl_IsPlan.mono impl_LeastGreen.mono impl_longOf.mono
theorem impl_SpareGreen.mono : ∀ a0 a1 a2 k, LeO (impl_SpareGreen.f k a0 a1 a2) (impl_SpareGreen.f (k + 1) a0 a1 a2) := by
 intro a0 a1 a2 k
 obtain ⟨ih0, ih1⟩ := impl_SpareGreen.mono_l k
 unfold impl_SpareGreen.f
 exact mz5 ih0 ih1 impl_IsPlan.mono impl_LeastGreen.mono impl_longOf.mono
def impl_SpareGreen.T7 : Bool × List (List Nat × List Nat) := (true, [([], []), ([], []), ([], []), ([], []), ([1, 2, 3], [1, 2, 3]), ([], []), ([5], [5]), ([4, 6], [4, 6]), ([], []), ([], []), ([9], [9]), ([8, 10, 4], [8, 10]), ([7, 11], [7, 11]), ([0, 12], [0, 12]), ([13, 11, 0, 1, 2, 3, 4, 5, 6, 7, 8, 9, 10, 11, 12, 13], [0, 13])])
def impl_SpareGreen.B7 : List Nat := [0, 0, 0, 0, 14, 0, 32, 126, 0, 0, 512, 1822, 4094, 8191, 16383]
theorem impl_SpareGreen.tab7 : rtab .any (opsOf Try.f112 7) = impl_SpareGreen.T7 := by kernel_rfl
theorem impl_SpareGreen.bits7 : waitsOk impl_SpareGreen.T7.2 impl_SpareGreen.B7 = true := by kernel_rfl
set_option maxHeartbeats 8000000 in
set_option maxRecDepth 100000 in
theorem impl_SpareGreen.calls (k : Nat) (A0 : Option Addr) (c0 : Nat) (l0 : List (S89)) (A1 : Option Addr) (c1 : Nat) (l1 : List (S92)) (a2 : Int) (r : Int) (w : World) (hr0 : Kd.C k89 w A0 l0.length l0) (hc0 : l0.length ≤ c0) (hr1 : Kd.C k92 w A1 l1.length l1) (hc1 : l1.length ≤ c1) (h : impl_SpareGreen.f k l0 l1 a2 = some r) :
  Calls Try.prog 112 #[.slice A0 l0.length c0, .slice A1 l1.length c1, .int .i64 a2] w fun e w' => e = .returned (.int .i64 r) ∧ Below w.heap.size w w' := by
 have hu92 := Try.underlying92
 have HR0 := Aside0.mk hr0
 have HC0 := Aside0.mk hc0
 clear hr0 hc0
 have HR1 := Aside0.mk hr1
 have HC1 := Aside0.mk hc1
 clear hr1 hc1
 have HB := Aside0.mk (Below.refl w.heap.size w)
 have H : ((impl_IsPlan.f k l0 l1).bind fun t447 => (if t447 = true then ((impl_InRange.f a2 1 1000).bind fun t448 => (impl_SpareGreen.j0 k l0 l1 a2 (!t448))) else (impl_SpareGreen.j0 k l0 l1 a2 true))) = some r := h
 clear h
 have HC4 := Aside0.mk H
 clear H
 go_enter Try.func112, Try.ntmps112
 go_upto_region 1 with (fail)
 go_cut [18] (fun v18 wc => ∃ (kq : Nat) (x18_3 : Bool), v18 = .bool x18_3 ∧ Aside0 (impl_SpareGreen.j0 kq l0 l1 a2 x18_3 = some r) ∧ Aside0 (kq ≤ k) ∧ Aside0 (Below w.heap.size w wc))
 case first =>
  have H := HC4.out
  clear HC4
  obtain ⟨t447, A5, H⟩ := bindE H
  try dsimp only at H
  by_cases c6 : t447 = true
  ·
   subst c6
   have H1 : ((impl_InRange.f a2 1 1000).bind fun t448 => (impl_SpareGreen.j0 k l0 l1 a2 (!t448))) = some r := by rw [if_pos rfl] at H; exact H
   clear H
   have H := H1
   clear H1
   obtain ⟨t448, A7, H⟩ := bindE H
   try dsimp only at H
   have H' := Aside0.mk H
   clear H
   go_wp2_with (first | ((with_reducible refine gate_callee (f := 78) rfl ?_); refine gL (some 12) Try.func78 #[.slice A0 l0.length c0, .slice A1 l1.length c1] ?_; (with_reducible refine (impl_IsPlan.calls k _ _ l0 (fun k_ => k_ < w.heap.size) _ _ l1 true _ ?_ ?_ ?_ A5.out).mono ?_); exact cB HR0; exact HC0.out; exact Kd.V_mk HC1.out (Kd.F_below (Kd.C_F k92_heap HR1.out) bA); rintro e w8 ⟨rfl, hb⟩; refine ⟨_, rfl, ?_⟩; replace HB := bs HB hb; (try clear hb)) | (go_at_call 66; (with_reducible refine (impl_InRange.calls a2 1 1000 t448 _ A7.out).mono ?_); rintro e w' ⟨rfl, ⟨nd, rfl⟩⟩))
   go_meet
   case rel => exact ⟨_, (!t448), rS, H', ⟨oL⟩, ⟨bA⟩⟩
  replace c6 := Bool.eq_false_iff.mpr c6
  subst c6
  have H1 : (impl_SpareGreen.j0 k l0 l1 a2 true) = some r := by rw [if_neg (show ¬ (false = true) by decide)] at H; exact H
  clear H
  have H := H1
  clear H1
  have H' := Aside0.mk H
  clear H
  go_wp2_with (first | ((with_reducible refine gate_callee (f := 78) rfl ?_); refine gL (some 12) Try.func78 #[.slice A0 l0.length c0, .slice A1 l1.length c1] ?_; (with_reducible refine (impl_IsPlan.calls k _ _ l0 (fun k_ => k_ < w.heap.size) _ _ l1 false _ ?_ ?_ ?_ A5.out).mono ?_); exact cB HR0; exact HC0.out; exact Kd.V_mk HC1.out (Kd.F_below (Kd.C_F k92_heap HR1.out) bA); rintro e w9 ⟨rfl, hb⟩; refine ⟨_, rfl, ?_⟩; replace HB := bs HB hb; (try clear hb)))
  go_meet
  case rel => exact ⟨_, (true), rS, H', ⟨oL⟩, ⟨bA⟩⟩
 case rest =>
  clear HC4
  obtain ⟨kq, x18_3, rfl, HA, HJ3, HB⟩ := hcut
  cases kq with
  | zero => exact absurd HA.out (by simp [impl_SpareGreen.j0])
  | succ kj3 =>
   have H := HA.out
   clear HA
   simp only [impl_SpareGreen.j0] at H
   by_cases c10 : x18_3 = true
   ·
    subst c10
    have H1 : (some (-1)) = some r := by rw [if_pos rfl] at H; exact H
    clear H
    have H := H1
    clear H1
    obtain rfl := Option.some.inj H
    go_wp2
    go_ret
    exact ⟨rA, bA⟩
   replace c10 := Bool.eq_false_iff.mpr c10
   subst c10
   have H1 : (impl_SpareGreen.l0 kj3 l0 l1 a2 l1 (l1.length : Int) 0) = some r := by rw [if_neg (show ¬ (false = true) by decide)] at H; exact H
   clear H
   have H := H1
   clear H1
   have H' := Aside0.mk H
   clear H
   go_wp2
   go_loopg [7, 22] kj3 (fun kq v7 v22 w' => ∃ (x7_2 : Int) (x22_2 : Int), v7 = .int .i64 x7_2 ∧ v22 = .int .i64 x22_2 ∧ Aside0 (impl_SpareGreen.l0 kq l0 l1 x7_2 l1 (l1.length : Int) x22_2 = some r) ∧ Aside0 (kq ≤ kj3) ∧ Aside0 (Below w.heap.size w w'))
   case atStart => exact ⟨(a2), (0), rS, rS, H', ⟨Nat.le_refl _⟩, ⟨bA⟩⟩
   case round =>
    clear H'
    obtain ⟨x7_2, x22_2, rfl, rfl, HA, HK2, HB⟩ := hrel
    cases gk with
    | zero => exact absurd HA.out (by simp [impl_SpareGreen.l0])
    | succ k2 =>
     have H := HA.out
     clear HA
     simp only [impl_SpareGreen.l0] at H
     by_cases c11 : x22_2 < (l1.length : Int)
     ·
      rw [if_pos c11] at H
      have c11b0 := decide_eq_true c11
      clear c11
      have c12 : 0 ≤ x22_2 := ifN H
      replace H := ifT H
      have c12b0 := decide_eq_true c12
      clear c12
      have c13 : x22_2 < (l1.length : Int) := ifN H
      replace H := ifT H
      have c13b0 := decide_eq_true c13
      clear c13
      obtain ⟨t451, A14, H⟩ := bindE H
      try dsimp only at H
      obtain ⟨t452, A15, H⟩ := bindE H
      try dsimp only at H
      have H' := Aside0.mk H
      clear H
      obtain ⟨p449, q449⟩ : 0 ≤ (x22_2 : Int) ∧ x22_2 < (l1.length : Int) := ⟨dA, dA⟩
      obtain ⟨ad449, A449_0, c449_0, e449, hx449_0, hx449_1, hl449_0, hi449_0⟩ := at_T92 HR1.out x22_2 p449 q449
      cases e449
      replace hx449_0 := hC HB hx449_0
      replace hx449_1 := hC HB hx449_1
      have HR449_0 := Aside0.mk hi449_0
      have HC449_0 := Aside0.mk hl449_0
      clear hi449_0 hl449_0
      obtain ⟨p449, q449⟩ := eT p449 q449
      try go_wp2_with (first | ((with_reducible refine gate_dst (N := 9) rfl ?_); refine bE (N := 9) (cs := #[.slice none 0 0, .int .i64 0]) (t := 92) ?_; intro gb450 hg w16 hbox hb; have BK450 := Aside0.mk (hbox); have GW450 := gw w hg; have GE450 := gw w hg; replace HB := bs HB hb; clear hb hbox hg; obtain ⟨_, _, _, _⟩ := blkc2 BK450))
      have n0_ : Aside0 (((w16.setCell ⟨gb450, 0, none⟩ (.slice A449_0 ((rd_T92 l1 x22_2).f0).length c449_0)).setCell ⟨gb450, 1, none⟩ (.int .i64 ((rd_T92 l1 x22_2).f1))).heap[gb450]? = some (.cells #[.slice A449_0 ((rd_T92 l1 x22_2).f0).length c449_0, .int .i64 ((rd_T92 l1 x22_2).f1)] 92 (0, 0))) := ⟨kp BK450⟩
      have n1_ : Aside0 (Below w.heap.size w ((w16.setCell ⟨gb450, 0, none⟩ (.slice A449_0 ((rd_T92 l1 x22_2).f0).length c449_0)).setCell ⟨gb450, 1, none⟩ (.int .i64 ((rd_T92 l1 x22_2).f1)))) := ⟨bG⟩
      (try clear BK450)
      (try clear HB)
      generalize ((w16.setCell ⟨gb450, 0, none⟩ (.slice A449_0 ((rd_T92 l1 x22_2).f0).length c449_0)).setCell ⟨gb450, 1, none⟩ (.int .i64 ((rd_T92 l1 x22_2).f1))) = w18 at n0_ n1_ ⊢
      have BK450 := n0_
      have HB := n1_
      clear n0_ n1_
      replace BK450 := dk BK450
      have HBo := HB
      replace HB := db HB
      refine sw (ds := []) 15 (mb 15 0) impl_SpareGreen.tab7 impl_SpareGreen.bits7 (h2 BK450) (fun hHeld HT_ HW_ => ?_)
      generalize w18.drew = w19 at BK450 HB hHeld ⊢
      refine pa 0 27 (mb 15 1) HT_ ?_
      refine pa 1 28 (mb 15 3) HT_ ?_
      refine pa 2 29 (mb 15 7) HT_ ?_
      refine pa 3 30 (mb 15 15) HT_ ?_
      refine pa 5 32 (mb 15 47) HT_ ?_
      refine pa 8 35 (mb 15 303) HT_ ?_
      refine pa 9 36 (mb 15 815) HT_ ?_
      refine ta2 6 33 (mb 15 879) HT_ HW_ hHeld ?_
      refine ta2 10 37 (mb 15 1903) HT_ HW_ hHeld ?_
      refine oa 4 31 (mb 15 1919) HT_ (fun K hK => ?_)
      refine gA Try.func140 #[.slice A0 l0.length c0, .slice (some ad449) l1.length c1, .int .i64 x22_2] ?_
      with_reducible refine (impl_longOf.calls k2 _ _ l0 _ _ l1 x22_2 t451 _ ?side1 ?side2 ?side3 ?side4 A14.out).mono ?_
      (case side1 => exact cB HR0)
      (case side2 => exact HC0.out)
      (case side3 => exact cB HR1)
      (case side4 => exact HC1.out)
      rintro e w20 ⟨rfl, hb⟩
      refine ⟨_, rfl, ?_⟩
      replace BK450 := kb BK450 hb
      replace HB := bs HB hb
      (try clear hb)
      (try clear hb2)
      (try clear hk)
      (try clear hi)
      refine hK.out _ _ (cn2 BK450) (fun hHeld => ?_)
      clear hK K
      refine nB ?_
      refine pa 7 34 (mb 15 2047) HT_ ?_
      refine oa 11 38 (mb 15 4095) HT_ (fun K hK => ?_)
      refine gA Try.func77 #[.slice A0 l0.length c0, .slice A449_0 ((rd_T92 l1 x22_2).f0).length c449_0] ?_
      with_reducible refine (impl_LeastGreen.calls k2 _ _ l0 _ _ ((rd_T92 l1 x22_2).f0) t452 _ ?side1 ?side2 ?side3 ?side4 A15.out).mono ?_
      (case side1 => exact cB HR0)
      (case side2 => exact HC0.out)
      (case side3 => exact cB HR449_0)
      (case side4 => exact HC449_0.out)
      rintro e w21 ⟨rfl, hb⟩
      refine ⟨_, rfl, ?_⟩
      replace BK450 := kb BK450 hb
      replace HB := bs HB hb
      (try clear hb)
      (try clear hb2)
      (try clear hk)
      (try clear hi)
      refine hK.out _ _ (cn2 BK450) (fun hHeld => ?_)
      clear hK K
      refine nB ?_
      refine pa 12 39 (mb 15 8191) HT_ ?_
      refine pa 13 40 (mb 15 16383) HT_ ?_
      refine pa 14 7 (mb 15 32767) HT_ ?_
      refine eA HT_ ?_
      try go_wp2
      go_roundg k2
      case measure => have := HJ3.out; have := HK2.out; omega
      case rel => exact ⟨(wrap64 (x7_2 - (wrap64 ((wrap64 (t451 - ((rd_T92 l1 x22_2).f1))) + t452)))), (wrap64 (x22_2 + 1)), rS, rS, H', ⟨by have := HJ3.out; have := HK2.out; omega⟩, ⟨bG⟩⟩
     rw [if_neg c11] at H
     have c11b0 := decide_eq_false c11
     clear c11
     obtain ⟨ji22, hji22⟩ : ∃ j_ : Int, (mx x7_2 (-1)) = j_ := ⟨_, rfl⟩
     replace H : (some ji22) = some r := by first | (rw [hji22] at H; exact H) | (simp only [hji22] at H ⊢; exact H)
     have hji22_ : (if x7_2 < (-1) then (-1) else x7_2) = ji22 := hji22
     obtain rfl := Option.some.inj H
     go_wp2
     go_ret
     exact ⟨by first | rfl | (simp [errW_none, errW_some] <;> rfl) | (simp only [← hji22]; first | rfl | (simp [errW_none, errW_some] <;> rfl)) | (simp [*, errW_none, errW_some] <;> rfl), bA⟩

/-! ### impl_AreDetectors: function 113 -/
mutual
def impl_AreDetectors.j0 : Nat → List (S89) → List (S128) → Bool → Option (Bool)
 | 0, _, _, _ => none
 | k + 1, x0, x1, x16 => if x16 = true then (some false) else (impl_AreDetectors.l0 k x0 x1 x1 (x1.length : Int) 0)
def impl_AreDetectors.l0 : Nat → List (S89) → List (S128) → List (S128) → Int → Int → Option (Bool)
 | 0, _, _, _, _, _ => none
 | k + 1, x0, x1, x17, x18, x19 => if x19 < x18 then (if 0 ≤ x19 then (if x19 < (x17.length : Int) then ((impl_FindPath.f x0 ((rd_T128 x17 x19).f0)).bind fun t456 => (if t456 < 0 then (impl_AreDetectors.j2 k x0 x1 x19 x17 x18 x19 true ((rd_T128 x17 x19).f0) ((rd_T128 x17 x19).f1) ((rd_T128 x17 x19).f2) ((rd_T128 x17 x19).f3)) else ((impl_InRange.f ((rd_T128 x17 x19).f1) 0 1000).bind fun t457 => (if t457 = true then ((impl_InRange.f ((rd_T128 x17 x19).f2) 0 100000).bind fun t458 => (impl_AreDetectors.j2 k x0 x1 x19 x17 x18 x19 (!t458) ((rd_T128 x17 x19).f0) ((rd_T128 x17 x19).f1) ((rd_T128 x17 x19).f2) ((rd_T128 x17 x19).f3))) else (impl_AreDetectors.j2 k x0 x1 x19 x17 x18 x19 true ((rd_T128 x17 x19).f0) ((rd_T128 x17 x19).f1) ((rd_T128 x17 x19).f2) ((rd_T128 x17 x19).f3)))))) else (none)) else (none)) else (some true)
def impl_AreDetectors.j2 : Nat → List (S89) → List (S128) → Int → List (S128) → Int → Int → Bool → Int → Int → Int → Bool → Option (Bool)
 | 0, _, _, _, _, _, _, _, _, _, _, _ => none
 | k + 1, x0, x1, x5, x17, x18, x19, x40, x456000, x456001, x456002, x456003 => if x40 = true then (some false) else (if 0 ≤ x5 then (if x5 ≤ (x1.length : Int) then ((some (x1.take (x5 : Int).toNat : List (S128))).bind fun y459 => (impl_AreDetectors.l1 k x0 x1 x17 x18 x19 y459 (y459.length : Int) 0 x456000 x456001 x456002 x456003)) else (none)) else (none))
def impl_AreDetectors.l1 : Nat → List (S89) → List (S128) → List (S128) → Int → Int → List (S128) → Int → Int → Int → Int → Int → Bool → Option (Bool)
 | 0, _, _, _, _, _, _, _, _, _, _, _, _ => none
 | k + 1, x0, x1, x17, x18, x19, x43, x44, x45, x456000, x456001, x456002, x456003 => if x45 < x44 then (if 0 ≤ x45 then (if x45 < (x43.length : Int) then (if x456000 = ((rd_T128 x43 x45).f0) then (some false) else (impl_AreDetectors.l1 k x0 x1 x17 x18 x19 x43 x44 (wrap64 (x45 + 1)) x456000 x456001 x456002 x456003)) else (none)) else (none)) else (impl_AreDetectors.l0 k x0 x1 x17 x18 (wrap64 (x19 + 1)))
end
def impl_AreDetectors.f (k : Nat) (l0 : List (S89)) (l1 : List (S128)) : Option (Bool) := (impl_ArePaths.f k l0).bind fun t453 => (if t453 = true then (impl_AreDetectors.j0 k l0 l1 (decide ((l1.length : Int) > 12))) else (impl_AreDetectors.j0 k l0 l1 true))
theorem impl_AreDetectors.mono_l : ∀ k, (∀ y0 y1 y2, LeO (impl_AreDetectors.j0 k y0 y1 y2) (impl_AreDetectors.j0 (k + 1) y0 y1 y2)) ∧ (∀ y0 y1 y2 y3 y4, LeO (impl_AreDetectors.l0 k y0 y1 y2 y3 y4) (impl_AreDetectors.l0 (k + 1) y0 y1 y2 y3 y4)) ∧ (∀ y0 y1 y2 y3 y4 y5 y6 y7 y8 y9 y10, LeO (impl_AreDetectors.j2 k y0 y1 y2 y3 y4 y5 y6 y7 y8 y9 y10) (impl_AreDetectors.j2 (k + 1) y0 y1 y2 y3 y4 y5 y6 y7 y8 y9 y10)) ∧ (∀ y0 y1 y2 y3 y4 y5 y6 y7 y8 y9 y10 y11, LeO (impl_AreDetectors.l1 k y0 y1 y2 y3 y4 y5 y6 y7 y8 y9 y10 y11) (impl_AreDetectors.l1 (k + 1) y0 y1 y2 y3 y4 y5 y6 y7 y8 y9 y10 y11))
 | 0 => ⟨fun _ _ _ r h => by simp [impl_AreDetectors.j0] at h, fun _ _ _ _ _ r h => by simp [impl_AreDetectors.l0] at h, fun _ _ _ _ _ _ _ _ _ _ _ r h => by simp [impl_AreDetectors.j2] at h, fun _ _ _ _ _ _ _ _ _ _ _ _ r h => by simp [impl_AreDetectors.l1] at h⟩
 | k + 1 => by
  obtain ⟨ih0, ih1, ih2, ih3⟩ := impl_AreDetectors.mono_l k
  refine ⟨?_, ?_, ?_, ?_⟩
  ·
   intro y0 y1 y2
   unfold impl_AreDetectors.j0
   exact mz5 ih0 ih1 ih2 ih3 impl_ArePaths.mono
  ·
   intro y0 y1 y2 y3 y4
   unfold impl_AreDetectors.l0
   exact mz5 ih0 ih1 ih2 ih3 impl_ArePaths.mono
  ·
   intro y0 y1 y2 y3 y4 y5 y6 y7 y8 y9 y10
   unfold impl_AreDetectors.j2
   exact mz5 ih0 ih1 ih2 ih3 impl_ArePaths.mono
  ·
   intro y0 y1 y2 y3 y4 y5 y6 y7 y8 y9 y10 y11
   unfold impl_AreDetectors.l1
   exact mz5 ih0 ih1 ih2 ih3 impl_ArePaths.mono
theorem impl_AreDetectors.mono : ∀ a0 a1 k, LeO (impl_AreDetectors.f k a0 a1) (impl_AreDetectors.f (k + 1) a0 a1) := by
 intro a0 a1 k
 obtain ⟨ih0, ih1, ih2, ih3⟩ := impl_AreDetectors.mono_l k
 unfold impl_AreDetectors.f
 exact mz5 ih0 ih1 ih2 ih3 impl_ArePaths.mono
set_option maxHeartbeats 8000000 in
set_option maxRecDepth 100000 in
theorem impl_AreDetectors.calls (k : Nat) (A0 : Option Addr) (c0 : Nat) (l0 : List (S89)) (A1 : Option Addr) (c1 : Nat) (l1 : List (S128)) (r : Bool) (w : World) (hr0 : Kd.C k89 w A0 l0.length l0) (hc0 : l0.length ≤ c0) (hr1 : Kd.C k128 w A1 l1.length l1) (hc1 : l1.length ≤ c1) (h : impl_AreDetectors.f k l0 l1 = some r) :
  Calls Try.prog 113 #[.slice A0 l0.length c0, .slice A1 l1.length c1] w fun e w' => e = .returned (.bool r) ∧ Below w.heap.size w w' := by
 have hu128 := Try.underlying128
 have HR0 := Aside0.mk hr0
 have HC0 := Aside0.mk hc0
 clear hr0 hc0
 have HR1 := Aside0.mk hr1
 have HC1 := Aside0.mk hc1
 clear hr1 hc1
 have HB := Aside0.mk (Below.refl w.heap.size w)
 have H : ((impl_ArePaths.f k l0).bind fun t453 => (if t453 = true then (impl_AreDetectors.j0 k l0 l1 (decide ((l1.length : Int) > 12))) else (impl_AreDetectors.j0 k l0 l1 true))) = some r := h
 clear h
 have HC3 := Aside0.mk H
 clear H
 go_enter Try.func113, Try.ntmps113
 go_upto_region 1 with (fail)
 go_cut [16] (fun v16 wc => ∃ (kq : Nat) (x16_2 : Bool), v16 = .bool x16_2 ∧ Aside0 (impl_AreDetectors.j0 kq l0 l1 x16_2 = some r) ∧ Aside0 (kq ≤ k) ∧ Aside0 (Below w.heap.size w wc))
 case first =>
  have H := HC3.out
  clear HC3
  obtain ⟨t453, A4, H⟩ := bindE H
  try dsimp only at H
  by_cases c5 : t453 = true
  ·
   subst c5
   have H1 : (impl_AreDetectors.j0 k l0 l1 (decide ((l1.length : Int) > 12))) = some r := by rw [if_pos rfl] at H; exact H
   clear H
   have H := H1
   clear H1
   have H' := Aside0.mk H
   clear H
   go_wp2_with (first | ((with_reducible refine gate_callee (f := 126) rfl ?_); refine gL (some 10) Try.func126 #[.slice A0 l0.length c0] ?_; (with_reducible refine (impl_ArePaths.calls k _ _ l0 true _ ?_ ?_ A4.out).mono ?_); exact cB HR0; exact HC0.out; rintro e w6 ⟨rfl, hb⟩; refine ⟨_, rfl, ?_⟩; replace HB := bs HB hb; (try clear hb)))
   go_meet
   case rel => exact ⟨_, (decide ((l1.length : Int) > 12)), rS, H', ⟨oL⟩, ⟨bA⟩⟩
  replace c5 := Bool.eq_false_iff.mpr c5
  subst c5
  have H1 : (impl_AreDetectors.j0 k l0 l1 true) = some r := by rw [if_neg (show ¬ (false = true) by decide)] at H; exact H
  clear H
  have H := H1
  clear H1
  have H' := Aside0.mk H
  clear H
  go_wp2_with (first | ((with_reducible refine gate_callee (f := 126) rfl ?_); refine gL (some 10) Try.func126 #[.slice A0 l0.length c0] ?_; (with_reducible refine (impl_ArePaths.calls k _ _ l0 false _ ?_ ?_ A4.out).mono ?_); exact cB HR0; exact HC0.out; rintro e w7 ⟨rfl, hb⟩; refine ⟨_, rfl, ?_⟩; replace HB := bs HB hb; (try clear hb)))
  go_meet
  case rel => exact ⟨_, (true), rS, H', ⟨oL⟩, ⟨bA⟩⟩
 case rest =>
  clear HC3
  obtain ⟨kq, x16_2, rfl, HA, HJ2, HB⟩ := hcut
  cases kq with
  | zero => exact absurd HA.out (by simp [impl_AreDetectors.j0])
  | succ kj2 =>
   have H := HA.out
   clear HA
   simp only [impl_AreDetectors.j0] at H
   by_cases c8 : x16_2 = true
   ·
    subst c8
    have H1 : (some false) = some r := by rw [if_pos rfl] at H; exact H
    clear H
    have H := H1
    clear H1
    obtain rfl := Option.some.inj H
    go_wp2
    go_ret
    exact ⟨rA, bA⟩
   replace c8 := Bool.eq_false_iff.mpr c8
   subst c8
   have H1 : (impl_AreDetectors.l0 kj2 l0 l1 l1 (l1.length : Int) 0) = some r := by rw [if_neg (show ¬ (false = true) by decide)] at H; exact H
   clear H
   have H := H1
   clear H1
   have H' := Aside0.mk H
   clear H
   go_wp2
   go_loopg [19] kj2 (fun kq v19 w' => ∃ (x19_2 : Int), v19 = .int .i64 x19_2 ∧ Aside0 (impl_AreDetectors.l0 kq l0 l1 l1 (l1.length : Int) x19_2 = some r) ∧ Aside0 (kq ≤ kj2) ∧ Aside0 (Below w.heap.size w w'))
   case atStart => exact ⟨(0), rS, H', ⟨Nat.le_refl _⟩, ⟨bA⟩⟩
   case round =>
    clear H'
    obtain ⟨x19_2, rfl, HA, HK2, HB⟩ := hrel
    cases gk with
    | zero => exact absurd HA.out (by simp [impl_AreDetectors.l0])
    | succ k2 =>
     have H := HA.out
     clear HA
     simp only [impl_AreDetectors.l0] at H
     by_cases c9 : x19_2 < (l1.length : Int)
     ·
      rw [if_pos c9] at H
      have c9b0 := decide_eq_true c9
      clear c9
      have c10 : 0 ≤ x19_2 := ifN H
      replace H := ifT H
      have c10b0 := decide_eq_true c10
      clear c10
      have c11 : x19_2 < (l1.length : Int) := ifN H
      replace H := ifT H
      have c11b0 := decide_eq_true c11
      clear c11
      have HC12 := Aside0.mk H
      clear H
      obtain ⟨p454, q454⟩ : 0 ≤ (x19_2 : Int) ∧ x19_2 < (l1.length : Int) := ⟨dA, dA⟩
      obtain ⟨ad454, e454, hx454_0, hx454_1, hx454_2, hx454_3⟩ := at_T128 (Kd.C_below HR1.out HB.out) x19_2 p454 q454
      cases e454
      obtain ⟨p454, q454⟩ := eT p454 q454
      go_upto_region 6 with (first | ((with_reducible refine gate_dst (N := 6) rfl ?_); (try (refine gate_guard (by rfl) ?_; dsimp only)); refine bE (N := 6) (cs := #[.int .i64 0, .int .i64 0, .int .i64 0, .bool false]) (t := 128) ?_; intro gb455 hg w13 hbox hb; have BK455 := Aside0.mk (hbox); have GW455 := gw w hg; have GE455 := gw w hg; replace HB := bs HB hb; clear hb hbox hg; obtain ⟨_, _, _, _, _, _, _, _⟩ := blkc4 BK455))
      (try simp only [Act.put, List.setIfInBounds_toArray, List.set_cons_zero, List.set_cons_succ])
      go_cut [40] (fun v40 wc => ∃ (kq : Nat) (x40_11 : Bool), v40 = .bool x40_11 ∧ Aside0 (impl_AreDetectors.j2 kq l0 l1 x19_2 l1 (l1.length : Int) x19_2 x40_11 ((rd_T128 l1 x19_2).f0) ((rd_T128 l1 x19_2).f1) ((rd_T128 l1 x19_2).f2) ((rd_T128 l1 x19_2).f3) = some r) ∧ Aside0 (kq ≤ k2) ∧ Aside0 (wc.heap[gb455]? = some (.cells #[.int .i64 ((rd_T128 l1 x19_2).f0), .int .i64 ((rd_T128 l1 x19_2).f1), .int .i64 ((rd_T128 l1 x19_2).f2), .bool ((rd_T128 l1 x19_2).f3)] 128 (0, 0))) ∧ Aside0 (Below w.heap.size w wc))
      case first =>
       have H := HC12.out
       clear HC12
       obtain ⟨t456, A15, H⟩ := bindE H
       try dsimp only at H
       by_cases c16 : t456 < 0
       ·
        rw [if_pos c16] at H
        have c16b0 := decide_eq_true c16
        clear c16
        (first | rw [c16b0] | (simp only [i64_w, i32_w]; rw [c16b0]) | skip)
        have H' := Aside0.mk H
        clear H
        obtain ⟨_, _, _, _, _, _, _, _⟩ := blkc4 BK455
        go_wp2_with (first | ((with_reducible refine gate_callee (f := 119) rfl ?_); refine gL (some 27) Try.func119 #[.slice A0 l0.length c0, .int .i64 ((rd_T128 l1 x19_2).f0)] ?_; (with_reducible refine (impl_FindPath.calls _ _ l0 ((rd_T128 l1 x19_2).f0) t456 _ ?_ ?_ A15.out).mono ?_); exact Kd.C_below HR0.out bG; exact HC0.out; rintro e w18 ⟨rfl, hb⟩; refine ⟨_, rfl, ?_⟩; replace BK455 := kc (o := .cells #[.int .i64 ((rd_T128 l1 x19_2).f0), .int .i64 ((rd_T128 l1 x19_2).f1), .int .i64 ((rd_T128 l1 x19_2).f2), .bool ((rd_T128 l1 x19_2).f3)] 128 (0, 0)) (kp BK455) hb; replace HB := bs HB hb; (try clear hb)))
        go_meet
        case rel => exact ⟨_, (true), rS, H', ⟨by have := HJ2.out; have := HK2.out; first | omega | exact Nat.le_refl _⟩, ⟨bK BK455⟩, ⟨bG⟩⟩
       rw [if_neg c16] at H
       have c16b0 := decide_eq_false c16
       clear c16
       (first | rw [c16b0] | (simp only [i64_w, i32_w]; rw [c16b0]) | skip)
       obtain ⟨t457, A19, H⟩ := bindE H
       try dsimp only at H
       by_cases c20 : t457 = true
       ·
        subst c20
        have H1 : ((impl_InRange.f ((rd_T128 l1 x19_2).f2) 0 100000).bind fun t458 => (impl_AreDetectors.j2 k2 l0 l1 x19_2 l1 (l1.length : Int) x19_2 (!t458) ((rd_T128 l1 x19_2).f0) ((rd_T128 l1 x19_2).f1) ((rd_T128 l1 x19_2).f2) ((rd_T128 l1 x19_2).f3))) = some r := by rw [if_pos rfl] at H; exact H
        clear H
        have H := H1
        clear H1
        obtain ⟨t458, A21, H⟩ := bindE H
        try dsimp only at H
        have H' := Aside0.mk H
        clear H
        obtain ⟨_, _, _, _, _, _, _, _⟩ := blkc4 BK455
        go_wp2_with (first | ((with_reducible refine gate_callee (f := 119) rfl ?_); refine gL (some 27) Try.func119 #[.slice A0 l0.length c0, .int .i64 ((rd_T128 l1 x19_2).f0)] ?_; (with_reducible refine (impl_FindPath.calls _ _ l0 ((rd_T128 l1 x19_2).f0) t456 _ ?_ ?_ A15.out).mono ?_); exact Kd.C_below HR0.out bG; exact HC0.out; rintro e w23 ⟨rfl, hb⟩; refine ⟨_, rfl, ?_⟩; replace BK455 := kc (o := .cells #[.int .i64 ((rd_T128 l1 x19_2).f0), .int .i64 ((rd_T128 l1 x19_2).f1), .int .i64 ((rd_T128 l1 x19_2).f2), .bool ((rd_T128 l1 x19_2).f3)] 128 (0, 0)) (kp BK455) hb; replace HB := bs HB hb; (try clear hb); obtain ⟨_, _, _, _, _, _, _, _⟩ := blkc4 BK455) | (go_at_call 66; (with_reducible refine (impl_InRange.calls ((rd_T128 l1 x19_2).f1) 0 1000 true _ A19.out).mono ?_); rintro e w' ⟨rfl, ⟨nd, rfl⟩⟩) | (go_at_call 66; (with_reducible refine (impl_InRange.calls ((rd_T128 l1 x19_2).f2) 0 100000 t458 _ A21.out).mono ?_); rintro e w' ⟨rfl, ⟨nd, rfl⟩⟩))
        go_meet
        case rel => exact ⟨_, (!t458), rS, H', ⟨by have := HJ2.out; have := HK2.out; first | omega | exact Nat.le_refl _⟩, ⟨bK BK455⟩, ⟨bG⟩⟩
       replace c20 := Bool.eq_false_iff.mpr c20
       subst c20
       have H1 : (impl_AreDetectors.j2 k2 l0 l1 x19_2 l1 (l1.length : Int) x19_2 true ((rd_T128 l1 x19_2).f0) ((rd_T128 l1 x19_2).f1) ((rd_T128 l1 x19_2).f2) ((rd_T128 l1 x19_2).f3)) = some r := by rw [if_neg (show ¬ (false = true) by decide)] at H; exact H
       clear H
       have H := H1
       clear H1
       have H' := Aside0.mk H
       clear H
       obtain ⟨_, _, _, _, _, _, _, _⟩ := blkc4 BK455
       go_wp2_with (first | ((with_reducible refine gate_callee (f := 119) rfl ?_); refine gL (some 27) Try.func119 #[.slice A0 l0.length c0, .int .i64 ((rd_T128 l1 x19_2).f0)] ?_; (with_reducible refine (impl_FindPath.calls _ _ l0 ((rd_T128 l1 x19_2).f0) t456 _ ?_ ?_ A15.out).mono ?_); exact Kd.C_below HR0.out bG; exact HC0.out; rintro e w26 ⟨rfl, hb⟩; refine ⟨_, rfl, ?_⟩; replace BK455 := kc (o := .cells #[.int .i64 ((rd_T128 l1 x19_2).f0), .int .i64 ((rd_T128 l1 x19_2).f1), .int .i64 ((rd_T128 l1 x19_2).f2), .bool ((rd_T128 l1 x19_2).f3)] 128 (0, 0)) (kp BK455) hb; replace HB := bs HB hb; (try clear hb); obtain ⟨_, _, _, _, _, _, _, _⟩ := blkc4 BK455) | (go_at_call 66; (with_reducible refine (impl_InRange.calls ((rd_T128 l1 x19_2).f1) 0 1000 false _ A19.out).mono ?_); rintro e w' ⟨rfl, ⟨nd, rfl⟩⟩))
       go_meet
       case rel => exact ⟨_, (true), rS, H', ⟨by have := HJ2.out; have := HK2.out; first | omega | exact Nat.le_refl _⟩, ⟨bK BK455⟩, ⟨bG⟩⟩
      case rest =>
       clear HC12
       obtain ⟨kq, x40_11, rfl, HA, HJ11, BK455, HB⟩ := hcut
       cases kq with
       | zero => exact absurd HA.out (by simp [impl_AreDetectors.j2])
       | succ kj11 =>
        have H := HA.out
        clear HA
        simp only [impl_AreDetectors.j2] at H
        by_cases c28 : x40_11 = true
        ·
         subst c28
         have H1 : (some false) = some r := by rw [if_pos rfl] at H; exact H
         clear H
         have H := H1
         clear H1
         obtain rfl := Option.some.inj H
         go_wp2
         go_ret
         exact ⟨rA, bG⟩
        replace c28 := Bool.eq_false_iff.mpr c28
        subst c28
        have H1 : (if 0 ≤ x19_2 then (if x19_2 ≤ (l1.length : Int) then ((some (l1.take (x19_2 : Int).toNat : List (S128))).bind fun y459 => (impl_AreDetectors.l1 kj11 l0 l1 l1 (l1.length : Int) x19_2 y459 (y459.length : Int) 0 ((rd_T128 l1 x19_2).f0) ((rd_T128 l1 x19_2).f1) ((rd_T128 l1 x19_2).f2) ((rd_T128 l1 x19_2).f3))) else (none)) else (none)) = some r := by rw [if_neg (show ¬ (false = true) by decide)] at H; exact H
        clear H
        have H := H1
        clear H1
        have c29 : 0 ≤ x19_2 := ifN H
        replace H := ifT H
        have c29b0 := eq_true c29
        have c29b1 := decide_eq_true c29
        clear c29
        have c30 : x19_2 ≤ (l1.length : Int) := ifN H
        replace H := ifT H
        have c30b0 := eq_true c30
        have c30b1 := decide_eq_true c30
        clear c30
        obtain ⟨y459, hy459⟩ : ∃ y_ : List (S128), y_ = (l1.take (x19_2 : Int).toNat) := ⟨_, rfl⟩
        replace H : (impl_AreDetectors.l1 kj11 l0 l1 l1 (l1.length : Int) x19_2 y459 (y459.length : Int) 0 ((rd_T128 l1 x19_2).f0) ((rd_T128 l1 x19_2).f1) ((rd_T128 l1 x19_2).f2) ((rd_T128 l1 x19_2).f3)) = some r := rH H hy459
        have Ny459 := Aside0.mk hy459
        clear hy459
        have H' := Aside0.mk H
        clear H
        have q31 : (x19_2 : Int) ≤ ((l1.length : Int) : Int) := dA
        obtain ⟨i031, hi031, _, hsz31, _⟩ := info_parts info128
        have hroom31 : l1.length ≤ c1 := HC1.out
        have hC31 : Kd.C k128 _ (some ad454) l1.length l1 := HR1.out
        have hcut31 := cut_to (P := Try.prog) 78 128 .i64 Try.underlying78 hi031 (some ad454) l1.length c1 x19_2 (dA) q31 hroom31
        have hr31 := Kd.C_take (m := (x19_2 : Int).toNat) hC31 (by omega)
        have hy31 : y459.length = (x19_2 : Int).toNat := (by rw [Ny459.out, List.length_take]; omega)
        rw [← Ny459.out] at hr31
        rw [← hy31] at hcut31
        have HR462 := Aside0.mk hr31
        have HC462 := Aside0.mk (show y459.length ≤ c1 from by omega)
        clear hr31 hC31 hroom31 hi031 hsz31
        have KY31 := Aside0.mk hy31
        clear hy31
        replace q31 := eq_true q31
        go_wp2
        go_loopg [45] kj11 (fun kq v45 w' => ∃ (x45_4 : Int), v45 = .int .i64 x45_4 ∧ Aside0 (impl_AreDetectors.l1 kq l0 l1 l1 (l1.length : Int) x19_2 y459 (y459.length : Int) x45_4 ((rd_T128 l1 x19_2).f0) ((rd_T128 l1 x19_2).f1) ((rd_T128 l1 x19_2).f2) ((rd_T128 l1 x19_2).f3) = some r) ∧ Aside0 (kq ≤ kj11) ∧ Aside0 (w'.heap[gb455]? = some (.cells #[.int .i64 ((rd_T128 l1 x19_2).f0), .int .i64 ((rd_T128 l1 x19_2).f1), .int .i64 ((rd_T128 l1 x19_2).f2), .bool ((rd_T128 l1 x19_2).f3)] 128 (0, 0))) ∧ Aside0 (Below w.heap.size w w'))
        case atStart => exact ⟨(0), rS, H', ⟨Nat.le_refl _⟩, ⟨bK BK455⟩, ⟨bG⟩⟩
        case round =>
         clear H'
         obtain ⟨x45_4, rfl, HA, HK4, BK455, HB⟩ := hrel
         cases gk with
         | zero => exact absurd HA.out (by simp [impl_AreDetectors.l1])
         | succ k4 =>
          have H := HA.out
          clear HA
          simp only [impl_AreDetectors.l1] at H
          by_cases c32 : x45_4 < (y459.length : Int)
          ·
           rw [if_pos c32] at H
           have c32b0 := decide_eq_true c32
           clear c32
           have c33 : 0 ≤ x45_4 := ifN H
           replace H := ifT H
           have c33b0 := decide_eq_true c33
           clear c33
           have c34 : x45_4 < (y459.length : Int) := ifN H
           replace H := ifT H
           have c34b0 := decide_eq_true c34
           clear c34
           by_cases c35 : ((rd_T128 l1 x19_2).f0) = ((rd_T128 y459 x45_4).f0)
           ·
            rw [if_pos c35] at H
            have c35b0 : (((rd_T128 l1 x19_2).f0) == ((rd_T128 y459 x45_4).f0)) = true := beq_iff_eq.mpr c35
            have c35b1 : (((rd_T128 l1 x19_2).f0) != ((rd_T128 y459 x45_4).f0)) = false := bne_eq_false_iff_eq.mpr c35
            clear c35
            obtain rfl := Option.some.inj H
            obtain ⟨p463, q463⟩ : 0 ≤ (x45_4 : Int) ∧ x45_4 < (y459.length : Int) := ⟨dA, dA⟩
            obtain ⟨ad463, e463, hx463_0, hx463_1, hx463_2, hx463_3⟩ := at_T128 (Kd.C_below HR462.out HB.out) x45_4 p463 q463
            obtain rfl : ad454 = ad463 := (by injection e463)
            obtain ⟨p463, q463⟩ := eT p463 q463
            go_wp2_with (first | ((with_reducible refine gate_dst (N := 8) rfl ?_); (try (refine gate_guard (by rfl) ?_; dsimp only)); refine bE (N := 8) (cs := #[.int .i64 0, .int .i64 0, .int .i64 0, .bool false]) (t := 128) ?_; intro gb464 hg w36 hbox hb; have BK464 := Aside0.mk (hbox); have GW464 := gw w hg; have GE464 := gw w hg; replace HB := bs HB hb; have NB455_464 := nl BK455 hg; have NB464_455 := nr BK455 hg; replace BK455 := kb BK455 hb; clear hb hbox hg; have hnb37 := NB464_455.out; have hnc37 := NB455_464.out; obtain ⟨_, _, _, _, _, _, _, _⟩ := blkc4 BK464; obtain ⟨_, _, _, _, _, _, _, _⟩ := blkc4 BK455))
            go_ret
            exact ⟨rA, bG⟩
           rw [if_neg c35] at H
           have c35b0 : (((rd_T128 l1 x19_2).f0) == ((rd_T128 y459 x45_4).f0)) = false := beq_eq_false_iff_ne.mpr c35
           have c35b1 : (((rd_T128 l1 x19_2).f0) != ((rd_T128 y459 x45_4).f0)) = true := bne_iff_ne.mpr c35
           have H' := Aside0.mk H
           clear H
           obtain ⟨p463, q463⟩ : 0 ≤ (x45_4 : Int) ∧ x45_4 < (y459.length : Int) := ⟨dA, dA⟩
           obtain ⟨ad463, e463, hx463_0, hx463_1, hx463_2, hx463_3⟩ := at_T128 (Kd.C_below HR462.out HB.out) x45_4 p463 q463
           obtain rfl : ad454 = ad463 := (by injection e463)
           obtain ⟨p463, q463⟩ := eT p463 q463
           go_wp2_with (first | ((with_reducible refine gate_dst (N := 8) rfl ?_); (try (refine gate_guard (by rfl) ?_; dsimp only)); refine bE (N := 8) (cs := #[.int .i64 0, .int .i64 0, .int .i64 0, .bool false]) (t := 128) ?_; intro gb464 hg w40 hbox hb; have BK464 := Aside0.mk (hbox); have GW464 := gw w hg; have GE464 := gw w hg; replace HB := bs HB hb; have NB455_464 := nl BK455 hg; have NB464_455 := nr BK455 hg; replace BK455 := kb BK455 hb; clear hb hbox hg; have hnb41 := NB464_455.out; have hnc41 := NB455_464.out; obtain ⟨_, _, _, _, _, _, _, _⟩ := blkc4 BK464; obtain ⟨_, _, _, _, _, _, _, _⟩ := blkc4 BK455))
           go_roundg k4
           case measure => have := HJ2.out; have := HK2.out; have := HJ11.out; have := HK4.out; omega
           case rel => exact ⟨(wrap64 (x45_4 + 1)), rS, H', ⟨by have := HJ2.out; have := HK2.out; have := HJ11.out; have := HK4.out; omega⟩, ⟨kf BK455 NB455_464⟩, ⟨bG⟩⟩
          rw [if_neg c32] at H
          have c32b0 := decide_eq_false c32
          clear c32
          have H' := Aside0.mk H
          clear H
          go_wp2
          go_roundg k4
          case measure => have := HJ2.out; have := HK2.out; have := HJ11.out; have := HK4.out; omega
          case rel => exact ⟨(wrap64 (x19_2 + 1)), rS, H', ⟨by have := HJ2.out; have := HK2.out; have := HJ11.out; have := HK4.out; omega⟩, ⟨bG⟩⟩
     rw [if_neg c9] at H
     have c9b0 := decide_eq_false c9
     clear c9
     obtain rfl := Option.some.inj H
     go_wp2
     go_ret
     exact ⟨rA, bA⟩

/-! ### impl_trusted: function 160 -/
set_option maxHeartbeats 8000000 in
set_option maxRecDepth 100000 in
theorem impl_trusted.isT (a b c : Int) (d : Bool) (w : World) :
  Calls Try.prog 170 #[.agg #[.int .i64 a, .int .i64 b, .int .i64 c, .bool d]] w fun e w' => e = .returned (.bool (!d && decide (c ≤ 900))) ∧ Below w.heap.size w w' := by
 have hu := Try.underlying128
 cases d with
 | true =>
  go_enter Try.func170, Try.ntmps170
  go_wp2
  go_ret
  exact ⟨rfl, (Below.refl _ _).alloc (Nat.le_refl _) _⟩
 | false =>
  go_enter Try.func170, Try.ntmps170
  go_wp2
  go_ret
  exact ⟨by simp, (Below.refl _ _).alloc (Nat.le_refl _) _⟩
def impl_trusted.q (id : Int) (x : S128) : Bool := decide (x.f0 = id) && (!x.f3 && decide (x.f2 ≤ 900))
set_option maxHeartbeats 400000 in
set_option maxRecDepth 100000 in
theorem impl_trusted.clo (id : Int) (g : Nat) (x : S128) (w : World) (hc : w.cell? ⟨g, 0, none⟩ = some (.int .i64 id)) :
  Calls Try.prog 169 #[.agg #[.int .i64 x.f0, .int .i64 x.f1, .int .i64 x.f2, .bool x.f3], .pointer (some ⟨g, 0, none⟩)] w fun e w' => e = .returned (.bool (impl_trusted.q id x)) ∧ Below w.heap.size w w' := by
 have hu := Try.underlying128
 have hg : g < w.heap.size := World.block_lt_of_cell? w _ hc
 by_cases h0 : x.f0 = id
 ·
  have h0b : (x.f0 == id) = true := beq_iff_eq.mpr h0
  have h0c : decide (x.f0 = id) = true := decide_eq_true h0
  have HQ := Aside0.mk h0
  clear h0
  go_enter Try.func169, Try.ntmps169
  go_wp2_with (go_at_call 170; refine (impl_trusted.isT _ _ _ _ _).mono ?_; rintro e w1 ⟨rfl, hb1⟩)
  go_ret
  exact ⟨by simp [impl_trusted.q, HQ.out], below_step (below_alloc (Below.refl _ _) _) hb1⟩
 ·
  have h0b : (x.f0 == id) = false := beq_eq_false_iff_ne.mpr h0
  have h0c : decide (x.f0 = id) = false := decide_eq_false h0
  have HQ := Aside0.mk h0
  clear h0
  go_enter Try.func169, Try.ntmps169
  go_wp2
  go_ret
  exact ⟨by simp [impl_trusted.q, HQ.out], (Below.refl _ _).alloc (Nat.le_refl _) _⟩
def impl_trusted.ix (id : Int) : List S128 → Int → Int
 | [], _ => -1
 | x :: l, i => if impl_trusted.q id x = true then i else impl_trusted.ix id l (i + 1)
theorem impl_trusted.ix_hit (id : Int) : ∀ (l : List S128) (i : Int) (m : Nat) (hm : m < l.length), (∀ j (hj : j < m), impl_trusted.q id (l[j]'(by omega)) = false) → impl_trusted.q id l[m] = true → impl_trusted.ix id l i = i + m
 | [], i, m, hm, _, _ => absurd hm (by simp)
 | p :: l, i, 0, hm, _, h => by
  unfold impl_trusted.ix
  rw [if_pos (show impl_trusted.q id p = true from h)]
  simp
 | p :: l, i, m + 1, hm, hne, h => by
  unfold impl_trusted.ix
  have h2 : impl_trusted.q id p = false := hne 0 (by omega)
  rw [if_neg (by rw [h2]; decide), impl_trusted.ix_hit id l (i + 1) m (by simpa using hm) (fun j hj => hne (j + 1) (by omega)) h]
  omega
theorem impl_trusted.ix_miss (id : Int) : ∀ (l : List S128) (i : Int), (∀ j (hj : j < l.length), impl_trusted.q id l[j] = false) → impl_trusted.ix id l i = -1
 | [], i, _ => rfl
 | p :: l, i, h => by
  unfold impl_trusted.ix
  have h2 : impl_trusted.q id p = false := h 0 (by simp)
  rw [if_neg (by rw [h2]; decide), impl_trusted.ix_miss id l (i + 1) (fun j hj => h (j + 1) (by simpa using hj))]
theorem impl_trusted.rd_ (l : List S128) (j : Nat) (hj : j < l.length) : rd_T128 l (j : Int) = l[j] := by
 unfold rd_T128; simp [List.getD_eq_getElem?_getD, List.getElem?_eq_getElem hj]
set_option maxHeartbeats 4000000 in
set_option maxRecDepth 100000 in
theorem impl_trusted.idx (id : Int) (g : Nat) (A0 : Option Addr) (c0 : Nat) (l0 : List S128) (w : World) (hr0 : Kd.C k128 w A0 l0.length l0) (hc0 : l0.length ≤ c0) (hc : w.cell? ⟨g, 0, none⟩ = some (.int .i64 id)) :
  Calls Try.prog 168 #[.slice A0 l0.length c0, .func (.func 169) #[] #[.pointer (some ⟨g, 0, none⟩)]] w fun e w' => e = .returned (.int .i64 (impl_trusted.ix id l0 0)) ∧ Below w.heap.size w w' := by
 have hu := Try.underlying128
 have HC := Aside0.mk hc
 clear hc
 have HR0 := Aside0.mk hr0
 have HC0 := Aside0.mk hc0
 have hlen : l0.length ≤ 9223372036854775807 := hr0.2.1
 clear hr0 hc0
 have HB := Aside0.mk (Below.refl w.heap.size w)
 go_enter Try.func168, Try.ntmps168
 go_wp2
 go_loopg [5, 8] l0.length (fun gg v5 v8 w' => ∃ kk : Nat, v8 = .int .i64 kk ∧ Aside0 (kk ≤ l0.length) ∧ Aside0 (l0.length - kk ≤ gg) ∧ Aside0 (Below w.heap.size w w') ∧ Aside0 (∀ j (hj : j < kk) (hl : j < l0.length), impl_trusted.q id l0[j] = false))
 case atStart => exact ⟨0, rfl, ⟨Nat.zero_le _⟩, ⟨by omega⟩, HB, ⟨fun j hj => absurd hj (Nat.not_lt_zero _)⟩⟩
 case round =>
  clear HB
  obtain ⟨kk, rfl, hk, hg, HB, HA⟩ := hrel
  by_cases hlt : kk < l0.length
  ·
   have hltz : decide ((kk : Int) < (l0.length : Int)) = true := decide_eq_true (by omega)
   have hltn : decide (kk < l0.length) = true := decide_eq_true hlt
   have p0 : (0 : Int) ≤ (kk : Int) := by omega
   have q0 : (kk : Int) < (l0.length : Int) := by omega
   have HE := Aside0.mk (impl_trusted.rd_ l0 kk hlt)
   obtain ⟨ad, e1, hx0, hx1, hx2, hx3⟩ := at_T128 HR0.out (kk : Int) p0 q0
   cases e1
   rw [Int.toNat_natCast] at hx0 hx1 hx2 hx3
   replace hx0 := hC HB hx0
   replace hx1 := hC HB hx1
   replace hx2 := hC HB hx2
   replace hx3 := hC HB hx3
   replace p0 := eq_true p0
   replace q0 := eq_true q0
   have hcl := fun (w' : World) (hb : Below w.heap.size w w') => impl_trusted.clo id g (rd_T128 l0 (kk : Int)) w' ((hb.cell (World.block_lt_of_cell? w _ HC.out)).trans HC.out)
   cases hq : impl_trusted.q id (rd_T128 l0 (kk : Int)) with
   | true =>
    rw [hq] at hcl
    have HCL := Aside0.mk hcl
    have HQ := Aside0.mk hq
    clear hcl hq
    go_wp2_with (go_at_call 169; refine (HCL.out _ HB.out).mono ?_; rintro e w1 ⟨rfl, hb1⟩)
    go_ret
    refine ⟨?_, below_step HB.out hb1⟩
    have hq := HQ.out
    rw [HE.out] at hq
    rw [impl_trusted.ix_hit id l0 0 kk hlt (fun j hj => HA.out j hj (by omega)) hq, Int.zero_add]
    rfl
   | false =>
    rw [hq] at hcl
    have HCL := Aside0.mk hcl
    have HQ := Aside0.mk hq
    clear hcl hq
    go_wp2_with (go_at_call 169; refine (HCL.out _ HB.out).mono ?_; rintro e w1 ⟨rfl, hb1⟩)
    go_roundg (l0.length - (kk + 1))
    case measure => have := hg.out; omega
    case rel =>
     refine ⟨kk + 1, by go_num, ⟨by omega⟩, ⟨by omega⟩, ⟨below_step HB.out hb1⟩, ⟨fun j hj hl => ?_⟩⟩
     rcases Nat.lt_or_ge j kk with h3 | h3
     ·
      exact HA.out j h3 hl
     ·
      have h4 : j = kk := by omega
      subst h4
      rw [← HE.out]
      exact HQ.out
  ·
   have hge : decide ((kk : Int) < (l0.length : Int)) = false := decide_eq_false (by omega)
   have hgen : decide (kk < l0.length) = false := decide_eq_false hlt
   go_wp2
   go_ret
   refine ⟨?_, HB.out⟩
   rw [impl_trusted.ix_miss id l0 0 (fun j hj => HA.out j (by omega) hj)]
   rfl

def impl_trusted.f (l0 : List S128) (a1 : Int) : Option Int := some (impl_trusted.ix a1 l0 0)
set_option maxHeartbeats 400000 in
set_option maxRecDepth 100000 in
theorem impl_trusted.calls (A0 : Option Addr) (c0 : Nat) (l0 : List S128) (a1 : Int) (r : Int) (w : World) (hr0 : Kd.C k128 w A0 l0.length l0) (hc0 : l0.length ≤ c0) (h : impl_trusted.f l0 a1 = some r) :
  Calls Try.prog 160 #[.slice A0 l0.length c0, .int .i64 a1] w fun e w' => e = .returned (.int .i64 r) ∧ Below w.heap.size w w' := by
 obtain rfl := Option.some.inj h
 have HR0 := Aside0.mk hr0
 have HC0 := Aside0.mk hc0
 clear hr0 hc0 h
 go_enter Try.func160, Try.ntmps160
 go_wp2_with (go_at_call 168; refine (impl_trusted.idx a1 w.heap.size A0 c0 l0 _ ?s1 HC0.out ?s2).mono ?_; (case s1 => exact Kd.C_alloc HR0.out _); (case s2 => simp); rintro e w1 ⟨rfl, hb1⟩)
 go_ret
 exact ⟨rfl, below_step (below_alloc (Below.refl _ _) _) hb1⟩

/-! ### impl_LowDemand: function 141 -/
def impl_LowDemand.f (l0 : List (S128)) (a1 : Int) : Option (Int) := (impl_trusted.f l0 a1).bind fun t465 => (if t465 < 0 then (some 0) else (if 0 ≤ t465 then (if t465 < (l0.length : Int) then (some ((rd_T128 l0 t465).f1)) else (none)) else (none)))
set_option maxHeartbeats 8000000 in
set_option maxRecDepth 100000 in
theorem impl_LowDemand.calls (A0 : Option Addr) (c0 : Nat) (l0 : List (S128)) (a1 : Int) (r : Int) (w : World) (hr0 : Kd.C k128 w A0 l0.length l0) (hc0 : l0.length ≤ c0) (h : impl_LowDemand.f l0 a1 = some r) :
  Calls Try.prog 141 #[.slice A0 l0.length c0, .int .i64 a1] w fun e w' => e = .returned (.int .i64 r) ∧ Below w.heap.size w w' := by
 have HR0 := Aside0.mk hr0
 have HC0 := Aside0.mk hc0
 clear hr0 hc0
 have HB := Aside0.mk (Below.refl w.heap.size w)
 have H : ((impl_trusted.f l0 a1).bind fun t465 => (if t465 < 0 then (some 0) else (if 0 ≤ t465 then (if t465 < (l0.length : Int) then (some ((rd_T128 l0 t465).f1)) else (none)) else (none)))) = some r := h
 clear h
 obtain ⟨t465, A3, H⟩ := bindE H
 try dsimp only at H
 by_cases c4 : t465 < 0
 ·
  rw [if_pos c4] at H
  have c4b0 := decide_eq_true c4
  clear c4
  obtain rfl := Option.some.inj H
  go_enter Try.func141, Try.ntmps141
  go_wp2_with (first | ((with_reducible refine gate_callee (f := 160) rfl ?_); refine gL (some 8) Try.func160 #[.slice A0 l0.length c0, .int .i64 a1] ?_; (with_reducible refine (impl_trusted.calls _ _ l0 a1 t465 _ ?_ ?_ A3.out).mono ?_); exact cO HR0; exact HC0.out; rintro e w5 ⟨rfl, hb⟩; refine ⟨_, rfl, ?_⟩; replace HB := bs HB hb; (try clear hb)))
  go_ret
  exact ⟨rA, bA⟩
 rw [if_neg c4] at H
 have c4b0 := decide_eq_false c4
 clear c4
 have c6 : 0 ≤ t465 := ifN H
 replace H := ifT H
 have c6b0 := decide_eq_true c6
 clear c6
 have c7 : t465 < (l0.length : Int) := ifN H
 replace H := ifT H
 have c7b0 := decide_eq_true c7
 clear c7
 obtain rfl := Option.some.inj H
 go_enter Try.func141, Try.ntmps141
 go_wp2_with (first | ((with_reducible refine gate_callee (f := 160) rfl ?_); refine gL (some 8) Try.func160 #[.slice A0 l0.length c0, .int .i64 a1] ?_; (with_reducible refine (impl_trusted.calls _ _ l0 a1 t465 _ ?_ ?_ A3.out).mono ?_); exact cO HR0; exact HC0.out; rintro e w8 ⟨rfl, hb⟩; refine ⟨_, rfl, ?_⟩; replace HB := bs HB hb; (try clear hb); have p466 : 0 ≤ (t465 : Int) := dA; have q466 : t465 < (l0.length : Int) := dA; obtain ⟨ad466, e466, hx466_0, hx466_1, hx466_2, hx466_3⟩ := at_T128 HR0.out t465 p466 q466; cases e466; replace hx466_0 := hC HB hx466_0; replace hx466_1 := hC HB hx466_1; replace hx466_2 := hC HB hx466_2; replace hx466_3 := hC HB hx466_3; replace p466 := eq_true p466; replace q466 := eq_true q466))
 go_ret
 exact ⟨rA, bA⟩

/-! ### impl_StageDemand: function 114 -/
def impl_StageDemand.l0 : Nat → List (S128) → Int → List Int → Int → Int → Option (Int)
 | 0, _, _, _, _, _ => none
 | k + 1, x0, x5, x16, x17, x18 => if x18 < x17 then (if 0 ≤ x18 then (if x18 < (x16.length : Int) then ((impl_LowDemand.f x0 (rd x16 x18)).bind fun t470 => (impl_StageDemand.l0 k x0 (mx x5 t470) x16 x17 (wrap64 (x18 + 1)))) else (none)) else (none)) else (some x5)
def impl_StageDemand.f (k : Nat) (l0 : List (S128)) (l1 : List Int) : Option (Int) := if (l1.length : Int) = 0 then (some 0) else (if 0 < (l1.length : Int) then ((impl_LowDemand.f l0 (rd l1 0)).bind fun t468 => (impl_StageDemand.l0 k l0 t468 l1 (l1.length : Int) 0)) else (none))
theorem impl_StageDemand.mono_l : ∀ k, (∀ y0 y1 y2 y3 y4, LeO (impl_StageDemand.l0 k y0 y1 y2 y3 y4) (impl_StageDemand.l0 (k + 1) y0 y1 y2 y3 y4))
 | 0 => fun _ _ _ _ _ r h => by simp [impl_StageDemand.l0] at h
 | k + 1 => by
  have ih0 := impl_StageDemand.mono_l k
  ·
   intro y0 y1 y2 y3 y4
   unfold impl_StageDemand.l0
   exact mz1 ih0
theorem impl_StageDemand.mono : ∀ a0 a1 k, LeO (impl_StageDemand.f k a0 a1) (impl_StageDemand.f (k + 1) a0 a1) := by
 intro a0 a1 k
 have ih0 := impl_StageDemand.mono_l k
 unfold impl_StageDemand.f
 exact mz1 ih0
set_option maxHeartbeats 8000000 in
set_option maxRecDepth 100000 in
theorem impl_StageDemand.calls (k : Nat) (A0 : Option Addr) (c0 : Nat) (l0 : List (S128)) (A1 : Option Addr) (c1 : Nat) (l1 : List Int) (r : Int) (w : World) (hr0 : Kd.C k128 w A0 l0.length l0) (hc0 : l0.length ≤ c0) (hr1 : Kd.C (Kd.int .i64) w A1 l1.length l1) (hc1 : l1.length ≤ c1) (h : impl_StageDemand.f k l0 l1 = some r) :
  Calls Try.prog 114 #[.slice A0 l0.length c0, .slice A1 l1.length c1] w fun e w' => e = .returned (.int .i64 r) ∧ Below w.heap.size w w' := by
 have HR0 := Aside0.mk hr0
 have HC0 := Aside0.mk hc0
 clear hr0 hc0
 have HR1 := Aside0.mk hr1
 have HC1 := Aside0.mk hc1
 clear hr1 hc1
 have HB := Aside0.mk (Below.refl w.heap.size w)
 have H : (if (l1.length : Int) = 0 then (some 0) else (if 0 < (l1.length : Int) then ((impl_LowDemand.f l0 (rd l1 0)).bind fun t468 => (impl_StageDemand.l0 k l0 t468 l1 (l1.length : Int) 0)) else (none))) = some r := h
 clear h
 by_cases c3 : (l1.length : Int) = 0
 ·
  rw [if_pos c3] at H
  have c3b0 : ((l1.length : Int) == 0) = true := beq_iff_eq.mpr c3
  have c3b1 : ((l1.length : Int) != 0) = false := bne_eq_false_iff_eq.mpr c3
  clear c3
  obtain rfl := Option.some.inj H
  go_enter Try.func114, Try.ntmps114
  go_wp2
  go_ret
  exact ⟨rA, bA⟩
 rw [if_neg c3] at H
 have c3b0 : ((l1.length : Int) == 0) = false := beq_eq_false_iff_ne.mpr c3
 have c3b1 : ((l1.length : Int) != 0) = true := bne_iff_ne.mpr c3
 have c3b2 : ¬ (l1 = []) := fun h_ => c3 (by rw [h_]; rfl)
 have c4 : 0 < (l1.length : Int) := ifN H
 replace H := ifT H
 have c4b0 := decide_eq_true c4
 have c4b1 : decide (0 < l1.length) = true := decide_eq_true (by omega)
 clear c4
 obtain ⟨t468, A5, H⟩ := bindE H
 try dsimp only at H
 have H' := Aside0.mk H
 clear H
 have p467 : 0 ≤ (0 : Int) := (by omega)
 have q467 : 0 < (l1.length : Int) := dA
 obtain ⟨ad467, e467, hx467_0⟩ := Kd.at_int HR1.out 0 p467 q467
 cases e467
 have qi467 : (0 < l1.length) = True := eq_true (by omega)
 (try rw [show ((0 : Int)).toNat = 0 from rfl] at hx467_0)
 (try rw [Addr.add_zero'] at hx467_0)
 obtain ⟨p467, q467⟩ := eT p467 q467
 go_enter Try.func114, Try.ntmps114
 go_wp2_with (first | ((with_reducible refine gate_callee (f := 141) rfl ?_); refine gL (some 15) Try.func141 #[.slice A0 l0.length c0, .int .i64 (rd l1 0)] ?_; (with_reducible refine (impl_LowDemand.calls _ _ l0 (rd l1 0) t468 _ ?_ ?_ A5.out).mono ?_); exact cO HR0; exact HC0.out; rintro e w6 ⟨rfl, hb⟩; refine ⟨_, rfl, ?_⟩; replace HB := bs HB hb; (try clear hb)))
 go_loopg [5, 18] k (fun kq v5 v18 w' => ∃ (x5_1 : Int) (x18_1 : Int), v5 = .int .i64 x5_1 ∧ v18 = .int .i64 x18_1 ∧ Aside0 (impl_StageDemand.l0 kq l0 x5_1 l1 (l1.length : Int) x18_1 = some r) ∧ Aside0 (kq ≤ k) ∧ Aside0 (Below w.heap.size w w'))
 case atStart => exact ⟨(t468), (0), rS, rS, H', ⟨Nat.le_refl _⟩, ⟨bA⟩⟩
 case round =>
  clear H'
  obtain ⟨x5_1, x18_1, rfl, rfl, HA, HK1, HB⟩ := hrel
  cases gk with
  | zero => exact absurd HA.out (by simp [impl_StageDemand.l0])
  | succ k1 =>
   have H := HA.out
   clear HA
   simp only [impl_StageDemand.l0] at H
   by_cases c7 : x18_1 < (l1.length : Int)
   ·
    rw [if_pos c7] at H
    have c7b0 := decide_eq_true c7
    clear c7
    have c8 : 0 ≤ x18_1 := ifN H
    replace H := ifT H
    have c8b0 := decide_eq_true c8
    clear c8
    have c9 : x18_1 < (l1.length : Int) := ifN H
    replace H := ifT H
    have c9b0 := decide_eq_true c9
    clear c9
    obtain ⟨t470, A10, H⟩ := bindE H
    try dsimp only at H
    obtain ⟨ji11, hji11⟩ : ∃ j_ : Int, (mx x5_1 t470) = j_ := ⟨_, rfl⟩
    replace H : (impl_StageDemand.l0 k1 l0 ji11 l1 (l1.length : Int) (wrap64 (x18_1 + 1))) = some r := by first | (rw [hji11] at H; exact H) | (simp only [hji11] at H ⊢; exact H)
    (try rw [hji11] at A10)
    have hji11_ : (if x5_1 < t470 then t470 else x5_1) = ji11 := hji11
    have H' := Aside0.mk H
    clear H
    obtain ⟨p469, q469⟩ : 0 ≤ (x18_1 : Int) ∧ x18_1 < (l1.length : Int) := ⟨dA, dA⟩
    obtain ⟨ad469, e469, hx469_0⟩ := Kd.at_int (Kd.C_below HR1.out HB.out) x18_1 p469 q469
    obtain rfl : ad467 = ad469 := (by injection e469)
    obtain ⟨p469, q469⟩ := eT p469 q469
    go_wp2_with (first | ((with_reducible refine gate_callee (f := 141) rfl ?_); refine gL (some 25) Try.func141 #[.slice A0 l0.length c0, .int .i64 (rd l1 x18_1)] ?_; (with_reducible refine (impl_LowDemand.calls _ _ l0 (rd l1 x18_1) t470 _ ?_ ?_ A10.out).mono ?_); exact cB HR0; exact HC0.out; rintro e w12 ⟨rfl, hb⟩; refine ⟨_, rfl, ?_⟩; replace HB := bs HB hb; (try clear hb)))
    go_roundg k1
    case measure => have := HK1.out; omega
    case rel => exact ⟨(ji11), (wrap64 (x18_1 + 1)), (by first | rfl | (simp; done) | (simp only [← hji11] <;> (first | rfl | simp)) | (simp [*]; done)), rS, H', ⟨by have := HK1.out; omega⟩, ⟨bA⟩⟩
   rw [if_neg c7] at H
   have c7b0 := decide_eq_false c7
   clear c7
   obtain rfl := Option.some.inj H
   go_wp2
   go_ret
   exact ⟨rA, bA⟩

/-! ### impl_ShareGreen: function 57 -/
mutual
def impl_ShareGreen.j0 : Nat → List (S89) → List (S92) → List (S128) → List (S92) → Int → Bool → Option ((List (S92)) × Bool)
 | 0, _, _, _, _, _, _ => none
 | k + 1, x0, x1, x2, x10, x11, x33 => if x33 = true then (some (x10, false)) else (impl_ShareGreen.l0 k x0 x1 x2 x10 x11 0 x1 (x1.length : Int) 0)
def impl_ShareGreen.l0 : Nat → List (S89) → List (S92) → List (S128) → List (S92) → Int → Int → List (S92) → Int → Int → Option ((List (S92)) × Bool)
 | 0, _, _, _, _, _, _, _, _, _ => none
 | k + 1, x0, x1, x2, x10, x11, x12, x35, x36, x37 => if x37 < x36 then (if 0 ≤ x37 then (if x37 < (x35.length : Int) then ((impl_StageDemand.f k x2 ((rd_T92 x35 x37).f0)).bind fun t478 => (impl_ShareGreen.l0 k x0 x1 x2 x10 x11 (wrap64 (x12 + (wrap64 (t478 + 1)))) x35 x36 (wrap64 (x37 + 1)))) else (none)) else (none)) else (impl_ShareGreen.l1 k x0 x2 x10 x11 x12 x11 x1 (x1.length : Int) 0)
def impl_ShareGreen.l1 : Nat → List (S89) → List (S128) → List (S92) → Int → Int → Int → List (S92) → Int → Int → Option ((List (S92)) × Bool)
 | 0, _, _, _, _, _, _, _, _, _ => none
 | k + 1, x0, x2, x10, x11, x12, x15, x50, x51, x52 => if x52 < x51 then (if 0 ≤ x52 then (if x52 < (x50.length : Int) then ((impl_StageDemand.f k x2 ((rd_T92 x50 x52).f0)).bind fun t481 => (if x12 = 0 then (none) else ((impl_LeastGreen.f k x0 ((rd_T92 x50 x52).f0)).bind fun t482 => (if x52 < (x10.length : Int) then (impl_ShareGreen.l1 k x0 x2 (x10.set (x52 : Int).toNat (⟨(rd_T92 x10 x52).f0, wrap64 (t482 + (wrap64 (Int.tdiv (wrap64 (x11 * (wrap64 (t481 + 1)))) x12)))⟩ : S92)) x11 x12 (wrap64 (x15 - (wrap64 (Int.tdiv (wrap64 (x11 * (wrap64 (t481 + 1)))) x12)))) x50 x51 (wrap64 (x52 + 1))) else (none))))) else (none)) else (none)) else (impl_ShareGreen.l2 k x10 x15 (x10.length : Int) 0)
def impl_ShareGreen.l2 : Nat → List (S92) → Int → Int → Int → Option ((List (S92)) × Bool)
 | 0, _, _, _, _ => none
 | k + 1, x10, x15, x81, x82 => if x82 < x81 then (if x15 > 0 then (if 0 ≤ x82 then (if x82 < (x10.length : Int) then ((some (x10.set (x82 : Int).toNat (⟨(rd_T92 x10 x82).f0, wrap64 (((rd_T92 x10 x82).f1) + 1)⟩ : S92) : List (S92))).bind fun y485 => (impl_ShareGreen.l2 k (y485.set (x82 : Int).toNat (⟨(rd_T92 y485 x82).f0, mn ((rd_T92 y485 x82).f1) 60⟩ : S92)) (wrap64 (x15 - 1)) x81 (wrap64 (x82 + 1)))) else (none)) else (none)) else (if 0 ≤ x82 then (if x82 < (x10.length : Int) then (impl_ShareGreen.l2 k (x10.set (x82 : Int).toNat (⟨(rd_T92 x10 x82).f0, mn ((rd_T92 x10 x82).f1) 60⟩ : S92)) x15 x81 (wrap64 (x82 + 1))) else (none)) else (none))) else (some (x10, true))
end
def impl_ShareGreen.f (k : Nat) (l0 : List (S89)) (l1 : List (S92)) (l2 : List (S128)) (a3 : Int) : Option ((List (S92)) × Bool) := (impl_clonePlan.f k l1).bind fun t471 => ((impl_SpareGreen.f k l0 l1 a3).bind fun t474 => (if t474 < 0 then (impl_ShareGreen.j0 k l0 l1 l2 t471 t474 true) else ((impl_AreDetectors.f k l0 l2).bind fun t475 => (impl_ShareGreen.j0 k l0 l1 l2 t471 t474 (!t475)))))
theorem impl_ShareGreen.mono_l : ∀ k, (∀ y0 y1 y2 y3 y4 y5, LeO (impl_ShareGreen.j0 k y0 y1 y2 y3 y4 y5) (impl_ShareGreen.j0 (k + 1) y0 y1 y2 y3 y4 y5)) ∧ (∀ y0 y1 y2 y3 y4 y5 y6 y7 y8, LeO (impl_ShareGreen.l0 k y0 y1 y2 y3 y4 y5 y6 y7 y8) (impl_ShareGreen.l0 (k + 1) y0 y1 y2 y3 y4 y5 y6 y7 y8)) ∧ (∀ y0 y1 y2 y3 y4 y5 y6 y7 y8, LeO (impl_ShareGreen.l1 k y0 y1 y2 y3 y4 y5 y6 y7 y8) (impl_ShareGreen.l1 (k + 1) y0 y1 y2 y3 y4 y5 y6 y7 y8)) ∧ (∀ y0 y1 y2 y3, LeO (impl_ShareGreen.l2 k y0 y1 y2 y3) (impl_ShareGreen.l2 (k + 1) y0 y1 y2 y3))
 | 0 => ⟨fun _ _ _ _ _ _ r h => by simp [impl_ShareGreen.j0] at h, fun _ _ _ _ _ _ _ _ _ r h => by simp [impl_ShareGreen.l0] at h, fun _ _ _ _ _ _ _ _ _ r h => by simp [impl_ShareGreen.l1] at h, fun _ _ _ _ r h => by simp [impl_ShareGreen.l2] at h⟩
 | k + 1 => by
  obtain ⟨ih0, ih1, ih2, ih3⟩ := impl_ShareGreen.mono_l k
  refine ⟨?_, ?_, ?_, ?_⟩
  ·
   intro y0 y1 y2 y3 y4 y5
   unfold impl_ShareGreen.j0
   repeat' first | (with_reducible first | exact LeO.refl _ | exact LeO.none _ | refine LeO.ite ?_ ?_ | refine LeO.bind ?_ (fun _ => ?_) | exact ih0 _ _ _ _ _ _ | exact ih1 _ _ _ _ _ _ _ _ _ | exact ih2 _ _ _ _ _ _ _ _ _ | exact ih3 _ _ _ _ | exact impl_AreDetectors.mono _ _ _ | exact impl_LeastGreen.mono _ _ _ | exact impl_SpareGreen.mono _ _ _ _ | exact impl_StageDemand.mono _ _ _ | exact impl_clonePlan.mono _ _)
  ·
   intro y0 y1 y2 y3 y4 y5 y6 y7 y8
   unfold impl_ShareGreen.l0
   repeat' first | (with_reducible first | exact LeO.refl _ | exact LeO.none _ | refine LeO.ite ?_ ?_ | refine LeO.bind ?_ (fun _ => ?_) | exact ih0 _ _ _ _ _ _ | exact ih1 _ _ _ _ _ _ _ _ _ | exact ih2 _ _ _ _ _ _ _ _ _ | exact ih3 _ _ _ _ | exact impl_AreDetectors.mono _ _ _ | exact impl_LeastGreen.mono _ _ _ | exact impl_SpareGreen.mono _ _ _ _ | exact impl_StageDemand.mono _ _ _ | exact impl_clonePlan.mono _ _)
  ·
   intro y0 y1 y2 y3 y4 y5 y6 y7 y8
   unfold impl_ShareGreen.l1
   repeat' first | (with_reducible first | exact LeO.refl _ | exact LeO.none _ | refine LeO.ite ?_ ?_ | refine LeO.bind ?_ (fun _ => ?_) | exact ih0 _ _ _ _ _ _ | exact ih1 _ _ _ _ _ _ _ _ _ | exact ih2 _ _ _ _ _ _ _ _ _ | exact ih3 _ _ _ _ | exact impl_AreDetectors.mono _ _ _ | exact impl_LeastGreen.mono _ _ _ | exact impl_SpareGreen.mono _ _ _ _ | exact impl_StageDemand.mono _ _ _ | exact impl_clonePlan.mono _ _)
  ·
   intro y0 y1 y2 y3
   unfold impl_ShareGreen.l2
   repeat' first | (with_reducible first | exact LeO.refl _ | exact LeO.none _ | refine LeO.ite ?_ ?_ | refine LeO.bind ?_ (fun _ => ?_) | exact ih0 _ _ _ _ _ _ | exact ih1 _ _ _ _ _ _ _ _ _ | exact ih2 _ _ _ _ _ _ _ _ _ | exact ih3 _ _ _ _ | exact impl_AreDetectors.mono _ _ _ | exact impl_LeastGreen.mono _ _ _ | exact impl_SpareGreen.mono _ _ _ _ | exact impl_StageDemand.mono _ _ _ | exact impl_clonePlan.mono _ _)
theorem impl_ShareGreen.mono : ∀ a0 a1 a2 a3 k, LeO (impl_ShareGreen.f k a0 a1 a2 a3) (impl_ShareGreen.f (k + 1) a0 a1 a2 a3) := by
 intro a0 a1 a2 a3 k
 obtain ⟨ih0, ih1, ih2, ih3⟩ := impl_ShareGreen.mono_l k
 unfold impl_ShareGreen.f
 repeat' first | (with_reducible first | exact LeO.refl _ | exact LeO.none _ | refine LeO.ite ?_ ?_ | refine LeO.bind ?_ (fun _ => ?_) | exact ih0 _ _ _ _ _ _ | exact ih1 _ _ _ _ _ _ _ _ _ | exact ih2 _ _ _ _ _ _ _ _ _ | exact ih3 _ _ _ _ | exact impl_AreDetectors.mono _ _ _ | exact impl_LeastGreen.mono _ _ _ | exact impl_SpareGreen.mono _ _ _ _ | exact impl_StageDemand.mono _ _ _ | exact impl_clonePlan.mono _ _)
set_option maxHeartbeats 8000000 in
set_option maxRecDepth 100000 in
theorem impl_ShareGreen.calls (k : Nat) (A0 : Option Addr) (c0 : Nat) (l0 : List (S89)) (A1 : Option Addr) (c1 : Nat) (l1 : List (S92)) (A2 : Option Addr) (c2 : Nat) (l2 : List (S128)) (a3 : Int) (r1 : List (S92)) (r2 : Bool) (w : World) (hr0 : Kd.C k89 w A0 l0.length l0) (hc0 : l0.length ≤ c0) (hr1 : Kd.C k92 w A1 l1.length l1) (hc1 : l1.length ≤ c1) (hr2 : Kd.C k128 w A2 l2.length l2) (hc2 : l2.length ≤ c2) (h : impl_ShareGreen.f k l0 l1 l2 a3 = some (r1, r2)) :
  Calls Try.prog 57 #[.slice A0 l0.length c0, .slice A1 l1.length c1, .slice A2 l2.length c2, .int .i64 a3] w fun e w' => ∃ v0_ : Value, e = .returned (.tuple #[v0_, .bool r2]) ∧ Kd.S k92 92 w' w.heap.size (fun _ => True) v0_ r1 ∧ Below w.heap.size w w' := by
 have hu92 := Try.underlying92
 have HR0 := Aside0.mk hr0
 have HC0 := Aside0.mk hc0
 clear hr0 hc0
 have HR1 := Aside0.mk hr1
 have HC1 := Aside0.mk hc1
 clear hr1 hc1
 have HR2 := Aside0.mk hr2
 have HC2 := Aside0.mk hc2
 clear hr2 hc2
 have HB := Aside0.mk (Below.refl w.heap.size w)
 have H : ((impl_clonePlan.f k l1).bind fun t471 => ((impl_SpareGreen.f k l0 l1 a3).bind fun t474 => (if t474 < 0 then (impl_ShareGreen.j0 k l0 l1 l2 t471 t474 true) else ((impl_AreDetectors.f k l0 l2).bind fun t475 => (impl_ShareGreen.j0 k l0 l1 l2 t471 t474 (!t475)))))) = some (r1, r2) := h
 clear h
 obtain ⟨t471, A5, H⟩ := bindE H
 try dsimp only at H
 obtain ⟨t474, A6, H⟩ := bindE H
 try dsimp only at H
 have HC7 := Aside0.mk H
 clear H
 go_enter Try.func57, Try.ntmps57
 go_upto_region 3 with (first | ((with_reducible refine gate_callee (f := 111) rfl ?_); refine gL (some 21) Try.func111 #[.slice A1 l1.length c1] ?_; (with_reducible refine (impl_clonePlan.calls k _ _ l1 t471 _ ?_ ?_ A5.out).mono ?_); exact cO HR1; exact HC1.out; rintro e w8 ⟨v472, rfl, ho0, hb⟩; refine ⟨_, rfl, ?_⟩; have HO473 := sl w ho0; replace HB := bs HB hb; (try clear hb); (try clear ho0)) | ((with_reducible refine gate_callee (f := 112) rfl ?_); refine gL (some 25) Try.func112 #[.slice A0 l0.length c0, .slice A1 l1.length c1, .int .i64 a3] ?_; (with_reducible refine (impl_SpareGreen.calls k _ _ l0 _ _ l1 a3 t474 _ ?_ ?_ ?_ ?_ A6.out).mono ?_); exact cB HR0; exact HC0.out; exact cB HR1; exact HC1.out; rintro e w9 ⟨rfl, hb⟩; refine ⟨_, rfl, ?_⟩; replace HO473 := sb HO473 hb; replace HB := bs HB hb; (try clear hb)))
 (try simp only [Act.put, List.setIfInBounds_toArray, List.set_cons_zero, List.set_cons_succ])
 go_cut [33] (fun v33 wc => ∃ (kq : Nat) (x33_6 : Bool), v33 = .bool x33_6 ∧ Aside0 (impl_ShareGreen.j0 kq l0 l1 l2 t471 t474 x33_6 = some (r1, r2)) ∧ Aside0 (kq ≤ k) ∧ Aside0 (Kd.S k92 92 wc w.heap.size (fun _ => True) v472 t471) ∧ Aside0 (Below w.heap.size w wc))
 case first =>
  have H := HC7.out
  clear HC7
  by_cases c10 : t474 < 0
  ·
   rw [if_pos c10] at H
   have c10b0 := decide_eq_true c10
   clear c10
   (first | rw [c10b0] | (simp only [i64_w, i32_w]; rw [c10b0]) | skip)
   have H' := Aside0.mk H
   clear H
   go_wp2
   go_meet
   case rel => exact ⟨_, (true), rS, H', ⟨oL⟩, ⟨sK HO473⟩, ⟨bA⟩⟩
  rw [if_neg c10] at H
  have c10b0 := decide_eq_false c10
  clear c10
  (first | rw [c10b0] | (simp only [i64_w, i32_w]; rw [c10b0]) | skip)
  obtain ⟨t475, A11, H⟩ := bindE H
  try dsimp only at H
  have H' := Aside0.mk H
  clear H
  go_wp2_with (first | (go_at_call 113; (with_reducible refine (impl_AreDetectors.calls k _ _ l0 _ _ l2 t475 _ ?_ ?_ ?_ ?_ A11.out).mono ?_); exact cB HR0; exact HC0.out; exact cB HR2; exact HC2.out; rintro e w12 ⟨rfl, hb⟩; replace HO473 := sb HO473 hb; replace HB := bs HB hb; (try clear hb)))
  go_meet
  case rel => exact ⟨_, (!t475), rS, H', ⟨oL⟩, ⟨sK HO473⟩, ⟨bA⟩⟩
 case rest =>
  clear HC7
  obtain ⟨kq, x33_6, rfl, HA, HJ6, HO_10, HB⟩ := hcut
  cases kq with
  | zero => exact absurd HA.out (by simp [impl_ShareGreen.j0])
  | succ kj6 =>
   have H := HA.out
   clear HA
   simp only [impl_ShareGreen.j0] at H
   by_cases c13 : x33_6 = true
   ·
    subst c13
    have H1 : (some (t471, false)) = some (r1, r2) := by rw [if_pos rfl] at H; exact H
    clear H
    have H := H1
    clear H1
    simp only [Option.some.injEq, Prod.mk.injEq] at H
    obtain ⟨rfl, rfl⟩ := H
    go_wp2
    go_ret2
    exact ⟨_, rA, sK HO_10, bA⟩
   replace c13 := Bool.eq_false_iff.mpr c13
   subst c13
   have H1 : (impl_ShareGreen.l0 kj6 l0 l1 l2 t471 t474 0 l1 (l1.length : Int) 0) = some (r1, r2) := by rw [if_neg (show ¬ (false = true) by decide)] at H; exact H
   clear H
   have H := H1
   clear H1
   have H' := Aside0.mk H
   clear H
   go_wp2
   go_loopg [12, 37] kj6 (fun kq v12 v37 w' => ∃ (x12_2 : Int) (x37_2 : Int), v12 = .int .i64 x12_2 ∧ v37 = .int .i64 x37_2 ∧ Aside0 (impl_ShareGreen.l0 kq l0 l1 l2 t471 t474 x12_2 l1 (l1.length : Int) x37_2 = some (r1, r2)) ∧ Aside0 (kq ≤ kj6) ∧ Aside0 (Kd.S k92 92 w' w.heap.size (fun _ => True) v472 t471) ∧ Aside0 (Below w.heap.size w w'))
   case atStart => exact ⟨(0), (0), rS, rS, H', ⟨Nat.le_refl _⟩, ⟨sK HO_10⟩, ⟨bA⟩⟩
   case round =>
    clear H'
    obtain ⟨x12_2, x37_2, rfl, rfl, HA, HK2, HO_10, HB⟩ := hrel
    cases gk with
    | zero => exact absurd HA.out (by simp [impl_ShareGreen.l0])
    | succ k2 =>
     have H := HA.out
     clear HA
     simp only [impl_ShareGreen.l0] at H
     by_cases c14 : x37_2 < (l1.length : Int)
     ·
      rw [if_pos c14] at H
      have c14b0 := decide_eq_true c14
      clear c14
      have c15 : 0 ≤ x37_2 := ifN H
      replace H := ifT H
      have c15b0 := decide_eq_true c15
      clear c15
      have c16 : x37_2 < (l1.length : Int) := ifN H
      replace H := ifT H
      have c16b0 := decide_eq_true c16
      clear c16
      obtain ⟨t478, A17, H⟩ := bindE H
      try dsimp only at H
      have H' := Aside0.mk H
      clear H
      obtain ⟨p476, q476⟩ : 0 ≤ (x37_2 : Int) ∧ x37_2 < (l1.length : Int) := ⟨dA, dA⟩
      obtain ⟨ad476, A476_0, c476_0, e476, hx476_0, hx476_1, hl476_0, hi476_0⟩ := at_T92 HR1.out x37_2 p476 q476
      cases e476
      replace hx476_0 := hC HB hx476_0
      replace hx476_1 := hC HB hx476_1
      have HR476_0 := Aside0.mk hi476_0
      have HC476_0 := Aside0.mk hl476_0
      clear hi476_0 hl476_0
      obtain ⟨p476, q476⟩ := eT p476 q476
      go_wp2_with (first | ((with_reducible refine gate_dst (N := 14) rfl ?_); refine bE (N := 14) (cs := #[.slice none 0 0, .int .i64 0]) (t := 92) ?_; intro gb477 hg w18 hbox hb; replace HO_10 := Aside0.mk (Kd.S_below (Kd.S_elderB (sK HO_10) gb477 (Nat.le_of_eq hg.symm)) hb); have BK477 := Aside0.mk (hbox); have GW477 := gw w hg; have GE477 := gw w hg; replace HB := bs HB hb; clear hb hbox hg; obtain ⟨_, _, _, _⟩ := blkc2 BK477) | ((with_reducible refine gate_callee (f := 114) rfl ?_); refine gL (some 45) Try.func114 #[.slice A2 l2.length c2, .slice A476_0 ((rd_T92 l1 x37_2).f0).length c476_0] ?_; (with_reducible refine (impl_StageDemand.calls k2 _ _ l2 _ _ ((rd_T92 l1 x37_2).f0) t478 _ ?_ ?_ ?_ ?_ A17.out).mono ?_); exact Kd.C_below HR2.out bG; exact HC2.out; exact Kd.C_below HR476_0.out bG; exact HC476_0.out; rintro e w20 ⟨rfl, hb⟩; refine ⟨_, rfl, ?_⟩; have n0_ := Aside0.mk (Kd.S_below (by (with_reducible repeat (first | apply Kd.S_alloc | apply Kd.S_drewN | apply Kd.S_drew)); exact (Kd.S_mono (Kd.S_far (p := ⟨gb477, 1, none⟩) (Kd.S_far (p := ⟨gb477, 0, none⟩) (Kd.S_mono HO_10.out (fun k_ hk => (⟨hk, hk.2⟩ : _ ∧ k_ ≠ gb477))) (fun _ hk => hk.2) (.slice A476_0 ((rd_T92 l1 x37_2).f0).length c476_0)) (fun _ hk => hk.2) (.int .i64 ((rd_T92 l1 x37_2).f1))) (fun _ h_ => h_.1))) hb); have n1_ := kc (o := .cells #[.slice A476_0 ((rd_T92 l1 x37_2).f0).length c476_0, .int .i64 ((rd_T92 l1 x37_2).f1)] 92 (0, 0)) (kp BK477) hb; have n2_ := bs HB hb; clear HO_10; clear BK477; clear HB; have HO_10 := n0_; have BK477 := n1_; have HB := n2_; clear n0_ n1_ n2_; (try clear hb)))
      go_roundg k2
      case measure => have := HJ6.out; have := HK2.out; omega
      case rel => exact ⟨(wrap64 (x12_2 + (wrap64 (t478 + 1)))), (wrap64 (x37_2 + 1)), rS, rS, H', ⟨by have := HJ6.out; have := HK2.out; omega⟩, ⟨sm HO_10 (fun _ hk => trivial)⟩, ⟨bG⟩⟩
     rw [if_neg c14] at H
     have c14b0 := decide_eq_false c14
     clear c14
     have H' := Aside0.mk H
     clear H
     go_wp2
     go_loopg [15, 52] k2 (fun kq v15 v52 w' => ∃ (x10_3 : List (S92)) (x15_3 : Int) (x52_3 : Int), v15 = .int .i64 x15_3 ∧ v52 = .int .i64 x52_3 ∧ Aside0 (impl_ShareGreen.l1 kq l0 l2 x10_3 t474 x12_2 x15_3 l1 (l1.length : Int) x52_3 = some (r1, r2)) ∧ Aside0 (kq ≤ k2) ∧ Aside0 (Kd.S k92 92 w' w.heap.size (fun _ => True) v472 x10_3) ∧ Aside0 (Below w.heap.size w w'))
     case atStart => exact ⟨(t471), (t474), (0), rS, rS, H', ⟨Nat.le_refl _⟩, ⟨sK HO_10⟩, ⟨bA⟩⟩
     case round =>
      clear H'
      obtain ⟨x10_3, x15_3, x52_3, rfl, rfl, HA, HK3, HO_10, HB⟩ := hrel
      cases gk with
      | zero => exact absurd HA.out (by simp [impl_ShareGreen.l1])
      | succ k3 =>
       have H := HA.out
       clear HA
       simp only [impl_ShareGreen.l1] at H
       by_cases c21 : x52_3 < (l1.length : Int)
       ·
        rw [if_pos c21] at H
        have c21b0 := decide_eq_true c21
        clear c21
        have c22 : 0 ≤ x52_3 := ifN H
        replace H := ifT H
        have c22b0 := decide_eq_true c22
        clear c22
        have c23 : x52_3 < (l1.length : Int) := ifN H
        replace H := ifT H
        have c23b0 := decide_eq_true c23
        clear c23
        obtain ⟨t481, A24, H⟩ := bindE H
        try dsimp only at H
        have c25 : ¬ (x12_2 = 0) := ifN' H
        replace H := ifT' H
        have c25b0 : (x12_2 == 0) = false := beq_eq_false_iff_ne.mpr c25
        have c25b1 : (x12_2 != 0) = true := bne_iff_ne.mpr c25
        obtain ⟨t482, A26, H⟩ := bindE H
        try dsimp only at H
        have c27 : x52_3 < (x10_3.length : Int) := ifN H
        replace H := ifT H
        have c27b0 := decide_eq_true c27
        clear c27
        obtain ⟨y483, hy483⟩ : ∃ y_ : List (S92), y_ = (x10_3.set (x52_3 : Int).toNat (⟨(rd_T92 x10_3 x52_3).f0, wrap64 (t482 + (wrap64 (Int.tdiv (wrap64 (t474 * (wrap64 (t481 + 1)))) x12_2)))⟩ : S92)) := ⟨_, rfl⟩
        replace H : (impl_ShareGreen.l1 k3 l0 l2 y483 t474 x12_2 (wrap64 (x15_3 - (wrap64 (Int.tdiv (wrap64 (t474 * (wrap64 (t481 + 1)))) x12_2)))) l1 (l1.length : Int) (wrap64 (x52_3 + 1))) = some (r1, r2) := rH H hy483
        have Ny483 := Aside0.mk hy483
        clear hy483
        have H' := Aside0.mk H
        clear H
        obtain ⟨p479, q479⟩ : 0 ≤ (x52_3 : Int) ∧ x52_3 < (l1.length : Int) := ⟨dA, dA⟩
        obtain ⟨ad479, A479_0, c479_0, e479, hx479_0, hx479_1, hl479_0, hi479_0⟩ := at_T92 HR1.out x52_3 p479 q479
        cases e479
        replace hx479_0 := hC HB hx479_0
        replace hx479_1 := hC HB hx479_1
        have HR479_0 := Aside0.mk hi479_0
        have HC479_0 := Aside0.mk hl479_0
        clear hi479_0 hl479_0
        obtain ⟨p479, q479⟩ := eT p479 q479
        go_wp2_with (first | ((with_reducible refine gate_dst (N := 17) rfl ?_); refine bE (N := 17) (cs := #[.slice none 0 0, .int .i64 0]) (t := 92) ?_; intro gb480 hg w29 hbox hb; replace HO_10 := Aside0.mk (Kd.S_below (Kd.S_elderB (sK HO_10) gb480 (Nat.le_of_eq hg.symm)) hb); have BK480 := Aside0.mk (hbox); have GW480 := gw w hg; have GE480 := gw w hg; replace HB := bs HB hb; clear hb hbox hg; obtain ⟨_, _, _, _⟩ := blkc2 BK480) | ((with_reducible refine gate_callee (f := 114) rfl ?_); refine gL (some 61) Try.func114 #[.slice A2 l2.length c2, .slice A479_0 ((rd_T92 l1 x52_3).f0).length c479_0] ?_; (with_reducible refine (impl_StageDemand.calls k3 _ _ l2 _ _ ((rd_T92 l1 x52_3).f0) t481 _ ?_ ?_ ?_ ?_ A24.out).mono ?_); exact Kd.C_below HR2.out bG; exact HC2.out; exact Kd.C_below HR479_0.out bG; exact HC479_0.out; rintro e w31 ⟨rfl, hb⟩; refine ⟨_, rfl, ?_⟩; have n0_ := Aside0.mk (Kd.S_below (by (with_reducible repeat (first | apply Kd.S_alloc | apply Kd.S_drewN | apply Kd.S_drew)); exact (Kd.S_mono (Kd.S_far (p := ⟨gb480, 1, none⟩) (Kd.S_far (p := ⟨gb480, 0, none⟩) (Kd.S_mono HO_10.out (fun k_ hk => (⟨hk, hk.2⟩ : _ ∧ k_ ≠ gb480))) (fun _ hk => hk.2) (.slice A479_0 ((rd_T92 l1 x52_3).f0).length c479_0)) (fun _ hk => hk.2) (.int .i64 ((rd_T92 l1 x52_3).f1))) (fun _ h_ => h_.1))) hb); have n1_ := kc (o := .cells #[.slice A479_0 ((rd_T92 l1 x52_3).f0).length c479_0, .int .i64 ((rd_T92 l1 x52_3).f1)] 92 (0, 0)) (kp BK480) hb; have n2_ := bs HB hb; clear HO_10; clear BK480; clear HB; have HO_10 := n0_; have BK480 := n1_; have HB := n2_; clear n0_ n1_ n2_; (try clear hb); obtain ⟨_, _, _, _⟩ := blkc2 BK480) | ((with_reducible refine gate_callee (f := 77) rfl ?_); refine gL (some 71) Try.func77 #[.slice A0 l0.length c0, .slice A479_0 ((rd_T92 l1 x52_3).f0).length c479_0] ?_; (with_reducible refine (impl_LeastGreen.calls k3 _ _ l0 _ _ ((rd_T92 l1 x52_3).f0) t482 _ ?_ ?_ ?_ ?_ A26.out).mono ?_); exact cB HR0; exact HC0.out; exact cB HR479_0; exact HC479_0.out; rintro e w33 ⟨rfl, hb⟩; refine ⟨_, rfl, ?_⟩; replace HO_10 := sb HO_10 hb; replace BK480 := kb BK480 hb; replace HB := bs HB hb; (try clear hb); have p28 : 0 ≤ (x52_3 : Int) := dA; have q28 : (x52_3 : Int) < ((x10_3.length : Int) : Int) := dA; obtain ⟨go28, co28, eo28, gb28, gl28, cl28, HG28⟩ := Kd.S_form HO_10.out (by omega); (first | cases eo28 | (injection eo28 with ea_ en_ ec_; (first | subst ea_ | (injection ea_ with ea_; subst ea_)); subst ec_; clear en_)); have GB28 := Aside0.mk gb28; have GG28 := Aside0.mk HG28; clear gb28 gl28 HG28; obtain ⟨_, ce28, hcl28, hM28, hcc28, hfr28, _, _⟩ := Kd.S_elem HO_10.out z92 (x52_3 : Int) p28 q28; obtain ⟨ve28_0, rfl, ge28_0⟩ := k92_openM hM28; have hx28_0 : w33.cell? ⟨go28, (x52_3 : Int).toNat * 2, none⟩ = some (ve28_0) := hcc28 0 _ rfl; have hx28_1 : w33.cell? ⟨go28, (x52_3 : Int).toNat * 2 + 1, none⟩ = some (.int .i64 ((rd_T92 x10_3 x52_3).f1)) := hcc28 1 _ rfl; have hf28_0 : w33.frozen? ⟨go28, (x52_3 : Int).toNat * 2, none⟩ = false := hfr28 0; have hf28_1 : w33.frozen? ⟨go28, (x52_3 : Int).toNat * 2 + 1, none⟩ = false := hfr28 1; clear hcl28 hcc28 hfr28 hM28; replace p28 := eq_true p28; replace q28 := eq_true q28; have n_ := Aside0.mk (Kd.S_mono (ok' := (fun k_ => k_ ≠ gb480)) HO_10.out (fun k_ hk => hk.2)); clear HO_10; have HO_10 := n_; clear n_; have HX34 := Aside0.mk (show Kd.S k92 92 w33 w.heap.size (fun k_ => ((fun k_ => k_ ≠ gb480)) k_ ∧ ¬ ((fun _ => False)) k_) (.slice (some ⟨go28, 0, none⟩) x10_3.length co28) x10_3 from (sm HO_10 (fun k_ hk => ⟨hk, fun e_ => e_⟩))); obtain ⟨oki34, ce34, hcl34, hM34, hcc34, hfr34, hoki34, hH34⟩ := Kd.S_elem HX34.out z92 (x52_3 : Int) (dA) (by have h_ : (x52_3 : Int) < ((x10_3.length : Int) : Int) := dA; first | exact h_ | (have e_ := (Kd.S_reads' HO_10.out).1; omega) | simpa using h_); obtain ⟨ve34_0, rfl, ge34_0⟩ := k92_openM hM34; have HP34 := Kd.S_seg hH34 (dA) (by have h_ : (x52_3 : Int) < ((x10_3.length : Int) : Int) := dA; first | exact h_ | (have e_ := (Kd.S_reads' HO_10.out).1; omega) | simpa using h_) (seg := [.int .i64 (wrap64 (t482 + (wrap64 (Int.tdiv (wrap64 (t474 * (wrap64 (t481 + 1)))) x12_2))))]) (j := 1) (show 2 ≤ 2 from by decide) (x' := (⟨(rd_T92 x10_3 x52_3).f0, wrap64 (t482 + (wrap64 (Int.tdiv (wrap64 (t474 * (wrap64 (t481 + 1)))) x12_2)))⟩ : S92)) (k92_mkM _ _ _ (⟨(rd_T92 x10_3 x52_3).f0, wrap64 (t482 + (wrap64 (Int.tdiv (wrap64 (t474 * (wrap64 (t481 + 1)))) x12_2)))⟩ : S92) (Kd.R_mono ge34_0 (fun _ h_ => Or.inl h_))) (fun _ hk => hk) (fun k_ hk_ => hk_.elim); have hx34_1 := hcc34 1 _ rfl; (try simp only [show (k92).sz = 2 from rfl, Nat.mul_one, Nat.add_zero] at hx34_1); have hf34_1 := hfr34 1; (try simp only [show (k92).sz = 2 from rfl, Nat.mul_one, Nat.add_zero] at hf34_1); clear hcl34 hcc34 hfr34 hM34 hoki34 hH34) | ((with_reducible refine gate_store (t := 3) (p := 75) rfl ?_); refine store_event (t := 3) (p := 75) (v := ?vo_w35) (w1 := (w33.setCell ⟨go28, (x52_3 : Int).toNat * 2 + 1, none⟩ (.int .i64 (wrap64 (t482 + (wrap64 (Int.tdiv (wrap64 (t474 * (wrap64 (t481 + 1)))) x12_2))))))) ?hg ?ho ?hn ?hr ?_; (case ho => rfl); (case hg => rfl); (case hn => rfl); (case hr => first | (go_simp; done) | (go_simp; rfl)); intro w35 hw; have hg : w33.grownBy w35 (some go28) := (by rw [hw]; exact HP34.2); have hp_ : Kd.S k92 92 w35 w.heap.size (fun k_ => k_ ≠ gb480) (.slice (some ⟨go28, 0, none⟩) x10_3.length co28) y483 := (by rw [hw, Ny483.out]; exact HP34.1); clear HP34; have n0_ := Aside0.mk (hp_); have n1_ := Aside0.mk (blk_grown (g := gb480) (o := .cells #[.slice A479_0 ((rd_T92 l1 x52_3).f0).length c479_0, .int .i64 ((rd_T92 l1 x52_3).f1)] 92 (0, 0)) (bK BK480) hg (Kd.S_away HO_10.out (fun _ hk => hk))); have n2_ := Aside0.mk ((by rw [hw]; exact below_set (HB.out) GB28.out : Below w.heap.size w w35)); clear HO_10; clear BK480; clear HB; have HO_10 := n0_; have BK480 := n1_; have HB := n2_; clear n0_ n1_ n2_; clear hg hw hp_))
        go_roundg k3
        case measure => have := HJ6.out; have := HK2.out; have := HK3.out; omega
        case rel => exact ⟨(y483), (wrap64 (x15_3 - (wrap64 (Int.tdiv (wrap64 (t474 * (wrap64 (t481 + 1)))) x12_2)))), (wrap64 (x52_3 + 1)), rS, rS, H', ⟨by have := HJ6.out; have := HK2.out; have := HK3.out; omega⟩, ⟨sm HO_10 (fun _ hk => trivial)⟩, ⟨bG⟩⟩
       rw [if_neg c21] at H
       have c21b0 := decide_eq_false c21
       clear c21
       have H' := Aside0.mk H
       clear H
       obtain ⟨Ao36, co36, eo36⟩ := Kd.S_slice HO_10.out
       subst eo36
       go_wp2
       go_loopg [15, 82] k3 (fun kq v15 v82 w' => ∃ (x10_4 : List (S92)) (x15_4 : Int) (x82_4 : Int), v15 = .int .i64 x15_4 ∧ v82 = .int .i64 x82_4 ∧ Aside0 (impl_ShareGreen.l2 kq x10_4 x15_4 (x10_3.length : Int) x82_4 = some (r1, r2)) ∧ Aside0 (kq ≤ k3) ∧ Aside0 (Kd.S k92 92 w' w.heap.size (fun _ => True) (.slice Ao36 x10_3.length co36) x10_4) ∧ Aside0 (Below w.heap.size w w'))
       case atStart => exact ⟨(x10_3), (x15_3), (0), rS, rS, H', ⟨Nat.le_refl _⟩, ⟨sK HO_10⟩, ⟨bA⟩⟩
       case round =>
        clear H'
        obtain ⟨x10_4, x15_4, x82_4, rfl, rfl, HA, HK4, HO_10, HB⟩ := hrel
        have hl10_4 := (Kd.S_reads' HO_10.out).1
        rw [hl10_4] at HO_10
        (try simp only [hl10_4])
        cases gk with
        | zero => exact absurd HA.out (by simp [impl_ShareGreen.l2])
        | succ k4 =>
         have H := HA.out
         clear HA
         simp only [impl_ShareGreen.l2] at H
         by_cases c37 : x82_4 < (x10_3.length : Int)
         ·
          rw [if_pos c37] at H
          have c37b0 := decide_eq_true c37
          (try have c37b0x : decide (x82_4 < (x10_4.length : Int)) = true := (by rw [← hl10_4]; exact c37b0))
          clear c37
          by_cases c38 : x15_4 > 0
          ·
           rw [if_pos c38] at H
           have c38b0 := decide_eq_true c38
           clear c38
           have c39 : 0 ≤ x82_4 := ifN H
           replace H := ifT H
           have c39b0 := decide_eq_true c39
           clear c39
           have c40 : x82_4 < (x10_4.length : Int) := ifN H
           replace H := ifT H
           have c40b0 := decide_eq_true c40
           clear c40
           obtain ⟨y485, hy485⟩ : ∃ y_ : List (S92), y_ = (x10_4.set (x82_4 : Int).toNat (⟨(rd_T92 x10_4 x82_4).f0, wrap64 (((rd_T92 x10_4 x82_4).f1) + 1)⟩ : S92)) := ⟨_, rfl⟩
           replace H : (impl_ShareGreen.l2 k4 (y485.set (x82_4 : Int).toNat (⟨(rd_T92 y485 x82_4).f0, mn ((rd_T92 y485 x82_4).f1) 60⟩ : S92)) (wrap64 (x15_4 - 1)) (x10_3.length : Int) (wrap64 (x82_4 + 1))) = some (r1, r2) := rH H hy485
           have Ny485 := Aside0.mk hy485
           clear hy485
           obtain ⟨ji42, hji42⟩ : ∃ j_ : Int, (mn ((rd_T92 y485 x82_4).f1) 60) = j_ := ⟨_, rfl⟩
           replace H : (impl_ShareGreen.l2 k4 (y485.set (x82_4 : Int).toNat (⟨(rd_T92 y485 x82_4).f0, ji42⟩ : S92)) (wrap64 (x15_4 - 1)) (x10_3.length : Int) (wrap64 (x82_4 + 1))) = some (r1, r2) := by first | (rw [hji42] at H; exact H) | (simp only [hji42] at H ⊢; exact H)
           have hji42_ : (if 60 < ((rd_T92 y485 x82_4).f1) then 60 else ((rd_T92 y485 x82_4).f1)) = ji42 := hji42
           obtain ⟨y487, hy487⟩ : ∃ y_ : List (S92), y_ = (y485.set (x82_4 : Int).toNat (⟨(rd_T92 y485 x82_4).f0, ji42⟩ : S92)) := ⟨_, rfl⟩
           replace H : (impl_ShareGreen.l2 k4 y487 (wrap64 (x15_4 - 1)) (x10_3.length : Int) (wrap64 (x82_4 + 1))) = some (r1, r2) := rH H hy487
           have Ny487 := Aside0.mk hy487
           clear hy487
           have H' := Aside0.mk H
           clear H
           obtain ⟨p484, q484⟩ : 0 ≤ (x82_4 : Int) ∧ x82_4 < (x10_4.length : Int) := ⟨dA, dA⟩
           obtain ⟨ad484, A484_0, c484_0, e484, hx484_0, hx484_1, hl484_0, hi484_0⟩ := at_T92 (Kd.S_reads' HO_10.out).2.2 x82_4 p484 q484
           cases e484
           obtain ⟨ce484, hce484, hMe484, hcc484⟩ := Kd.S_get HO_10.out z92 x82_4 p484 (by first | exact q484 | exact dA | (have e_ := (Kd.S_reads' HO_10.out).1; omega))
           obtain ⟨ve484_0, rfl, ge484_0⟩ := k92_openM hMe484
           have hv484_0 := hcc484 0 _ rfl
           rw [Nat.add_zero] at hv484_0
           replace hv484_0 := Option.some.inj (hv484_0.symm.trans hx484_0)
           rw [hv484_0] at ge484_0
           have HL484_0 := Aside0.mk (show Kd.R (Kd.int .i64) 3 _ _ _ _ ((rd_T92 x10_4 x82_4).f0) from ge484_0)
           clear hv484_0 ge484_0
           clear hcc484 hce484
           have HR484_0 := Aside0.mk hi484_0
           have HC484_0 := Aside0.mk hl484_0
           clear hi484_0 hl484_0
           obtain ⟨p484, q484⟩ := eT p484 q484
           obtain ⟨p41, q41⟩ : 0 ≤ (x82_4 : Int) ∧ (x82_4 : Int) < ((x10_4.length : Int) : Int) := ⟨dA, dA⟩
           obtain ⟨go41, co41, eo41, gb41, gl41, cl41, HG41⟩ := Kd.S_form HO_10.out (by omega)
           (first | cases eo41 | (injection eo41 with ea_ en_ ec_; (first | subst ea_ | (injection ea_ with ea_; subst ea_)); subst ec_; clear en_))
           have GB41 := Aside0.mk gb41
           have GG41 := Aside0.mk HG41
           clear gb41 gl41 HG41
           (first | simp only [add_plain] at hx484_0 | skip)
           (first | simp only [add_plain] at hx484_1 | skip)
           obtain ⟨_, ce41, hcl41, hM41, hcc41, hfr41, _, _⟩ := Kd.S_elem HO_10.out z92 (x82_4 : Int) p41 q41
           obtain ⟨ve41_0, rfl, ge41_0⟩ := k92_openM hM41
           have hx41_0 : wr.cell? ⟨go41, (x82_4 : Int).toNat * 2, none⟩ = some (ve41_0) := hcc41 0 _ rfl
           have hx41_1 : wr.cell? ⟨go41, (x82_4 : Int).toNat * 2 + 1, none⟩ = some (.int .i64 ((rd_T92 x10_4 x82_4).f1)) := hcc41 1 _ rfl
           have hf41_0 : wr.frozen? ⟨go41, (x82_4 : Int).toNat * 2, none⟩ = false := hfr41 0
           have hf41_1 : wr.frozen? ⟨go41, (x82_4 : Int).toNat * 2 + 1, none⟩ = false := hfr41 1
           clear hcl41 hcc41 hfr41 hM41
           obtain ⟨p41, q41⟩ := eT p41 q41
           have HX44 := Aside0.mk (show Kd.S k92 92 wr w.heap.size (fun k_ => ((fun _ => True)) k_ ∧ ¬ ((fun _ => False)) k_) (.slice (some ⟨go41, 0, none⟩) x10_4.length co36) x10_4 from (sm HO_10 (fun k_ hk => ⟨trivial, fun e_ => e_⟩)))
           obtain ⟨oki44, ce44, hcl44, hM44, hcc44, hfr44, hoki44, hH44⟩ := Kd.S_elem HX44.out z92 (x82_4 : Int) (dA) (by have h_ : (x82_4 : Int) < ((x10_4.length : Int) : Int) := dA; first | exact h_ | (have e_ := (Kd.S_reads' HO_10.out).1; omega) | simpa using h_)
           obtain ⟨ve44_0, rfl, ge44_0⟩ := k92_openM hM44
           have HP44 := Kd.S_seg hH44 (dA) (by have h_ : (x82_4 : Int) < ((x10_4.length : Int) : Int) := dA; first | exact h_ | (have e_ := (Kd.S_reads' HO_10.out).1; omega) | simpa using h_) (seg := [.int .i64 (wrap64 (((rd_T92 x10_4 x82_4).f1) + 1))]) (j := 1) (show 2 ≤ 2 from by decide) (x' := (⟨(rd_T92 x10_4 x82_4).f0, wrap64 (((rd_T92 x10_4 x82_4).f1) + 1)⟩ : S92)) (k92_mkM _ _ _ (⟨(rd_T92 x10_4 x82_4).f0, wrap64 (((rd_T92 x10_4 x82_4).f1) + 1)⟩ : S92) (Kd.R_mono ge44_0 (fun _ h_ => Or.inl h_))) (fun _ hk => hk) (fun k_ hk_ => hk_.elim)
           have hx44_1 := hcc44 1 _ rfl
           (try simp only [show (k92).sz = 2 from rfl, Nat.mul_one, Nat.add_zero] at hx44_1)
           have hf44_1 := hfr44 1
           (try simp only [show (k92).sz = 2 from rfl, Nat.mul_one, Nat.add_zero] at hf44_1)
           clear hcl44 hcc44 hfr44 hM44 hoki44 hH44
           go_wp2_with (first | ((with_reducible refine gate_store (t := 3) (p := 94) rfl ?_); refine store_event (t := 3) (p := 94) (v := ?vo_w45) (w1 := (wr.setCell ⟨go41, (x82_4 : Int).toNat * 2 + 1, none⟩ (.int .i64 (wrap64 (((rd_T92 x10_4 x82_4).f1) + 1))))) ?hg ?ho ?hn ?hr ?_; (case ho => rfl); (case hg => rfl); (case hn => rfl); (case hr => first | (go_simp; done) | (go_simp; rfl)); intro w45 hw; have hg : wr.grownBy w45 (some go41) := (by rw [hw]; exact HP44.2); have hp_ : Kd.S k92 92 w45 w.heap.size (fun _ => True) (.slice (some ⟨go41, 0, none⟩) x10_4.length co36) y485 := (by rw [hw, Ny485.out]; exact HP44.1); clear HP44; have n0_ := Aside0.mk (hp_); have n1_ := Aside0.mk (Kd.R_after (v := (.slice (some ⟨go41, 0, none⟩) x10_4.length co36)) (v1 := (.slice (some ⟨go41, 0, none⟩) x10_4.length co36)) (ok := (fun _ => True)) (by (with_reducible repeat (first | apply Kd.R_alloc | apply Kd.R_drewN | apply Kd.R_drew)); exact HL484_0.out) hg (.inl rfl)); have n2_ := Aside0.mk ((by rw [hw]; exact below_set (HB.out) GB41.out : Below w.heap.size w w45)); clear HO_10; clear HL484_0; clear HB; have HO_10 := n0_; have HL484_0 := n1_; have HB := n2_; clear n0_ n1_ n2_; clear hg hw hp_; have p486 : 0 ≤ (x82_4 : Int) := dA; have q486 : x82_4 < (y485.length : Int) := (by have h_ : (x82_4 : Int) < ((x10_4.length : Int) : Int) := dA; first | (have e_ := (Kd.S_reads' HO_10.out).1; omega) | simpa only [Ny485.out, List.length_set] using h_); have ql486 : ((x82_4 : Int) < ((x10_4.length : Int) : Int)) = True := eq_true (dA); obtain ⟨ad486, A486_0, c486_0, e486, hx486_0, hx486_1, hl486_0, hi486_0⟩ := at_T92 (Kd.S_reads' HO_10.out).2.2 x82_4 p486 q486; obtain rfl : (⟨go41, 0, none⟩ : Addr) = ad486 := (by injection e486); obtain ⟨ce486, hce486, hMe486, hcc486⟩ := Kd.S_get HO_10.out z92 x82_4 p486 (by first | exact q486 | exact dA | (have e_ := (Kd.S_reads' HO_10.out).1; omega)); obtain ⟨ve486_0, rfl, ge486_0⟩ := k92_openM hMe486; have hv486_0 := hcc486 0 _ rfl; rw [Nat.add_zero] at hv486_0; replace hv486_0 := Option.some.inj (hv486_0.symm.trans hx486_0); rw [hv486_0] at ge486_0; have HL486_0 := Aside0.mk (show Kd.R (Kd.int .i64) 3 _ _ _ _ ((rd_T92 y485 x82_4).f0) from ge486_0); clear hv486_0 ge486_0; clear hcc486 hce486; (first | simp only [add_plain] at hx486_0 | simp only [add_at] at hx486_0 | simp only [Addr.add, Nat.zero_add] at hx486_0 | skip); (first | simp only [add_plain] at hx486_1 | simp only [add_at] at hx486_1 | simp only [Addr.add, Nat.zero_add] at hx486_1 | skip); have HR486_0 := Aside0.mk hi486_0; have HC486_0 := Aside0.mk hl486_0; clear hi486_0 hl486_0; replace p486 := eq_true p486; replace q486 := eq_true q486; have p43 : 0 ≤ (x82_4 : Int) := dA; have q43 : (x82_4 : Int) < ((x10_4.length : Int) : Int) := dA; obtain ⟨_, ce43, hcl43, hM43, hcc43, hfr43, _, _⟩ := Kd.S_elem HO_10.out z92 (x82_4 : Int) p43 q43; obtain ⟨ve43_0, rfl, ge43_0⟩ := k92_openM hM43; have hx43_0 : w45.cell? ⟨go41, (x82_4 : Int).toNat * 2, none⟩ = some (ve43_0) := hcc43 0 _ rfl; have hx43_1 : w45.cell? ⟨go41, (x82_4 : Int).toNat * 2 + 1, none⟩ = some (.int .i64 ((rd_T92 y485 x82_4).f1)) := hcc43 1 _ rfl; have hf43_0 : w45.frozen? ⟨go41, (x82_4 : Int).toNat * 2, none⟩ = false := hfr43 0; have hf43_1 : w45.frozen? ⟨go41, (x82_4 : Int).toNat * 2 + 1, none⟩ = false := hfr43 1; clear hcl43 hcc43 hfr43 hM43; replace p43 := eq_true p43; replace q43 := eq_true q43; have HX46 := Aside0.mk (show Kd.S k92 92 w45 w.heap.size (fun k_ => ((fun _ => True)) k_ ∧ ¬ ((fun _ => False)) k_) (.slice (some ⟨go41, 0, none⟩) x10_4.length co36) y485 from (sm HO_10 (fun k_ hk => ⟨trivial, fun e_ => e_⟩))); obtain ⟨oki46, ce46, hcl46, hM46, hcc46, hfr46, hoki46, hH46⟩ := Kd.S_elem HX46.out z92 (x82_4 : Int) (dA) (by have h_ : (x82_4 : Int) < ((x10_4.length : Int) : Int) := dA; first | exact h_ | (have e_ := (Kd.S_reads' HO_10.out).1; omega) | simpa using h_); obtain ⟨ve46_0, rfl, ge46_0⟩ := k92_openM hM46; have HP46 := Kd.S_seg hH46 (dA) (by have h_ : (x82_4 : Int) < ((x10_4.length : Int) : Int) := dA; first | exact h_ | (have e_ := (Kd.S_reads' HO_10.out).1; omega) | simpa using h_) (seg := [.int .i64 ji42]) (j := 1) (show 2 ≤ 2 from by decide) (x' := (⟨(rd_T92 y485 x82_4).f0, ji42⟩ : S92)) (k92_mkM _ _ _ (⟨(rd_T92 y485 x82_4).f0, ji42⟩ : S92) (Kd.R_mono ge46_0 (fun _ h_ => Or.inl h_))) (fun _ hk => hk) (fun k_ hk_ => hk_.elim); have hx46_1 := hcc46 1 _ rfl; (try simp only [show (k92).sz = 2 from rfl, Nat.mul_one, Nat.add_zero] at hx46_1); have hf46_1 := hfr46 1; (try simp only [show (k92).sz = 2 from rfl, Nat.mul_one, Nat.add_zero] at hf46_1); clear hcl46 hcc46 hfr46 hM46 hoki46 hH46) | ((with_reducible refine gate_store (t := 3) (p := 106) rfl ?_); refine store_event (t := 3) (p := 106) (v := ?vo_w47) (w1 := (w45.setCell ⟨go41, (x82_4 : Int).toNat * 2 + 1, none⟩ (.int .i64 ji42))) ?hg ?ho ?hn ?hr ?_; (case ho => rfl); (case hg => rfl); (case hn => rfl); (case hr => first | (go_simp; done) | (go_simp; rfl)); intro w47 hw; have hg : w45.grownBy w47 (some go41) := (by rw [hw]; exact HP46.2); have hp_ : Kd.S k92 92 w47 w.heap.size (fun _ => True) (.slice (some ⟨go41, 0, none⟩) x10_4.length co36) y487 := (by rw [hw, Ny487.out]; exact HP46.1); clear HP46; have n0_ := Aside0.mk (hp_); have n1_ := Aside0.mk (Kd.R_after (v := (.slice (some ⟨go41, 0, none⟩) x10_4.length co36)) (v1 := (.slice (some ⟨go41, 0, none⟩) x10_4.length co36)) (ok := (fun _ => True)) (by (with_reducible repeat (first | apply Kd.R_alloc | apply Kd.R_drewN | apply Kd.R_drew)); exact HL484_0.out) hg (.inl rfl)); have n2_ := Aside0.mk (Kd.R_after (v := (.slice (some ⟨go41, 0, none⟩) x10_4.length co36)) (v1 := (.slice (some ⟨go41, 0, none⟩) x10_4.length co36)) (ok := (fun _ => True)) (by (with_reducible repeat (first | apply Kd.R_alloc | apply Kd.R_drewN | apply Kd.R_drew)); exact HL486_0.out) hg (.inl rfl)); have n3_ := Aside0.mk ((by rw [hw]; exact below_set (HB.out) GB41.out : Below w.heap.size w w47)); clear HO_10; clear HL484_0; clear HL486_0; clear HB; have HO_10 := n0_; have HL484_0 := n1_; have HL486_0 := n2_; have HB := n3_; clear n0_ n1_ n2_ n3_; clear hg hw hp_))
           (try simp only [← hl10_4])
           go_roundg k4
           case measure => have := HJ6.out; have := HK2.out; have := HK3.out; have := HK4.out; omega
           case rel => exact ⟨(y487), (wrap64 (x15_4 - 1)), (wrap64 (x82_4 + 1)), rS, rS, H', ⟨by have := HJ6.out; have := HK2.out; have := HK3.out; have := HK4.out; omega⟩, ⟨by (try simp only [hl10_4]); (with_reducible repeat (first | apply Kd.S_alloc | apply Kd.S_drewN | apply Kd.S_drew)); exact HO_10.out⟩, ⟨bA⟩⟩
          rw [if_neg c38] at H
          have c38b0 := decide_eq_false c38
          clear c38
          have c48 : 0 ≤ x82_4 := ifN H
          replace H := ifT H
          have c48b0 := decide_eq_true c48
          clear c48
          have c49 : x82_4 < (x10_4.length : Int) := ifN H
          replace H := ifT H
          have c49b0 := decide_eq_true c49
          clear c49
          obtain ⟨ji50, hji50⟩ : ∃ j_ : Int, (mn ((rd_T92 x10_4 x82_4).f1) 60) = j_ := ⟨_, rfl⟩
          replace H : (impl_ShareGreen.l2 k4 (x10_4.set (x82_4 : Int).toNat (⟨(rd_T92 x10_4 x82_4).f0, ji50⟩ : S92)) x15_4 (x10_3.length : Int) (wrap64 (x82_4 + 1))) = some (r1, r2) := by first | (rw [hji50] at H; exact H) | (simp only [hji50] at H ⊢; exact H)
          have hji50_ : (if 60 < ((rd_T92 x10_4 x82_4).f1) then 60 else ((rd_T92 x10_4 x82_4).f1)) = ji50 := hji50
          obtain ⟨y489, hy489⟩ : ∃ y_ : List (S92), y_ = (x10_4.set (x82_4 : Int).toNat (⟨(rd_T92 x10_4 x82_4).f0, ji50⟩ : S92)) := ⟨_, rfl⟩
          replace H : (impl_ShareGreen.l2 k4 y489 x15_4 (x10_3.length : Int) (wrap64 (x82_4 + 1))) = some (r1, r2) := rH H hy489
          have Ny489 := Aside0.mk hy489
          clear hy489
          have H' := Aside0.mk H
          clear H
          obtain ⟨p488, q488⟩ : 0 ≤ (x82_4 : Int) ∧ x82_4 < (x10_4.length : Int) := ⟨dA, dA⟩
          obtain ⟨ad488, A488_0, c488_0, e488, hx488_0, hx488_1, hl488_0, hi488_0⟩ := at_T92 (Kd.S_reads' HO_10.out).2.2 x82_4 p488 q488
          cases e488
          obtain ⟨ce488, hce488, hMe488, hcc488⟩ := Kd.S_get HO_10.out z92 x82_4 p488 (by first | exact q488 | exact dA | (have e_ := (Kd.S_reads' HO_10.out).1; omega))
          obtain ⟨ve488_0, rfl, ge488_0⟩ := k92_openM hMe488
          have hv488_0 := hcc488 0 _ rfl
          rw [Nat.add_zero] at hv488_0
          replace hv488_0 := Option.some.inj (hv488_0.symm.trans hx488_0)
          rw [hv488_0] at ge488_0
          have HL488_0 := Aside0.mk (show Kd.R (Kd.int .i64) 3 _ _ _ _ ((rd_T92 x10_4 x82_4).f0) from ge488_0)
          clear hv488_0 ge488_0
          clear hcc488 hce488
          have HR488_0 := Aside0.mk hi488_0
          have HC488_0 := Aside0.mk hl488_0
          clear hi488_0 hl488_0
          obtain ⟨p488, q488⟩ := eT p488 q488
          obtain ⟨p51, q51⟩ : 0 ≤ (x82_4 : Int) ∧ (x82_4 : Int) < ((x10_4.length : Int) : Int) := ⟨dA, dA⟩
          obtain ⟨go51, co51, eo51, gb51, gl51, cl51, HG51⟩ := Kd.S_form HO_10.out (by omega)
          (first | cases eo51 | (injection eo51 with ea_ en_ ec_; (first | subst ea_ | (injection ea_ with ea_; subst ea_)); subst ec_; clear en_))
          have GB51 := Aside0.mk gb51
          have GG51 := Aside0.mk HG51
          clear gb51 gl51 HG51
          (first | simp only [add_plain] at hx488_0 | skip)
          (first | simp only [add_plain] at hx488_1 | skip)
          obtain ⟨_, ce51, hcl51, hM51, hcc51, hfr51, _, _⟩ := Kd.S_elem HO_10.out z92 (x82_4 : Int) p51 q51
          obtain ⟨ve51_0, rfl, ge51_0⟩ := k92_openM hM51
          have hx51_0 : wr.cell? ⟨go51, (x82_4 : Int).toNat * 2, none⟩ = some (ve51_0) := hcc51 0 _ rfl
          have hx51_1 : wr.cell? ⟨go51, (x82_4 : Int).toNat * 2 + 1, none⟩ = some (.int .i64 ((rd_T92 x10_4 x82_4).f1)) := hcc51 1 _ rfl
          have hf51_0 : wr.frozen? ⟨go51, (x82_4 : Int).toNat * 2, none⟩ = false := hfr51 0
          have hf51_1 : wr.frozen? ⟨go51, (x82_4 : Int).toNat * 2 + 1, none⟩ = false := hfr51 1
          clear hcl51 hcc51 hfr51 hM51
          obtain ⟨p51, q51⟩ := eT p51 q51
          have HX52 := Aside0.mk (show Kd.S k92 92 wr w.heap.size (fun k_ => ((fun _ => True)) k_ ∧ ¬ ((fun _ => False)) k_) (.slice (some ⟨go51, 0, none⟩) x10_4.length co36) x10_4 from (sm HO_10 (fun k_ hk => ⟨trivial, fun e_ => e_⟩)))
          obtain ⟨oki52, ce52, hcl52, hM52, hcc52, hfr52, hoki52, hH52⟩ := Kd.S_elem HX52.out z92 (x82_4 : Int) (dA) (by have h_ : (x82_4 : Int) < ((x10_4.length : Int) : Int) := dA; first | exact h_ | (have e_ := (Kd.S_reads' HO_10.out).1; omega) | simpa using h_)
          obtain ⟨ve52_0, rfl, ge52_0⟩ := k92_openM hM52
          have HP52 := Kd.S_seg hH52 (dA) (by have h_ : (x82_4 : Int) < ((x10_4.length : Int) : Int) := dA; first | exact h_ | (have e_ := (Kd.S_reads' HO_10.out).1; omega) | simpa using h_) (seg := [.int .i64 ji50]) (j := 1) (show 2 ≤ 2 from by decide) (x' := (⟨(rd_T92 x10_4 x82_4).f0, ji50⟩ : S92)) (k92_mkM _ _ _ (⟨(rd_T92 x10_4 x82_4).f0, ji50⟩ : S92) (Kd.R_mono ge52_0 (fun _ h_ => Or.inl h_))) (fun _ hk => hk) (fun k_ hk_ => hk_.elim)
          have hx52_1 := hcc52 1 _ rfl
          (try simp only [show (k92).sz = 2 from rfl, Nat.mul_one, Nat.add_zero] at hx52_1)
          have hf52_1 := hfr52 1
          (try simp only [show (k92).sz = 2 from rfl, Nat.mul_one, Nat.add_zero] at hf52_1)
          clear hcl52 hcc52 hfr52 hM52 hoki52 hH52
          go_wp2_with (first | ((with_reducible refine gate_store (t := 3) (p := 106) rfl ?_); refine store_event (t := 3) (p := 106) (v := ?vo_w53) (w1 := (wr.setCell ⟨go51, (x82_4 : Int).toNat * 2 + 1, none⟩ (.int .i64 ji50))) ?hg ?ho ?hn ?hr ?_; (case ho => rfl); (case hg => rfl); (case hn => rfl); (case hr => first | (go_simp; done) | (go_simp; rfl)); intro w53 hw; have hg : wr.grownBy w53 (some go51) := (by rw [hw]; exact HP52.2); have hp_ : Kd.S k92 92 w53 w.heap.size (fun _ => True) (.slice (some ⟨go51, 0, none⟩) x10_4.length co36) y489 := (by rw [hw, Ny489.out]; exact HP52.1); clear HP52; have n0_ := Aside0.mk (hp_); have n1_ := Aside0.mk (Kd.R_after (v := (.slice (some ⟨go51, 0, none⟩) x10_4.length co36)) (v1 := (.slice (some ⟨go51, 0, none⟩) x10_4.length co36)) (ok := (fun _ => True)) (by (with_reducible repeat (first | apply Kd.R_alloc | apply Kd.R_drewN | apply Kd.R_drew)); exact HL488_0.out) hg (.inl rfl)); have n2_ := Aside0.mk ((by rw [hw]; exact below_set (HB.out) GB51.out : Below w.heap.size w w53)); clear HO_10; clear HL488_0; clear HB; have HO_10 := n0_; have HL488_0 := n1_; have HB := n2_; clear n0_ n1_ n2_; clear hg hw hp_))
          (try simp only [← hl10_4])
          go_roundg k4
          case measure => have := HJ6.out; have := HK2.out; have := HK3.out; have := HK4.out; omega
          case rel => exact ⟨(y489), (x15_4), (wrap64 (x82_4 + 1)), rS, rS, H', ⟨by have := HJ6.out; have := HK2.out; have := HK3.out; have := HK4.out; omega⟩, ⟨by (try simp only [hl10_4]); (with_reducible repeat (first | apply Kd.S_alloc | apply Kd.S_drewN | apply Kd.S_drew)); exact HO_10.out⟩, ⟨bA⟩⟩
         rw [if_neg c37] at H
         have c37b0 := decide_eq_false c37
         (try have c37b0x : decide (x82_4 < (x10_4.length : Int)) = false := (by rw [← hl10_4]; exact c37b0))
         clear c37
         simp only [Option.some.injEq, Prod.mk.injEq] at H
         obtain ⟨rfl, rfl⟩ := H
         go_wp2
         go_ret2
         exact ⟨_, rA, sK HO_10, bA⟩

/-! ### laws_eqDetector: function 115 -/
def laws_eqDetector.f (a0_0 : Int) (a0_1 : Int) (a0_2 : Int) (a0_3 : Bool) (a1_0 : Int) (a1_1 : Int) (a1_2 : Int) (a1_3 : Bool) : Option (Bool) := if a0_0 = a1_0 then (if a0_1 = a1_1 then (if a0_2 = a1_2 then (if (a0_3 != a1_3) = true then (some false) else (some true)) else (some false)) else (some false)) else (some false)
set_option maxHeartbeats 8000000 in
set_option maxRecDepth 100000 in
theorem laws_eqDetector.calls (a0_0 : Int) (a0_1 : Int) (a0_2 : Int) (a0_3 : Bool) (a1_0 : Int) (a1_1 : Int) (a1_2 : Int) (a1_3 : Bool) (r : Bool) (w : World) (h : laws_eqDetector.f a0_0 a0_1 a0_2 a0_3 a1_0 a1_1 a1_2 a1_3 = some r) :
  Calls Try.prog 115 #[.agg #[.int .i64 a0_0, .int .i64 a0_1, .int .i64 a0_2, .bool a0_3], .agg #[.int .i64 a1_0, .int .i64 a1_1, .int .i64 a1_2, .bool a1_3]] w fun e w' => e = .returned (.bool r) ∧ Below w.heap.size w w' := by
 have hu128 := Try.underlying128
 have HB := Aside0.mk (Below.refl w.heap.size w)
 have H : (if a0_0 = a1_0 then (if a0_1 = a1_1 then (if a0_2 = a1_2 then (if (a0_3 != a1_3) = true then (some false) else (some true)) else (some false)) else (some false)) else (some false)) = some r := h
 clear h
 by_cases c3 : a0_0 = a1_0
 ·
  rw [if_pos c3] at H
  have c3b0 : (a0_0 == a1_0) = true := beq_iff_eq.mpr c3
  have c3b1 : (a0_0 != a1_0) = false := bne_eq_false_iff_eq.mpr c3
  clear c3
  by_cases c4 : a0_1 = a1_1
  ·
   rw [if_pos c4] at H
   have c4b0 : (a0_1 == a1_1) = true := beq_iff_eq.mpr c4
   have c4b1 : (a0_1 != a1_1) = false := bne_eq_false_iff_eq.mpr c4
   clear c4
   by_cases c5 : a0_2 = a1_2
   ·
    rw [if_pos c5] at H
    have c5b0 : (a0_2 == a1_2) = true := beq_iff_eq.mpr c5
    have c5b1 : (a0_2 != a1_2) = false := bne_eq_false_iff_eq.mpr c5
    clear c5
    by_cases c6 : (a0_3 != a1_3) = true
    ·
     rw [if_pos c6] at H
     have c6b0 : (a0_3 != a1_3) = true := c6
     (try (have c6b1 : decide (a0_3 = a1_3) = false := by simpa using c6))
     (try (have c6b2 : (a0_3 == a1_3) = false := by simpa using c6))
     (try (have c6b3 : ¬ (a0_3 = a1_3) := by simpa using c6))
     clear c6
     obtain rfl := Option.some.inj H
     go_enter Try.func115, Try.ntmps115
     go_wp2_with (first | ((with_reducible refine gate_dst (N := 2) rfl ?_); refine bE (N := 2) (cs := #[.int .i64 a0_0, .int .i64 a0_1, .int .i64 a0_2, .bool a0_3]) (t := 128) ?_; intro gb490 hg w7 hbox hb; have BK490 := Aside0.mk (hbox); have GW490 := gw w hg; have GE490 := gw w hg; replace HB := bs HB hb; clear hb hbox hg) | ((with_reducible refine gate_dst (N := 3) rfl ?_); refine bE (N := 3) (cs := #[.int .i64 a1_0, .int .i64 a1_1, .int .i64 a1_2, .bool a1_3]) (t := 128) ?_; intro gb491 hg w8 hbox hb; have BK491 := Aside0.mk (hbox); have GW491 := gw w hg; have GE491 := gw w hg; replace HB := bs HB hb; have NB490_491 := nl BK490 hg; have NB491_490 := nr BK490 hg; replace BK490 := kb BK490 hb; clear hb hbox hg; have hnb9 := NB490_491.out; have hnc9 := NB491_490.out; obtain ⟨_, _, _, _, _, _, _, _⟩ := blkc4 BK490; obtain ⟨_, _, _, _, _, _, _, _⟩ := blkc4 BK491))
     go_ret
     exact ⟨rA, bG⟩
    rw [if_neg c6] at H
    have c6b0 : (a0_3 != a1_3) = false := by simpa using c6
    (try (have c6b1 : decide (a0_3 = a1_3) = true := by simpa using c6))
    (try (have c6b2 : (a0_3 == a1_3) = true := by simpa using c6))
    clear c6
    obtain rfl := Option.some.inj H
    go_enter Try.func115, Try.ntmps115
    go_wp2_with (first | ((with_reducible refine gate_dst (N := 2) rfl ?_); refine bE (N := 2) (cs := #[.int .i64 a0_0, .int .i64 a0_1, .int .i64 a0_2, .bool a0_3]) (t := 128) ?_; intro gb490 hg w12 hbox hb; have BK490 := Aside0.mk (hbox); have GW490 := gw w hg; have GE490 := gw w hg; replace HB := bs HB hb; clear hb hbox hg) | ((with_reducible refine gate_dst (N := 3) rfl ?_); refine bE (N := 3) (cs := #[.int .i64 a1_0, .int .i64 a1_1, .int .i64 a1_2, .bool a1_3]) (t := 128) ?_; intro gb491 hg w13 hbox hb; have BK491 := Aside0.mk (hbox); have GW491 := gw w hg; have GE491 := gw w hg; replace HB := bs HB hb; have NB490_491 := nl BK490 hg; have NB491_490 := nr BK490 hg; replace BK490 := kb BK490 hb; clear hb hbox hg; have hnb14 := NB490_491.out; have hnc14 := NB491_490.out; obtain ⟨_, _, _, _, _, _, _, _⟩ := blkc4 BK490; obtain ⟨_, _, _, _, _, _, _, _⟩ := blkc4 BK491))
    go_ret
    exact ⟨rA, bG⟩
   rw [if_neg c5] at H
   have c5b0 : (a0_2 == a1_2) = false := beq_eq_false_iff_ne.mpr c5
   have c5b1 : (a0_2 != a1_2) = true := bne_iff_ne.mpr c5
   obtain rfl := Option.some.inj H
   go_enter Try.func115, Try.ntmps115
   go_wp2_with (first | ((with_reducible refine gate_dst (N := 2) rfl ?_); refine bE (N := 2) (cs := #[.int .i64 a0_0, .int .i64 a0_1, .int .i64 a0_2, .bool a0_3]) (t := 128) ?_; intro gb490 hg w17 hbox hb; have BK490 := Aside0.mk (hbox); have GW490 := gw w hg; have GE490 := gw w hg; replace HB := bs HB hb; clear hb hbox hg) | ((with_reducible refine gate_dst (N := 3) rfl ?_); refine bE (N := 3) (cs := #[.int .i64 a1_0, .int .i64 a1_1, .int .i64 a1_2, .bool a1_3]) (t := 128) ?_; intro gb491 hg w18 hbox hb; have BK491 := Aside0.mk (hbox); have GW491 := gw w hg; have GE491 := gw w hg; replace HB := bs HB hb; have NB490_491 := nl BK490 hg; have NB491_490 := nr BK490 hg; replace BK490 := kb BK490 hb; clear hb hbox hg; have hnb19 := NB490_491.out; have hnc19 := NB491_490.out; obtain ⟨_, _, _, _, _, _, _, _⟩ := blkc4 BK490; obtain ⟨_, _, _, _, _, _, _, _⟩ := blkc4 BK491))
   go_ret
   exact ⟨rA, bG⟩
  rw [if_neg c4] at H
  have c4b0 : (a0_1 == a1_1) = false := beq_eq_false_iff_ne.mpr c4
  have c4b1 : (a0_1 != a1_1) = true := bne_iff_ne.mpr c4
  obtain rfl := Option.some.inj H
  go_enter Try.func115, Try.ntmps115
  go_wp2_with (first | ((with_reducible refine gate_dst (N := 2) rfl ?_); refine bE (N := 2) (cs := #[.int .i64 a0_0, .int .i64 a0_1, .int .i64 a0_2, .bool a0_3]) (t := 128) ?_; intro gb490 hg w22 hbox hb; have BK490 := Aside0.mk (hbox); have GW490 := gw w hg; have GE490 := gw w hg; replace HB := bs HB hb; clear hb hbox hg) | ((with_reducible refine gate_dst (N := 3) rfl ?_); refine bE (N := 3) (cs := #[.int .i64 a1_0, .int .i64 a1_1, .int .i64 a1_2, .bool a1_3]) (t := 128) ?_; intro gb491 hg w23 hbox hb; have BK491 := Aside0.mk (hbox); have GW491 := gw w hg; have GE491 := gw w hg; replace HB := bs HB hb; have NB490_491 := nl BK490 hg; have NB491_490 := nr BK490 hg; replace BK490 := kb BK490 hb; clear hb hbox hg; have hnb24 := NB490_491.out; have hnc24 := NB491_490.out; obtain ⟨_, _, _, _, _, _, _, _⟩ := blkc4 BK490; obtain ⟨_, _, _, _, _, _, _, _⟩ := blkc4 BK491))
  go_ret
  exact ⟨rA, bG⟩
 rw [if_neg c3] at H
 have c3b0 : (a0_0 == a1_0) = false := beq_eq_false_iff_ne.mpr c3
 have c3b1 : (a0_0 != a1_0) = true := bne_iff_ne.mpr c3
 obtain rfl := Option.some.inj H
 go_enter Try.func115, Try.ntmps115
 go_wp2_with (first | ((with_reducible refine gate_dst (N := 2) rfl ?_); refine bE (N := 2) (cs := #[.int .i64 a0_0, .int .i64 a0_1, .int .i64 a0_2, .bool a0_3]) (t := 128) ?_; intro gb490 hg w27 hbox hb; have BK490 := Aside0.mk (hbox); have GW490 := gw w hg; have GE490 := gw w hg; replace HB := bs HB hb; clear hb hbox hg) | ((with_reducible refine gate_dst (N := 3) rfl ?_); refine bE (N := 3) (cs := #[.int .i64 a1_0, .int .i64 a1_1, .int .i64 a1_2, .bool a1_3]) (t := 128) ?_; intro gb491 hg w28 hbox hb; have BK491 := Aside0.mk (hbox); have GW491 := gw w hg; have GE491 := gw w hg; replace HB := bs HB hb; have NB490_491 := nl BK490 hg; have NB491_490 := nr BK490 hg; replace BK490 := kb BK490 hb; clear hb hbox hg; have hnb29 := NB490_491.out; have hnc29 := NB491_490.out; obtain ⟨_, _, _, _, _, _, _, _⟩ := blkc4 BK490; obtain ⟨_, _, _, _, _, _, _, _⟩ := blkc4 BK491))
 go_ret
 exact ⟨rA, bG⟩

/-! ### laws_eqDetectorS: function 58 -/
def laws_eqDetectorS.l0 : Nat → List (S128) → List (S128) → Int → Option (Bool)
 | 0, _, _, _ => none
 | k + 1, x0, x1, x5 => if x5 < (x0.length : Int) then (if 0 ≤ x5 then (if x5 < (x1.length : Int) then ((laws_eqDetector.f ((rd_T128 x0 x5).f0) ((rd_T128 x0 x5).f1) ((rd_T128 x0 x5).f2) ((rd_T128 x0 x5).f3) ((rd_T128 x1 x5).f0) ((rd_T128 x1 x5).f1) ((rd_T128 x1 x5).f2) ((rd_T128 x1 x5).f3)).bind fun t494 => (if t494 = true then (laws_eqDetectorS.l0 k x0 x1 (wrap64 (x5 + 1))) else (some false))) else (none)) else (none)) else (some true)
def laws_eqDetectorS.f (k : Nat) (l0 : List (S128)) (l1 : List (S128)) : Option (Bool) := if (l0.length : Int) = (l1.length : Int) then (laws_eqDetectorS.l0 k l0 l1 0) else (some false)
theorem laws_eqDetectorS.mono_l : ∀ k, (∀ y0 y1 y2, LeO (laws_eqDetectorS.l0 k y0 y1 y2) (laws_eqDetectorS.l0 (k + 1) y0 y1 y2))
 | 0 => fun _ _ _ r h => by simp [laws_eqDetectorS.l0] at h
 | k + 1 => by
  have ih0 := laws_eqDetectorS.mono_l k
  ·
   intro y0 y1 y2
   unfold laws_eqDetectorS.l0
   exact mz1 ih0
theorem laws_eqDetectorS.mono : ∀ a0 a1 k, LeO (laws_eqDetectorS.f k a0 a1) (laws_eqDetectorS.f (k + 1) a0 a1) := by
 intro a0 a1 k
 have ih0 := laws_eqDetectorS.mono_l k
 unfold laws_eqDetectorS.f
 exact mz1 ih0
def laws_eqDetectorS.T6 : Bool × List (List Nat × List Nat) := (true, [([], []), ([], []), ([0, 1], [0, 1]), ([2], [2]), ([], []), ([], []), ([4, 5], [4, 5]), ([6], [6]), ([3, 7], [3, 7]), ([8], [8])])
def laws_eqDetectorS.B6 : List Nat := [0, 0, 3, 7, 0, 0, 48, 112, 255, 511]
theorem laws_eqDetectorS.tab6 : rtab .any (opsOf Try.f58 6) = laws_eqDetectorS.T6 := by kernel_rfl
theorem laws_eqDetectorS.bits6 : waitsOk laws_eqDetectorS.T6.2 laws_eqDetectorS.B6 = true := by kernel_rfl
set_option maxHeartbeats 8000000 in
set_option maxRecDepth 100000 in
theorem laws_eqDetectorS.calls (k : Nat) (A0 : Option Addr) (c0 : Nat) (l0 : List (S128)) (A1 : Option Addr) (c1 : Nat) (l1 : List (S128)) (r : Bool) (w : World) (hr0 : Kd.C k128 w A0 l0.length l0) (hc0 : l0.length ≤ c0) (hr1 : Kd.C k128 w A1 l1.length l1) (hc1 : l1.length ≤ c1) (h : laws_eqDetectorS.f k l0 l1 = some r) :
  Calls Try.prog 58 #[.slice A0 l0.length c0, .slice A1 l1.length c1] w fun e w' => e = .returned (.bool r) ∧ Below w.heap.size w w' := by
 have hu128 := Try.underlying128
 have HR0 := Aside0.mk hr0
 have HC0 := Aside0.mk hc0
 clear hr0 hc0
 have HR1 := Aside0.mk hr1
 have HC1 := Aside0.mk hc1
 clear hr1 hc1
 have HB := Aside0.mk (Below.refl w.heap.size w)
 have H : (if (l0.length : Int) = (l1.length : Int) then (laws_eqDetectorS.l0 k l0 l1 0) else (some false)) = some r := h
 clear h
 by_cases c3 : (l0.length : Int) = (l1.length : Int)
 ·
  rw [if_pos c3] at H
  have c3b0 : ((l0.length : Int) == (l1.length : Int)) = true := beq_iff_eq.mpr c3
  have c3b1 : ((l0.length : Int) != (l1.length : Int)) = false := bne_eq_false_iff_eq.mpr c3
  have c3b2 : (l0.length == l1.length) = true := by first | simpa using c3 | (simp at c3 ⊢; omega)
  clear c3
  have H' := Aside0.mk H
  clear H
  go_enter Try.func58, Try.ntmps58
  go_wp2
  go_loopg [5] k (fun kq v5 w' => ∃ (x5_1 : Int), v5 = .int .i64 x5_1 ∧ Aside0 (laws_eqDetectorS.l0 kq l0 l1 x5_1 = some r) ∧ Aside0 (kq ≤ k) ∧ Aside0 (Below w.heap.size w w'))
  case atStart => exact ⟨(0), rS, H', ⟨Nat.le_refl _⟩, ⟨bA⟩⟩
  case round =>
   clear H'
   obtain ⟨x5_1, rfl, HA, HK1, HB⟩ := hrel
   cases gk with
   | zero => exact absurd HA.out (by simp [laws_eqDetectorS.l0])
   | succ k1 =>
    have H := HA.out
    clear HA
    simp only [laws_eqDetectorS.l0] at H
    by_cases c4 : x5_1 < (l0.length : Int)
    ·
     rw [if_pos c4] at H
     have c4b0 := decide_eq_true c4
     clear c4
     have c5 : 0 ≤ x5_1 := ifN H
     replace H := ifT H
     have c5b0 := decide_eq_true c5
     clear c5
     have c6 : x5_1 < (l1.length : Int) := ifN H
     replace H := ifT H
     have c6b0 := decide_eq_true c6
     clear c6
     obtain ⟨t494, A7, H⟩ := bindE H
     try dsimp only at H
     by_cases c8 : t494 = true
     ·
      subst c8
      have H1 : (laws_eqDetectorS.l0 k1 l0 l1 (wrap64 (x5_1 + 1))) = some r := by rw [if_pos rfl] at H; exact H
      clear H
      have H := H1
      clear H1
      have H' := Aside0.mk H
      clear H
      try go_wp2
      have HBo := HB
      replace HB := db HB
      obtain ⟨p492, q492⟩ : 0 ≤ (x5_1 : Int) ∧ x5_1 < (l0.length : Int) := ⟨dA, dA⟩
      obtain ⟨ad492, e492, hx492_0, hx492_1, hx492_2, hx492_3⟩ := at_T128 HR0.out x5_1 p492 q492
      have hw492_3 := hx492_3
      have hw492_2 := hx492_2
      have hw492_1 := hx492_1
      have hw492_0 := hx492_0
      cases e492
      replace hx492_0 := hC HB hx492_0
      replace hx492_1 := hC HB hx492_1
      replace hx492_2 := hC HB hx492_2
      replace hx492_3 := hC HB hx492_3
      obtain ⟨p492, q492⟩ := eT p492 q492
      obtain ⟨p493, q493⟩ : 0 ≤ (x5_1 : Int) ∧ x5_1 < (l1.length : Int) := ⟨dA, dA⟩
      obtain ⟨ad493, e493, hx493_0, hx493_1, hx493_2, hx493_3⟩ := at_T128 HR1.out x5_1 p493 q493
      have hw493_3 := hx493_3
      have hw493_2 := hx493_2
      have hw493_1 := hx493_1
      have hw493_0 := hx493_0
      cases e493
      replace hx493_0 := hC HB hx493_0
      replace hx493_1 := hC HB hx493_1
      replace hx493_2 := hC HB hx493_2
      replace hx493_3 := hC HB hx493_3
      obtain ⟨p493, q493⟩ := eT p493 q493
      refine sw (ds := []) 10 (mb 10 0) laws_eqDetectorS.tab6 laws_eqDetectorS.bits6 (h1c (hC HB hw492_0) (h1c (hC HB hw492_1) (h1c (hC HB hw492_2) (h1c (hC HB hw492_3) (h1c (hC HB hw493_0) (h1c (hC HB hw493_1) (h1c (hC HB hw493_2) (h1 (hC HB hw493_3))))))))) (fun hHeld HT_ HW_ => ?_)
      generalize wr.drew = w9 at HB hx492_0 hx492_1 hx492_2 hx492_3 hx493_0 hx493_1 hx493_2 hx493_3 hHeld ⊢
      refine pa 0 17 (mb 10 1) HT_ ?_
      refine pa 1 18 (mb 10 3) HT_ ?_
      refine pa 2 19 (mb 10 7) HT_ ?_
      refine pa 4 21 (mb 10 23) HT_ ?_
      refine pa 5 22 (mb 10 55) HT_ ?_
      refine pa 6 23 (mb 10 119) HT_ ?_
      refine ta8 3 20 (mb 10 127) HT_ HW_ hHeld ?_
      refine ta8 7 24 (mb 10 255) HT_ HW_ hHeld ?_
      refine oa 8 25 (mb 10 511) HT_ (fun K hK => ?_)
      refine gA Try.func115 #[.agg #[.int .i64 ((rd_T128 l0 x5_1).f0), .int .i64 ((rd_T128 l0 x5_1).f1), .int .i64 ((rd_T128 l0 x5_1).f2), .bool ((rd_T128 l0 x5_1).f3)], .agg #[.int .i64 ((rd_T128 l1 x5_1).f0), .int .i64 ((rd_T128 l1 x5_1).f1), .int .i64 ((rd_T128 l1 x5_1).f2), .bool ((rd_T128 l1 x5_1).f3)]] ?_
      with_reducible refine (laws_eqDetector.calls ((rd_T128 l0 x5_1).f0) ((rd_T128 l0 x5_1).f1) ((rd_T128 l0 x5_1).f2) ((rd_T128 l0 x5_1).f3) ((rd_T128 l1 x5_1).f0) ((rd_T128 l1 x5_1).f1) ((rd_T128 l1 x5_1).f2) ((rd_T128 l1 x5_1).f3) true _ A7.out).mono ?_
      rintro e w10 ⟨rfl, hb⟩
      refine ⟨_, rfl, ?_⟩
      replace HB := bs HB hb
      (try clear hb)
      (try clear hb2)
      (try clear hk)
      (try clear hi)
      refine hK.out _ _ ⟨(hC HB hw492_0), (hC HB hw492_1), (hC HB hw492_2), (hC HB hw492_3), (hC HB hw493_0), (hC HB hw493_1), (hC HB hw493_2), (hC HB hw493_3)⟩ (fun hHeld => ?_)
      clear hK K
      refine nB ?_
      refine pa 9 26 (mb 10 1023) HT_ ?_
      refine eA HT_ ?_
      try go_wp2
      go_roundg k1
      case measure => have := HK1.out; omega
      case rel => exact ⟨(wrap64 (x5_1 + 1)), rS, H', ⟨by have := HK1.out; omega⟩, ⟨bA⟩⟩
     replace c8 := Bool.eq_false_iff.mpr c8
     subst c8
     have H1 : (some false) = some r := by rw [if_neg (show ¬ (false = true) by decide)] at H; exact H
     clear H
     have H := H1
     clear H1
     obtain rfl := Option.some.inj H
     try go_wp2
     have HBo := HB
     replace HB := db HB
     obtain ⟨p492, q492⟩ : 0 ≤ (x5_1 : Int) ∧ x5_1 < (l0.length : Int) := ⟨dA, dA⟩
     obtain ⟨ad492, e492, hx492_0, hx492_1, hx492_2, hx492_3⟩ := at_T128 HR0.out x5_1 p492 q492
     have hw492_3 := hx492_3
     have hw492_2 := hx492_2
     have hw492_1 := hx492_1
     have hw492_0 := hx492_0
     cases e492
     replace hx492_0 := hC HB hx492_0
     replace hx492_1 := hC HB hx492_1
     replace hx492_2 := hC HB hx492_2
     replace hx492_3 := hC HB hx492_3
     obtain ⟨p492, q492⟩ := eT p492 q492
     obtain ⟨p493, q493⟩ : 0 ≤ (x5_1 : Int) ∧ x5_1 < (l1.length : Int) := ⟨dA, dA⟩
     obtain ⟨ad493, e493, hx493_0, hx493_1, hx493_2, hx493_3⟩ := at_T128 HR1.out x5_1 p493 q493
     have hw493_3 := hx493_3
     have hw493_2 := hx493_2
     have hw493_1 := hx493_1
     have hw493_0 := hx493_0
     cases e493
     replace hx493_0 := hC HB hx493_0
     replace hx493_1 := hC HB hx493_1
     replace hx493_2 := hC HB hx493_2
     replace hx493_3 := hC HB hx493_3
     obtain ⟨p493, q493⟩ := eT p493 q493
     refine sw (ds := []) 10 (mb 10 0) laws_eqDetectorS.tab6 laws_eqDetectorS.bits6 (h1c (hC HB hw492_0) (h1c (hC HB hw492_1) (h1c (hC HB hw492_2) (h1c (hC HB hw492_3) (h1c (hC HB hw493_0) (h1c (hC HB hw493_1) (h1c (hC HB hw493_2) (h1 (hC HB hw493_3))))))))) (fun hHeld HT_ HW_ => ?_)
     generalize wr.drew = w11 at HB hx492_0 hx492_1 hx492_2 hx492_3 hx493_0 hx493_1 hx493_2 hx493_3 hHeld ⊢
     refine pa 0 17 (mb 10 1) HT_ ?_
     refine pa 1 18 (mb 10 3) HT_ ?_
     refine pa 2 19 (mb 10 7) HT_ ?_
     refine pa 4 21 (mb 10 23) HT_ ?_
     refine pa 5 22 (mb 10 55) HT_ ?_
     refine pa 6 23 (mb 10 119) HT_ ?_
     refine ta8 3 20 (mb 10 127) HT_ HW_ hHeld ?_
     refine ta8 7 24 (mb 10 255) HT_ HW_ hHeld ?_
     refine oa 8 25 (mb 10 511) HT_ (fun K hK => ?_)
     refine gA Try.func115 #[.agg #[.int .i64 ((rd_T128 l0 x5_1).f0), .int .i64 ((rd_T128 l0 x5_1).f1), .int .i64 ((rd_T128 l0 x5_1).f2), .bool ((rd_T128 l0 x5_1).f3)], .agg #[.int .i64 ((rd_T128 l1 x5_1).f0), .int .i64 ((rd_T128 l1 x5_1).f1), .int .i64 ((rd_T128 l1 x5_1).f2), .bool ((rd_T128 l1 x5_1).f3)]] ?_
     with_reducible refine (laws_eqDetector.calls ((rd_T128 l0 x5_1).f0) ((rd_T128 l0 x5_1).f1) ((rd_T128 l0 x5_1).f2) ((rd_T128 l0 x5_1).f3) ((rd_T128 l1 x5_1).f0) ((rd_T128 l1 x5_1).f1) ((rd_T128 l1 x5_1).f2) ((rd_T128 l1 x5_1).f3) false _ A7.out).mono ?_
     rintro e w12 ⟨rfl, hb⟩
     refine ⟨_, rfl, ?_⟩
     replace HB := bs HB hb
     (try clear hb)
     (try clear hb2)
     (try clear hk)
     (try clear hi)
     refine hK.out _ _ ⟨(hC HB hw492_0), (hC HB hw492_1), (hC HB hw492_2), (hC HB hw492_3), (hC HB hw493_0), (hC HB hw493_1), (hC HB hw493_2), (hC HB hw493_3)⟩ (fun hHeld => ?_)
     clear hK K
     refine nB ?_
     refine pa 9 26 (mb 10 1023) HT_ ?_
     refine eA HT_ ?_
     try go_wp2
     go_ret
     exact ⟨rA, bA⟩
    rw [if_neg c4] at H
    have c4b0 := decide_eq_false c4
    clear c4
    obtain rfl := Option.some.inj H
    go_wp2
    go_ret
    exact ⟨rA, bA⟩
 rw [if_neg c3] at H
 have c3b0 : ((l0.length : Int) == (l1.length : Int)) = false := beq_eq_false_iff_ne.mpr c3
 have c3b1 : ((l0.length : Int) != (l1.length : Int)) = true := bne_iff_ne.mpr c3
 have c3b2 : (l0.length == l1.length) = false := by first | simpa using c3 | (simp at c3 ⊢; omega)
 obtain rfl := Option.some.inj H
 go_enter Try.func58, Try.ntmps58
 go_wp2
 go_ret
 exact ⟨rA, bA⟩

/-! ### laws_markDetectorS: function 59 -/
def laws_markDetectorS.l0 : Nat → List (S128) → Int → Int → Option (Int × (List (S128)))
 | 0, _, _, _ => none
 | k + 1, x0, x1, x5 => if x5 < (x0.length : Int) then (if 0 ≤ x5 then ((some (x0.set (x5 : Int).toNat (⟨x1, (rd_T128 x0 x5).f1, (rd_T128 x0 x5).f2, (rd_T128 x0 x5).f3⟩ : S128) : List (S128))).bind fun y495 => ((some (y495.set (x5 : Int).toNat (⟨(rd_T128 y495 x5).f0, wrap64 (x1 + 1), (rd_T128 y495 x5).f2, (rd_T128 y495 x5).f3⟩ : S128) : List (S128))).bind fun y496 => ((some (y496.set (x5 : Int).toNat (⟨(rd_T128 y496 x5).f0, (rd_T128 y496 x5).f1, wrap64 ((wrap64 (x1 + 1)) + 1), (rd_T128 y496 x5).f3⟩ : S128) : List (S128))).bind fun y497 => (laws_markDetectorS.l0 k (y497.set (x5 : Int).toNat (⟨(rd_T128 y497 x5).f0, (rd_T128 y497 x5).f1, (rd_T128 y497 x5).f2, ((Int.tmod (wrap64 ((wrap64 ((wrap64 (x1 + 1)) + 1)) + 1)) 3) == 0)⟩ : S128)) (wrap64 ((wrap64 ((wrap64 ((wrap64 (x1 + 1)) + 1)) + 1)) + 1)) (wrap64 (x5 + 1)))))) else (none)) else (some (x1, x0))
def laws_markDetectorS.f (k : Nat) (l0 : List (S128)) (a1 : Int) : Option (Int × (List (S128))) := laws_markDetectorS.l0 k l0 a1 0
theorem laws_markDetectorS.mono_l : ∀ k, (∀ y0 y1 y2, LeO (laws_markDetectorS.l0 k y0 y1 y2) (laws_markDetectorS.l0 (k + 1) y0 y1 y2))
 | 0 => fun _ _ _ r h => by simp [laws_markDetectorS.l0] at h
 | k + 1 => by
  have ih0 := laws_markDetectorS.mono_l k
  ·
   intro y0 y1 y2
   unfold laws_markDetectorS.l0
   exact mz1 ih0
theorem laws_markDetectorS.mono : ∀ a0 a1 k, LeO (laws_markDetectorS.f k a0 a1) (laws_markDetectorS.f (k + 1) a0 a1) := by
 intro a0 a1 k
 have ih0 := laws_markDetectorS.mono_l k
 unfold laws_markDetectorS.f
 exact mz1 ih0
set_option maxHeartbeats 8000000 in
set_option maxRecDepth 100000 in
theorem laws_markDetectorS.calls (k : Nat) (P0_ : Nat → Prop) (u9000_ : Value) (l0 : List (S128)) (a1 : Int) (r1 : Int) (r2 : List (S128)) (w0 w : World) (hB : Below w0.heap.size w0 w) (ho0 : Kd.R k128 128 w w0.heap.size P0_ u9000_ l0) (h : laws_markDetectorS.f k l0 a1 = some (r1, r2)) :
  Calls Try.prog 59 #[u9000_, .int .i64 a1] w fun e w' => e = .returned (.int .i64 r1) ∧ Kd.R k128 128 w' w0.heap.size (fun k_ => (P0_ k_ ∨ w.heap.size ≤ k_)) u9000_ r2 ∧ Below w0.heap.size w0 w' ∧ Kept w w' (fun k_ => P0_ k_) := by
 have HO0 := Aside0.mk (show Kd.R k128 128 w w0.heap.size (fun k_ => (P0_ k_ ∨ w.heap.size ≤ k_)) u9000_ l0 from Kd.R_mono ho0 (fun k_ hk => (.inl hk)))
 have HK := Aside0.mk (Kept.refl w (fun k_ => P0_ k_))
 have HW0 := Aside0.mk hB.size
 have HB := Aside0.mk hB
 clear hB
 have H : (laws_markDetectorS.l0 k l0 a1 0) = some (r1, r2) := h
 clear h
 have H' := Aside0.mk H
 clear H
 go_enter Try.func59, Try.ntmps59
 go_wp2
 go_loopg [1, 5] k (fun kq v1 v5 w' => ∃ (x0_1 : List (S128)) (x1_1 : Int) (x5_1 : Int), v1 = .int .i64 x1_1 ∧ v5 = .int .i64 x5_1 ∧ Aside0 (laws_markDetectorS.l0 kq x0_1 x1_1 x5_1 = some (r1, r2)) ∧ Aside0 (kq ≤ k) ∧ Aside0 (Kd.R k128 128 w' w0.heap.size (fun k_ => (P0_ k_ ∨ w.heap.size ≤ k_)) u9000_ x0_1) ∧ Aside0 (Kept w w' (fun k_ => P0_ k_)) ∧ Aside0 (Below w0.heap.size w0 w'))
 case atStart => exact ⟨(l0), (a1), (0), rS, rS, H', ⟨Nat.le_refl _⟩, ⟨rK HO0⟩, ⟨by repeat (first | (with_reducible first | exact HK.out | apply Kept.alloc | apply Kept.drewN | apply Kept.drew) | exact HK.out)⟩, ⟨bA⟩⟩
 case round =>
  clear H'
  obtain ⟨x0_1, x1_1, x5_1, rfl, rfl, HA, HK1, HO_0, HK, HB⟩ := hrel
  cases gk with
  | zero => exact absurd HA.out (by simp [laws_markDetectorS.l0])
  | succ k1 =>
   have H := HA.out
   clear HA
   simp only [laws_markDetectorS.l0] at H
   by_cases c3 : x5_1 < (x0_1.length : Int)
   ·
    rw [if_pos c3] at H
    have c3b0 := decide_eq_true c3
    clear c3
    have c4 : 0 ≤ x5_1 := ifN H
    replace H := ifT H
    have c4b0 := decide_eq_true c4
    clear c4
    obtain ⟨y495, hy495⟩ : ∃ y_ : List (S128), y_ = (x0_1.set (x5_1 : Int).toNat (⟨x1_1, (rd_T128 x0_1 x5_1).f1, (rd_T128 x0_1 x5_1).f2, (rd_T128 x0_1 x5_1).f3⟩ : S128)) := ⟨_, rfl⟩
    replace H : ((some (y495.set (x5_1 : Int).toNat (⟨(rd_T128 y495 x5_1).f0, wrap64 (x1_1 + 1), (rd_T128 y495 x5_1).f2, (rd_T128 y495 x5_1).f3⟩ : S128) : List (S128))).bind fun y496 => ((some (y496.set (x5_1 : Int).toNat (⟨(rd_T128 y496 x5_1).f0, (rd_T128 y496 x5_1).f1, wrap64 ((wrap64 (x1_1 + 1)) + 1), (rd_T128 y496 x5_1).f3⟩ : S128) : List (S128))).bind fun y497 => (laws_markDetectorS.l0 k1 (y497.set (x5_1 : Int).toNat (⟨(rd_T128 y497 x5_1).f0, (rd_T128 y497 x5_1).f1, (rd_T128 y497 x5_1).f2, ((Int.tmod (wrap64 ((wrap64 ((wrap64 (x1_1 + 1)) + 1)) + 1)) 3) == 0)⟩ : S128)) (wrap64 ((wrap64 ((wrap64 ((wrap64 (x1_1 + 1)) + 1)) + 1)) + 1)) (wrap64 (x5_1 + 1))))) = some (r1, r2) := rH H hy495
    have Ny495 := Aside0.mk hy495
    clear hy495
    obtain ⟨y496, hy496⟩ : ∃ y_ : List (S128), y_ = (y495.set (x5_1 : Int).toNat (⟨(rd_T128 y495 x5_1).f0, wrap64 (x1_1 + 1), (rd_T128 y495 x5_1).f2, (rd_T128 y495 x5_1).f3⟩ : S128)) := ⟨_, rfl⟩
    replace H : ((some (y496.set (x5_1 : Int).toNat (⟨(rd_T128 y496 x5_1).f0, (rd_T128 y496 x5_1).f1, wrap64 ((wrap64 (x1_1 + 1)) + 1), (rd_T128 y496 x5_1).f3⟩ : S128) : List (S128))).bind fun y497 => (laws_markDetectorS.l0 k1 (y497.set (x5_1 : Int).toNat (⟨(rd_T128 y497 x5_1).f0, (rd_T128 y497 x5_1).f1, (rd_T128 y497 x5_1).f2, ((Int.tmod (wrap64 ((wrap64 ((wrap64 (x1_1 + 1)) + 1)) + 1)) 3) == 0)⟩ : S128)) (wrap64 ((wrap64 ((wrap64 ((wrap64 (x1_1 + 1)) + 1)) + 1)) + 1)) (wrap64 (x5_1 + 1)))) = some (r1, r2) := rH H hy496
    have Ny496 := Aside0.mk hy496
    clear hy496
    obtain ⟨y497, hy497⟩ : ∃ y_ : List (S128), y_ = (y496.set (x5_1 : Int).toNat (⟨(rd_T128 y496 x5_1).f0, (rd_T128 y496 x5_1).f1, wrap64 ((wrap64 (x1_1 + 1)) + 1), (rd_T128 y496 x5_1).f3⟩ : S128)) := ⟨_, rfl⟩
    replace H : (laws_markDetectorS.l0 k1 (y497.set (x5_1 : Int).toNat (⟨(rd_T128 y497 x5_1).f0, (rd_T128 y497 x5_1).f1, (rd_T128 y497 x5_1).f2, ((Int.tmod (wrap64 ((wrap64 ((wrap64 (x1_1 + 1)) + 1)) + 1)) 3) == 0)⟩ : S128)) (wrap64 ((wrap64 ((wrap64 ((wrap64 (x1_1 + 1)) + 1)) + 1)) + 1)) (wrap64 (x5_1 + 1))) = some (r1, r2) := rH H hy497
    have Ny497 := Aside0.mk hy497
    clear hy497
    obtain ⟨y498, hy498⟩ : ∃ y_ : List (S128), y_ = (y497.set (x5_1 : Int).toNat (⟨(rd_T128 y497 x5_1).f0, (rd_T128 y497 x5_1).f1, (rd_T128 y497 x5_1).f2, ((Int.tmod (wrap64 ((wrap64 ((wrap64 (x1_1 + 1)) + 1)) + 1)) 3) == 0)⟩ : S128)) := ⟨_, rfl⟩
    replace H : (laws_markDetectorS.l0 k1 y498 (wrap64 ((wrap64 ((wrap64 ((wrap64 (x1_1 + 1)) + 1)) + 1)) + 1)) (wrap64 (x5_1 + 1))) = some (r1, r2) := rH H hy498
    have Ny498 := Aside0.mk hy498
    clear hy498
    have H' := Aside0.mk H
    clear H
    obtain ⟨Ao9, co9, eo9⟩ := Kd.R_slice HO_0.out
    subst eo9
    obtain ⟨p5, q5⟩ : 0 ≤ (x5_1 : Int) ∧ (x5_1 : Int) < ((x0_1.length : Int) : Int) := ⟨dA, dA⟩
    obtain ⟨go5, co5, eo5, gb5, gl5, cl5, HG5⟩ := Kd.R_form HO_0.out (by omega)
    (first | cases eo5 | (injection eo5 with ea_ en_ ec_; (first | subst ea_ | (injection ea_ with ea_; subst ea_)); subst ec_; clear en_))
    have GB5 := Aside0.mk gb5
    have GG5 := Aside0.mk HG5
    clear gb5 gl5 HG5
    have HMgo5 := Aside0.mk (show (P0_ go5 ∨ w.heap.size ≤ go5) from (HO_0.out.1 _ rfl))
    obtain ⟨ce5, hcl5, hM5, hcc5, hfr5⟩ := Kd.R_elem HO_0.out z128 (x5_1 : Int) p5 q5
    obtain rfl := k128_openM hM5
    have hx5_0 : wr.cell? ⟨go5, (x5_1 : Int).toNat * 4, none⟩ = some (.int .i64 ((rd_T128 x0_1 x5_1).f0)) := hcc5 0 _ rfl
    have hx5_1 : wr.cell? ⟨go5, (x5_1 : Int).toNat * 4 + 1, none⟩ = some (.int .i64 ((rd_T128 x0_1 x5_1).f1)) := hcc5 1 _ rfl
    have hx5_2 : wr.cell? ⟨go5, (x5_1 : Int).toNat * 4 + 2, none⟩ = some (.int .i64 ((rd_T128 x0_1 x5_1).f2)) := hcc5 2 _ rfl
    have hx5_3 : wr.cell? ⟨go5, (x5_1 : Int).toNat * 4 + 3, none⟩ = some (.bool ((rd_T128 x0_1 x5_1).f3)) := hcc5 3 _ rfl
    have hf5_0 : wr.frozen? ⟨go5, (x5_1 : Int).toNat * 4, none⟩ = false := hfr5 0
    have hf5_1 : wr.frozen? ⟨go5, (x5_1 : Int).toNat * 4 + 1, none⟩ = false := hfr5 1
    have hf5_2 : wr.frozen? ⟨go5, (x5_1 : Int).toNat * 4 + 2, none⟩ = false := hfr5 2
    have hf5_3 : wr.frozen? ⟨go5, (x5_1 : Int).toNat * 4 + 3, none⟩ = false := hfr5 3
    clear hcl5 hcc5 hfr5 hM5
    obtain ⟨p5, q5⟩ := eT p5 q5
    have HX10 := Aside0.mk (show Kd.R k128 128 wr w0.heap.size (fun k_ => (P0_ k_ ∨ w.heap.size ≤ k_)) (.slice (some ⟨go5, 0, none⟩) x0_1.length co9) x0_1 from (rK HO_0))
    obtain ⟨ce10, hcl10, hM10, hcc10, hfr10⟩ := Kd.R_elem HX10.out z128 (x5_1 : Int) (dA) (by have h_ : (x5_1 : Int) < ((x0_1.length : Int) : Int) := dA; first | exact h_ | (have e_ := (Kd.R_reads' HO_0.out).1; omega) | simpa using h_)
    obtain rfl := k128_openM hM10
    have HP10 := Kd.R_seg HX10.out (x5_1 : Int) (dA) (by have h_ : (x5_1 : Int) < ((x0_1.length : Int) : Int) := dA; first | exact h_ | (have e_ := (Kd.R_reads' HO_0.out).1; omega) | simpa using h_) (seg := [.int .i64 x1_1]) (j := 0) hcl10 hcc10 (show 1 ≤ 4 from by decide) (x' := (⟨x1_1, (rd_T128 x0_1 x5_1).f1, (rd_T128 x0_1 x5_1).f2, (rd_T128 x0_1 x5_1).f3⟩ : S128)) (k128_mkM _ _ _ (⟨x1_1, (rd_T128 x0_1 x5_1).f1, (rd_T128 x0_1 x5_1).f2, (rd_T128 x0_1 x5_1).f3⟩ : S128) ) (fun _ hk => hk)
    have hx10_0 := hcc10 0 _ rfl
    (try simp only [show (k128).sz = 4 from rfl, Nat.mul_one, Nat.add_zero] at hx10_0)
    have hf10_0 := hfr10 0
    (try simp only [show (k128).sz = 4 from rfl, Nat.mul_one, Nat.add_zero] at hf10_0)
    clear hcl10 hcc10 hfr10 hM10
    go_wp2_with (first | ((with_reducible refine gate_store (t := 3) (p := 16) rfl ?_); refine store_event (t := 3) (p := 16) (v := ?vo_w11) (w1 := (wr.setCell ⟨go5, (x5_1 : Int).toNat * 4, none⟩ (.int .i64 x1_1))) ?hg ?ho ?hn ?hr ?_; (case ho => rfl); (case hg => rfl); (case hn => rfl); (case hr => first | (go_simp; done) | (go_simp; rfl)); intro w11 hw; have hg : wr.grownBy w11 (some go5) := (by rw [hw]; exact HP10.2); have hp_ : Kd.R k128 128 w11 w0.heap.size (fun k_ => (P0_ k_ ∨ w.heap.size ≤ k_)) (.slice (some ⟨go5, 0, none⟩) x0_1.length co9) y495 := (by rw [hw, Ny495.out]; exact HP10.1); clear HP10; have n0_ := Aside0.mk (hp_); have n1_ := Aside0.mk ((by rw [hw]; exact below_set (HB.out) GB5.out : Below w0.heap.size w0 w11)); have n2_ := Aside0.mk (Kept.of_grown (S := (fun k_ => P0_ k_)) hg (by repeat (first | (with_reducible first | exact HK.out | apply Kept.alloc | apply Kept.drewN | apply Kept.drew) | exact HK.out)) (fun k_ e_ => (HO_0.out.1 k_ e_))); clear HO_0; clear HB; clear HK; have HO_0 := n0_; have HB := n1_; have HK := n2_; clear n0_ n1_ n2_; clear hg hw hp_; have p6 : 0 ≤ (x5_1 : Int) := dA; have q6 : (x5_1 : Int) < ((x0_1.length : Int) : Int) := dA; obtain ⟨ce6, hcl6, hM6, hcc6, hfr6⟩ := Kd.R_elem HO_0.out z128 (x5_1 : Int) p6 q6; obtain rfl := k128_openM hM6; have hx6_0 : w11.cell? ⟨go5, (x5_1 : Int).toNat * 4, none⟩ = some (.int .i64 ((rd_T128 y495 x5_1).f0)) := hcc6 0 _ rfl; have hx6_1 : w11.cell? ⟨go5, (x5_1 : Int).toNat * 4 + 1, none⟩ = some (.int .i64 ((rd_T128 y495 x5_1).f1)) := hcc6 1 _ rfl; have hx6_2 : w11.cell? ⟨go5, (x5_1 : Int).toNat * 4 + 2, none⟩ = some (.int .i64 ((rd_T128 y495 x5_1).f2)) := hcc6 2 _ rfl; have hx6_3 : w11.cell? ⟨go5, (x5_1 : Int).toNat * 4 + 3, none⟩ = some (.bool ((rd_T128 y495 x5_1).f3)) := hcc6 3 _ rfl; have hf6_0 : w11.frozen? ⟨go5, (x5_1 : Int).toNat * 4, none⟩ = false := hfr6 0; have hf6_1 : w11.frozen? ⟨go5, (x5_1 : Int).toNat * 4 + 1, none⟩ = false := hfr6 1; have hf6_2 : w11.frozen? ⟨go5, (x5_1 : Int).toNat * 4 + 2, none⟩ = false := hfr6 2; have hf6_3 : w11.frozen? ⟨go5, (x5_1 : Int).toNat * 4 + 3, none⟩ = false := hfr6 3; clear hcl6 hcc6 hfr6 hM6; replace p6 := eq_true p6; replace q6 := eq_true q6; have HX12 := Aside0.mk (show Kd.R k128 128 w11 w0.heap.size (fun k_ => (P0_ k_ ∨ w.heap.size ≤ k_)) (.slice (some ⟨go5, 0, none⟩) x0_1.length co9) y495 from (rK HO_0)); obtain ⟨ce12, hcl12, hM12, hcc12, hfr12⟩ := Kd.R_elem HX12.out z128 (x5_1 : Int) (dA) (by have h_ : (x5_1 : Int) < ((x0_1.length : Int) : Int) := dA; first | exact h_ | (have e_ := (Kd.R_reads' HO_0.out).1; omega) | simpa using h_); obtain rfl := k128_openM hM12; have HP12 := Kd.R_seg HX12.out (x5_1 : Int) (dA) (by have h_ : (x5_1 : Int) < ((x0_1.length : Int) : Int) := dA; first | exact h_ | (have e_ := (Kd.R_reads' HO_0.out).1; omega) | simpa using h_) (seg := [.int .i64 (wrap64 (x1_1 + 1))]) (j := 1) hcl12 hcc12 (show 2 ≤ 4 from by decide) (x' := (⟨(rd_T128 y495 x5_1).f0, wrap64 (x1_1 + 1), (rd_T128 y495 x5_1).f2, (rd_T128 y495 x5_1).f3⟩ : S128)) (k128_mkM _ _ _ (⟨(rd_T128 y495 x5_1).f0, wrap64 (x1_1 + 1), (rd_T128 y495 x5_1).f2, (rd_T128 y495 x5_1).f3⟩ : S128) ) (fun _ hk => hk); have hx12_1 := hcc12 1 _ rfl; (try simp only [show (k128).sz = 4 from rfl, Nat.mul_one, Nat.add_zero] at hx12_1); have hf12_1 := hfr12 1; (try simp only [show (k128).sz = 4 from rfl, Nat.mul_one, Nat.add_zero] at hf12_1); clear hcl12 hcc12 hfr12 hM12) | ((with_reducible refine gate_store (t := 3) (p := 23) rfl ?_); refine store_event (t := 3) (p := 23) (v := ?vo_w13) (w1 := (w11.setCell ⟨go5, (x5_1 : Int).toNat * 4 + 1, none⟩ (.int .i64 (wrap64 (x1_1 + 1))))) ?hg ?ho ?hn ?hr ?_; (case ho => rfl); (case hg => rfl); (case hn => rfl); (case hr => first | (go_simp; done) | (go_simp; rfl)); intro w13 hw; have hg : w11.grownBy w13 (some go5) := (by rw [hw]; exact HP12.2); have hp_ : Kd.R k128 128 w13 w0.heap.size (fun k_ => (P0_ k_ ∨ w.heap.size ≤ k_)) (.slice (some ⟨go5, 0, none⟩) x0_1.length co9) y496 := (by rw [hw, Ny496.out]; exact HP12.1); clear HP12; have n0_ := Aside0.mk (hp_); have n1_ := Aside0.mk ((by rw [hw]; exact below_set (HB.out) GB5.out : Below w0.heap.size w0 w13)); have n2_ := Aside0.mk (Kept.of_grown (S := (fun k_ => P0_ k_)) hg (by repeat (first | (with_reducible first | exact HK.out | apply Kept.alloc | apply Kept.drewN | apply Kept.drew) | exact HK.out)) (fun k_ e_ => (HO_0.out.1 k_ e_))); clear HO_0; clear HB; clear HK; have HO_0 := n0_; have HB := n1_; have HK := n2_; clear n0_ n1_ n2_; clear hg hw hp_; have p7 : 0 ≤ (x5_1 : Int) := dA; have q7 : (x5_1 : Int) < ((x0_1.length : Int) : Int) := dA; obtain ⟨ce7, hcl7, hM7, hcc7, hfr7⟩ := Kd.R_elem HO_0.out z128 (x5_1 : Int) p7 q7; obtain rfl := k128_openM hM7; have hx7_0 : w13.cell? ⟨go5, (x5_1 : Int).toNat * 4, none⟩ = some (.int .i64 ((rd_T128 y496 x5_1).f0)) := hcc7 0 _ rfl; have hx7_1 : w13.cell? ⟨go5, (x5_1 : Int).toNat * 4 + 1, none⟩ = some (.int .i64 ((rd_T128 y496 x5_1).f1)) := hcc7 1 _ rfl; have hx7_2 : w13.cell? ⟨go5, (x5_1 : Int).toNat * 4 + 2, none⟩ = some (.int .i64 ((rd_T128 y496 x5_1).f2)) := hcc7 2 _ rfl; have hx7_3 : w13.cell? ⟨go5, (x5_1 : Int).toNat * 4 + 3, none⟩ = some (.bool ((rd_T128 y496 x5_1).f3)) := hcc7 3 _ rfl; have hf7_0 : w13.frozen? ⟨go5, (x5_1 : Int).toNat * 4, none⟩ = false := hfr7 0; have hf7_1 : w13.frozen? ⟨go5, (x5_1 : Int).toNat * 4 + 1, none⟩ = false := hfr7 1; have hf7_2 : w13.frozen? ⟨go5, (x5_1 : Int).toNat * 4 + 2, none⟩ = false := hfr7 2; have hf7_3 : w13.frozen? ⟨go5, (x5_1 : Int).toNat * 4 + 3, none⟩ = false := hfr7 3; clear hcl7 hcc7 hfr7 hM7; replace p7 := eq_true p7; replace q7 := eq_true q7; have HX14 := Aside0.mk (show Kd.R k128 128 w13 w0.heap.size (fun k_ => (P0_ k_ ∨ w.heap.size ≤ k_)) (.slice (some ⟨go5, 0, none⟩) x0_1.length co9) y496 from (rK HO_0)); obtain ⟨ce14, hcl14, hM14, hcc14, hfr14⟩ := Kd.R_elem HX14.out z128 (x5_1 : Int) (dA) (by have h_ : (x5_1 : Int) < ((x0_1.length : Int) : Int) := dA; first | exact h_ | (have e_ := (Kd.R_reads' HO_0.out).1; omega) | simpa using h_); obtain rfl := k128_openM hM14; have HP14 := Kd.R_seg HX14.out (x5_1 : Int) (dA) (by have h_ : (x5_1 : Int) < ((x0_1.length : Int) : Int) := dA; first | exact h_ | (have e_ := (Kd.R_reads' HO_0.out).1; omega) | simpa using h_) (seg := [.int .i64 (wrap64 ((wrap64 (x1_1 + 1)) + 1))]) (j := 2) hcl14 hcc14 (show 3 ≤ 4 from by decide) (x' := (⟨(rd_T128 y496 x5_1).f0, (rd_T128 y496 x5_1).f1, wrap64 ((wrap64 (x1_1 + 1)) + 1), (rd_T128 y496 x5_1).f3⟩ : S128)) (k128_mkM _ _ _ (⟨(rd_T128 y496 x5_1).f0, (rd_T128 y496 x5_1).f1, wrap64 ((wrap64 (x1_1 + 1)) + 1), (rd_T128 y496 x5_1).f3⟩ : S128) ) (fun _ hk => hk); have hx14_2 := hcc14 2 _ rfl; (try simp only [show (k128).sz = 4 from rfl, Nat.mul_one, Nat.add_zero] at hx14_2); have hf14_2 := hfr14 2; (try simp only [show (k128).sz = 4 from rfl, Nat.mul_one, Nat.add_zero] at hf14_2); clear hcl14 hcc14 hfr14 hM14) | ((with_reducible refine gate_store (t := 3) (p := 30) rfl ?_); refine store_event (t := 3) (p := 30) (v := ?vo_w15) (w1 := (w13.setCell ⟨go5, (x5_1 : Int).toNat * 4 + 2, none⟩ (.int .i64 (wrap64 ((wrap64 (x1_1 + 1)) + 1))))) ?hg ?ho ?hn ?hr ?_; (case ho => rfl); (case hg => rfl); (case hn => rfl); (case hr => first | (go_simp; done) | (go_simp; rfl)); intro w15 hw; have hg : w13.grownBy w15 (some go5) := (by rw [hw]; exact HP14.2); have hp_ : Kd.R k128 128 w15 w0.heap.size (fun k_ => (P0_ k_ ∨ w.heap.size ≤ k_)) (.slice (some ⟨go5, 0, none⟩) x0_1.length co9) y497 := (by rw [hw, Ny497.out]; exact HP14.1); clear HP14; have n0_ := Aside0.mk (hp_); have n1_ := Aside0.mk ((by rw [hw]; exact below_set (HB.out) GB5.out : Below w0.heap.size w0 w15)); have n2_ := Aside0.mk (Kept.of_grown (S := (fun k_ => P0_ k_)) hg (by repeat (first | (with_reducible first | exact HK.out | apply Kept.alloc | apply Kept.drewN | apply Kept.drew) | exact HK.out)) (fun k_ e_ => (HO_0.out.1 k_ e_))); clear HO_0; clear HB; clear HK; have HO_0 := n0_; have HB := n1_; have HK := n2_; clear n0_ n1_ n2_; clear hg hw hp_; have p8 : 0 ≤ (x5_1 : Int) := dA; have q8 : (x5_1 : Int) < ((x0_1.length : Int) : Int) := dA; obtain ⟨ce8, hcl8, hM8, hcc8, hfr8⟩ := Kd.R_elem HO_0.out z128 (x5_1 : Int) p8 q8; obtain rfl := k128_openM hM8; have hx8_0 : w15.cell? ⟨go5, (x5_1 : Int).toNat * 4, none⟩ = some (.int .i64 ((rd_T128 y497 x5_1).f0)) := hcc8 0 _ rfl; have hx8_1 : w15.cell? ⟨go5, (x5_1 : Int).toNat * 4 + 1, none⟩ = some (.int .i64 ((rd_T128 y497 x5_1).f1)) := hcc8 1 _ rfl; have hx8_2 : w15.cell? ⟨go5, (x5_1 : Int).toNat * 4 + 2, none⟩ = some (.int .i64 ((rd_T128 y497 x5_1).f2)) := hcc8 2 _ rfl; have hx8_3 : w15.cell? ⟨go5, (x5_1 : Int).toNat * 4 + 3, none⟩ = some (.bool ((rd_T128 y497 x5_1).f3)) := hcc8 3 _ rfl; have hf8_0 : w15.frozen? ⟨go5, (x5_1 : Int).toNat * 4, none⟩ = false := hfr8 0; have hf8_1 : w15.frozen? ⟨go5, (x5_1 : Int).toNat * 4 + 1, none⟩ = false := hfr8 1; have hf8_2 : w15.frozen? ⟨go5, (x5_1 : Int).toNat * 4 + 2, none⟩ = false := hfr8 2; have hf8_3 : w15.frozen? ⟨go5, (x5_1 : Int).toNat * 4 + 3, none⟩ = false := hfr8 3; clear hcl8 hcc8 hfr8 hM8; replace p8 := eq_true p8; replace q8 := eq_true q8; have HX16 := Aside0.mk (show Kd.R k128 128 w15 w0.heap.size (fun k_ => (P0_ k_ ∨ w.heap.size ≤ k_)) (.slice (some ⟨go5, 0, none⟩) x0_1.length co9) y497 from (rK HO_0)); obtain ⟨ce16, hcl16, hM16, hcc16, hfr16⟩ := Kd.R_elem HX16.out z128 (x5_1 : Int) (dA) (by have h_ : (x5_1 : Int) < ((x0_1.length : Int) : Int) := dA; first | exact h_ | (have e_ := (Kd.R_reads' HO_0.out).1; omega) | simpa using h_); obtain rfl := k128_openM hM16; have HP16 := Kd.R_seg HX16.out (x5_1 : Int) (dA) (by have h_ : (x5_1 : Int) < ((x0_1.length : Int) : Int) := dA; first | exact h_ | (have e_ := (Kd.R_reads' HO_0.out).1; omega) | simpa using h_) (seg := [.bool ((Int.tmod (wrap64 ((wrap64 ((wrap64 (x1_1 + 1)) + 1)) + 1)) 3) == 0)]) (j := 3) hcl16 hcc16 (show 4 ≤ 4 from by decide) (x' := (⟨(rd_T128 y497 x5_1).f0, (rd_T128 y497 x5_1).f1, (rd_T128 y497 x5_1).f2, ((Int.tmod (wrap64 ((wrap64 ((wrap64 (x1_1 + 1)) + 1)) + 1)) 3) == 0)⟩ : S128)) (k128_mkM _ _ _ (⟨(rd_T128 y497 x5_1).f0, (rd_T128 y497 x5_1).f1, (rd_T128 y497 x5_1).f2, ((Int.tmod (wrap64 ((wrap64 ((wrap64 (x1_1 + 1)) + 1)) + 1)) 3) == 0)⟩ : S128) ) (fun _ hk => hk); have hx16_3 := hcc16 3 _ rfl; (try simp only [show (k128).sz = 4 from rfl, Nat.mul_one, Nat.add_zero] at hx16_3); have hf16_3 := hfr16 3; (try simp only [show (k128).sz = 4 from rfl, Nat.mul_one, Nat.add_zero] at hf16_3); clear hcl16 hcc16 hfr16 hM16) | ((with_reducible refine gate_store (t := 4) (p := 39) rfl ?_); refine store_event (t := 4) (p := 39) (v := ?vo_w17) (w1 := (w15.setCell ⟨go5, (x5_1 : Int).toNat * 4 + 3, none⟩ (.bool ((Int.tmod (wrap64 ((wrap64 ((wrap64 (x1_1 + 1)) + 1)) + 1)) 3) == 0)))) ?hg ?ho ?hn ?hr ?_; (case ho => rfl); (case hg => rfl); (case hn => rfl); (case hr => first | (go_simp; done) | (go_simp; rfl)); intro w17 hw; have hg : w15.grownBy w17 (some go5) := (by rw [hw]; exact HP16.2); have hp_ : Kd.R k128 128 w17 w0.heap.size (fun k_ => (P0_ k_ ∨ w.heap.size ≤ k_)) (.slice (some ⟨go5, 0, none⟩) x0_1.length co9) y498 := (by rw [hw, Ny498.out]; exact HP16.1); clear HP16; have n0_ := Aside0.mk (hp_); have n1_ := Aside0.mk ((by rw [hw]; exact below_set (HB.out) GB5.out : Below w0.heap.size w0 w17)); have n2_ := Aside0.mk (Kept.of_grown (S := (fun k_ => P0_ k_)) hg (by repeat (first | (with_reducible first | exact HK.out | apply Kept.alloc | apply Kept.drewN | apply Kept.drew) | exact HK.out)) (fun k_ e_ => (HO_0.out.1 k_ e_))); clear HO_0; clear HB; clear HK; have HO_0 := n0_; have HB := n1_; have HK := n2_; clear n0_ n1_ n2_; clear hg hw hp_))
    go_roundg k1
    case measure => have := HK1.out; omega
    case rel => exact ⟨(y498), (wrap64 ((wrap64 ((wrap64 ((wrap64 (x1_1 + 1)) + 1)) + 1)) + 1)), (wrap64 (x5_1 + 1)), rS, rS, H', ⟨by have := HK1.out; omega⟩, ⟨rK HO_0⟩, ⟨by repeat (first | (with_reducible first | exact HK.out | apply Kept.alloc | apply Kept.drewN | apply Kept.drew) | exact HK.out)⟩, ⟨bA⟩⟩
   rw [if_neg c3] at H
   have c3b0 := decide_eq_false c3
   clear c3
   simp only [Option.some.injEq, Prod.mk.injEq] at H
   obtain ⟨rfl, rfl⟩ := H
   obtain ⟨Ao18, co18, eo18⟩ := Kd.R_slice HO_0.out
   subst eo18
   go_wp2
   go_ret
   exact ⟨rA, rK HO_0, bA, by repeat (first | (with_reducible first | exact HK.out | apply Kept.alloc | apply Kept.drewN | apply Kept.drew) | exact HK.out)⟩

/-! ### laws_FnExactShareGreen: function 10 -/
mutual
def laws_FnExactShareGreen.j0 : Nat → List (S91) → List (S85) → List (S130) → Int → List (S92) → Bool → List (S89) → List (S92) → List (S128) → List (S92) → Bool → Bool → Option (Bool)
 | 0, _, _, _, _, _, _, _, _, _, _, _, _ => none
 | k + 1, x0, x1, x2, x3, x10, x11, x12, x13, x14, x15, x16, x70 => if x70 = true then (none) else ((laws_toPathS.f k x0).bind fun t529 => ((laws_eqPathS.f k x12 t529).bind fun t532 => (if t532 = true then ((laws_toPartS.f k x1).bind fun t533 => ((laws_eqPartS.f k x13 t533).bind fun t536 => (if t536 = true then ((laws_toDetectorS.f k x2).bind fun t537 => ((laws_eqDetectorS.f k x14 t537).bind fun t540 => (if t540 = true then ((laws_markPathS.f k x12 1).bind fun bt541 => ((laws_markPartS.f k x13 bt541.1).bind fun bt543 => ((laws_markDetectorS.f k x14 bt543.1).bind fun bt545 => (if bt545.1 < 0 then (laws_FnExactShareGreen.j1 k x0 x1 x2 x3 x10 x11 x15 true) else ((laws_eqPartS.f k x15 x10).bind fun t547 => (if t547 = true then (laws_FnExactShareGreen.j1 k x0 x1 x2 x3 x10 x11 x15 (x16 != x11)) else (laws_FnExactShareGreen.j1 k x0 x1 x2 x3 x10 x11 x15 true))))))) else (none)))) else (none)))) else (none))))
def laws_FnExactShareGreen.j1 : Nat → List (S91) → List (S85) → List (S130) → Int → List (S92) → Bool → List (S92) → Bool → Option (Bool)
 | 0, _, _, _, _, _, _, _, _ => none
 | k + 1, x0, x1, x2, x3, x10, x11, x15, x107 => if x107 = true then (none) else ((laws_markPartS.f k x15 1).bind fun bt548 => ((laws_heldPartS.f k bt548.2 1).bind fun t550 => (if t550 < 0 then (none) else (if t550 = bt548.1 then ((laws_toPathS.f k x0).bind fun t551 => ((laws_toPartS.f k x1).bind fun t554 => ((laws_toDetectorS.f k x2).bind fun t557 => ((impl_ShareGreen.f k t551 t554 t557 x3).bind fun bt560 => ((laws_eqPartS.f k bt560.1 x10).bind fun t564 => (if t564 = true then (laws_FnExactShareGreen.j2 k bt548.2 bt548.1 (bt560.2 != x11)) else (laws_FnExactShareGreen.j2 k bt548.2 bt548.1 true))))))) else (none)))))
def laws_FnExactShareGreen.j2 : Nat → List (S92) → Int → Bool → Option (Bool)
 | 0, _, _, _ => none
 | k + 1, x15, x18, x138 => if x138 = true then (none) else ((laws_heldPartS.f k x15 1).bind fun t565 => (if t565 < 0 then (none) else (if t565 = x18 then (some true) else (none))))
end
def laws_FnExactShareGreen.f (k : Nat) (l0 : List (S91)) (l1 : List (S85)) (l2 : List (S130)) (a3 : Int) : Option (Bool) := (laws_szPathS.f l0 1048576).bind fun t499 => (if t499 < 0 then (some true) else ((laws_szPartS.f k l1 t499).bind fun t500 => (if t500 < 0 then (some true) else ((laws_szDetectorS.f l2 t500).bind fun t501 => (if t501 < 0 then (some true) else ((laws_toPathS.f k l0).bind fun t502 => ((laws_toPartS.f k l1).bind fun t505 => ((laws_toDetectorS.f k l2).bind fun t508 => ((spec_ShareGreen.f k t502 t505 t508 a3).bind fun bt511 => ((laws_toPathS.f k l0).bind fun t515 => ((laws_toPartS.f k l1).bind fun t518 => ((laws_toDetectorS.f k l2).bind fun t521 => ((impl_ShareGreen.f k t515 t518 t521 a3).bind fun bt524 => ((laws_eqPartS.f k bt524.1 bt511.1).bind fun t528 => (if t528 = true then (laws_FnExactShareGreen.j0 k l0 l1 l2 a3 bt511.1 bt511.2 t515 t518 t521 bt524.1 bt524.2 (bt524.2 != bt511.2)) else (laws_FnExactShareGreen.j0 k l0 l1 l2 a3 bt511.1 bt511.2 t515 t518 t521 bt524.1 bt524.2 true))))))))))))))))
theorem laws_FnExactShareGreen.mono_l : ∀ k, (∀ y0 y1 y2 y3 y4 y5 y6 y7 y8 y9 y10 y11, LeO (laws_FnExactShareGreen.j0 k y0 y1 y2 y3 y4 y5 y6 y7 y8 y9 y10 y11) (laws_FnExactShareGreen.j0 (k + 1) y0 y1 y2 y3 y4 y5 y6 y7 y8 y9 y10 y11)) ∧ (∀ y0 y1 y2 y3 y4 y5 y6 y7, LeO (laws_FnExactShareGreen.j1 k y0 y1 y2 y3 y4 y5 y6 y7) (laws_FnExactShareGreen.j1 (k + 1) y0 y1 y2 y3 y4 y5 y6 y7)) ∧ (∀ y0 y1 y2, LeO (laws_FnExactShareGreen.j2 k y0 y1 y2) (laws_FnExactShareGreen.j2 (k + 1) y0 y1 y2))
 | 0 => ⟨fun _ _ _ _ _ _ _ _ _ _ _ _ r h => by simp [laws_FnExactShareGreen.j0] at h, fun _ _ _ _ _ _ _ _ r h => by simp [laws_FnExactShareGreen.j1] at h, fun _ _ _ r h => by simp [laws_FnExactShareGreen.j2] at h⟩
 | k + 1 => by
  obtain ⟨ih0, ih1, ih2⟩ := laws_FnExactShareGreen.mono_l k
  refine ⟨?_, ?_, ?_⟩
  ·
   intro y0 y1 y2 y3 y4 y5 y6 y7 y8 y9 y10 y11
   unfold laws_FnExactShareGreen.j0
   repeat' first | (with_reducible first | exact LeO.refl _ | exact LeO.none _ | refine LeO.ite ?_ ?_ | refine LeO.bind ?_ (fun _ => ?_) | exact ih0 _ _ _ _ _ _ _ _ _ _ _ _ | exact ih1 _ _ _ _ _ _ _ _ | exact ih2 _ _ _ | exact impl_ShareGreen.mono _ _ _ _ _ | exact laws_eqDetectorS.mono _ _ _ | exact laws_eqPartS.mono _ _ _ | exact laws_eqPathS.mono _ _ _ | exact laws_heldPartS.mono _ _ _ | exact laws_markDetectorS.mono _ _ _ | exact laws_markPartS.mono _ _ _ | exact laws_markPathS.mono _ _ _ | exact laws_szPartS.mono _ _ _ | exact laws_toDetectorS.mono _ _ | exact laws_toPartS.mono _ _ | exact laws_toPathS.mono _ _ | exact spec_ShareGreen.mono _ _ _ _ _)
  ·
   intro y0 y1 y2 y3 y4 y5 y6 y7
   unfold laws_FnExactShareGreen.j1
   repeat' first | (with_reducible first | exact LeO.refl _ | exact LeO.none _ | refine LeO.ite ?_ ?_ | refine LeO.bind ?_ (fun _ => ?_) | exact ih0 _ _ _ _ _ _ _ _ _ _ _ _ | exact ih1 _ _ _ _ _ _ _ _ | exact ih2 _ _ _ | exact impl_ShareGreen.mono _ _ _ _ _ | exact laws_eqDetectorS.mono _ _ _ | exact laws_eqPartS.mono _ _ _ | exact laws_eqPathS.mono _ _ _ | exact laws_heldPartS.mono _ _ _ | exact laws_markDetectorS.mono _ _ _ | exact laws_markPartS.mono _ _ _ | exact laws_markPathS.mono _ _ _ | exact laws_szPartS.mono _ _ _ | exact laws_toDetectorS.mono _ _ | exact laws_toPartS.mono _ _ | exact laws_toPathS.mono _ _ | exact spec_ShareGreen.mono _ _ _ _ _)
  ·
   intro y0 y1 y2
   unfold laws_FnExactShareGreen.j2
   repeat' first | (with_reducible first | exact LeO.refl _ | exact LeO.none _ | refine LeO.ite ?_ ?_ | refine LeO.bind ?_ (fun _ => ?_) | exact ih0 _ _ _ _ _ _ _ _ _ _ _ _ | exact ih1 _ _ _ _ _ _ _ _ | exact ih2 _ _ _ | exact impl_ShareGreen.mono _ _ _ _ _ | exact laws_eqDetectorS.mono _ _ _ | exact laws_eqPartS.mono _ _ _ | exact laws_eqPathS.mono _ _ _ | exact laws_heldPartS.mono _ _ _ | exact laws_markDetectorS.mono _ _ _ | exact laws_markPartS.mono _ _ _ | exact laws_markPathS.mono _ _ _ | exact laws_szPartS.mono _ _ _ | exact laws_toDetectorS.mono _ _ | exact laws_toPartS.mono _ _ | exact laws_toPathS.mono _ _ | exact spec_ShareGreen.mono _ _ _ _ _)
theorem laws_FnExactShareGreen.mono : ∀ a0 a1 a2 a3 k, LeO (laws_FnExactShareGreen.f k a0 a1 a2 a3) (laws_FnExactShareGreen.f (k + 1) a0 a1 a2 a3) := by
 intro a0 a1 a2 a3 k
 obtain ⟨ih0, ih1, ih2⟩ := laws_FnExactShareGreen.mono_l k
 unfold laws_FnExactShareGreen.f
 repeat' first | (with_reducible first | exact LeO.refl _ | exact LeO.none _ | refine LeO.ite ?_ ?_ | refine LeO.bind ?_ (fun _ => ?_) | exact ih0 _ _ _ _ _ _ _ _ _ _ _ _ | exact ih1 _ _ _ _ _ _ _ _ | exact ih2 _ _ _ | exact impl_ShareGreen.mono _ _ _ _ _ | exact laws_eqDetectorS.mono _ _ _ | exact laws_eqPartS.mono _ _ _ | exact laws_eqPathS.mono _ _ _ | exact laws_heldPartS.mono _ _ _ | exact laws_markDetectorS.mono _ _ _ | exact laws_markPartS.mono _ _ _ | exact laws_markPathS.mono _ _ _ | exact laws_szPartS.mono _ _ _ | exact laws_toDetectorS.mono _ _ | exact laws_toPartS.mono _ _ | exact laws_toPathS.mono _ _ | exact spec_ShareGreen.mono _ _ _ _ _)
theorem laws_FnExactShareGreen.part {α β : Type} {d : Kd α} {d' : Kd β} {e e' : Nat} {W w1 : World} {base : Nat} {P : Nat → Prop} {v u : Value} {xs : List α} {ys : List β} (h0 : Kd.S d e w1 W.heap.size (fun _ => True) v xs) (ho : Kd.S d' e' W base P u ys) (hb : Below W.heap.size W w1) (hl : base ≤ W.heap.size) :
    ∃ B : Nat, Kd.S d e w1 base (fun k => B ≤ k) v xs ∧ Kd.S d' e' w1 base (fun k => P k ∧ k < B) u ys :=
  ⟨W.heap.size, Kd.S_lower (Kd.S_mono (Kd.S_bound h0) (fun k hk => hk.2.1)) hl, Kd.S_below (Kd.S_mono (Kd.S_bound ho) (fun k hk => ⟨hk.1, hk.2.2.1⟩)) hb⟩
theorem laws_FnExactShareGreen.part2 {α β γ : Type} {d : Kd α} {d' : Kd β} {d'' : Kd γ} {e e' e'' : Nat} {W w1 : World} {base : Nat} {P P' : Nat → Prop} {v u u' : Value} {xs : List α} {ys : List β} {zs : List γ} (h0 : Kd.S d e w1 W.heap.size (fun _ => True) v xs) (ho : Kd.S d' e' W base P u ys) (ho' : Kd.S d'' e'' W base P' u' zs) (hb : Below W.heap.size W w1) (hl : base ≤ W.heap.size) :
    ∃ B : Nat, Kd.S d e w1 base (fun k => B ≤ k) v xs ∧ Kd.S d' e' w1 base (fun k => P k ∧ k < B) u ys ∧ Kd.S d'' e'' w1 base (fun k => P' k ∧ k < B) u' zs :=
  ⟨W.heap.size, Kd.S_lower (Kd.S_mono (Kd.S_bound h0) (fun k hk => hk.2.1)) hl, Kd.S_below (Kd.S_mono (Kd.S_bound ho) (fun k hk => ⟨hk.1, hk.2.2.1⟩)) hb, Kd.S_below (Kd.S_mono (Kd.S_bound ho') (fun k hk => ⟨hk.1, hk.2.2.1⟩)) hb⟩
set_option maxHeartbeats 8000000 in
set_option maxRecDepth 100000 in
theorem laws_FnExactShareGreen.calls (k : Nat) (A0 : Option Addr) (c0 : Nat) (l0 : List (S91)) (A1 : Option Addr) (c1 : Nat) (l1 : List (S85)) (A2 : Option Addr) (c2 : Nat) (l2 : List (S130)) (a3 : Int) (r : Bool) (w : World) (hr0 : Kd.C k91 w A0 l0.length l0) (hc0 : l0.length ≤ c0) (hr1 : Kd.C k85 w A1 l1.length l1) (hc1 : l1.length ≤ c1) (hr2 : Kd.C k130 w A2 l2.length l2) (hc2 : l2.length ≤ c2) (h : laws_FnExactShareGreen.f k l0 l1 l2 a3 = some r) :
  Calls Try.prog 10 #[.slice A0 l0.length c0, .slice A1 l1.length c1, .slice A2 l2.length c2, .int .i64 a3] w fun e w' => e = .returned (.bool r) ∧ Below w.heap.size w w' := by
 have HR0 := Aside0.mk hr0
 have HC0 := Aside0.mk hc0
 clear hr0 hc0
 have HR1 := Aside0.mk hr1
 have HC1 := Aside0.mk hc1
 clear hr1 hc1
 have HR2 := Aside0.mk hr2
 have HC2 := Aside0.mk hc2
 clear hr2 hc2
 have HB := Aside0.mk (Below.refl w.heap.size w)
 have H : ((laws_szPathS.f l0 1048576).bind fun t499 => (if t499 < 0 then (some true) else ((laws_szPartS.f k l1 t499).bind fun t500 => (if t500 < 0 then (some true) else ((laws_szDetectorS.f l2 t500).bind fun t501 => (if t501 < 0 then (some true) else ((laws_toPathS.f k l0).bind fun t502 => ((laws_toPartS.f k l1).bind fun t505 => ((laws_toDetectorS.f k l2).bind fun t508 => ((spec_ShareGreen.f k t502 t505 t508 a3).bind fun bt511 => ((laws_toPathS.f k l0).bind fun t515 => ((laws_toPartS.f k l1).bind fun t518 => ((laws_toDetectorS.f k l2).bind fun t521 => ((impl_ShareGreen.f k t515 t518 t521 a3).bind fun bt524 => ((laws_eqPartS.f k bt524.1 bt511.1).bind fun t528 => (if t528 = true then (laws_FnExactShareGreen.j0 k l0 l1 l2 a3 bt511.1 bt511.2 t515 t518 t521 bt524.1 bt524.2 (bt524.2 != bt511.2)) else (laws_FnExactShareGreen.j0 k l0 l1 l2 a3 bt511.1 bt511.2 t515 t518 t521 bt524.1 bt524.2 true))))))))))))))))) = some r := h
 clear h
 obtain ⟨t499, A5, H⟩ := bindE H
 try dsimp only at H
 by_cases c6 : t499 < 0
 ·
  rw [if_pos c6] at H
  have c6b0 := decide_eq_true c6
  clear c6
  obtain rfl := Option.some.inj H
  go_enter Try.func10, Try.ntmps10
  go_wp2_with (first | ((with_reducible refine gate_callee (f := 11) rfl ?_); refine gL (some 24) Try.func11 #[.slice A0 l0.length c0, .int .i64 1048576] ?_; (with_reducible refine (laws_szPathS.calls _ _ l0 1048576 t499 _ ?_ ?_ A5.out).mono ?_); exact cO HR0; exact HC0.out; rintro e w' ⟨rfl, ⟨nd, rfl⟩⟩; refine ⟨_, rfl, ?_⟩))
  go_ret
  exact ⟨rA, bA⟩
 rw [if_neg c6] at H
 have c6b0 := decide_eq_false c6
 clear c6
 obtain ⟨t500, A7, H⟩ := bindE H
 try dsimp only at H
 by_cases c8 : t500 < 0
 ·
  rw [if_pos c8] at H
  have c8b0 := decide_eq_true c8
  clear c8
  obtain rfl := Option.some.inj H
  go_enter Try.func10, Try.ntmps10
  go_wp2_with (first | ((with_reducible refine gate_callee (f := 11) rfl ?_); refine gL (some 24) Try.func11 #[.slice A0 l0.length c0, .int .i64 1048576] ?_; (with_reducible refine (laws_szPathS.calls _ _ l0 1048576 t499 _ ?_ ?_ A5.out).mono ?_); exact cO HR0; exact HC0.out; rintro e w' ⟨rfl, ⟨nd, rfl⟩⟩; refine ⟨_, rfl, ?_⟩) | ((with_reducible refine gate_callee (f := 12) rfl ?_); refine gL (some 29) Try.func12 #[.slice A1 l1.length c1, .int .i64 t499] ?_; (with_reducible refine (laws_szPartS.calls k _ _ l1 t499 t500 _ ?_ ?_ A7.out).mono ?_); exact cO HR1; exact HC1.out; rintro e w9 ⟨rfl, hb⟩; refine ⟨_, rfl, ?_⟩; replace HB := bs HB hb; (try clear hb)))
  go_ret
  exact ⟨rA, bA⟩
 rw [if_neg c8] at H
 have c8b0 := decide_eq_false c8
 clear c8
 obtain ⟨t501, A10, H⟩ := bindE H
 try dsimp only at H
 by_cases c11 : t501 < 0
 ·
  rw [if_pos c11] at H
  have c11b0 := decide_eq_true c11
  clear c11
  obtain rfl := Option.some.inj H
  go_enter Try.func10, Try.ntmps10
  go_wp2_with (first | ((with_reducible refine gate_callee (f := 11) rfl ?_); refine gL (some 24) Try.func11 #[.slice A0 l0.length c0, .int .i64 1048576] ?_; (with_reducible refine (laws_szPathS.calls _ _ l0 1048576 t499 _ ?_ ?_ A5.out).mono ?_); exact cO HR0; exact HC0.out; rintro e w' ⟨rfl, ⟨nd, rfl⟩⟩; refine ⟨_, rfl, ?_⟩) | ((with_reducible refine gate_callee (f := 12) rfl ?_); refine gL (some 29) Try.func12 #[.slice A1 l1.length c1, .int .i64 t499] ?_; (with_reducible refine (laws_szPartS.calls k _ _ l1 t499 t500 _ ?_ ?_ A7.out).mono ?_); exact cO HR1; exact HC1.out; rintro e w12 ⟨rfl, hb⟩; refine ⟨_, rfl, ?_⟩; replace HB := bs HB hb; (try clear hb)) | ((with_reducible refine gate_callee (f := 54) rfl ?_); refine gL (some 34) Try.func54 #[.slice A2 l2.length c2, .int .i64 t500] ?_; (with_reducible refine (laws_szDetectorS.calls _ _ l2 t500 t501 _ ?_ ?_ A10.out).mono ?_); exact cB HR2; exact HC2.out; rintro e w' ⟨rfl, ⟨nd, rfl⟩⟩; refine ⟨_, rfl, ?_⟩))
  go_ret
  exact ⟨rA, bA⟩
 rw [if_neg c11] at H
 have c11b0 := decide_eq_false c11
 clear c11
 obtain ⟨t502, A13, H⟩ := bindE H
 try dsimp only at H
 obtain ⟨t505, A14, H⟩ := bindE H
 try dsimp only at H
 obtain ⟨t508, A15, H⟩ := bindE H
 try dsimp only at H
 obtain ⟨⟨t511, t512⟩, A16, H⟩ := bindE H
 try dsimp only at H
 obtain ⟨t515, A17, H⟩ := bindE H
 try dsimp only at H
 obtain ⟨t518, A18, H⟩ := bindE H
 try dsimp only at H
 obtain ⟨t521, A19, H⟩ := bindE H
 try dsimp only at H
 obtain ⟨⟨t524, t525⟩, A20, H⟩ := bindE H
 try dsimp only at H
 have HC21 := Aside0.mk H
 clear H
 go_enter Try.func10, Try.ntmps10
 go_upto_region 16 with (first | ((with_reducible refine gate_callee (f := 11) rfl ?_); refine gL (some 24) Try.func11 #[.slice A0 l0.length c0, .int .i64 1048576] ?_; (with_reducible refine (laws_szPathS.calls _ _ l0 1048576 t499 _ ?_ ?_ A5.out).mono ?_); exact cO HR0; exact HC0.out; rintro e w' ⟨rfl, ⟨nd, rfl⟩⟩; refine ⟨_, rfl, ?_⟩) | ((with_reducible refine gate_callee (f := 12) rfl ?_); refine gL (some 29) Try.func12 #[.slice A1 l1.length c1, .int .i64 t499] ?_; (with_reducible refine (laws_szPartS.calls k _ _ l1 t499 t500 _ ?_ ?_ A7.out).mono ?_); exact cO HR1; exact HC1.out; rintro e w22 ⟨rfl, hb⟩; refine ⟨_, rfl, ?_⟩; replace HB := bs HB hb; (try clear hb)) | ((with_reducible refine gate_callee (f := 54) rfl ?_); refine gL (some 34) Try.func54 #[.slice A2 l2.length c2, .int .i64 t500] ?_; (with_reducible refine (laws_szDetectorS.calls _ _ l2 t500 t501 _ ?_ ?_ A10.out).mono ?_); exact cB HR2; exact HC2.out; rintro e w' ⟨rfl, ⟨nd, rfl⟩⟩; refine ⟨_, rfl, ?_⟩) | ((with_reducible refine gate_callee (f := 14) rfl ?_); refine gL (some 39) Try.func14 #[.slice A0 l0.length c0] ?_; (with_reducible refine (laws_toPathS.calls k _ _ l0 t502 _ ?_ ?_ A13.out).mono ?_); exact cG HR0; exact HC0.out; rintro e w23 ⟨v503, rfl, ho0, hb⟩; refine ⟨_, rfl, ?_⟩; have HO504 := rl w ho0; replace HB := bs HB hb; (try clear hb); (try clear ho0)) | ((with_reducible refine gate_callee (f := 15) rfl ?_); refine gL (some 41) Try.func15 #[.slice A1 l1.length c1] ?_; (with_reducible refine (laws_toPartS.calls k _ _ l1 t505 _ ?_ ?_ A14.out).mono ?_); exact cB HR1; exact HC1.out; rintro e w24 ⟨v506, rfl, ho0, hb⟩; refine ⟨_, rfl, ?_⟩; replace HO504 := rb HO504 hb; have HO507 := sl w ho0; replace HB := bs HB hb; (try clear hb); (try clear ho0)) | ((with_reducible refine gate_callee (f := 56) rfl ?_); refine gL (some 43) Try.func56 #[.slice A2 l2.length c2] ?_; (with_reducible refine (laws_toDetectorS.calls k _ _ l2 t508 _ ?_ ?_ A15.out).mono ?_); exact cB HR2; exact HC2.out; rintro e w25 ⟨v509, rfl, ho0, hb⟩; refine ⟨_, rfl, ?_⟩; replace HO504 := rb HO504 hb; replace HO507 := sb HO507 hb; have HO510 := rl w ho0; replace HB := bs HB hb; (try clear hb); (try clear ho0); obtain ⟨Ao26, co26, eo26⟩ := Kd.R_slice HO504.out; subst eo26; obtain ⟨Ao27, co27, eo27⟩ := Kd.S_slice HO507.out; subst eo27; obtain ⟨Ao28, co28, eo28⟩ := Kd.R_slice HO510.out; subst eo28) | ((with_reducible refine gate_callee (f := 55) rfl ?_); refine gL (some 45) Try.func55 #[.slice Ao26 t502.length co26, .slice Ao27 t505.length co27, .slice Ao28 t508.length co28, .int .i64 a3] ?_; (with_reducible refine (spec_ShareGreen.calls k _ _ t502 _ _ t505 _ _ t508 a3 t511 t512 _ ?_ ?_ ?_ ?_ ?_ ?_ A16.out).mono ?_); exact cO ⟨(Kd.R_reads' HO504.out).2.2⟩; exact (Kd.R_reads' HO504.out).2.1; (focus repeat (first | exact (Kd.S_reads' HO507.out).2.2 | (with_reducible refine Kd.C_alloc ?_ _) | (with_reducible refine Kd.C_drewN ?_ _) | (with_reducible refine Kd.C_drew ?_))); exact (Kd.S_reads' HO507.out).2.1; exact cO ⟨(Kd.R_reads' HO510.out).2.2⟩; exact (Kd.R_reads' HO510.out).2.1; rintro e w29 ⟨v513, rfl, ho0, hb⟩; refine ⟨_, rfl, ?_⟩; replace HO504 := rb HO504 hb; replace HO510 := rb HO510 hb; have HXw := sl w ho0; have HO514 := sl w (Kd.S_new' ho0 (Kd.S_lt (sK HO507))); replace HO507 := Aside0.mk (Kd.S_elder' (sK HO507) (Kd.S_base ho0) hb); replace HB := bs HB hb; (try clear hb); (try clear ho0)) | ((with_reducible refine gate_callee (f := 14) rfl ?_); refine gL (some 49) Try.func14 #[.slice A0 l0.length c0] ?_; (with_reducible refine (laws_toPathS.calls k _ _ l0 t515 _ ?_ ?_ A17.out).mono ?_); exact cB HR0; exact HC0.out; rintro e w30 ⟨v516, rfl, ho0, hb⟩; refine ⟨_, rfl, ?_⟩; replace HO507 := sb HO507 hb; replace HO510 := rb HO510 hb; replace HO514 := sb HO514 hb; replace HXw := sb HXw hb; have HO517 := rl w (rn ho0 HO504); replace HO504 := re HO504 ho0 hb; replace HB := bs HB hb; (try clear hb); (try clear ho0)) | ((with_reducible refine gate_callee (f := 15) rfl ?_); refine gL (some 51) Try.func15 #[.slice A1 l1.length c1] ?_; (with_reducible refine (laws_toPartS.calls k _ _ l1 t518 _ ?_ ?_ A18.out).mono ?_); exact cB HR1; exact HC1.out; rintro e w31 ⟨v519, rfl, ho0, hb⟩; refine ⟨_, rfl, ?_⟩; replace HO504 := rb HO504 hb; replace HO510 := rb HO510 hb; replace HO517 := rb HO517 hb; obtain ⟨B1_, hs1_, hs2_⟩ := laws_FnExactShareGreen.part (base := w.heap.size) ho0 (by (with_reducible repeat (first | apply Kd.S_alloc | apply Kd.S_drewN | apply Kd.S_drew)); exact HXw.out) hb (below_size bA); have HXx := Aside0.mk hs1_; replace HXw := Aside0.mk hs2_; clear hs1_ hs2_; have HO520 := sl w (Kd.S_new' (Kd.S_new' ho0 (Kd.S_lt (sK HO507))) (Kd.S_lt (sK HO514))); replace HO507 := Aside0.mk (Kd.S_elder' (sK HO507) (Kd.S_base ho0) hb); replace HO514 := Aside0.mk (Kd.S_elder' (sK HO514) (Kd.S_base ho0) hb); replace HB := bs HB hb; (try clear hb); (try clear ho0)) | ((with_reducible refine gate_callee (f := 56) rfl ?_); refine gL (some 53) Try.func56 #[.slice A2 l2.length c2] ?_; (with_reducible refine (laws_toDetectorS.calls k _ _ l2 t521 _ ?_ ?_ A19.out).mono ?_); exact cB HR2; exact HC2.out; rintro e w32 ⟨v522, rfl, ho0, hb⟩; refine ⟨_, rfl, ?_⟩; replace HO504 := rb HO504 hb; replace HO507 := sb HO507 hb; replace HO514 := sb HO514 hb; replace HXw := sb HXw hb; replace HXx := sb HXx hb; replace HO517 := rb HO517 hb; replace HO520 := sb HO520 hb; have HO523 := rl w (rn ho0 HO510); replace HO510 := re HO510 ho0 hb; replace HB := bs HB hb; (try clear hb); (try clear ho0); obtain ⟨Ao33, co33, eo33⟩ := Kd.R_slice HO517.out; subst eo33; obtain ⟨Ao34, co34, eo34⟩ := Kd.S_slice HO520.out; subst eo34; obtain ⟨Ao35, co35, eo35⟩ := Kd.R_slice HO523.out; subst eo35) | ((with_reducible refine gate_callee (f := 57) rfl ?_); refine gL (some 59) Try.func57 #[.slice Ao33 t515.length co33, .slice Ao34 t518.length co34, .slice Ao35 t521.length co35, .int .i64 a3] ?_; (with_reducible refine (impl_ShareGreen.calls k _ _ t515 _ _ t518 _ _ t521 a3 t524 t525 _ ?_ ?_ ?_ ?_ ?_ ?_ A20.out).mono ?_); exact cO ⟨(Kd.R_reads' HO517.out).2.2⟩; exact (Kd.R_reads' HO517.out).2.1; (focus repeat (first | exact (Kd.S_reads' HO520.out).2.2 | (with_reducible refine Kd.C_alloc ?_ _) | (with_reducible refine Kd.C_drewN ?_ _) | (with_reducible refine Kd.C_drew ?_))); exact (Kd.S_reads' HO520.out).2.1; exact cO ⟨(Kd.R_reads' HO523.out).2.2⟩; exact (Kd.R_reads' HO523.out).2.1; rintro e w36 ⟨v526, rfl, ho0, hb⟩; refine ⟨_, rfl, ?_⟩; replace HO504 := rb HO504 hb; replace HO510 := rb HO510 hb; replace HO517 := rb HO517 hb; replace HO523 := rb HO523 hb; obtain ⟨B2_, hs1_, hs2_, hs3_⟩ := laws_FnExactShareGreen.part2 (base := w.heap.size) ho0 (by (with_reducible repeat (first | apply Kd.S_alloc | apply Kd.S_drewN | apply Kd.S_drew)); exact HXw.out) (by (with_reducible repeat (first | apply Kd.S_alloc | apply Kd.S_drewN | apply Kd.S_drew)); exact HXx.out) hb (below_size bA); have HXg := Aside0.mk hs1_; replace HXw := Aside0.mk hs2_; replace HXx := Aside0.mk hs3_; clear hs1_ hs2_ hs3_; have HO527 := sl w (Kd.S_new' (Kd.S_new' (Kd.S_new' ho0 (Kd.S_lt (sK HO507))) (Kd.S_lt (sK HO514))) (Kd.S_lt (sK HO520))); replace HO507 := Aside0.mk (Kd.S_elder' (sK HO507) (Kd.S_base ho0) hb); replace HO514 := Aside0.mk (Kd.S_elder' (sK HO514) (Kd.S_base ho0) hb); replace HO520 := Aside0.mk (Kd.S_elder' (sK HO520) (Kd.S_base ho0) hb); replace HB := bs HB hb; (try clear hb); (try clear ho0)))
 (try simp only [Act.put, List.setIfInBounds_toArray, List.set_cons_zero, List.set_cons_succ])
 go_cut [70] (fun v70 wc => ∃ (kq : Nat) (x70_20 : Bool), v70 = .bool x70_20 ∧ Aside0 (laws_FnExactShareGreen.j0 kq l0 l1 l2 a3 t511 t512 t515 t518 t521 t524 t525 x70_20 = some r) ∧ Aside0 (kq ≤ k) ∧ Aside0 (Kd.S k92 92 wc w.heap.size (n2 (.slice Ao34 t518.length co34) v526) v513 t511) ∧ Aside0 (Kd.R k89 89 wc w.heap.size (fun _ => True) (.slice Ao33 t515.length co33) t515) ∧ Aside0 (Kd.S k92 92 wc w.heap.size (n2 v513 v526) (.slice Ao34 t518.length co34) t518) ∧ Aside0 (Kd.R k128 128 wc w.heap.size (fun _ => True) (.slice Ao35 t521.length co35) t521) ∧ Aside0 (Kd.S k92 92 wc w.heap.size (n2 v513 (.slice Ao34 t518.length co34)) v526 t524) ∧ Aside0 (Kd.S k92 92 wc w.heap.size (fun k_ => k_ < B1_ ∧ k_ < B2_) v513 t511) ∧ Aside0 (Kd.S k92 92 wc w.heap.size (fun k_ => B1_ ≤ k_ ∧ k_ < B2_) (.slice Ao34 t518.length co34) t518) ∧ Aside0 (Kd.S k92 92 wc w.heap.size (fun k_ => B2_ ≤ k_) v526 t524) ∧ Aside0 (Below w.heap.size w wc))
 case first =>
  have H := HC21.out
  clear HC21
  obtain ⟨t528, A37, H⟩ := bindE H
  try dsimp only at H
  by_cases c38 : t528 = true
  ·
   subst c38
   have H1 : (laws_FnExactShareGreen.j0 k l0 l1 l2 a3 t511 t512 t515 t518 t521 t524 t525 (t525 != t512)) = some r := by rw [if_pos rfl] at H; exact H
   clear H
   have H := H1
   clear H1
   have H' := Aside0.mk H
   clear H
   obtain ⟨Ao39, co39, eo39⟩ := Kd.S_slice HO527.out
   subst eo39
   obtain ⟨Ao40, co40, eo40⟩ := Kd.S_slice HO514.out
   subst eo40
   go_wp2_with (first | ((with_reducible refine gate_callee (f := 19) rfl ?_); refine gL (some 64) Try.func19 #[.slice Ao39 t524.length co39, .slice Ao40 t511.length co40] ?_; (with_reducible refine (laws_eqPartS.calls k _ _ t524 _ _ t511 true _ ?_ ?_ ?_ ?_ A37.out).mono ?_); (focus repeat (first | exact (Kd.S_reads' HO527.out).2.2 | (with_reducible refine Kd.C_alloc ?_ _) | (with_reducible refine Kd.C_drewN ?_ _) | (with_reducible refine Kd.C_drew ?_))); exact (Kd.S_reads' HO527.out).2.1; (focus repeat (first | exact (Kd.S_reads' HO514.out).2.2 | (with_reducible refine Kd.C_alloc ?_ _) | (with_reducible refine Kd.C_drewN ?_ _) | (with_reducible refine Kd.C_drew ?_))); exact (Kd.S_reads' HO514.out).2.1; rintro e w41 ⟨rfl, hb⟩; refine ⟨_, rfl, ?_⟩; replace HO504 := rb HO504 hb; replace HO507 := sb HO507 hb; replace HO510 := rb HO510 hb; replace HO514 := sb HO514 hb; replace HO517 := rb HO517 hb; replace HO520 := sb HO520 hb; replace HO523 := rb HO523 hb; replace HO527 := sb HO527 hb; replace HXw := sb HXw hb; replace HXx := sb HXx hb; replace HXg := sb HXg hb; replace HB := bs HB hb; (try clear hb)))
   go_meet
   case rel => exact ⟨_, ((t525 != t512)), rS, H', ⟨oL⟩, ⟨sm HO514 (fun _ hk => ⟨hk.1.2, hk.2⟩)⟩, ⟨rm HO517 (fun _ hk => trivial)⟩, ⟨sm HO520 (fun _ hk => ⟨hk.1.2, hk.2⟩)⟩, ⟨rm HO523 (fun _ hk => trivial)⟩, ⟨sm HO527 (fun _ hk => ⟨hk.1.2, hk.2⟩)⟩, ⟨sm HXw (fun _ hk => ⟨hk.1.2, hk.2⟩)⟩, ⟨sm HXx (fun _ hk => ⟨hk.1, hk.2⟩)⟩, ⟨sm HXg (fun _ hk => hk)⟩, ⟨bA⟩⟩
  replace c38 := Bool.eq_false_iff.mpr c38
  subst c38
  have H1 : (laws_FnExactShareGreen.j0 k l0 l1 l2 a3 t511 t512 t515 t518 t521 t524 t525 true) = some r := by rw [if_neg (show ¬ (false = true) by decide)] at H; exact H
  clear H
  have H := H1
  clear H1
  have H' := Aside0.mk H
  clear H
  obtain ⟨Ao42, co42, eo42⟩ := Kd.S_slice HO527.out
  subst eo42
  obtain ⟨Ao43, co43, eo43⟩ := Kd.S_slice HO514.out
  subst eo43
  go_wp2_with (first | ((with_reducible refine gate_callee (f := 19) rfl ?_); refine gL (some 64) Try.func19 #[.slice Ao42 t524.length co42, .slice Ao43 t511.length co43] ?_; (with_reducible refine (laws_eqPartS.calls k _ _ t524 _ _ t511 false _ ?_ ?_ ?_ ?_ A37.out).mono ?_); (focus repeat (first | exact (Kd.S_reads' HO527.out).2.2 | (with_reducible refine Kd.C_alloc ?_ _) | (with_reducible refine Kd.C_drewN ?_ _) | (with_reducible refine Kd.C_drew ?_))); exact (Kd.S_reads' HO527.out).2.1; (focus repeat (first | exact (Kd.S_reads' HO514.out).2.2 | (with_reducible refine Kd.C_alloc ?_ _) | (with_reducible refine Kd.C_drewN ?_ _) | (with_reducible refine Kd.C_drew ?_))); exact (Kd.S_reads' HO514.out).2.1; rintro e w44 ⟨rfl, hb⟩; refine ⟨_, rfl, ?_⟩; replace HO504 := rb HO504 hb; replace HO507 := sb HO507 hb; replace HO510 := rb HO510 hb; replace HO514 := sb HO514 hb; replace HO517 := rb HO517 hb; replace HO520 := sb HO520 hb; replace HO523 := rb HO523 hb; replace HO527 := sb HO527 hb; replace HXw := sb HXw hb; replace HXx := sb HXx hb; replace HXg := sb HXg hb; replace HB := bs HB hb; (try clear hb)))
  go_meet
  case rel => exact ⟨_, (true), rS, H', ⟨oL⟩, ⟨sm HO514 (fun _ hk => ⟨hk.1.2, hk.2⟩)⟩, ⟨rm HO517 (fun _ hk => trivial)⟩, ⟨sm HO520 (fun _ hk => ⟨hk.1.2, hk.2⟩)⟩, ⟨rm HO523 (fun _ hk => trivial)⟩, ⟨sm HO527 (fun _ hk => ⟨hk.1.2, hk.2⟩)⟩, ⟨sm HXw (fun _ hk => ⟨hk.1.2, hk.2⟩)⟩, ⟨sm HXx (fun _ hk => ⟨hk.1, hk.2⟩)⟩, ⟨sm HXg (fun _ hk => hk)⟩, ⟨bA⟩⟩
 case rest =>
  clear HC21
  obtain ⟨kq, x70_20, rfl, HA, HJ20, HO_10, HO_12, HO_13, HO_14, HO_15, HXw, HXx, HXg, HB⟩ := hcut
  cases kq with
  | zero => exact absurd HA.out (by simp [laws_FnExactShareGreen.j0])
  | succ kj20 =>
   have H := HA.out
   clear HA
   simp only [laws_FnExactShareGreen.j0] at H
   have c45 := ifN' H
   replace H := ifT' H
   replace c45 := Bool.eq_false_iff.mpr c45
   subst c45
   obtain ⟨t529, A46, H⟩ := bindE H
   try dsimp only at H
   obtain ⟨t532, A47, H⟩ := bindE H
   try dsimp only at H
   have c48 := ifN H
   replace H := ifT H
   subst c48
   obtain ⟨t533, A49, H⟩ := bindE H
   try dsimp only at H
   obtain ⟨t536, A50, H⟩ := bindE H
   try dsimp only at H
   have c51 := ifN H
   replace H := ifT H
   subst c51
   obtain ⟨t537, A52, H⟩ := bindE H
   try dsimp only at H
   obtain ⟨t540, A53, H⟩ := bindE H
   try dsimp only at H
   have c54 := ifN H
   replace H := ifT H
   subst c54
   obtain ⟨⟨t541, t542⟩, A55, H⟩ := bindE H
   try dsimp only at H
   obtain ⟨⟨t543, t544⟩, A56, H⟩ := bindE H
   try dsimp only at H
   obtain ⟨⟨t545, t546⟩, A57, H⟩ := bindE H
   try dsimp only at H
   have HC58 := Aside0.mk H
   clear H
   go_upto_region 28 with (first | ((with_reducible refine gate_callee (f := 14) rfl ?_); refine gL (some 73) Try.func14 #[.slice A0 l0.length c0] ?_; (with_reducible refine (laws_toPathS.calls kj20 _ _ l0 t529 _ ?_ ?_ A46.out).mono ?_); exact cB HR0; exact HC0.out; rintro e w59 ⟨v530, rfl, ho0, hb⟩; refine ⟨_, rfl, ?_⟩; replace HO_10 := sb HO_10 hb; replace HO_13 := sb HO_13 hb; replace HO_14 := rb HO_14 hb; replace HO_15 := sb HO_15 hb; replace HXw := sb HXw hb; replace HXx := sb HXx hb; replace HXg := sb HXg hb; have HO531 := rl w (rn ho0 HO_12); replace HO_12 := re HO_12 ho0 hb; replace HB := bs HB hb; (try clear hb); (try clear ho0); obtain ⟨Ao60, co60, eo60⟩ := Kd.R_slice HO531.out; subst eo60) | ((with_reducible refine gate_callee (f := 18) rfl ?_); refine gL (some 74) Try.func18 #[.slice Ao33 t515.length co33, .slice Ao60 t529.length co60] ?_; (with_reducible refine (laws_eqPathS.calls kj20 _ _ t515 _ _ t529 true _ ?_ ?_ ?_ ?_ A47.out).mono ?_); exact cO ⟨(Kd.R_reads' HO_12.out).2.2⟩; exact (Kd.R_reads' HO_12.out).2.1; exact cO ⟨(Kd.R_reads' HO531.out).2.2⟩; exact (Kd.R_reads' HO531.out).2.1; rintro e w61 ⟨rfl, hb⟩; refine ⟨_, rfl, ?_⟩; replace HO_10 := sb HO_10 hb; replace HO_12 := rb HO_12 hb; replace HO_13 := sb HO_13 hb; replace HO_14 := rb HO_14 hb; replace HO_15 := sb HO_15 hb; replace HXw := sb HXw hb; replace HXx := sb HXx hb; replace HXg := sb HXg hb; replace HO531 := rb HO531 hb; replace HB := bs HB hb; (try clear hb)) | ((with_reducible refine gate_callee (f := 15) rfl ?_); refine gL (some 78) Try.func15 #[.slice A1 l1.length c1] ?_; (with_reducible refine (laws_toPartS.calls kj20 _ _ l1 t533 _ ?_ ?_ A49.out).mono ?_); exact cB HR1; exact HC1.out; rintro e w62 ⟨v534, rfl, ho0, hb⟩; refine ⟨_, rfl, ?_⟩; replace HO_12 := rb HO_12 hb; replace HO_14 := rb HO_14 hb; replace HO531 := rb HO531 hb; have HO535 := sl w (Kd.S_new' (Kd.S_new' (Kd.S_new' ho0 (Kd.S_lt (sK HO_10))) (Kd.S_lt (sK HO_13))) (Kd.S_lt (sK HO_15))); replace HO_10 := Aside0.mk (Kd.S_elder' (sK HO_10) (Kd.S_base ho0) hb); replace HO_13 := Aside0.mk (Kd.S_elder' (sK HO_13) (Kd.S_base ho0) hb); replace HO_15 := Aside0.mk (Kd.S_elder' (sK HO_15) (Kd.S_base ho0) hb); replace HXw := sb HXw hb; replace HXx := sb HXx hb; replace HXg := sb HXg hb; replace HB := bs HB hb; (try clear hb); (try clear ho0); obtain ⟨Ao63, co63, eo63⟩ := Kd.S_slice HO535.out; subst eo63) | ((with_reducible refine gate_callee (f := 19) rfl ?_); refine gL (some 79) Try.func19 #[.slice Ao34 t518.length co34, .slice Ao63 t533.length co63] ?_; (with_reducible refine (laws_eqPartS.calls kj20 _ _ t518 _ _ t533 true _ ?_ ?_ ?_ ?_ A50.out).mono ?_); (focus repeat (first | exact (Kd.S_reads' HO_13.out).2.2 | (with_reducible refine Kd.C_alloc ?_ _) | (with_reducible refine Kd.C_drewN ?_ _) | (with_reducible refine Kd.C_drew ?_))); exact (Kd.S_reads' HO_13.out).2.1; (focus repeat (first | exact (Kd.S_reads' HO535.out).2.2 | (with_reducible refine Kd.C_alloc ?_ _) | (with_reducible refine Kd.C_drewN ?_ _) | (with_reducible refine Kd.C_drew ?_))); exact (Kd.S_reads' HO535.out).2.1; rintro e w64 ⟨rfl, hb⟩; refine ⟨_, rfl, ?_⟩; replace HO_10 := sb HO_10 hb; replace HO_12 := rb HO_12 hb; replace HO_13 := sb HO_13 hb; replace HO_14 := rb HO_14 hb; replace HO_15 := sb HO_15 hb; replace HXw := sb HXw hb; replace HXx := sb HXx hb; replace HXg := sb HXg hb; replace HO531 := rb HO531 hb; replace HO535 := sb HO535 hb; replace HB := bs HB hb; (try clear hb)) | ((with_reducible refine gate_callee (f := 56) rfl ?_); refine gL (some 83) Try.func56 #[.slice A2 l2.length c2] ?_; (with_reducible refine (laws_toDetectorS.calls kj20 _ _ l2 t537 _ ?_ ?_ A52.out).mono ?_); exact cB HR2; exact HC2.out; rintro e w65 ⟨v538, rfl, ho0, hb⟩; refine ⟨_, rfl, ?_⟩; replace HO_10 := sb HO_10 hb; replace HO_12 := rb HO_12 hb; replace HO_13 := sb HO_13 hb; replace HO_15 := sb HO_15 hb; replace HXw := sb HXw hb; replace HXx := sb HXx hb; replace HXg := sb HXg hb; replace HO531 := rb HO531 hb; replace HO535 := sb HO535 hb; have HO539 := rl w (rn ho0 HO_14); replace HO_14 := re HO_14 ho0 hb; replace HB := bs HB hb; (try clear hb); (try clear ho0); obtain ⟨Ao66, co66, eo66⟩ := Kd.R_slice HO539.out; subst eo66) | ((with_reducible refine gate_callee (f := 58) rfl ?_); refine gL (some 84) Try.func58 #[.slice Ao35 t521.length co35, .slice Ao66 t537.length co66] ?_; (with_reducible refine (laws_eqDetectorS.calls kj20 _ _ t521 _ _ t537 true _ ?_ ?_ ?_ ?_ A53.out).mono ?_); exact cO ⟨(Kd.R_reads' HO_14.out).2.2⟩; exact (Kd.R_reads' HO_14.out).2.1; exact cO ⟨(Kd.R_reads' HO539.out).2.2⟩; exact (Kd.R_reads' HO539.out).2.1; rintro e w67 ⟨rfl, hb⟩; refine ⟨_, rfl, ?_⟩; replace HO_10 := sb HO_10 hb; replace HO_12 := rb HO_12 hb; replace HO_13 := sb HO_13 hb; replace HO_14 := rb HO_14 hb; replace HO_15 := sb HO_15 hb; replace HXw := sb HXw hb; replace HXx := sb HXx hb; replace HXg := sb HXg hb; replace HO531 := rb HO531 hb; replace HO535 := sb HO535 hb; replace HO539 := rb HO539 hb; replace HB := bs HB hb; (try clear hb)) | ((with_reducible refine gate_callee (f := 20) rfl ?_); refine gL (some 88) Try.func20 #[.slice Ao33 t515.length co33, .int .i64 1] ?_; (with_reducible refine (laws_markPathS.calls kj20 (fun k_ => some k_ = (.slice Ao33 t515.length co33 : Value).ownBlock) (.slice Ao33 t515.length co33) t515 1 t541 t542 w _ ?_ ?_ A55.out).mono ?_); (focus repeat (first | (with_reducible first | exact HB.out | apply below_alloc | apply pw_below_drewN | apply below_drew1) | exact HB.out)); exact Kd.R_tight rfl HO_12.out; rintro e w68 ⟨rfl, hy0, hb, hkp⟩; refine ⟨_, rfl, ?_⟩; replace HXw := Aside0.mk (Kd.S_mono (ok' := fun k_ => k_ < B1_ ∧ k_ < B2_) (Kd.S_keptB (Kd.S_apart' (ok := fun k_ => k_ < B1_ ∧ k_ < B2_) (by (with_reducible repeat (first | apply Kd.S_alloc | apply Kd.S_drewN | apply Kd.S_drew)); exact HXw.out) (Kd.R_typed HO_12.out) (by decide)) hkp (fun k_ hk_ hs_ => hk_.2 hs_)) (fun k_ hk_ => hk_.1.1)); replace HXx := Aside0.mk (Kd.S_mono (ok' := fun k_ => B1_ ≤ k_ ∧ k_ < B2_) (Kd.S_keptB (Kd.S_apart' (ok := fun k_ => B1_ ≤ k_ ∧ k_ < B2_) (by (with_reducible repeat (first | apply Kd.S_alloc | apply Kd.S_drewN | apply Kd.S_drew)); exact HXx.out) (Kd.R_typed HO_12.out) (by decide)) hkp (fun k_ hk_ hs_ => hk_.2 hs_)) (fun k_ hk_ => hk_.1.1)); replace HXg := Aside0.mk (Kd.S_mono (ok' := fun k_ => B2_ ≤ k_) (Kd.S_keptB (Kd.S_apart' (ok := fun k_ => B2_ ≤ k_) (by (with_reducible repeat (first | apply Kd.S_alloc | apply Kd.S_drewN | apply Kd.S_drew)); exact HXg.out) (Kd.R_typed HO_12.out) (by decide)) hkp (fun k_ hk_ hs_ => hk_.2 hs_)) (fun k_ hk_ => hk_.1.1)); replace HO_10 := Aside0.mk (Kd.S_mono (ok' := n3 (.slice Ao34 t518.length co34) v526 (.slice Ao63 t533.length co63)) (Kd.S_keptB ((Kd.S_apart' HO_10.out (Kd.R_typed HO_12.out) (by decide))) hkp (fun k_ hk_ hs_ => (hk_.2) hs_)) (fun k_ hk_ => ⟨hk_.1.1.1.1, hk_.1.1.1.2, hk_.1.1.2⟩)); replace HO_13 := Aside0.mk (Kd.S_mono (ok' := n3 v513 v526 (.slice Ao63 t533.length co63)) (Kd.S_keptB ((Kd.S_apart' HO_13.out (Kd.R_typed HO_12.out) (by decide))) hkp (fun k_ hk_ hs_ => (hk_.2) hs_)) (fun k_ hk_ => ⟨hk_.1.1.1.1, hk_.1.1.1.2, hk_.1.1.2⟩)); replace HO_14 := Aside0.mk (Kd.R_mono (ok' := n1 (.slice Ao66 t537.length co66)) (Kd.R_keptB ((Kd.R_apart' HO_14.out (Kd.R_typed HO_12.out) (by decide))) hkp (fun k_ hk_ hs_ => (hk_.2) hs_)) (fun k_ hk_ => hk_.1.1.2)); replace HO_15 := Aside0.mk (Kd.S_mono (ok' := n3 v513 (.slice Ao34 t518.length co34) (.slice Ao63 t533.length co63)) (Kd.S_keptB ((Kd.S_apart' HO_15.out (Kd.R_typed HO_12.out) (by decide))) hkp (fun k_ hk_ hs_ => (hk_.2) hs_)) (fun k_ hk_ => ⟨hk_.1.1.1.1, hk_.1.1.1.2, hk_.1.1.2⟩)); replace HO531 := Aside0.mk (Kd.R_mono (ok' := n1 (.slice Ao33 t515.length co33)) (Kd.R_keptB (HO531.out) hkp (fun k_ hk_ hs_ => (hk_.2) hs_)) (fun k_ hk_ => hk_.1.2)); replace HO535 := Aside0.mk (Kd.S_mono (ok' := n3 v513 (.slice Ao34 t518.length co34) v526) (Kd.S_keptB ((Kd.S_apart' HO535.out (Kd.R_typed HO_12.out) (by decide))) hkp (fun k_ hk_ hs_ => (hk_.2) hs_)) (fun k_ hk_ => ⟨hk_.1.1.1.1.2, hk_.1.1.1.2, hk_.1.1.2⟩)); replace HO539 := Aside0.mk (Kd.R_mono (ok' := n1 (.slice Ao35 t521.length co35)) (Kd.R_keptB ((Kd.R_apart' HO539.out (Kd.R_typed HO_12.out) (by decide))) hkp (fun k_ hk_ hs_ => (hk_.2) hs_)) (fun k_ hk_ => hk_.1.1.2)); replace HO_12 := Aside0.mk (Kd.R_reok rfl hy0 (fun k_ e_ => HO_12.out.1 k_ e_)); replace HB := Aside0.mk (hb); (try clear hb); (try clear hkp); (try clear hy0)) | ((with_reducible refine gate_callee (f := 21) rfl ?_); refine gL (some 91) Try.func21 #[.slice Ao34 t518.length co34, .int .i64 t541] ?_; (with_reducible refine (laws_markPartS.calls kj20 (fun k_ => ((((((B1_ ≤ k_ ∧ k_ < B2_) ∧ some k_ ≠ (.slice Ao33 t515.length co33 : Value).ownBlock) ∧ some k_ ≠ (.slice Ao35 t521.length co35 : Value).ownBlock) ∧ some k_ ≠ (.slice Ao60 t529.length co60 : Value).ownBlock) ∧ some k_ ≠ (.slice Ao66 t537.length co66 : Value).ownBlock)) ∧ w.heap.size ≤ k_) (.slice Ao34 t518.length co34) t518 t541 t543 t544 w _ ?_ ?_ A56.out).mono ?_); (focus repeat (first | (with_reducible first | exact HB.out | apply below_alloc | apply pw_below_drewN | apply below_drew1) | exact HB.out)); (focus (with_reducible repeat (first | apply Kd.S_alloc | apply Kd.S_drewN | apply Kd.S_drew)); exact Kd.S_mono (Kd.S_bound (Kd.S_apart' (Kd.S_apart' (Kd.S_apart' (Kd.S_apart' (HXx.out) (Kd.R_typed HO_12.out) (by decide)) (Kd.R_typed HO_14.out) (by decide)) (Kd.R_typed HO531.out) (by decide)) (Kd.R_typed HO539.out) (by decide))) (fun k_ h_ => ⟨h_.1, h_.2.1⟩)); rintro e w69 ⟨rfl, hy0, hb, hkp⟩; refine ⟨_, rfl, ?_⟩; have n0_ := Aside0.mk (Kd.R_mono (ok' := n1 (.slice Ao60 t529.length co60)) (Kd.R_keptB ((Kd.R_mono (ok' := fun k_ => (True ∧ some k_ ≠ (.slice Ao60 t529.length co60 : Value).ownBlock) ∧ ¬ (((((((B1_ ≤ k_ ∧ k_ < B2_) ∧ some k_ ≠ (.slice Ao33 t515.length co33 : Value).ownBlock) ∧ some k_ ≠ (.slice Ao35 t521.length co35 : Value).ownBlock) ∧ some k_ ≠ (.slice Ao60 t529.length co60 : Value).ownBlock) ∧ some k_ ≠ (.slice Ao66 t537.length co66 : Value).ownBlock)) ∧ w.heap.size ≤ k_)) (Kd.R_tight2 rfl HO_12.out) (fun k_ hk => ⟨hk.2, fun hs_ => (hs_.1.1.1.1.2) hk.1⟩))) hkp (fun k_ hk_ hs_ => (hk_.2) hs_)) (fun k_ hk_ => hk_.1.1.2)); have n1_ := Aside0.mk (Kd.S_mono (ok' := fun _ => True) hy0 (fun _ _ => trivial)); have n2_ := Aside0.mk (Kd.R_mono (ok' := n1 (.slice Ao66 t537.length co66)) (Kd.R_keptB ((Kd.R_mono (ok' := fun k_ => some k_ ≠ (.slice Ao66 t537.length co66 : Value).ownBlock ∧ ¬ (((((((B1_ ≤ k_ ∧ k_ < B2_) ∧ some k_ ≠ (.slice Ao33 t515.length co33 : Value).ownBlock) ∧ some k_ ≠ (.slice Ao35 t521.length co35 : Value).ownBlock) ∧ some k_ ≠ (.slice Ao60 t529.length co60 : Value).ownBlock) ∧ some k_ ≠ (.slice Ao66 t537.length co66 : Value).ownBlock)) ∧ w.heap.size ≤ k_)) (Kd.R_tight2 rfl HO_14.out) (fun k_ hk => ⟨hk.2, fun hs_ => (hs_.1.1.1.2) hk.1⟩))) hkp (fun k_ hk_ hs_ => (hk_.2) hs_)) (fun k_ hk_ => hk_.1.1)); have n3_ := Aside0.mk (Kd.R_mono (ok' := n1 (.slice Ao33 t515.length co33)) (Kd.R_keptB ((Kd.R_mono (ok' := fun k_ => some k_ ≠ (.slice Ao33 t515.length co33 : Value).ownBlock ∧ ¬ (((((((B1_ ≤ k_ ∧ k_ < B2_) ∧ some k_ ≠ (.slice Ao33 t515.length co33 : Value).ownBlock) ∧ some k_ ≠ (.slice Ao35 t521.length co35 : Value).ownBlock) ∧ some k_ ≠ (.slice Ao60 t529.length co60 : Value).ownBlock) ∧ some k_ ≠ (.slice Ao66 t537.length co66 : Value).ownBlock)) ∧ w.heap.size ≤ k_)) (Kd.R_tight2 rfl HO531.out) (fun k_ hk => ⟨hk.2, fun hs_ => (hs_.1.1.2) hk.1⟩))) hkp (fun k_ hk_ hs_ => (hk_.2) hs_)) (fun k_ hk_ => hk_.1.1)); have n4_ := Aside0.mk (Kd.R_mono (ok' := n1 (.slice Ao35 t521.length co35)) (Kd.R_keptB ((Kd.R_mono (ok' := fun k_ => some k_ ≠ (.slice Ao35 t521.length co35 : Value).ownBlock ∧ ¬ (((((((B1_ ≤ k_ ∧ k_ < B2_) ∧ some k_ ≠ (.slice Ao33 t515.length co33 : Value).ownBlock) ∧ some k_ ≠ (.slice Ao35 t521.length co35 : Value).ownBlock) ∧ some k_ ≠ (.slice Ao60 t529.length co60 : Value).ownBlock) ∧ some k_ ≠ (.slice Ao66 t537.length co66 : Value).ownBlock)) ∧ w.heap.size ≤ k_)) (Kd.R_tight2 rfl HO539.out) (fun k_ hk => ⟨hk.2, fun hs_ => (hs_.1.2) hk.1⟩))) hkp (fun k_ hk_ hs_ => (hk_.2) hs_)) (fun k_ hk_ => hk_.1.1)); have n5_ := Aside0.mk (hb); have nw_ := Aside0.mk (Kd.S_mono (ok' := fun k_ => k_ < B2_) (Kd.S_keptB (ok := fun k_ => k_ < B1_ ∧ k_ < B2_) (by (with_reducible repeat (first | apply Kd.S_alloc | apply Kd.S_drewN | apply Kd.S_drew)); exact HXw.out) hkp (fun k_ hk_ hs_ => Nat.not_lt.2 hs_.1.1.1.1.1.1 hk_.1)) (fun k_ hk_ => hk_.1.2)); have ng_ := Aside0.mk (Kd.S_mono (ok' := fun k_ => B2_ ≤ k_) (Kd.S_keptB (ok := fun k_ => B2_ ≤ k_) (by (with_reducible repeat (first | apply Kd.S_alloc | apply Kd.S_drewN | apply Kd.S_drew)); exact HXg.out) hkp (fun k_ hk_ hs_ => Nat.not_lt.2 hk_ hs_.1.1.1.1.1.2)) (fun k_ hk_ => hk_.1)); clear HO_12; clear HO_13; clear HO_14; clear HO531; clear HO539; clear HB; clear HO_10; clear HO_15; clear HO535; have HO_12 := n0_; have HO_13 := n1_; have HO_14 := n2_; have HO531 := n3_; have HO539 := n4_; have HB := n5_; have HO_10 := nw_; have HO_15 := ng_; clear HXw HXx HXg nw_ ng_; clear n0_ n1_ n2_ n3_ n4_ n5_; (try clear hb); (try clear hkp); (try clear hy0)) | ((with_reducible refine gate_callee (f := 59) rfl ?_); refine gL (some 94) Try.func59 #[.slice Ao35 t521.length co35, .int .i64 t543] ?_; (with_reducible refine (laws_markDetectorS.calls kj20 (fun k_ => some k_ = (.slice Ao35 t521.length co35 : Value).ownBlock) (.slice Ao35 t521.length co35) t521 t543 t545 t546 w _ ?_ ?_ A57.out).mono ?_); (focus repeat (first | (with_reducible first | exact HB.out | apply below_alloc | apply pw_below_drewN | apply below_drew1) | exact HB.out)); exact Kd.R_tight rfl HO_14.out; rintro e w70 ⟨rfl, hy0, hb, hkp⟩; refine ⟨_, rfl, ?_⟩; replace HO_12 := Aside0.mk (Kd.R_mono (ok' := n1 (.slice Ao60 t529.length co60)) (Kd.R_keptB ((Kd.R_apart' HO_12.out (Kd.R_typed HO_14.out) (by decide))) hkp (fun k_ hk_ hs_ => (hk_.2) hs_)) (fun k_ hk_ => hk_.1.1)); replace HO_10 := Aside0.mk (Kd.S_mono (ok' := fun k_ => k_ < B2_) (Kd.S_keptB (Kd.S_apart' (ok := fun k_ => k_ < B2_) (by (with_reducible repeat (first | apply Kd.S_alloc | apply Kd.S_drewN | apply Kd.S_drew)); exact HO_10.out) (Kd.R_typed HO_14.out) (by decide)) hkp (fun k_ hk_ hs_ => hk_.2 hs_)) (fun k_ hk_ => hk_.1.1)); replace HO_15 := Aside0.mk (Kd.S_mono (ok' := fun k_ => B2_ ≤ k_) (Kd.S_keptB (Kd.S_apart' (ok := fun k_ => B2_ ≤ k_) (by (with_reducible repeat (first | apply Kd.S_alloc | apply Kd.S_drewN | apply Kd.S_drew)); exact HO_15.out) (Kd.R_typed HO_14.out) (by decide)) hkp (fun k_ hk_ hs_ => hk_.2 hs_)) (fun k_ hk_ => hk_.1.1)); replace HO_13 := Aside0.mk (Kd.S_mono (ok' := fun k_ => True) (Kd.S_keptB ((Kd.S_apart' HO_13.out (Kd.R_typed HO_14.out) (by decide))) hkp (fun k_ hk_ hs_ => (hk_.2) hs_)) (fun k_ hk_ => trivial)); replace HO531 := Aside0.mk (Kd.R_mono (ok' := n1 (.slice Ao33 t515.length co33)) (Kd.R_keptB ((Kd.R_apart' HO531.out (Kd.R_typed HO_14.out) (by decide))) hkp (fun k_ hk_ hs_ => (hk_.2) hs_)) (fun k_ hk_ => hk_.1.1)); replace HO_14 := Aside0.mk (Kd.R_reok rfl hy0 (fun k_ e_ => HO_14.out.1 k_ e_)); replace HO539 := Aside0.mk (Kd.R_kept HO539.out hkp (fun k_ hk_ hs_ => (hk_) hs_)); replace HB := Aside0.mk (hb); (try clear hb); (try clear hkp); (try clear hy0)))
   (try simp only [Act.put, List.setIfInBounds_toArray, List.set_cons_zero, List.set_cons_succ])
   go_cut [107] (fun v107 wc => ∃ (kq : Nat) (x107_57 : Bool), v107 = .bool x107_57 ∧ Aside0 (laws_FnExactShareGreen.j1 kq l0 l1 l2 a3 t511 t512 t524 x107_57 = some r) ∧ Aside0 (kq ≤ kj20) ∧ Aside0 (Kd.S k92 92 wc w.heap.size (fun k_ => k_ < B2_) v513 t511) ∧ Aside0 (Kd.S k92 92 wc w.heap.size (fun k_ => B2_ ≤ k_) v526 t524) ∧ Aside0 (Below w.heap.size w wc))
   case first =>
    have H := HC58.out
    clear HC58
    by_cases c71 : t545 < 0
    ·
     rw [if_pos c71] at H
     have c71b0 := decide_eq_true c71
     clear c71
     (first | rw [c71b0] | (simp only [i64_w, i32_w]; rw [c71b0]) | skip)
     have H' := Aside0.mk H
     clear H
     go_wp2
     go_meet
     case rel => exact ⟨_, (true), rS, H', ⟨by have := HJ20.out; first | omega | exact Nat.le_refl _⟩, ⟨sm HO_10 (fun _ hk => hk)⟩, ⟨sm HO_15 (fun _ hk => hk)⟩, ⟨bA⟩⟩
    rw [if_neg c71] at H
    have c71b0 := decide_eq_false c71
    clear c71
    (first | rw [c71b0] | (simp only [i64_w, i32_w]; rw [c71b0]) | skip)
    obtain ⟨t547, A72, H⟩ := bindE H
    try dsimp only at H
    by_cases c73 : t547 = true
    ·
     subst c73
     have H1 : (laws_FnExactShareGreen.j1 kj20 l0 l1 l2 a3 t511 t512 t524 (t525 != t512)) = some r := by rw [if_pos rfl] at H; exact H
     clear H
     have H := H1
     clear H1
     have H' := Aside0.mk H
     clear H
     obtain ⟨Ao74, co74, eo74⟩ := Kd.S_slice HO_15.out
     subst eo74
     obtain ⟨Ao75, co75, eo75⟩ := Kd.S_slice HO_10.out
     subst eo75
     go_wp2_with (first | (go_at_call 19; (with_reducible refine (laws_eqPartS.calls kj20 _ _ t524 _ _ t511 true _ ?_ ?_ ?_ ?_ A72.out).mono ?_); (focus repeat (first | exact (Kd.S_reads' HO_15.out).2.2 | (with_reducible refine Kd.C_alloc ?_ _) | (with_reducible refine Kd.C_drewN ?_ _) | (with_reducible refine Kd.C_drew ?_))); exact (Kd.S_reads' HO_15.out).2.1; (focus repeat (first | exact (Kd.S_reads' HO_10.out).2.2 | (with_reducible refine Kd.C_alloc ?_ _) | (with_reducible refine Kd.C_drewN ?_ _) | (with_reducible refine Kd.C_drew ?_))); exact (Kd.S_reads' HO_10.out).2.1; rintro e w76 ⟨rfl, hb⟩; replace HO_12 := rb HO_12 hb; replace HO_13 := sb HO_13 hb; replace HO_14 := rb HO_14 hb; replace HO531 := rb HO531 hb; replace HO539 := rb HO539 hb; replace HO_10 := sb HO_10 hb; replace HO_15 := sb HO_15 hb; replace HB := bs HB hb; (try clear hb)))
     go_meet
     case rel => exact ⟨_, ((t525 != t512)), rS, H', ⟨by have := HJ20.out; first | omega | exact Nat.le_refl _⟩, ⟨sm HO_10 (fun _ hk => hk)⟩, ⟨sm HO_15 (fun _ hk => hk)⟩, ⟨bA⟩⟩
    replace c73 := Bool.eq_false_iff.mpr c73
    subst c73
    have H1 : (laws_FnExactShareGreen.j1 kj20 l0 l1 l2 a3 t511 t512 t524 true) = some r := by rw [if_neg (show ¬ (false = true) by decide)] at H; exact H
    clear H
    have H := H1
    clear H1
    have H' := Aside0.mk H
    clear H
    obtain ⟨Ao77, co77, eo77⟩ := Kd.S_slice HO_15.out
    subst eo77
    obtain ⟨Ao78, co78, eo78⟩ := Kd.S_slice HO_10.out
    subst eo78
    go_wp2_with (first | (go_at_call 19; (with_reducible refine (laws_eqPartS.calls kj20 _ _ t524 _ _ t511 false _ ?_ ?_ ?_ ?_ A72.out).mono ?_); (focus repeat (first | exact (Kd.S_reads' HO_15.out).2.2 | (with_reducible refine Kd.C_alloc ?_ _) | (with_reducible refine Kd.C_drewN ?_ _) | (with_reducible refine Kd.C_drew ?_))); exact (Kd.S_reads' HO_15.out).2.1; (focus repeat (first | exact (Kd.S_reads' HO_10.out).2.2 | (with_reducible refine Kd.C_alloc ?_ _) | (with_reducible refine Kd.C_drewN ?_ _) | (with_reducible refine Kd.C_drew ?_))); exact (Kd.S_reads' HO_10.out).2.1; rintro e w79 ⟨rfl, hb⟩; replace HO_12 := rb HO_12 hb; replace HO_13 := sb HO_13 hb; replace HO_14 := rb HO_14 hb; replace HO531 := rb HO531 hb; replace HO539 := rb HO539 hb; replace HO_10 := sb HO_10 hb; replace HO_15 := sb HO_15 hb; replace HB := bs HB hb; (try clear hb)))
    go_meet
    case rel => exact ⟨_, (true), rS, H', ⟨by have := HJ20.out; first | omega | exact Nat.le_refl _⟩, ⟨sm HO_10 (fun _ hk => hk)⟩, ⟨sm HO_15 (fun _ hk => hk)⟩, ⟨bA⟩⟩
   case rest =>
    clear HC58
    obtain ⟨kq, x107_57, rfl, HA, HJ57, HO_10, HO_15, HB⟩ := hcut
    cases kq with
    | zero => exact absurd HA.out (by simp [laws_FnExactShareGreen.j1])
    | succ kj57 =>
     have H := HA.out
     clear HA
     simp only [laws_FnExactShareGreen.j1] at H
     have c80 := ifN' H
     replace H := ifT' H
     replace c80 := Bool.eq_false_iff.mpr c80
     subst c80
     obtain ⟨⟨t548, t549⟩, A81, H⟩ := bindE H
     try dsimp only at H
     obtain ⟨t550, A82, H⟩ := bindE H
     try dsimp only at H
     have c83 : ¬ (t550 < 0) := ifN' H
     replace H := ifT' H
     have c83b0 := decide_eq_false c83
     clear c83
     have c84 : t550 = t548 := ifN H
     replace H := ifT H
     have c84b0 : (t550 == t548) = true := beq_iff_eq.mpr c84
     have c84b1 : (t550 != t548) = false := bne_eq_false_iff_eq.mpr c84
     clear c84
     obtain ⟨t551, A85, H⟩ := bindE H
     try dsimp only at H
     obtain ⟨t554, A86, H⟩ := bindE H
     try dsimp only at H
     obtain ⟨t557, A87, H⟩ := bindE H
     try dsimp only at H
     obtain ⟨⟨t560, t561⟩, A88, H⟩ := bindE H
     try dsimp only at H
     have HC89 := Aside0.mk H
     clear H
     obtain ⟨Ao90, co90, eo90⟩ := Kd.S_slice HO_15.out
     subst eo90
     go_upto_region 39 with (first | ((with_reducible refine gate_callee (f := 21) rfl ?_); refine gL (some 110) Try.func21 #[.slice Ao90 t524.length co90, .int .i64 1] ?_; (with_reducible refine (laws_markPartS.calls kj57 (fun k_ => (B2_ ≤ k_) ∧ w.heap.size ≤ k_) (.slice Ao90 t524.length co90) t524 1 t548 t549 w _ ?_ ?_ A81.out).mono ?_); (focus repeat (first | (with_reducible first | exact HB.out | apply below_alloc | apply pw_below_drewN | apply below_drew1) | exact HB.out)); (focus (with_reducible repeat (first | apply Kd.S_alloc | apply Kd.S_drewN | apply Kd.S_drew)); exact Kd.S_mono (Kd.S_bound (HO_15.out)) (fun k_ h_ => ⟨h_.1, h_.2.1⟩)); rintro e w91 ⟨rfl, hy0, hb, hkp⟩; refine ⟨_, rfl, ?_⟩; have n0_ := Aside0.mk (Kd.S_mono (ok' := fun _ => True) hy0 (fun _ _ => trivial)); have n1_ := Aside0.mk (hb); have n2_ := Aside0.mk (Kd.S_mono (ok' := fun _ => True) (Kd.S_keptB (ok := fun k_ => k_ < B2_) (by (with_reducible repeat (first | apply Kd.S_alloc | apply Kd.S_drewN | apply Kd.S_drew)); exact HO_10.out) hkp (fun k_ hk_ hs_ => Nat.not_lt.2 hs_.1 hk_)) (fun _ _ => trivial)); clear HO_15; clear HB; clear HO_10; have HO_10 := n2_; clear n2_; have HO_15 := n0_; have HB := n1_; clear n0_ n1_; (try clear hb); (try clear hkp); (try clear hy0)) | ((with_reducible refine gate_callee (f := 37) rfl ?_); refine goesL_ (some 113) rfl rfl Try.func37 (by kernel_rfl) rfl #[.slice Ao90 t549.length co90, .int .i64 1] rfl (by (try simp only [List.map_toArray, List.map_cons, List.map_nil]); first | done | (rw [show t549.length = t524.length from (Kd.S_reads' HO_15.out).1.symm] <;> rfl) | rfl | (simp only [List.length_drop, List.length_take]; rfl)) ?_; (with_reducible refine (laws_heldPartS.calls kj57 _ _ t549 1 t550 _ ?_ ?_ A82.out).mono ?_); (focus repeat (first | exact (Kd.S_reads' HO_15.out).2.2 | (with_reducible refine Kd.C_alloc ?_ _) | (with_reducible refine Kd.C_drewN ?_ _) | (with_reducible refine Kd.C_drew ?_))); (focus rw [show t549.length = t524.length from (Kd.S_reads' HO_15.out).1.symm]; exact (Kd.S_reads' HO_15.out).2.1); rintro e w' ⟨rfl, ⟨nd, rfl⟩⟩; refine ⟨_, rfl, ?_⟩) | ((with_reducible refine gate_callee (f := 14) rfl ?_); refine gL (some 121) Try.func14 #[.slice A0 l0.length c0] ?_; (with_reducible refine (laws_toPathS.calls kj57 _ _ l0 t551 _ ?_ ?_ A85.out).mono ?_); exact cG HR0; exact HC0.out; rintro e w92 ⟨v552, rfl, ho0, hb⟩; refine ⟨_, rfl, ?_⟩; replace HO_15 := sb HO_15 hb; replace HO_10 := sb HO_10 hb; have HO553 := rl w ho0; replace HB := bs HB hb; (try clear hb); (try clear ho0)) | ((with_reducible refine gate_callee (f := 15) rfl ?_); refine gL (some 123) Try.func15 #[.slice A1 l1.length c1] ?_; (with_reducible refine (laws_toPartS.calls kj57 _ _ l1 t554 _ ?_ ?_ A86.out).mono ?_); exact cB HR1; exact HC1.out; rintro e w93 ⟨v555, rfl, ho0, hb⟩; refine ⟨_, rfl, ?_⟩; replace HO553 := rb HO553 hb; have HO556 := sl w (Kd.S_new' ho0 (Kd.S_lt (sK HO_15))); replace HO_15 := Aside0.mk (Kd.S_elder' (sK HO_15) (Kd.S_base ho0) hb); replace HO_10 := sb HO_10 hb; replace HB := bs HB hb; (try clear hb); (try clear ho0)) | ((with_reducible refine gate_callee (f := 56) rfl ?_); refine gL (some 125) Try.func56 #[.slice A2 l2.length c2] ?_; (with_reducible refine (laws_toDetectorS.calls kj57 _ _ l2 t557 _ ?_ ?_ A87.out).mono ?_); exact cB HR2; exact HC2.out; rintro e w94 ⟨v558, rfl, ho0, hb⟩; refine ⟨_, rfl, ?_⟩; replace HO_15 := sb HO_15 hb; replace HO_10 := sb HO_10 hb; replace HO553 := rb HO553 hb; replace HO556 := sb HO556 hb; have HO559 := rl w ho0; replace HB := bs HB hb; (try clear hb); (try clear ho0); obtain ⟨Ao95, co95, eo95⟩ := Kd.R_slice HO553.out; subst eo95; obtain ⟨Ao96, co96, eo96⟩ := Kd.S_slice HO556.out; subst eo96; obtain ⟨Ao97, co97, eo97⟩ := Kd.R_slice HO559.out; subst eo97) | ((with_reducible refine gate_callee (f := 57) rfl ?_); refine gL (some 127) Try.func57 #[.slice Ao95 t551.length co95, .slice Ao96 t554.length co96, .slice Ao97 t557.length co97, .int .i64 a3] ?_; (with_reducible refine (impl_ShareGreen.calls kj57 _ _ t551 _ _ t554 _ _ t557 a3 t560 t561 _ ?_ ?_ ?_ ?_ ?_ ?_ A88.out).mono ?_); exact cO ⟨(Kd.R_reads' HO553.out).2.2⟩; exact (Kd.R_reads' HO553.out).2.1; (focus repeat (first | exact (Kd.S_reads' HO556.out).2.2 | (with_reducible refine Kd.C_alloc ?_ _) | (with_reducible refine Kd.C_drewN ?_ _) | (with_reducible refine Kd.C_drew ?_))); exact (Kd.S_reads' HO556.out).2.1; exact cO ⟨(Kd.R_reads' HO559.out).2.2⟩; exact (Kd.R_reads' HO559.out).2.1; rintro e w98 ⟨v562, rfl, ho0, hb⟩; refine ⟨_, rfl, ?_⟩; replace HO553 := rb HO553 hb; replace HO559 := rb HO559 hb; have HO563 := sl w (Kd.S_new' (Kd.S_new' ho0 (Kd.S_lt (sK HO_15))) (Kd.S_lt (sK HO556))); replace HO_15 := Aside0.mk (Kd.S_elder' (sK HO_15) (Kd.S_base ho0) hb); replace HO_10 := sb HO_10 hb; replace HO556 := Aside0.mk (Kd.S_elder' (sK HO556) (Kd.S_base ho0) hb); replace HB := bs HB hb; (try clear hb); (try clear ho0)))
     (try simp only [Act.put, List.setIfInBounds_toArray, List.set_cons_zero, List.set_cons_succ])
     go_cut [138] (fun v138 wc => ∃ (kq : Nat) (x138_88 : Bool), v138 = .bool x138_88 ∧ Aside0 (laws_FnExactShareGreen.j2 kq t549 t548 x138_88 = some r) ∧ Aside0 (kq ≤ kj57) ∧ Aside0 (Kd.S k92 92 wc w.heap.size (fun _ => True) (.slice Ao90 t524.length co90) t549) ∧ Aside0 (Below w.heap.size w wc))
     case first =>
      have H := HC89.out
      clear HC89
      obtain ⟨t564, A99, H⟩ := bindE H
      try dsimp only at H
      by_cases c100 : t564 = true
      ·
       subst c100
       have H1 : (laws_FnExactShareGreen.j2 kj57 t549 t548 (t561 != t512)) = some r := by rw [if_pos rfl] at H; exact H
       clear H
       have H := H1
       clear H1
       have H' := Aside0.mk H
       clear H
       obtain ⟨Ao101, co101, eo101⟩ := Kd.S_slice HO563.out
       subst eo101
       obtain ⟨Ao102, co102, eo102⟩ := Kd.S_slice HO_10.out
       subst eo102
       go_wp2_with (first | ((with_reducible refine gate_callee (f := 19) rfl ?_); refine gL (some 132) Try.func19 #[.slice Ao101 t560.length co101, .slice Ao102 t511.length co102] ?_; (with_reducible refine (laws_eqPartS.calls kj57 _ _ t560 _ _ t511 true _ ?_ ?_ ?_ ?_ A99.out).mono ?_); (focus repeat (first | exact (Kd.S_reads' HO563.out).2.2 | (with_reducible refine Kd.C_alloc ?_ _) | (with_reducible refine Kd.C_drewN ?_ _) | (with_reducible refine Kd.C_drew ?_))); exact (Kd.S_reads' HO563.out).2.1; (focus repeat (first | exact (Kd.S_reads' HO_10.out).2.2 | (with_reducible refine Kd.C_alloc ?_ _) | (with_reducible refine Kd.C_drewN ?_ _) | (with_reducible refine Kd.C_drew ?_))); exact (Kd.S_reads' HO_10.out).2.1; rintro e w103 ⟨rfl, hb⟩; refine ⟨_, rfl, ?_⟩; replace HO_15 := sb HO_15 hb; replace HO553 := rb HO553 hb; replace HO556 := sb HO556 hb; replace HO559 := rb HO559 hb; replace HO563 := sb HO563 hb; replace HB := bs HB hb; (try clear hb)))
       go_meet
       case rel => exact ⟨_, ((t561 != t512)), rS, H', ⟨by have := HJ20.out; have := HJ57.out; first | omega | exact Nat.le_refl _⟩, ⟨sm HO_15 (fun _ hk => trivial)⟩, ⟨bA⟩⟩
      replace c100 := Bool.eq_false_iff.mpr c100
      subst c100
      have H1 : (laws_FnExactShareGreen.j2 kj57 t549 t548 true) = some r := by rw [if_neg (show ¬ (false = true) by decide)] at H; exact H
      clear H
      have H := H1
      clear H1
      have H' := Aside0.mk H
      clear H
      obtain ⟨Ao104, co104, eo104⟩ := Kd.S_slice HO563.out
      subst eo104
      obtain ⟨Ao105, co105, eo105⟩ := Kd.S_slice HO_10.out
      subst eo105
      go_wp2_with (first | ((with_reducible refine gate_callee (f := 19) rfl ?_); refine gL (some 132) Try.func19 #[.slice Ao104 t560.length co104, .slice Ao105 t511.length co105] ?_; (with_reducible refine (laws_eqPartS.calls kj57 _ _ t560 _ _ t511 false _ ?_ ?_ ?_ ?_ A99.out).mono ?_); (focus repeat (first | exact (Kd.S_reads' HO563.out).2.2 | (with_reducible refine Kd.C_alloc ?_ _) | (with_reducible refine Kd.C_drewN ?_ _) | (with_reducible refine Kd.C_drew ?_))); exact (Kd.S_reads' HO563.out).2.1; (focus repeat (first | exact (Kd.S_reads' HO_10.out).2.2 | (with_reducible refine Kd.C_alloc ?_ _) | (with_reducible refine Kd.C_drewN ?_ _) | (with_reducible refine Kd.C_drew ?_))); exact (Kd.S_reads' HO_10.out).2.1; rintro e w106 ⟨rfl, hb⟩; refine ⟨_, rfl, ?_⟩; replace HO_15 := sb HO_15 hb; replace HO553 := rb HO553 hb; replace HO556 := sb HO556 hb; replace HO559 := rb HO559 hb; replace HO563 := sb HO563 hb; replace HB := bs HB hb; (try clear hb)))
      go_meet
      case rel => exact ⟨_, (true), rS, H', ⟨by have := HJ20.out; have := HJ57.out; first | omega | exact Nat.le_refl _⟩, ⟨sm HO_15 (fun _ hk => trivial)⟩, ⟨bA⟩⟩
     case rest =>
      clear HC89
      obtain ⟨kq, x138_88, rfl, HA, HJ88, HO_15, HB⟩ := hcut
      have hl15_88 := (Kd.S_reads' HO_15.out).1
      rw [hl15_88] at HO_15
      (try simp only [hl15_88])
      cases kq with
      | zero => exact absurd HA.out (by simp [laws_FnExactShareGreen.j2])
      | succ kj88 =>
       have H := HA.out
       clear HA
       simp only [laws_FnExactShareGreen.j2] at H
       have c107 := ifN' H
       replace H := ifT' H
       replace c107 := Bool.eq_false_iff.mpr c107
       subst c107
       obtain ⟨t565, A108, H⟩ := bindE H
       try dsimp only at H
       have c109 : ¬ (t565 < 0) := ifN' H
       replace H := ifT' H
       have c109b0 := decide_eq_false c109
       clear c109
       have c110 : t565 = t548 := ifN H
       replace H := ifT H
       have c110b0 : (t565 == t548) = true := beq_iff_eq.mpr c110
       have c110b1 : (t565 != t548) = false := bne_eq_false_iff_eq.mpr c110
       clear c110
       obtain rfl := Option.some.inj H
       go_wp2_with (first | ((with_reducible refine gate_callee (f := 37) rfl ?_); refine gL (some 141) Try.func37 #[.slice Ao90 t549.length co90, .int .i64 1] ?_; (with_reducible refine (laws_heldPartS.calls kj88 _ _ t549 1 t565 _ ?_ ?_ A108.out).mono ?_); (focus repeat (first | exact (Kd.S_reads' HO_15.out).2.2 | (with_reducible refine Kd.C_alloc ?_ _) | (with_reducible refine Kd.C_drewN ?_ _) | (with_reducible refine Kd.C_drew ?_))); exact (Kd.S_reads' HO_15.out).2.1; rintro e w' ⟨rfl, ⟨nd, rfl⟩⟩; refine ⟨_, rfl, ?_⟩))
       go_ret
       exact ⟨rA, bA⟩

end Go.Proofs.Ytdkmmefmhfbgkaa.P
