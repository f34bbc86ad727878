/- Printed by myprint.py (wip/tools) over the kit's print: what Go's functions compute, and that they do. Lean checks it. -/
import Derived.Test.YtdkmmefmhfbgkaaF0
import Derived.Test.YtdkmmefmhfbgkaaFX00
namespace Go.Proofs.Ytdkmmefmhfbgkaa.P
open Go.RowKit Go.Proofs.YtdkmmefmhfbgkaaW.PrintWords Go.Proofs.YtdkmmefmhfbgkaaW.PrintLast Go.Proofs.YtdkmmefmhfbgkaaW.PrintMore Go.Proofs.Ytdkmmefmhfbgkaa.Sq
attribute [local go_sem] max2_int min2_int max_two min_two max_three min_three max_four min_four
set_option linter.unusedVariables false
set_option linter.unusedSimpArgs false

/-! ### spec_ClearBetween: function 84 -/
mutual
def spec_ClearBetween.l0 : Nat → List (S89) → List Int → List Int → Int → List Int → List Int → Int → Option (Int)
 | 0, _, _, _, _, _, _, _ => none
 | k + 1, x0, x1, x2, x7, x8, x9, x10 => if x10 < (x8.length : Int) then ((spec_IsTogether.f k x0 x1).bind fun t205 => (if t205 = true then ((spec_IsTogether.f k x0 x2).bind fun t206 => (spec_ClearBetween.j1 k x0 x1 x2 x7 x8 x9 x10 t206)) else (spec_ClearBetween.j1 k x0 x1 x2 x7 x8 x9 x10 false))) else (spec_ClearBetween.j1 k x0 x1 x2 x7 x8 x9 x10 false)
def spec_ClearBetween.j1 : Nat → List (S89) → List Int → List Int → Int → List Int → List Int → Int → Bool → Option (Int)
 | 0, _, _, _, _, _, _, _, _ => none
 | k + 1, x0, x1, x2, x7, x8, x9, x10, x32 => if x32 = true then (spec_ClearBetween.l1 k x0 x1 x2 x7 x8 x9 x10 0) else (some x7)
def spec_ClearBetween.l1 : Nat → List (S89) → List Int → List Int → Int → List Int → List Int → Int → Int → Option (Int)
 | 0, _, _, _, _, _, _, _, _ => none
 | k + 1, x0, x1, x2, x7, x8, x9, x10, x11 => if x11 < (x9.length : Int) then (if 0 ≤ x10 then (if x10 < (x8.length : Int) then ((spec_FindPath.f k x0 (rd x8 x10)).bind fun t208 => (if 0 ≤ t208 then (if t208 < (x0.length : Int) then (if 0 ≤ x11 then ((spec_FindPath.f k x0 (rd x9 x11)).bind fun t212 => (if 0 ≤ t212 then (if t212 < (x0.length : Int) then ((spec_Conflict.f k ((rd_T89 x0 t208).f0) ((rd_T89 x0 t208).f1) ((rd_T89 x0 t208).f2) ((rd_T89 x0 t208).f3) ((rd_T89 x0 t212).f0) ((rd_T89 x0 t212).f1) ((rd_T89 x0 t212).f2) ((rd_T89 x0 t212).f3)).bind fun t214 => (if t214 = true then ((spec_ClearOf.f ((rd_T89 x0 t208).f0) ((rd_T89 x0 t208).f1) ((rd_T89 x0 t208).f2) ((rd_T89 x0 t208).f3)).bind fun t215 => ((spec_Max.f x7 t215).bind fun t216 => (spec_ClearBetween.l1 k x0 x1 x2 t216 x8 x9 x10 (wrap64 (x11 + 1))))) else (spec_ClearBetween.l1 k x0 x1 x2 x7 x8 x9 x10 (wrap64 (x11 + 1))))) else (none)) else (none))) else (none)) else (none)) else (none))) else (none)) else (none)) else (spec_ClearBetween.l0 k x0 x1 x2 x7 x8 x9 (wrap64 (x10 + 1)))
end
def spec_ClearBetween.f (k : Nat) (l0 : List (S89)) (l1 : List Int) (l2 : List Int) : Option (Int) := (spec_Closes.f k l1 l2).bind fun t199 => ((spec_Closes.f k l2 l1).bind fun t202 => (spec_ClearBetween.l0 k l0 l1 l2 0 t199 t202 0))
theorem spec_ClearBetween.mono_l : ∀ k, (∀ y0 y1 y2 y3 y4 y5 y6, LeO (spec_ClearBetween.l0 k y0 y1 y2 y3 y4 y5 y6) (spec_ClearBetween.l0 (k + 1) y0 y1 y2 y3 y4 y5 y6)) ∧ (∀ y0 y1 y2 y3 y4 y5 y6 y7, LeO (spec_ClearBetween.j1 k y0 y1 y2 y3 y4 y5 y6 y7) (spec_ClearBetween.j1 (k + 1) y0 y1 y2 y3 y4 y5 y6 y7)) ∧ (∀ y0 y1 y2 y3 y4 y5 y6 y7, LeO (spec_ClearBetween.l1 k y0 y1 y2 y3 y4 y5 y6 y7) (spec_ClearBetween.l1 (k + 1) y0 y1 y2 y3 y4 y5 y6 y7))
 | 0 => ⟨fun _ _ _ _ _ _ _ r h => by simp [spec_ClearBetween.l0] at h, fun _ _ _ _ _ _ _ _ r h => by simp [spec_ClearBetween.j1] at h, fun _ _ _ _ _ _ _ _ r h => by simp [spec_ClearBetween.l1] at h⟩
 | k + 1 => by
  obtain ⟨ih0, ih1, ih2⟩ := spec_ClearBetween.mono_l k
  refine ⟨?_, ?_, ?_⟩
  ·
   intro y0 y1 y2 y3 y4 y5 y6
   unfold spec_ClearBetween.l0
   exact mz7 ih0 ih1 ih2 spec_Closes.mono spec_Conflict.mono spec_FindPath.mono spec_IsTogether.mono
  ·
   intro y0 y1 y2 y3 y4 y5 y6 y7
   unfold spec_ClearBetween.j1
   exact mz7 ih0 ih1 ih2 spec_Closes.mono spec_Conflict.mono spec_FindPath.mono spec_IsTogether.mono
  ·
   intro y0 y1 y2 y3 y4 y5 y6 y7
   unfold spec_ClearBetween.l1
   exact mz7 ih0 ih1 ih2 spec_Closes.mono spec_Conflict.mono spec_FindPath.mono spec_IsTogether.mono
theorem spec_ClearBetween.mono : ∀ a0 a1 a2 k, LeO (spec_ClearBetween.f k a0 a1 a2) (spec_ClearBetween.f (k + 1) a0 a1 a2) := by
 intro a0 a1 a2 k
 obtain ⟨ih0, ih1, ih2⟩ := spec_ClearBetween.mono_l k
 unfold spec_ClearBetween.f
 exact mz7 ih0 ih1 ih2 spec_Closes.mono spec_Conflict.mono spec_FindPath.mono spec_IsTogether.mono
def spec_ClearBetween.T11 : Bool × List (List Nat × List Nat) := (true, [([], []), ([], []), ([], []), ([], []), ([], []), ([3, 4], [3, 4]), ([5], [5]), ([2, 6], [2, 6]), ([1, 7], [1, 7]), ([8], [8]), ([0, 9, 7], [0, 9])])
def spec_ClearBetween.B11 : List Nat := [0, 0, 0, 0, 0, 24, 56, 124, 254, 510, 1023]
theorem spec_ClearBetween.tab11 : rtab .any (opsOf Try.f84 11) = spec_ClearBetween.T11 := by kernel_rfl
theorem spec_ClearBetween.bits11 : waitsOk spec_ClearBetween.T11.2 spec_ClearBetween.B11 = true := by kernel_rfl
set_option maxHeartbeats 8000000 in
set_option maxRecDepth 100000 in
theorem spec_ClearBetween.calls (k : Nat) (A0 : Option Addr) (c0 : Nat) (l0 : List (S89)) (A1 : Option Addr) (c1 : Nat) (l1 : List Int) (A2 : Option Addr) (c2 : Nat) (l2 : List Int) (r : Int) (w : World) (hr0 : Kd.C k89 w A0 l0.length l0) (hc0 : l0.length ≤ c0) (hr1 : Kd.C (Kd.int .i64) w A1 l1.length l1) (hc1 : l1.length ≤ c1) (hr2 : Kd.C (Kd.int .i64) w A2 l2.length l2) (hc2 : l2.length ≤ c2) (h : spec_ClearBetween.f k l0 l1 l2 = some r) :
  Calls Try.prog 84 #[.slice A0 l0.length c0, .slice A1 l1.length c1, .slice A2 l2.length c2] w fun e w' => e = .returned (.int .i64 r) ∧ Below w.heap.size w w' := by
 have hu89 := Try.underlying89
 have HR0 := Aside0.mk hr0
 have HC0 := Aside0.mk hc0
 clear hr0 hc0
 have HR1 := Aside0.mk hr1
 have HC1 := Aside0.mk hc1
 clear hr1 hc1
 have HR2 := Aside0.mk hr2
 have HC2 := Aside0.mk hc2
 clear hr2 hc2
 have HB := Aside0.mk (Below.refl w.heap.size w)
 have H : ((spec_Closes.f k l1 l2).bind fun t199 => ((spec_Closes.f k l2 l1).bind fun t202 => (spec_ClearBetween.l0 k l0 l1 l2 0 t199 t202 0))) = some r := h
 clear h
 obtain ⟨t199, A4, H⟩ := bindE H
 try dsimp only at H
 obtain ⟨t202, A5, H⟩ := bindE H
 try dsimp only at H
 have H' := Aside0.mk H
 clear H
 go_enter Try.func84, Try.ntmps84
 go_wp2_with (first | ((with_reducible refine gate_callee (f := 130) rfl ?_); refine gL (some 15) Try.func130 #[.slice A1 l1.length c1, .slice A2 l2.length c2] ?_; (with_reducible refine (spec_Closes.calls k _ _ l1 _ _ l2 t199 _ ?_ ?_ ?_ ?_ A4.out).mono ?_); exact cO HR1; exact HC1.out; exact cO HR2; exact HC2.out; rintro e w6 ⟨v200, rfl, ho0, hb⟩; refine ⟨_, rfl, ?_⟩; have HO201 := rl w ho0; replace HB := bs HB hb; (try clear hb); (try clear ho0)) | ((with_reducible refine gate_callee (f := 130) rfl ?_); refine gL (some 18) Try.func130 #[.slice A2 l2.length c2, .slice A1 l1.length c1] ?_; (with_reducible refine (spec_Closes.calls k _ _ l2 _ _ l1 t202 _ ?_ ?_ ?_ ?_ A5.out).mono ?_); exact cB HR2; exact HC2.out; exact cB HR1; exact HC1.out; rintro e w7 ⟨v203, rfl, ho0, hb⟩; refine ⟨_, rfl, ?_⟩; have HO204 := rl w (rn ho0 HO201); replace HO201 := re HO201 ho0 hb; replace HB := bs HB hb; (try clear hb); (try clear ho0)))
 go_loopg [7, 10] k (fun kq v7 v10 w' => ∃ (x7_1 : Int) (x10_1 : Int), v7 = .int .i64 x7_1 ∧ v10 = .int .i64 x10_1 ∧ Aside0 (spec_ClearBetween.l0 kq l0 l1 l2 x7_1 t199 t202 x10_1 = some r) ∧ Aside0 (kq ≤ k) ∧ Aside0 (Kd.R (Kd.int .i64) 3 w' w.heap.size (n1 v203) v200 t199) ∧ Aside0 (Kd.R (Kd.int .i64) 3 w' w.heap.size (n1 v200) v203 t202) ∧ Aside0 (Below w.heap.size w w'))
 case atStart => exact ⟨(0), (0), rS, rS, H', ⟨Nat.le_refl _⟩, ⟨rm HO201 (fun _ hk => hk.2)⟩, ⟨rm HO204 (fun _ hk => hk.2)⟩, ⟨bA⟩⟩
 case round =>
  clear H'
  obtain ⟨x7_1, x10_1, rfl, rfl, HA, HK1, HO_8, HO_9, HB⟩ := hrel
  cases gk with
  | zero => exact absurd HA.out (by simp [spec_ClearBetween.l0])
  | succ k1 =>
   have H := HA.out
   clear HA
   simp only [spec_ClearBetween.l0] at H
   have HC8 := Aside0.mk H
   clear H
   go_upto_region 5 with (fail)
   go_cut [32] (fun v32 wc => ∃ (kq : Nat) (x32_7 : Bool), v32 = .bool x32_7 ∧ Aside0 (spec_ClearBetween.j1 kq l0 l1 l2 x7_1 t199 t202 x10_1 x32_7 = some r) ∧ Aside0 (kq ≤ k1) ∧ Aside0 (Kd.R (Kd.int .i64) 3 wc w.heap.size (n1 v203) v200 t199) ∧ Aside0 (Kd.R (Kd.int .i64) 3 wc w.heap.size (n1 v200) v203 t202) ∧ Aside0 (Below w.heap.size w wc))
   case first =>
    have H := HC8.out
    clear HC8
    by_cases c9 : x10_1 < (t199.length : Int)
    ·
     rw [if_pos c9] at H
     have c9b0 := decide_eq_true c9
     clear c9
     (first | rw [c9b0] | (simp only [i64_w, i32_w]; rw [c9b0]) | skip)
     obtain ⟨t205, A10, H⟩ := bindE H
     try dsimp only at H
     by_cases c11 : t205 = true
     ·
      subst c11
      have H1 : ((spec_IsTogether.f k1 l0 l2).bind fun t206 => (spec_ClearBetween.j1 k1 l0 l1 l2 x7_1 t199 t202 x10_1 t206)) = some r := by rw [if_pos rfl] at H; exact H
      clear H
      have H := H1
      clear H1
      obtain ⟨t206, A12, H⟩ := bindE H
      try dsimp only at H
      have H' := Aside0.mk H
      clear H
      obtain ⟨Ao13, co13, eo13⟩ := Kd.R_slice HO_8.out
      subst eo13
      go_wp2_with (first | (go_at_call 82; (with_reducible refine (spec_IsTogether.calls k1 _ _ l0 _ _ l1 true _ ?_ ?_ ?_ ?_ A10.out).mono ?_); exact cB HR0; exact HC0.out; exact cB HR1; exact HC1.out; rintro e w14 ⟨rfl, hb⟩; replace HO_8 := rb HO_8 hb; replace HO_9 := rb HO_9 hb; replace HB := bs HB hb; (try clear hb)) | (go_at_call 82; (with_reducible refine (spec_IsTogether.calls k1 _ _ l0 _ _ l2 t206 _ ?_ ?_ ?_ ?_ A12.out).mono ?_); exact cB HR0; exact HC0.out; exact cB HR2; exact HC2.out; rintro e w15 ⟨rfl, hb⟩; replace HO_8 := rb HO_8 hb; replace HO_9 := rb HO_9 hb; replace HB := bs HB hb; (try clear hb)))
      go_meet
      case rel => exact ⟨_, (t206), rS, H', ⟨by have := HK1.out; first | omega | exact Nat.le_refl _⟩, ⟨rK HO_8⟩, ⟨rK HO_9⟩, ⟨bA⟩⟩
     replace c11 := Bool.eq_false_iff.mpr c11
     subst c11
     have H1 : (spec_ClearBetween.j1 k1 l0 l1 l2 x7_1 t199 t202 x10_1 false) = some r := by rw [if_neg (show ¬ (false = true) by decide)] at H; exact H
     clear H
     have H := H1
     clear H1
     have H' := Aside0.mk H
     clear H
     obtain ⟨Ao16, co16, eo16⟩ := Kd.R_slice HO_8.out
     subst eo16
     go_wp2_with (first | (go_at_call 82; (with_reducible refine (spec_IsTogether.calls k1 _ _ l0 _ _ l1 false _ ?_ ?_ ?_ ?_ A10.out).mono ?_); exact cB HR0; exact HC0.out; exact cB HR1; exact HC1.out; rintro e w17 ⟨rfl, hb⟩; replace HO_8 := rb HO_8 hb; replace HO_9 := rb HO_9 hb; replace HB := bs HB hb; (try clear hb)))
     go_meet
     case rel => exact ⟨_, (false), rS, H', ⟨by have := HK1.out; first | omega | exact Nat.le_refl _⟩, ⟨rK HO_8⟩, ⟨rK HO_9⟩, ⟨bA⟩⟩
    rw [if_neg c9] at H
    have c9b0 := decide_eq_false c9
    clear c9
    (first | rw [c9b0] | (simp only [i64_w, i32_w]; rw [c9b0]) | skip)
    have H' := Aside0.mk H
    clear H
    obtain ⟨Ao18, co18, eo18⟩ := Kd.R_slice HO_8.out
    subst eo18
    go_wp2
    go_meet
    case rel => exact ⟨_, (false), rS, H', ⟨by have := HK1.out; first | omega | exact Nat.le_refl _⟩, ⟨rK HO_8⟩, ⟨rK HO_9⟩, ⟨bA⟩⟩
   case rest =>
    clear HC8
    obtain ⟨kq, x32_7, rfl, HA, HJ7, HO_8, HO_9, HB⟩ := hcut
    cases kq with
    | zero => exact absurd HA.out (by simp [spec_ClearBetween.j1])
    | succ kj7 =>
     have H := HA.out
     clear HA
     simp only [spec_ClearBetween.j1] at H
     by_cases c19 : x32_7 = true
     ·
      subst c19
      have H1 : (spec_ClearBetween.l1 kj7 l0 l1 l2 x7_1 t199 t202 x10_1 0) = some r := by rw [if_pos rfl] at H; exact H
      clear H
      have H := H1
      clear H1
      have H' := Aside0.mk H
      clear H
      go_wp2
      go_loopg [7, 11] kj7 (fun kq v7 v11 w' => ∃ (x7_3 : Int) (x11_3 : Int), v7 = .int .i64 x7_3 ∧ v11 = .int .i64 x11_3 ∧ Aside0 (spec_ClearBetween.l1 kq l0 l1 l2 x7_3 t199 t202 x10_1 x11_3 = some r) ∧ Aside0 (kq ≤ kj7) ∧ Aside0 (Kd.R (Kd.int .i64) 3 w' w.heap.size (n1 v203) v200 t199) ∧ Aside0 (Kd.R (Kd.int .i64) 3 w' w.heap.size (n1 v200) v203 t202) ∧ Aside0 (Below w.heap.size w w'))
      case atStart => exact ⟨(x7_1), (0), rS, rS, H', ⟨Nat.le_refl _⟩, ⟨rK HO_8⟩, ⟨rK HO_9⟩, ⟨bA⟩⟩
      case round =>
       clear H'
       obtain ⟨x7_3, x11_3, rfl, rfl, HA, HK3, HO_8, HO_9, HB⟩ := hrel
       cases gk with
       | zero => exact absurd HA.out (by simp [spec_ClearBetween.l1])
       | succ k3 =>
        have H := HA.out
        clear HA
        simp only [spec_ClearBetween.l1] at H
        by_cases c20 : x11_3 < (t202.length : Int)
        ·
         rw [if_pos c20] at H
         have c20b0 := decide_eq_true c20
         clear c20
         have c21 : 0 ≤ x10_1 := ifN H
         replace H := ifT H
         have c21b0 := decide_eq_true c21
         clear c21
         have c22 : x10_1 < (t199.length : Int) := ifN H
         replace H := ifT H
         have c22b0 := decide_eq_true c22
         clear c22
         obtain ⟨t208, A23, H⟩ := bindE H
         try dsimp only at H
         have c24 : 0 ≤ t208 := ifN H
         replace H := ifT H
         have c24b0 := decide_eq_true c24
         clear c24
         have c25 : t208 < (l0.length : Int) := ifN H
         replace H := ifT H
         have c25b0 := decide_eq_true c25
         clear c25
         have c26 : 0 ≤ x11_3 := ifN H
         replace H := ifT H
         have c26b0 := decide_eq_true c26
         clear c26
         obtain ⟨t212, A27, H⟩ := bindE H
         try dsimp only at H
         have c28 : 0 ≤ t212 := ifN H
         replace H := ifT H
         have c28b0 := decide_eq_true c28
         clear c28
         have c29 : t212 < (l0.length : Int) := ifN H
         replace H := ifT H
         have c29b0 := decide_eq_true c29
         clear c29
         obtain ⟨t214, A30, H⟩ := bindE H
         try dsimp only at H
         by_cases c31 : t214 = true
         ·
          subst c31
          have H1 : ((spec_ClearOf.f ((rd_T89 l0 t208).f0) ((rd_T89 l0 t208).f1) ((rd_T89 l0 t208).f2) ((rd_T89 l0 t208).f3)).bind fun t215 => ((spec_Max.f x7_3 t215).bind fun t216 => (spec_ClearBetween.l1 k3 l0 l1 l2 t216 t199 t202 x10_1 (wrap64 (x11_3 + 1))))) = some r := by rw [if_pos rfl] at H; exact H
          clear H
          have H := H1
          clear H1
          obtain ⟨t215, A32, H⟩ := bindE H
          try dsimp only at H
          obtain ⟨t216, A33, H⟩ := bindE H
          try dsimp only at H
          have H' := Aside0.mk H
          clear H
          obtain ⟨Ao34, co34, eo34⟩ := Kd.R_slice HO_9.out
          subst eo34
          obtain ⟨Ao35, co35, eo35⟩ := Kd.R_slice HO_8.out
          subst eo35
          obtain ⟨p207, q207⟩ : 0 ≤ (x10_1 : Int) ∧ x10_1 < (t199.length : Int) := ⟨dA, dA⟩
          obtain ⟨ad207, e207, hx207_0⟩ := Kd.at_int (Kd.R_reads' HO_8.out).2.2 x10_1 p207 q207
          cases e207
          obtain ⟨p207, q207⟩ := eT p207 q207
          try go_wp2_with (first | ((with_reducible refine gate_callee (f := 116) rfl ?_); refine gL (some 47) Try.func116 #[.slice A0 l0.length c0, .int .i64 (rd t199 x10_1)] ?_; (with_reducible refine (spec_FindPath.calls k3 _ _ l0 (rd t199 x10_1) t208 _ ?_ ?_ A23.out).mono ?_); exact cB HR0; exact HC0.out; rintro e w' ⟨rfl, ⟨nd, rfl⟩⟩; refine ⟨_, rfl, ?_⟩; (try (rw [drewN_self wr]; generalize hq_ : World.drewN wr _ = wr; have n0_ : Aside0 (Kd.R (Kd.int .i64) 3 wr w.heap.size (n1 (.slice Ao34 t202.length co34)) (.slice (some ad207) t199.length co35) t199) := ⟨by rw [← hq_]; exact (rK HO_8)⟩; have n1_ : Aside0 (Kd.R (Kd.int .i64) 3 wr w.heap.size (n1 (.slice (some ad207) t199.length co35)) (.slice Ao34 t202.length co34) t202) := ⟨by rw [← hq_]; exact (rK HO_9)⟩; have n2_ : Aside0 (Below w.heap.size w wr) := ⟨by rw [← hq_]; exact bA⟩; clear HO_8 HO_9 HB hq_; have HO_8 := n0_; have HO_9 := n1_; have HB := n2_; clear n0_ n1_ n2_)); have p209 : 0 ≤ (t208 : Int) := dA; have q209 : t208 < (l0.length : Int) := dA; obtain ⟨ad209, e209, hx209_0, hx209_1, hx209_2, hx209_3⟩ := at_T89 HR0.out t208 p209 q209; cases e209; replace hx209_0 := hC HB hx209_0; replace hx209_1 := hC HB hx209_1; replace hx209_2 := hC HB hx209_2; replace hx209_3 := hC HB hx209_3; replace p209 := eq_true p209; replace q209 := eq_true q209) | ((with_reducible refine gate_dst (N := 12) rfl ?_); refine bE (N := 12) (cs := #[.int .i64 0, .int .i64 0, .int .i64 0, .int .i64 0]) (t := 89) ?_; intro gb210 hg w36 hbox hb; replace HO_8 := rb HO_8 hb; replace HO_9 := rb HO_9 hb; have BK210 := Aside0.mk (hbox); have GW210 := gw w hg; have GE210 := gw w hg; replace HB := bs HB hb; clear hb hbox hg; obtain ⟨_, _, _, _, _, _, _, _⟩ := blkc4 BK210))
          have n0_ : Aside0 (Kd.R (Kd.int .i64) 3 ((((w36.setCell ⟨gb210, 0, none⟩ (.int .i64 ((rd_T89 l0 t208).f0))).setCell ⟨gb210, 1, none⟩ (.int .i64 ((rd_T89 l0 t208).f1))).setCell ⟨gb210, 2, none⟩ (.int .i64 ((rd_T89 l0 t208).f2))).setCell ⟨gb210, 3, none⟩ (.int .i64 ((rd_T89 l0 t208).f3))) w.heap.size (n1 (.slice Ao34 t202.length co34)) (.slice (some ad207) t199.length co35) t199) := ⟨rf HO_8 BK210⟩
          have n1_ : Aside0 (Kd.R (Kd.int .i64) 3 ((((w36.setCell ⟨gb210, 0, none⟩ (.int .i64 ((rd_T89 l0 t208).f0))).setCell ⟨gb210, 1, none⟩ (.int .i64 ((rd_T89 l0 t208).f1))).setCell ⟨gb210, 2, none⟩ (.int .i64 ((rd_T89 l0 t208).f2))).setCell ⟨gb210, 3, none⟩ (.int .i64 ((rd_T89 l0 t208).f3))) w.heap.size (n1 (.slice (some ad207) t199.length co35)) (.slice Ao34 t202.length co34) t202) := ⟨rf HO_9 BK210⟩
          have n2_ : Aside0 (((((w36.setCell ⟨gb210, 0, none⟩ (.int .i64 ((rd_T89 l0 t208).f0))).setCell ⟨gb210, 1, none⟩ (.int .i64 ((rd_T89 l0 t208).f1))).setCell ⟨gb210, 2, none⟩ (.int .i64 ((rd_T89 l0 t208).f2))).setCell ⟨gb210, 3, none⟩ (.int .i64 ((rd_T89 l0 t208).f3))).heap[gb210]? = some (.cells #[.int .i64 ((rd_T89 l0 t208).f0), .int .i64 ((rd_T89 l0 t208).f1), .int .i64 ((rd_T89 l0 t208).f2), .int .i64 ((rd_T89 l0 t208).f3)] 89 (0, 0))) := ⟨kp BK210⟩
          have n3_ : Aside0 (Below w.heap.size w ((((w36.setCell ⟨gb210, 0, none⟩ (.int .i64 ((rd_T89 l0 t208).f0))).setCell ⟨gb210, 1, none⟩ (.int .i64 ((rd_T89 l0 t208).f1))).setCell ⟨gb210, 2, none⟩ (.int .i64 ((rd_T89 l0 t208).f2))).setCell ⟨gb210, 3, none⟩ (.int .i64 ((rd_T89 l0 t208).f3)))) := ⟨bG⟩
          (try clear HO_8)
          (try clear HO_9)
          (try clear BK210)
          (try clear HB)
          generalize ((((w36.setCell ⟨gb210, 0, none⟩ (.int .i64 ((rd_T89 l0 t208).f0))).setCell ⟨gb210, 1, none⟩ (.int .i64 ((rd_T89 l0 t208).f1))).setCell ⟨gb210, 2, none⟩ (.int .i64 ((rd_T89 l0 t208).f2))).setCell ⟨gb210, 3, none⟩ (.int .i64 ((rd_T89 l0 t208).f3))) = w38 at n0_ n1_ n2_ n3_ ⊢
          have HO_8 := n0_
          have HO_9 := n1_
          have BK210 := n2_
          have HB := n3_
          clear n0_ n1_ n2_ n3_
          replace HO_8 := dr HO_8
          replace HO_9 := dr HO_9
          replace BK210 := dk BK210
          have HBo := HB
          replace HB := db HB
          obtain ⟨p211, q211⟩ : 0 ≤ (x11_3 : Int) ∧ x11_3 < (t202.length : Int) := ⟨dA, dA⟩
          obtain ⟨ad211, e211, hx211_0⟩ := Kd.at_int (Kd.R_reads' HO_9.out).2.2 x11_3 p211 q211
          cases e211
          obtain ⟨p211, q211⟩ := eT p211 q211
          obtain ⟨p213, q213⟩ : 0 ≤ (t212 : Int) ∧ t212 < (l0.length : Int) := ⟨dA, dA⟩
          obtain ⟨ad213, e213, hx213_0, hx213_1, hx213_2, hx213_3⟩ := at_T89 HR0.out t212 p213 q213
          have hw213_3 := hx213_3
          have hw213_2 := hx213_2
          have hw213_1 := hx213_1
          have hw213_0 := hx213_0
          obtain rfl : ad209 = ad213 := (by injection e213)
          replace hx213_0 := hC HB hx213_0
          replace hx213_1 := hC HB hx213_1
          replace hx213_2 := hC HB hx213_2
          replace hx213_3 := hC HB hx213_3
          obtain ⟨p213, q213⟩ := eT p213 q213
          refine start_ (n := 11) (S := fun w' => w'.cell? ⟨gb210, 0, none⟩ = some (.int .i64 ((rd_T89 l0 t208).f0)) ∧ w'.cell? ⟨gb210, 1, none⟩ = some (.int .i64 ((rd_T89 l0 t208).f1)) ∧ w'.cell? ⟨gb210, 2, none⟩ = some (.int .i64 ((rd_T89 l0 t208).f2)) ∧ w'.cell? ⟨gb210, 3, none⟩ = some (.int .i64 ((rd_T89 l0 t208).f3)) ∧ w'.cell? (ad211.add (x11_3).toNat) = some (.int .i64 (rd t202 x11_3)) ∧ w'.cell? (ad209.add ((t212).toNat * 4)) = some (.int .i64 ((rd_T89 l0 t212).f0)) ∧ w'.cell? ⟨(ad209.add ((t212).toNat * 4)).block, (ad209.add ((t212).toNat * 4)).off + 1, none⟩ = some (.int .i64 ((rd_T89 l0 t212).f1)) ∧ w'.cell? ⟨(ad209.add ((t212).toNat * 4)).block, (ad209.add ((t212).toNat * 4)).off + 2, none⟩ = some (.int .i64 ((rd_T89 l0 t212).f2)) ∧ w'.cell? ⟨(ad209.add ((t212).toNat * 4)).block, (ad209.add ((t212).toNat * 4)).off + 3, none⟩ = some (.int .i64 ((rd_T89 l0 t212).f3))) (ds := []) (mb 11 0) (by kernel_rfl) rfl rfl (cm4 BK210 ⟨hx211_0, (hC HB hw213_0), (hC HB hw213_1), (hC HB hw213_2), (hC HB hw213_3)⟩) (fun hHeld => ?_); refine with_tabW spec_ClearBetween.tab11 spec_ClearBetween.bits11 (fun HT_ HW_ => ?_)
          generalize w38.drew = w39 at HO_8 HO_9 BK210 HB hx211_0 hx213_0 hx213_1 hx213_2 hx213_3 hHeld ⊢
          refine pa 1 51 (mb 11 2) HT_ ?_
          refine pa 2 52 (mb 11 6) HT_ ?_
          refine pa 3 53 (mb 11 14) HT_ ?_
          refine pa 4 54 (mb 11 30) HT_ ?_
          refine pa 5 55 (mb 11 62) HT_ ?_
          refine ta9 0 50 (mb 11 63) HT_ HW_ hHeld ?_
          refine ta9 6 56 (mb 11 127) HT_ HW_ hHeld ?_
          refine oa 7 57 (mb 11 255) HT_ (fun K hK => ?_)
          refine gA Try.func116 #[.slice (some ad209) l0.length c0, .int .i64 (rd t202 x11_3)] ?_
          with_reducible refine (spec_FindPath.calls k3 _ _ l0 (rd t202 x11_3) t212 _ ?side1 ?side2 A27.out).mono ?_
          (case side1 => exact cB HR0)
          (case side2 => exact HC0.out)
          rintro e w' ⟨rfl, ⟨nd, rfl⟩⟩
          refine ⟨_, rfl, ?_⟩
          refine hK.out _ _ (cm4 BK210 ⟨hHeld.2.2.2.2.1, (hC HB hw213_0), (hC HB hw213_1), (hC HB hw213_2), (hC HB hw213_3)⟩) (fun hHeld => ?_)
          clear hK K
          refine nB ?_
          refine pa 8 58 (mb 11 511) HT_ ?_
          refine ta9 9 59 (mb 11 1023) HT_ HW_ hHeld ?_
          refine oa 10 60 (mb 11 2047) HT_ (fun K hK => ?_)
          refine gA Try.func129 #[.agg #[.int .i64 ((rd_T89 l0 t208).f0), .int .i64 ((rd_T89 l0 t208).f1), .int .i64 ((rd_T89 l0 t208).f2), .int .i64 ((rd_T89 l0 t208).f3)], .agg #[.int .i64 ((rd_T89 l0 t212).f0), .int .i64 ((rd_T89 l0 t212).f1), .int .i64 ((rd_T89 l0 t212).f2), .int .i64 ((rd_T89 l0 t212).f3)]] ?_
          with_reducible refine (spec_Conflict.calls k3 ((rd_T89 l0 t208).f0) ((rd_T89 l0 t208).f1) ((rd_T89 l0 t208).f2) ((rd_T89 l0 t208).f3) ((rd_T89 l0 t212).f0) ((rd_T89 l0 t212).f1) ((rd_T89 l0 t212).f2) ((rd_T89 l0 t212).f3) true _ A30.out).mono ?_
          rintro e w40 ⟨rfl, hb⟩
          have HS4_ := (hb.cell (World.block_lt_of_cell? _ _ (hHeld.2.2.2.2.1))).trans (hHeld.2.2.2.2.1)
          refine ⟨_, rfl, ?_⟩
          replace HO_8 := rb HO_8 hb
          replace HO_9 := rb HO_9 hb
          replace BK210 := kb BK210 hb
          replace HB := bs HB hb
          (try clear hb)
          (try clear hb2)
          (try clear hk)
          (try clear hi)
          refine hK.out _ _ (cm4 BK210 ⟨HS4_, (hC HB hw213_0), (hC HB hw213_1), (hC HB hw213_2), (hC HB hw213_3)⟩) (fun hHeld => ?_)
          clear hK K
          refine nB ?_
          refine eA HT_ ?_
          obtain ⟨_, _, _, _, _, _, _, _⟩ := blkc4 BK210
          try go_wp2_with (first | ((with_reducible refine gate_callee (f := 132) rfl ?_); refine gL (some 63) Try.func132 #[.agg #[.int .i64 ((rd_T89 l0 t208).f0), .int .i64 ((rd_T89 l0 t208).f1), .int .i64 ((rd_T89 l0 t208).f2), .int .i64 ((rd_T89 l0 t208).f3)]] ?_; (with_reducible refine (spec_ClearOf.calls ((rd_T89 l0 t208).f0) ((rd_T89 l0 t208).f1) ((rd_T89 l0 t208).f2) ((rd_T89 l0 t208).f3) t215 _ A32.out).mono ?_); rintro e w42 ⟨rfl, hb⟩; refine ⟨_, rfl, ?_⟩; replace HO_8 := rb HO_8 hb; replace HO_9 := rb HO_9 hb; replace BK210 := kb BK210 hb; replace HB := bs HB hb; (try clear hb)) | ((with_reducible refine gate_callee (f := 131) rfl ?_); refine gL (some 64) Try.func131 #[.int .i64 x7_3, .int .i64 t215] ?_; (with_reducible refine (spec_Max.calls x7_3 t215 t216 _ A33.out).mono ?_); rintro e w' ⟨rfl, ⟨nd, rfl⟩⟩; refine ⟨_, rfl, ?_⟩))
          go_roundg k3
          case measure => have := HK1.out; have := HJ7.out; have := HK3.out; omega
          case rel => exact ⟨(t216), (wrap64 (x11_3 + 1)), rS, rS, H', ⟨by have := HK1.out; have := HJ7.out; have := HK3.out; omega⟩, ⟨rK HO_8⟩, ⟨rK HO_9⟩, ⟨bG⟩⟩
         replace c31 := Bool.eq_false_iff.mpr c31
         subst c31
         have H1 : (spec_ClearBetween.l1 k3 l0 l1 l2 x7_3 t199 t202 x10_1 (wrap64 (x11_3 + 1))) = some r := by rw [if_neg (show ¬ (false = true) by decide)] at H; exact H
         clear H
         have H := H1
         clear H1
         have H' := Aside0.mk H
         clear H
         obtain ⟨Ao43, co43, eo43⟩ := Kd.R_slice HO_9.out
         subst eo43
         obtain ⟨Ao44, co44, eo44⟩ := Kd.R_slice HO_8.out
         subst eo44
         obtain ⟨p207, q207⟩ : 0 ≤ (x10_1 : Int) ∧ x10_1 < (t199.length : Int) := ⟨dA, dA⟩
         obtain ⟨ad207, e207, hx207_0⟩ := Kd.at_int (Kd.R_reads' HO_8.out).2.2 x10_1 p207 q207
         cases e207
         obtain ⟨p207, q207⟩ := eT p207 q207
         try go_wp2_with (first | ((with_reducible refine gate_callee (f := 116) rfl ?_); refine gL (some 47) Try.func116 #[.slice A0 l0.length c0, .int .i64 (rd t199 x10_1)] ?_; (with_reducible refine (spec_FindPath.calls k3 _ _ l0 (rd t199 x10_1) t208 _ ?_ ?_ A23.out).mono ?_); exact cB HR0; exact HC0.out; rintro e w' ⟨rfl, ⟨nd, rfl⟩⟩; refine ⟨_, rfl, ?_⟩; (try (rw [drewN_self wr]; generalize hq_ : World.drewN wr _ = wr; have n0_ : Aside0 (Kd.R (Kd.int .i64) 3 wr w.heap.size (n1 (.slice Ao43 t202.length co43)) (.slice (some ad207) t199.length co44) t199) := ⟨by rw [← hq_]; exact (rK HO_8)⟩; have n1_ : Aside0 (Kd.R (Kd.int .i64) 3 wr w.heap.size (n1 (.slice (some ad207) t199.length co44)) (.slice Ao43 t202.length co43) t202) := ⟨by rw [← hq_]; exact (rK HO_9)⟩; have n2_ : Aside0 (Below w.heap.size w wr) := ⟨by rw [← hq_]; exact bA⟩; clear HO_8 HO_9 HB hq_; have HO_8 := n0_; have HO_9 := n1_; have HB := n2_; clear n0_ n1_ n2_)); have p209 : 0 ≤ (t208 : Int) := dA; have q209 : t208 < (l0.length : Int) := dA; obtain ⟨ad209, e209, hx209_0, hx209_1, hx209_2, hx209_3⟩ := at_T89 HR0.out t208 p209 q209; cases e209; replace hx209_0 := hC HB hx209_0; replace hx209_1 := hC HB hx209_1; replace hx209_2 := hC HB hx209_2; replace hx209_3 := hC HB hx209_3; replace p209 := eq_true p209; replace q209 := eq_true q209) | ((with_reducible refine gate_dst (N := 12) rfl ?_); refine bE (N := 12) (cs := #[.int .i64 0, .int .i64 0, .int .i64 0, .int .i64 0]) (t := 89) ?_; intro gb210 hg w45 hbox hb; replace HO_8 := rb HO_8 hb; replace HO_9 := rb HO_9 hb; have BK210 := Aside0.mk (hbox); have GW210 := gw w hg; have GE210 := gw w hg; replace HB := bs HB hb; clear hb hbox hg; obtain ⟨_, _, _, _, _, _, _, _⟩ := blkc4 BK210))
         have n0_ : Aside0 (Kd.R (Kd.int .i64) 3 ((((w45.setCell ⟨gb210, 0, none⟩ (.int .i64 ((rd_T89 l0 t208).f0))).setCell ⟨gb210, 1, none⟩ (.int .i64 ((rd_T89 l0 t208).f1))).setCell ⟨gb210, 2, none⟩ (.int .i64 ((rd_T89 l0 t208).f2))).setCell ⟨gb210, 3, none⟩ (.int .i64 ((rd_T89 l0 t208).f3))) w.heap.size (n1 (.slice Ao43 t202.length co43)) (.slice (some ad207) t199.length co44) t199) := ⟨rf HO_8 BK210⟩
         have n1_ : Aside0 (Kd.R (Kd.int .i64) 3 ((((w45.setCell ⟨gb210, 0, none⟩ (.int .i64 ((rd_T89 l0 t208).f0))).setCell ⟨gb210, 1, none⟩ (.int .i64 ((rd_T89 l0 t208).f1))).setCell ⟨gb210, 2, none⟩ (.int .i64 ((rd_T89 l0 t208).f2))).setCell ⟨gb210, 3, none⟩ (.int .i64 ((rd_T89 l0 t208).f3))) w.heap.size (n1 (.slice (some ad207) t199.length co44)) (.slice Ao43 t202.length co43) t202) := ⟨rf HO_9 BK210⟩
         have n2_ : Aside0 (((((w45.setCell ⟨gb210, 0, none⟩ (.int .i64 ((rd_T89 l0 t208).f0))).setCell ⟨gb210, 1, none⟩ (.int .i64 ((rd_T89 l0 t208).f1))).setCell ⟨gb210, 2, none⟩ (.int .i64 ((rd_T89 l0 t208).f2))).setCell ⟨gb210, 3, none⟩ (.int .i64 ((rd_T89 l0 t208).f3))).heap[gb210]? = some (.cells #[.int .i64 ((rd_T89 l0 t208).f0), .int .i64 ((rd_T89 l0 t208).f1), .int .i64 ((rd_T89 l0 t208).f2), .int .i64 ((rd_T89 l0 t208).f3)] 89 (0, 0))) := ⟨kp BK210⟩
         have n3_ : Aside0 (Below w.heap.size w ((((w45.setCell ⟨gb210, 0, none⟩ (.int .i64 ((rd_T89 l0 t208).f0))).setCell ⟨gb210, 1, none⟩ (.int .i64 ((rd_T89 l0 t208).f1))).setCell ⟨gb210, 2, none⟩ (.int .i64 ((rd_T89 l0 t208).f2))).setCell ⟨gb210, 3, none⟩ (.int .i64 ((rd_T89 l0 t208).f3)))) := ⟨bG⟩
         (try clear HO_8)
         (try clear HO_9)
         (try clear BK210)
         (try clear HB)
         generalize ((((w45.setCell ⟨gb210, 0, none⟩ (.int .i64 ((rd_T89 l0 t208).f0))).setCell ⟨gb210, 1, none⟩ (.int .i64 ((rd_T89 l0 t208).f1))).setCell ⟨gb210, 2, none⟩ (.int .i64 ((rd_T89 l0 t208).f2))).setCell ⟨gb210, 3, none⟩ (.int .i64 ((rd_T89 l0 t208).f3))) = w47 at n0_ n1_ n2_ n3_ ⊢
         have HO_8 := n0_
         have HO_9 := n1_
         have BK210 := n2_
         have HB := n3_
         clear n0_ n1_ n2_ n3_
         replace HO_8 := dr HO_8
         replace HO_9 := dr HO_9
         replace BK210 := dk BK210
         have HBo := HB
         replace HB := db HB
         obtain ⟨p211, q211⟩ : 0 ≤ (x11_3 : Int) ∧ x11_3 < (t202.length : Int) := ⟨dA, dA⟩
         obtain ⟨ad211, e211, hx211_0⟩ := Kd.at_int (Kd.R_reads' HO_9.out).2.2 x11_3 p211 q211
         cases e211
         obtain ⟨p211, q211⟩ := eT p211 q211
         obtain ⟨p213, q213⟩ : 0 ≤ (t212 : Int) ∧ t212 < (l0.length : Int) := ⟨dA, dA⟩
         obtain ⟨ad213, e213, hx213_0, hx213_1, hx213_2, hx213_3⟩ := at_T89 HR0.out t212 p213 q213
         have hw213_3 := hx213_3
         have hw213_2 := hx213_2
         have hw213_1 := hx213_1
         have hw213_0 := hx213_0
         obtain rfl : ad209 = ad213 := (by injection e213)
         replace hx213_0 := hC HB hx213_0
         replace hx213_1 := hC HB hx213_1
         replace hx213_2 := hC HB hx213_2
         replace hx213_3 := hC HB hx213_3
         obtain ⟨p213, q213⟩ := eT p213 q213
         refine start_ (n := 11) (S := fun w' => w'.cell? ⟨gb210, 0, none⟩ = some (.int .i64 ((rd_T89 l0 t208).f0)) ∧ w'.cell? ⟨gb210, 1, none⟩ = some (.int .i64 ((rd_T89 l0 t208).f1)) ∧ w'.cell? ⟨gb210, 2, none⟩ = some (.int .i64 ((rd_T89 l0 t208).f2)) ∧ w'.cell? ⟨gb210, 3, none⟩ = some (.int .i64 ((rd_T89 l0 t208).f3)) ∧ w'.cell? (ad211.add (x11_3).toNat) = some (.int .i64 (rd t202 x11_3)) ∧ w'.cell? (ad209.add ((t212).toNat * 4)) = some (.int .i64 ((rd_T89 l0 t212).f0)) ∧ w'.cell? ⟨(ad209.add ((t212).toNat * 4)).block, (ad209.add ((t212).toNat * 4)).off + 1, none⟩ = some (.int .i64 ((rd_T89 l0 t212).f1)) ∧ w'.cell? ⟨(ad209.add ((t212).toNat * 4)).block, (ad209.add ((t212).toNat * 4)).off + 2, none⟩ = some (.int .i64 ((rd_T89 l0 t212).f2)) ∧ w'.cell? ⟨(ad209.add ((t212).toNat * 4)).block, (ad209.add ((t212).toNat * 4)).off + 3, none⟩ = some (.int .i64 ((rd_T89 l0 t212).f3))) (ds := []) (mb 11 0) (by kernel_rfl) rfl rfl (cm4 BK210 ⟨hx211_0, (hC HB hw213_0), (hC HB hw213_1), (hC HB hw213_2), (hC HB hw213_3)⟩) (fun hHeld => ?_); refine with_tabW spec_ClearBetween.tab11 spec_ClearBetween.bits11 (fun HT_ HW_ => ?_)
         generalize w47.drew = w48 at HO_8 HO_9 BK210 HB hx211_0 hx213_0 hx213_1 hx213_2 hx213_3 hHeld ⊢
         refine pa 1 51 (mb 11 2) HT_ ?_
         refine pa 2 52 (mb 11 6) HT_ ?_
         refine pa 3 53 (mb 11 14) HT_ ?_
         refine pa 4 54 (mb 11 30) HT_ ?_
         refine pa 5 55 (mb 11 62) HT_ ?_
         refine ta9 0 50 (mb 11 63) HT_ HW_ hHeld ?_
         refine ta9 6 56 (mb 11 127) HT_ HW_ hHeld ?_
         refine oa 7 57 (mb 11 255) HT_ (fun K hK => ?_)
         refine gA Try.func116 #[.slice (some ad209) l0.length c0, .int .i64 (rd t202 x11_3)] ?_
         with_reducible refine (spec_FindPath.calls k3 _ _ l0 (rd t202 x11_3) t212 _ ?side1 ?side2 A27.out).mono ?_
         (case side1 => exact cB HR0)
         (case side2 => exact HC0.out)
         rintro e w' ⟨rfl, ⟨nd, rfl⟩⟩
         refine ⟨_, rfl, ?_⟩
         refine hK.out _ _ (cm4 BK210 ⟨hHeld.2.2.2.2.1, (hC HB hw213_0), (hC HB hw213_1), (hC HB hw213_2), (hC HB hw213_3)⟩) (fun hHeld => ?_)
         clear hK K
         refine nB ?_
         refine pa 8 58 (mb 11 511) HT_ ?_
         refine ta9 9 59 (mb 11 1023) HT_ HW_ hHeld ?_
         refine oa 10 60 (mb 11 2047) HT_ (fun K hK => ?_)
         refine gA Try.func129 #[.agg #[.int .i64 ((rd_T89 l0 t208).f0), .int .i64 ((rd_T89 l0 t208).f1), .int .i64 ((rd_T89 l0 t208).f2), .int .i64 ((rd_T89 l0 t208).f3)], .agg #[.int .i64 ((rd_T89 l0 t212).f0), .int .i64 ((rd_T89 l0 t212).f1), .int .i64 ((rd_T89 l0 t212).f2), .int .i64 ((rd_T89 l0 t212).f3)]] ?_
         with_reducible refine (spec_Conflict.calls k3 ((rd_T89 l0 t208).f0) ((rd_T89 l0 t208).f1) ((rd_T89 l0 t208).f2) ((rd_T89 l0 t208).f3) ((rd_T89 l0 t212).f0) ((rd_T89 l0 t212).f1) ((rd_T89 l0 t212).f2) ((rd_T89 l0 t212).f3) false _ A30.out).mono ?_
         rintro e w49 ⟨rfl, hb⟩
         have HS4_ := (hb.cell (World.block_lt_of_cell? _ _ (hHeld.2.2.2.2.1))).trans (hHeld.2.2.2.2.1)
         refine ⟨_, rfl, ?_⟩
         replace HO_8 := rb HO_8 hb
         replace HO_9 := rb HO_9 hb
         replace BK210 := kb BK210 hb
         replace HB := bs HB hb
         (try clear hb)
         (try clear hb2)
         (try clear hk)
         (try clear hi)
         refine hK.out _ _ (cm4 BK210 ⟨HS4_, (hC HB hw213_0), (hC HB hw213_1), (hC HB hw213_2), (hC HB hw213_3)⟩) (fun hHeld => ?_)
         clear hK K
         refine nB ?_
         refine eA HT_ ?_
         try go_wp2
         go_roundg k3
         case measure => have := HK1.out; have := HJ7.out; have := HK3.out; omega
         case rel => exact ⟨(x7_3), (wrap64 (x11_3 + 1)), rS, rS, H', ⟨by have := HK1.out; have := HJ7.out; have := HK3.out; omega⟩, ⟨rK HO_8⟩, ⟨rK HO_9⟩, ⟨bG⟩⟩
        rw [if_neg c20] at H
        have c20b0 := decide_eq_false c20
        clear c20
        have H' := Aside0.mk H
        clear H
        obtain ⟨Ao50, co50, eo50⟩ := Kd.R_slice HO_9.out
        subst eo50
        go_wp2
        go_roundg k3
        case measure => have := HK1.out; have := HJ7.out; have := HK3.out; omega
        case rel => exact ⟨(x7_3), (wrap64 (x10_1 + 1)), rS, rS, H', ⟨by have := HK1.out; have := HJ7.out; have := HK3.out; omega⟩, ⟨rK HO_8⟩, ⟨rK HO_9⟩, ⟨bA⟩⟩
     replace c19 := Bool.eq_false_iff.mpr c19
     subst c19
     have H1 : (some x7_1) = some r := by rw [if_neg (show ¬ (false = true) by decide)] at H; exact H
     clear H
     have H := H1
     clear H1
     obtain rfl := Option.some.inj H
     go_wp2
     go_ret
     exact ⟨rA, bA⟩

/-! ### spec_IsControl: function 92 -/
def spec_IsControl.j0 : Nat → List (S89) → Bool → List Int → Int → List Int → Int → Option (Bool)
 | 0, _, _, _, _, _, _ => none
 | k + 1, x0, x28, x218000, x218001, x218002, x218003 => if x28 = true then (some false) else (if (x218002.length : Int) = 0 then (some (x218003 == 0)) else ((spec_ClearBetween.f k x0 x218000 x218002).bind fun t221 => ((spec_l1In.f x218003 1 t221).bind fun t222 => (some t222))))
def spec_IsControl.f (k : Nat) (l0 : List (S89)) (l1_0 : List Int) (a1_1 : Int) (l1_2 : List Int) (a1_3 : Int) : Option (Bool) := if (l1_0.length : Int) = 0 then (spec_IsControl.j0 k l0 true l1_0 a1_1 l1_2 a1_3) else ((spec_IsTogether.f k l0 l1_0).bind fun t218 => (if t218 = true then ((spec_IsTogether.f k l0 l1_2).bind fun t219 => (if t219 = true then ((spec_l1In.f a1_1 0 1000000).bind fun t220 => (spec_IsControl.j0 k l0 (!t220) l1_0 a1_1 l1_2 a1_3)) else (spec_IsControl.j0 k l0 true l1_0 a1_1 l1_2 a1_3))) else (spec_IsControl.j0 k l0 true l1_0 a1_1 l1_2 a1_3)))
theorem spec_IsControl.mono_l : ∀ k, (∀ y0 y1 y2 y3 y4 y5, LeO (spec_IsControl.j0 k y0 y1 y2 y3 y4 y5) (spec_IsControl.j0 (k + 1) y0 y1 y2 y3 y4 y5))
 | 0 => fun _ _ _ _ _ _ r h => by simp [spec_IsControl.j0] at h
 | k + 1 => by
  have ih0 := spec_IsControl.mono_l k
  ·
   intro y0 y1 y2 y3 y4 y5
   unfold spec_IsControl.j0
   exact mz3 ih0 spec_ClearBetween.mono spec_IsTogether.mono
theorem spec_IsControl.mono : ∀ a0 a1 a2 a3 a4 k, LeO (spec_IsControl.f k a0 a1 a2 a3 a4) (spec_IsControl.f (k + 1) a0 a1 a2 a3 a4) := by
 intro a0 a1 a2 a3 a4 k
 have ih0 := spec_IsControl.mono_l k
 unfold spec_IsControl.f
 exact mz3 ih0 spec_ClearBetween.mono spec_IsTogether.mono
def spec_IsControl.T5 : Bool × List (List Nat × List Nat) := (true, [([], []), ([0], [0]), ([], []), ([], []), ([3], [3]), ([], []), ([5], [5]), ([2, 4, 6], [2, 4, 6]), ([1, 7, 7], [1, 7]), ([8, 8, 0, 1, 2, 3, 4, 5, 6, 7, 8], [8])])
def spec_IsControl.B5 : List Nat := [0, 1, 0, 0, 8, 0, 32, 124, 255, 511]
theorem spec_IsControl.tab5 : rtab .any (opsOf Try.f92 5) = spec_IsControl.T5 := by kernel_rfl
theorem spec_IsControl.bits5 : waitsOk spec_IsControl.T5.2 spec_IsControl.B5 = true := by kernel_rfl
set_option maxHeartbeats 8000000 in
set_option maxRecDepth 100000 in
theorem spec_IsControl.calls (k : Nat) (A0 : Option Addr) (c0 : Nat) (l0 : List (S89)) (A1_0 : Option Addr) (c1_0 : Nat) (l1_0 : List Int) (a1_1 : Int) (A1_2 : Option Addr) (c1_2 : Nat) (l1_2 : List Int) (a1_3 : Int) (r : Bool) (w : World) (hr0 : Kd.C k89 w A0 l0.length l0) (hc0 : l0.length ≤ c0) (hr1_0 : Kd.C (Kd.int .i64) w A1_0 l1_0.length l1_0) (hc1_0 : l1_0.length ≤ c1_0) (hr1_2 : Kd.C (Kd.int .i64) w A1_2 l1_2.length l1_2) (hc1_2 : l1_2.length ≤ c1_2) (h : spec_IsControl.f k l0 l1_0 a1_1 l1_2 a1_3 = some r) :
  Calls Try.prog 92 #[.slice A0 l0.length c0, .agg #[.slice A1_0 l1_0.length c1_0, .int .i64 a1_1, .slice A1_2 l1_2.length c1_2, .int .i64 a1_3]] w fun e w' => e = .returned (.bool r) ∧ Below w.heap.size w w' := by
 have hu57 := Try.underlying57
 have HR0 := Aside0.mk hr0
 have HC0 := Aside0.mk hc0
 clear hr0 hc0
 have HR1_0 := Aside0.mk hr1_0
 have HC1_0 := Aside0.mk hc1_0
 clear hr1_0 hc1_0
 have HR1_2 := Aside0.mk hr1_2
 have HC1_2 := Aside0.mk hc1_2
 clear hr1_2 hc1_2
 have HB := Aside0.mk (Below.refl w.heap.size w)
 have H : (if (l1_0.length : Int) = 0 then (spec_IsControl.j0 k l0 true l1_0 a1_1 l1_2 a1_3) else ((spec_IsTogether.f k l0 l1_0).bind fun t218 => (if t218 = true then ((spec_IsTogether.f k l0 l1_2).bind fun t219 => (if t219 = true then ((spec_l1In.f a1_1 0 1000000).bind fun t220 => (spec_IsControl.j0 k l0 (!t220) l1_0 a1_1 l1_2 a1_3)) else (spec_IsControl.j0 k l0 true l1_0 a1_1 l1_2 a1_3))) else (spec_IsControl.j0 k l0 true l1_0 a1_1 l1_2 a1_3)))) = some r := h
 clear h
 have HC3 := Aside0.mk H
 clear H
 go_enter Try.func92, Try.ntmps92
 go_upto_region 1 with (first | ((with_reducible refine gate_dst (N := 3) rfl ?_); refine bE (N := 3) (cs := #[.slice A1_0 l1_0.length c1_0, .int .i64 a1_1, .slice A1_2 l1_2.length c1_2, .int .i64 a1_3]) (t := 57) ?_; intro gb217 hg w4 hbox hb; have BK217 := Aside0.mk (hbox); have GW217 := gw w hg; have GE217 := gw w hg; replace HB := bs HB hb; clear hb hbox hg))
 (try simp only [Act.put, List.setIfInBounds_toArray, List.set_cons_zero, List.set_cons_succ])
 go_cut [28] (fun v28 wc => ∃ (kq : Nat) (x28_2 : Bool), v28 = .bool x28_2 ∧ Aside0 (spec_IsControl.j0 kq l0 x28_2 l1_0 a1_1 l1_2 a1_3 = some r) ∧ Aside0 (kq ≤ k) ∧ Aside0 (wc.heap[gb217]? = some (.cells #[(.slice A1_0 l1_0.length c1_0), .int .i64 a1_1, (.slice A1_2 l1_2.length c1_2), .int .i64 a1_3] 57 (0, 0))) ∧ Aside0 (Below w.heap.size w wc))
 case first =>
  have H := HC3.out
  clear HC3
  by_cases c5 : (l1_0.length : Int) = 0
  ·
   rw [if_pos c5] at H
   have c5b0 : ((l1_0.length : Int) == 0) = true := beq_iff_eq.mpr c5
   have c5b1 : ((l1_0.length : Int) != 0) = false := bne_eq_false_iff_eq.mpr c5
   clear c5
   (first | rw [c5b0] | (simp only [i64_w, i32_w]; rw [c5b0]) | skip)
   have H' := Aside0.mk H
   clear H
   obtain ⟨_, _, _, _, _, _, _, _⟩ := blkc4 BK217
   go_wp2
   go_meet
   case rel => exact ⟨_, (true), rS, H', ⟨oL⟩, ⟨bK BK217⟩, ⟨bG⟩⟩
  rw [if_neg c5] at H
  have c5b0 : ((l1_0.length : Int) == 0) = false := beq_eq_false_iff_ne.mpr c5
  have c5b1 : ((l1_0.length : Int) != 0) = true := bne_iff_ne.mpr c5
  have c5b2 : ¬ (l1_0 = []) := fun h_ => c5 (by rw [h_]; rfl)
  (first | rw [c5b0] | (simp only [i64_w, i32_w]; rw [c5b0]) | skip)
  obtain ⟨t218, A7, H⟩ := bindE H
  try dsimp only at H
  by_cases c8 : t218 = true
  ·
   subst c8
   have H1 : ((spec_IsTogether.f k l0 l1_2).bind fun t219 => (if t219 = true then ((spec_l1In.f a1_1 0 1000000).bind fun t220 => (spec_IsControl.j0 k l0 (!t220) l1_0 a1_1 l1_2 a1_3)) else (spec_IsControl.j0 k l0 true l1_0 a1_1 l1_2 a1_3))) = some r := by rw [if_pos rfl] at H; exact H
   clear H
   have H := H1
   clear H1
   obtain ⟨t219, A9, H⟩ := bindE H
   try dsimp only at H
   by_cases c10 : t219 = true
   ·
    subst c10
    have H1 : ((spec_l1In.f a1_1 0 1000000).bind fun t220 => (spec_IsControl.j0 k l0 (!t220) l1_0 a1_1 l1_2 a1_3)) = some r := by rw [if_pos rfl] at H; exact H
    clear H
    have H := H1
    clear H1
    obtain ⟨t220, A11, H⟩ := bindE H
    try dsimp only at H
    have H' := Aside0.mk H
    clear H
    obtain ⟨_, _, _, _, _, _, _, _⟩ := blkc4 BK217
    go_wp2_with (first | (go_at_call 82; (with_reducible refine (spec_IsTogether.calls k _ _ l0 _ _ l1_0 true _ ?_ ?_ ?_ ?_ A7.out).mono ?_); exact cB HR0; exact HC0.out; exact cB HR1_0; exact HC1_0.out; rintro e w13 ⟨rfl, hb⟩; replace BK217 := kb BK217 hb; replace HB := bs HB hb; (try clear hb); have hcz14_0 : w13.cell? ⟨gb217, 0, none⟩ = some (.slice A1_0 l1_0.length c1_0) := bC BK217 0; have hcz14_1 : w13.cell? ⟨gb217, 1, none⟩ = some (.int .i64 a1_1) := bC BK217 1; have hcz14_2 : w13.cell? ⟨gb217, 2, none⟩ = some (.slice A1_2 l1_2.length c1_2) := bC BK217 2; have hcz14_3 : w13.cell? ⟨gb217, 3, none⟩ = some (.int .i64 a1_3) := bC BK217 3; have hfz14_0 := blk_frozen BK217.out 0; have hfz14_1 := blk_frozen BK217.out 1; have hfz14_2 := blk_frozen BK217.out 2; have hfz14_3 := blk_frozen BK217.out 3) | (go_at_call 82; (with_reducible refine (spec_IsTogether.calls k _ _ l0 _ _ l1_2 true _ ?_ ?_ ?_ ?_ A9.out).mono ?_); exact cB HR0; exact HC0.out; exact cB HR1_2; exact HC1_2.out; rintro e w15 ⟨rfl, hb⟩; replace BK217 := kb BK217 hb; replace HB := bs HB hb; (try clear hb); have hcz16_0 : w15.cell? ⟨gb217, 0, none⟩ = some (.slice A1_0 l1_0.length c1_0) := bC BK217 0; have hcz16_1 : w15.cell? ⟨gb217, 1, none⟩ = some (.int .i64 a1_1) := bC BK217 1; have hcz16_2 : w15.cell? ⟨gb217, 2, none⟩ = some (.slice A1_2 l1_2.length c1_2) := bC BK217 2; have hcz16_3 : w15.cell? ⟨gb217, 3, none⟩ = some (.int .i64 a1_3) := bC BK217 3; have hfz16_0 := blk_frozen BK217.out 0; have hfz16_1 := blk_frozen BK217.out 1; have hfz16_2 := blk_frozen BK217.out 2; have hfz16_3 := blk_frozen BK217.out 3) | (go_at_call 62; (with_reducible refine (spec_l1In.calls a1_1 0 1000000 t220 _ A11.out).mono ?_); rintro e w' ⟨rfl, ⟨nd, rfl⟩⟩))
    go_meet
    case rel => exact ⟨_, (!t220), rS, H', ⟨oL⟩, ⟨bK BK217⟩, ⟨bG⟩⟩
   replace c10 := Bool.eq_false_iff.mpr c10
   subst c10
   have H1 : (spec_IsControl.j0 k l0 true l1_0 a1_1 l1_2 a1_3) = some r := by rw [if_neg (show ¬ (false = true) by decide)] at H; exact H
   clear H
   have H := H1
   clear H1
   have H' := Aside0.mk H
   clear H
   obtain ⟨_, _, _, _, _, _, _, _⟩ := blkc4 BK217
   go_wp2_with (first | (go_at_call 82; (with_reducible refine (spec_IsTogether.calls k _ _ l0 _ _ l1_0 true _ ?_ ?_ ?_ ?_ A7.out).mono ?_); exact cB HR0; exact HC0.out; exact cB HR1_0; exact HC1_0.out; rintro e w18 ⟨rfl, hb⟩; replace BK217 := kb BK217 hb; replace HB := bs HB hb; (try clear hb); have hcz19_0 : w18.cell? ⟨gb217, 0, none⟩ = some (.slice A1_0 l1_0.length c1_0) := bC BK217 0; have hcz19_1 : w18.cell? ⟨gb217, 1, none⟩ = some (.int .i64 a1_1) := bC BK217 1; have hcz19_2 : w18.cell? ⟨gb217, 2, none⟩ = some (.slice A1_2 l1_2.length c1_2) := bC BK217 2; have hcz19_3 : w18.cell? ⟨gb217, 3, none⟩ = some (.int .i64 a1_3) := bC BK217 3; have hfz19_0 := blk_frozen BK217.out 0; have hfz19_1 := blk_frozen BK217.out 1; have hfz19_2 := blk_frozen BK217.out 2; have hfz19_3 := blk_frozen BK217.out 3) | (go_at_call 82; (with_reducible refine (spec_IsTogether.calls k _ _ l0 _ _ l1_2 false _ ?_ ?_ ?_ ?_ A9.out).mono ?_); exact cB HR0; exact HC0.out; exact cB HR1_2; exact HC1_2.out; rintro e w20 ⟨rfl, hb⟩; replace BK217 := kb BK217 hb; replace HB := bs HB hb; (try clear hb)))
   go_meet
   case rel => exact ⟨_, (true), rS, H', ⟨oL⟩, ⟨bK BK217⟩, ⟨bG⟩⟩
  replace c8 := Bool.eq_false_iff.mpr c8
  subst c8
  have H1 : (spec_IsControl.j0 k l0 true l1_0 a1_1 l1_2 a1_3) = some r := by rw [if_neg (show ¬ (false = true) by decide)] at H; exact H
  clear H
  have H := H1
  clear H1
  have H' := Aside0.mk H
  clear H
  obtain ⟨_, _, _, _, _, _, _, _⟩ := blkc4 BK217
  go_wp2_with (first | (go_at_call 82; (with_reducible refine (spec_IsTogether.calls k _ _ l0 _ _ l1_0 false _ ?_ ?_ ?_ ?_ A7.out).mono ?_); exact cB HR0; exact HC0.out; exact cB HR1_0; exact HC1_0.out; rintro e w22 ⟨rfl, hb⟩; replace BK217 := kb BK217 hb; replace HB := bs HB hb; (try clear hb)))
  go_meet
  case rel => exact ⟨_, (true), rS, H', ⟨oL⟩, ⟨bK BK217⟩, ⟨bG⟩⟩
 case rest =>
  clear HC3
  obtain ⟨kq, x28_2, rfl, HA, HJ2, BK217, HB⟩ := hcut
  cases kq with
  | zero => exact absurd HA.out (by simp [spec_IsControl.j0])
  | succ kj2 =>
   have H := HA.out
   clear HA
   simp only [spec_IsControl.j0] at H
   by_cases c23 : x28_2 = true
   ·
    subst c23
    have H1 : (some false) = some r := by rw [if_pos rfl] at H; exact H
    clear H
    have H := H1
    clear H1
    obtain rfl := Option.some.inj H
    go_wp2
    go_ret
    exact ⟨rA, bG⟩
   replace c23 := Bool.eq_false_iff.mpr c23
   subst c23
   have H1 : (if (l1_2.length : Int) = 0 then (some (a1_3 == 0)) else ((spec_ClearBetween.f kj2 l0 l1_0 l1_2).bind fun t221 => ((spec_l1In.f a1_3 1 t221).bind fun t222 => (some t222)))) = some r := by rw [if_neg (show ¬ (false = true) by decide)] at H; exact H
   clear H
   have H := H1
   clear H1
   by_cases c24 : (l1_2.length : Int) = 0
   ·
    rw [if_pos c24] at H
    have c24b0 : ((l1_2.length : Int) == 0) = true := beq_iff_eq.mpr c24
    have c24b1 : ((l1_2.length : Int) != 0) = false := bne_eq_false_iff_eq.mpr c24
    clear c24
    obtain rfl := Option.some.inj H
    obtain ⟨_, _, _, _, _, _, _, _⟩ := blkc4 BK217
    go_wp2
    go_ret
    exact ⟨rA, bG⟩
   rw [if_neg c24] at H
   have c24b0 : ((l1_2.length : Int) == 0) = false := beq_eq_false_iff_ne.mpr c24
   have c24b1 : ((l1_2.length : Int) != 0) = true := bne_iff_ne.mpr c24
   have c24b2 : ¬ (l1_2 = []) := fun h_ => c24 (by rw [h_]; rfl)
   obtain ⟨t221, A26, H⟩ := bindE H
   try dsimp only at H
   obtain ⟨t222, A27, H⟩ := bindE H
   try dsimp only at H
   obtain rfl := Option.some.inj H
   obtain ⟨_, _, _, _, _, _, _, _⟩ := blkc4 BK217
   try go_wp2
   replace BK217 := dk BK217
   have HBo := HB
   replace HB := db HB
   refine start_ (n := 10) (S := fun w' => w'.cell? ⟨gb217, 0, none⟩ = some (.slice A1_0 l1_0.length c1_0) ∧ w'.cell? ⟨gb217, 1, none⟩ = some (.int .i64 a1_1) ∧ w'.cell? ⟨gb217, 2, none⟩ = some (.slice A1_2 l1_2.length c1_2) ∧ w'.cell? ⟨gb217, 3, none⟩ = some (.int .i64 a1_3)) (ds := []) (mb 10 0) (by kernel_rfl) rfl rfl (cn4 BK217) (fun hHeld => ?_); refine with_tabW spec_IsControl.tab5 spec_IsControl.bits5 (fun HT_ HW_ => ?_)
   generalize wc.drew = w29 at BK217 HB hHeld ⊢
   refine pa 0 36 (mb 10 1) HT_ ?_
   refine pa 2 38 (mb 10 5) HT_ ?_
   refine pa 3 39 (mb 10 13) HT_ ?_
   refine pa 5 41 (mb 10 45) HT_ ?_
   refine ta4 1 37 (mb 10 47) HT_ HW_ hHeld ?_
   refine ta4 4 40 (mb 10 63) HT_ HW_ hHeld ?_
   refine ta4 6 42 (mb 10 127) HT_ HW_ hHeld ?_
   refine oa 7 43 (mb 10 255) HT_ (fun K hK => ?_)
   refine gA Try.func84 #[.slice A0 l0.length c0, .slice A1_0 l1_0.length c1_0, .slice A1_2 l1_2.length c1_2] ?_
   with_reducible refine (spec_ClearBetween.calls kj2 _ _ l0 _ _ l1_0 _ _ l1_2 t221 _ ?side1 ?side2 ?side3 ?side4 ?side5 ?side6 A26.out).mono ?_
   (case side1 => exact cB HR0)
   (case side2 => exact HC0.out)
   (case side3 => exact cB HR1_0)
   (case side4 => exact HC1_0.out)
   (case side5 => exact cB HR1_2)
   (case side6 => exact HC1_2.out)
   rintro e w30 ⟨rfl, hb⟩
   refine ⟨_, rfl, ?_⟩
   replace BK217 := kb BK217 hb
   replace HB := bs HB hb
   (try clear hb)
   (try clear hb2)
   (try clear hk)
   (try clear hi)
   refine hK.out _ _ (cn4 BK217) (fun hHeld => ?_)
   clear hK K
   refine nB ?_
   refine oa 8 44 (mb 10 511) HT_ (fun K hK => ?_)
   refine gA Try.func62 #[.int .i64 a1_3, .int .i64 1, .int .i64 t221] ?_
   with_reducible refine (spec_l1In.calls a1_3 1 t221 t222 _ A27.out).mono ?_
   rintro e w' ⟨rfl, ⟨nd, rfl⟩⟩
   refine ⟨_, rfl, ?_⟩
   refine hK.out _ _ (cn4 BK217) (fun hHeld => ?_)
   clear hK K
   refine nB ?_
   refine pa 9 4 (mb 10 1023) HT_ ?_
   refine eA HT_ ?_
   try go_wp2
   go_ret
   exact ⟨rA, bG⟩

/-! ### spec_CanEnd: function 81 -/
def spec_CanEnd.f (k : Nat) (l0 : List (S89)) (l1_0 : List Int) (a1_1 : Int) (l1_2 : List Int) (a1_3 : Int) : Option (Bool) := (spec_IsControl.f k l0 l1_0 a1_1 l1_2 a1_3).bind fun t224 => (if t224 = true then (if (l1_2.length : Int) = 0 then ((spec_LeastGreen.f k l0 l1_0).bind fun t225 => (some (decide (a1_1 ≥ t225)))) else (some false)) else (some false))
theorem spec_CanEnd.mono : ∀ a0 a1 a2 a3 a4 k, LeO (spec_CanEnd.f k a0 a1 a2 a3 a4) (spec_CanEnd.f (k + 1) a0 a1 a2 a3 a4) := by
 intro a0 a1 a2 a3 a4 k
 unfold spec_CanEnd.f
 exact mz2 spec_IsControl.mono spec_LeastGreen.mono
def spec_CanEnd.T1 : Bool × List (List Nat × List Nat) := (true, [([], []), ([], []), ([0, 1], [0, 1]), ([2, 2], [2]), ([3], [3]), ([4, 3], [3, 4]), ([5, 3], [3, 5]), ([6, 3], [3, 6]), ([3, 7], [3, 7]), ([8, 3], [8]), ([9], [9]), ([10, 9], [9, 10]), ([9], [9]), ([9], [9]), ([13, 9], [9, 13]), ([12, 14, 9, 9], [9, 12, 14]), ([11, 15, 9], [9, 11, 15]), ([9, 16], [9, 16]), ([17, 15, 0, 1, 2, 3, 4, 5, 6, 7, 8, 9, 10, 11, 12, 13, 14, 15, 16, 17], [17])])
def spec_CanEnd.B1 : List Nat := [0, 0, 3, 7, 15, 31, 63, 127, 255, 511, 1023, 2047, 1023, 1023, 9215, 29695, 65535, 131071, 262143]
theorem spec_CanEnd.tab1 : rtab .any (opsOf Try.f81 1) = spec_CanEnd.T1 := by kernel_rfl
theorem spec_CanEnd.bits1 : waitsOk spec_CanEnd.T1.2 spec_CanEnd.B1 = true := by kernel_rfl
set_option maxHeartbeats 8000000 in
set_option maxRecDepth 100000 in
theorem spec_CanEnd.calls (k : Nat) (A0 : Option Addr) (c0 : Nat) (l0 : List (S89)) (A1_0 : Option Addr) (c1_0 : Nat) (l1_0 : List Int) (a1_1 : Int) (A1_2 : Option Addr) (c1_2 : Nat) (l1_2 : List Int) (a1_3 : Int) (r : Bool) (w : World) (hr0 : Kd.C k89 w A0 l0.length l0) (hc0 : l0.length ≤ c0) (hr1_0 : Kd.C (Kd.int .i64) w A1_0 l1_0.length l1_0) (hc1_0 : l1_0.length ≤ c1_0) (hr1_2 : Kd.C (Kd.int .i64) w A1_2 l1_2.length l1_2) (hc1_2 : l1_2.length ≤ c1_2) (h : spec_CanEnd.f k l0 l1_0 a1_1 l1_2 a1_3 = some r) :
  Calls Try.prog 81 #[.slice A0 l0.length c0, .agg #[.slice A1_0 l1_0.length c1_0, .int .i64 a1_1, .slice A1_2 l1_2.length c1_2, .int .i64 a1_3]] w fun e w' => e = .returned (.bool r) ∧ Below w.heap.size w w' := by
 have hu57 := Try.underlying57
 have HR0 := Aside0.mk hr0
 have HC0 := Aside0.mk hc0
 clear hr0 hc0
 have HR1_0 := Aside0.mk hr1_0
 have HC1_0 := Aside0.mk hc1_0
 clear hr1_0 hc1_0
 have HR1_2 := Aside0.mk hr1_2
 have HC1_2 := Aside0.mk hc1_2
 clear hr1_2 hc1_2
 have HB := Aside0.mk (Below.refl w.heap.size w)
 have H : ((spec_IsControl.f k l0 l1_0 a1_1 l1_2 a1_3).bind fun t224 => (if t224 = true then (if (l1_2.length : Int) = 0 then ((spec_LeastGreen.f k l0 l1_0).bind fun t225 => (some (decide (a1_1 ≥ t225)))) else (some false)) else (some false))) = some r := h
 clear h
 obtain ⟨t224, A3, H⟩ := bindE H
 try dsimp only at H
 by_cases c4 : t224 = true
 ·
  subst c4
  have H1 : (if (l1_2.length : Int) = 0 then ((spec_LeastGreen.f k l0 l1_0).bind fun t225 => (some (decide (a1_1 ≥ t225)))) else (some false)) = some r := by rw [if_pos rfl] at H; exact H
  clear H
  have H := H1
  clear H1
  by_cases c5 : (l1_2.length : Int) = 0
  ·
   rw [if_pos c5] at H
   have c5b0 : ((l1_2.length : Int) == 0) = true := beq_iff_eq.mpr c5
   have c5b1 : ((l1_2.length : Int) != 0) = false := bne_eq_false_iff_eq.mpr c5
   clear c5
   obtain ⟨t225, A6, H⟩ := bindE H
   try dsimp only at H
   obtain rfl := Option.some.inj H
   go_enter Try.func81, Try.ntmps81
   try go_wp2_with (first | ((with_reducible refine gate_dst (N := 3) rfl ?_); (try (refine gate_guard (by rfl) ?_; dsimp only)); refine bE (N := 3) (cs := #[.slice A1_0 l1_0.length c1_0, .int .i64 a1_1, .slice A1_2 l1_2.length c1_2, .int .i64 a1_3]) (t := 57) ?_; intro gb223 hg w7 hbox hb; have BK223 := Aside0.mk (hbox); have GW223 := gw w hg; have GE223 := gw w hg; replace HB := bs HB hb; clear hb hbox hg))
   replace BK223 := dk BK223
   have HBo := HB
   replace HB := db HB
   refine start_ (n := 19) (S := fun w' => w'.cell? ⟨gb223, 0, none⟩ = some (.slice A1_0 l1_0.length c1_0) ∧ w'.cell? ⟨gb223, 1, none⟩ = some (.int .i64 a1_1) ∧ w'.cell? ⟨gb223, 2, none⟩ = some (.slice A1_2 l1_2.length c1_2) ∧ w'.cell? ⟨gb223, 3, none⟩ = some (.int .i64 a1_3)) (ds := []) (mb 19 0) (by kernel_rfl) rfl rfl (cn4 BK223) (fun hHeld => ?_); refine with_tabW spec_CanEnd.tab1 spec_CanEnd.bits1 (fun HT_ HW_ => ?_)
   generalize w7.drew = w8 at BK223 HB hHeld ⊢
   refine pa 0 5 (mb 19 1) HT_ ?_
   refine ta4 1 6 (mb 19 3) HT_ HW_ hHeld ?_
   refine oa 2 7 (mb 19 7) HT_ (fun K hK => ?_)
   refine gA Try.func92 #[.slice A0 l0.length c0, .agg #[.slice A1_0 l1_0.length c1_0, .int .i64 a1_1, .slice A1_2 l1_2.length c1_2, .int .i64 a1_3]] ?_
   with_reducible refine (spec_IsControl.calls k _ _ l0 _ _ l1_0 a1_1 _ _ l1_2 a1_3 true _ ?side1 ?side2 ?side3 ?side4 ?side5 ?side6 A3.out).mono ?_
   (case side1 => exact cB HR0)
   (case side2 => exact HC0.out)
   (case side3 => exact cB HR1_0)
   (case side4 => exact HC1_0.out)
   (case side5 => exact cB HR1_2)
   (case side6 => exact HC1_2.out)
   rintro e w9 ⟨rfl, hb⟩
   refine ⟨_, rfl, ?_⟩
   replace BK223 := kb BK223 hb
   replace HB := bs HB hb
   (try clear hb)
   (try clear hb2)
   (try clear hk)
   (try clear hi)
   refine hK.out _ _ (cn4 BK223) (fun hHeld => ?_)
   clear hK K
   refine nB ?_
   refine pa 3 8 (mb 19 15) HT_ ?_
   refine pa 4 9 (mb 19 31) HT_ ?_
   refine ta4 5 10 (mb 19 63) HT_ HW_ hHeld ?_
   refine pa 6 11 (mb 19 127) HT_ ?_
   refine pa 7 12 (mb 19 255) HT_ ?_
   refine pa 8 13 (mb 19 511) HT_ ?_
   refine pa 9 14 (mb 19 1023) HT_ ?_
   refine pa 10 15 (mb 19 2047) HT_ ?_
   refine pa 12 17 (mb 19 6143) HT_ ?_
   refine pa 13 18 (mb 19 14335) HT_ ?_
   refine ta4 11 16 (mb 19 16383) HT_ HW_ hHeld ?_
   refine ta4 14 19 (mb 19 32767) HT_ HW_ hHeld ?_
   refine oa 15 20 (mb 19 65535) HT_ (fun K hK => ?_)
   refine gA Try.func74 #[.slice A0 l0.length c0, .slice A1_0 l1_0.length c1_0] ?_
   with_reducible refine (spec_LeastGreen.calls k _ _ l0 _ _ l1_0 t225 _ ?side1 ?side2 ?side3 ?side4 A6.out).mono ?_
   (case side1 => exact cB HR0)
   (case side2 => exact HC0.out)
   (case side3 => exact cB HR1_0)
   (case side4 => exact HC1_0.out)
   rintro e w' ⟨rfl, ⟨nd, rfl⟩⟩
   refine ⟨_, rfl, ?_⟩
   refine hK.out _ _ (cn4 BK223) (fun hHeld => ?_)
   clear hK K
   refine nB ?_
   refine pa 16 21 (mb 19 131071) HT_ ?_
   refine pa 17 22 (mb 19 262143) HT_ ?_
   refine pa 18 4 (mb 19 524287) HT_ ?_
   refine eA HT_ ?_
   try go_wp2
   go_ret
   exact ⟨rA, bG⟩
  rw [if_neg c5] at H
  have c5b0 : ((l1_2.length : Int) == 0) = false := beq_eq_false_iff_ne.mpr c5
  have c5b1 : ((l1_2.length : Int) != 0) = true := bne_iff_ne.mpr c5
  have c5b2 : ¬ (l1_2 = []) := fun h_ => c5 (by rw [h_]; rfl)
  obtain rfl := Option.some.inj H
  go_enter Try.func81, Try.ntmps81
  try go_wp2_with (first | ((with_reducible refine gate_dst (N := 3) rfl ?_); (try (refine gate_guard (by rfl) ?_; dsimp only)); refine bE (N := 3) (cs := #[.slice A1_0 l1_0.length c1_0, .int .i64 a1_1, .slice A1_2 l1_2.length c1_2, .int .i64 a1_3]) (t := 57) ?_; intro gb223 hg w10 hbox hb; have BK223 := Aside0.mk (hbox); have GW223 := gw w hg; have GE223 := gw w hg; replace HB := bs HB hb; clear hb hbox hg))
  replace BK223 := dk BK223
  have HBo := HB
  replace HB := db HB
  refine start_ (n := 19) (S := fun w' => w'.cell? ⟨gb223, 0, none⟩ = some (.slice A1_0 l1_0.length c1_0) ∧ w'.cell? ⟨gb223, 1, none⟩ = some (.int .i64 a1_1) ∧ w'.cell? ⟨gb223, 2, none⟩ = some (.slice A1_2 l1_2.length c1_2) ∧ w'.cell? ⟨gb223, 3, none⟩ = some (.int .i64 a1_3)) (ds := []) (mb 19 0) (by kernel_rfl) rfl rfl (cn4 BK223) (fun hHeld => ?_); refine with_tabW spec_CanEnd.tab1 spec_CanEnd.bits1 (fun HT_ HW_ => ?_)
  generalize w10.drew = w11 at BK223 HB hHeld ⊢
  refine pa 0 5 (mb 19 1) HT_ ?_
  refine ta4 1 6 (mb 19 3) HT_ HW_ hHeld ?_
  refine oa 2 7 (mb 19 7) HT_ (fun K hK => ?_)
  refine gA Try.func92 #[.slice A0 l0.length c0, .agg #[.slice A1_0 l1_0.length c1_0, .int .i64 a1_1, .slice A1_2 l1_2.length c1_2, .int .i64 a1_3]] ?_
  with_reducible refine (spec_IsControl.calls k _ _ l0 _ _ l1_0 a1_1 _ _ l1_2 a1_3 true _ ?side1 ?side2 ?side3 ?side4 ?side5 ?side6 A3.out).mono ?_
  (case side1 => exact cB HR0)
  (case side2 => exact HC0.out)
  (case side3 => exact cB HR1_0)
  (case side4 => exact HC1_0.out)
  (case side5 => exact cB HR1_2)
  (case side6 => exact HC1_2.out)
  rintro e w12 ⟨rfl, hb⟩
  refine ⟨_, rfl, ?_⟩
  replace BK223 := kb BK223 hb
  replace HB := bs HB hb
  (try clear hb)
  (try clear hb2)
  (try clear hk)
  (try clear hi)
  refine hK.out _ _ (cn4 BK223) (fun hHeld => ?_)
  clear hK K
  refine nB ?_
  refine pa 3 8 (mb 19 15) HT_ ?_
  refine pa 4 9 (mb 19 31) HT_ ?_
  refine ta4 5 10 (mb 19 63) HT_ HW_ hHeld ?_
  refine pa 6 11 (mb 19 127) HT_ ?_
  refine pa 7 12 (mb 19 255) HT_ ?_
  refine pa 8 13 (mb 19 511) HT_ ?_
  refine pa 9 14 (mb 19 1023) HT_ ?_
  refine pu 10 15 (mb 19 2047) HT_ ?_
  refine pu 11 16 (mb 19 4095) HT_ ?_
  refine pu 12 17 (mb 19 8191) HT_ ?_
  refine pu 13 18 (mb 19 16383) HT_ ?_
  refine pu 14 19 (mb 19 32767) HT_ ?_
  refine pu 15 20 (mb 19 65535) HT_ ?_
  refine pu 16 21 (mb 19 131071) HT_ ?_
  refine pa 17 22 (mb 19 262143) HT_ ?_
  refine pa 18 4 (mb 19 524287) HT_ ?_
  refine eA HT_ ?_
  try go_wp2
  go_ret
  exact ⟨rA, bG⟩
 replace c4 := Bool.eq_false_iff.mpr c4
 subst c4
 have H1 : (some false) = some r := by rw [if_neg (show ¬ (false = true) by decide)] at H; exact H
 clear H
 have H := H1
 clear H1
 obtain rfl := Option.some.inj H
 go_enter Try.func81, Try.ntmps81
 try go_wp2_with (first | ((with_reducible refine gate_dst (N := 3) rfl ?_); (try (refine gate_guard (by rfl) ?_; dsimp only)); refine bE (N := 3) (cs := #[.slice A1_0 l1_0.length c1_0, .int .i64 a1_1, .slice A1_2 l1_2.length c1_2, .int .i64 a1_3]) (t := 57) ?_; intro gb223 hg w13 hbox hb; have BK223 := Aside0.mk (hbox); have GW223 := gw w hg; have GE223 := gw w hg; replace HB := bs HB hb; clear hb hbox hg))
 replace BK223 := dk BK223
 have HBo := HB
 replace HB := db HB
 refine start_ (n := 19) (S := fun w' => w'.cell? ⟨gb223, 0, none⟩ = some (.slice A1_0 l1_0.length c1_0) ∧ w'.cell? ⟨gb223, 1, none⟩ = some (.int .i64 a1_1) ∧ w'.cell? ⟨gb223, 2, none⟩ = some (.slice A1_2 l1_2.length c1_2) ∧ w'.cell? ⟨gb223, 3, none⟩ = some (.int .i64 a1_3)) (ds := []) (mb 19 0) (by kernel_rfl) rfl rfl (cn4 BK223) (fun hHeld => ?_); refine with_tabW spec_CanEnd.tab1 spec_CanEnd.bits1 (fun HT_ HW_ => ?_)
 generalize w13.drew = w14 at BK223 HB hHeld ⊢
 refine pa 0 5 (mb 19 1) HT_ ?_
 refine ta4 1 6 (mb 19 3) HT_ HW_ hHeld ?_
 refine oa 2 7 (mb 19 7) HT_ (fun K hK => ?_)
 refine gA Try.func92 #[.slice A0 l0.length c0, .agg #[.slice A1_0 l1_0.length c1_0, .int .i64 a1_1, .slice A1_2 l1_2.length c1_2, .int .i64 a1_3]] ?_
 with_reducible refine (spec_IsControl.calls k _ _ l0 _ _ l1_0 a1_1 _ _ l1_2 a1_3 false _ ?side1 ?side2 ?side3 ?side4 ?side5 ?side6 A3.out).mono ?_
 (case side1 => exact cB HR0)
 (case side2 => exact HC0.out)
 (case side3 => exact cB HR1_0)
 (case side4 => exact HC1_0.out)
 (case side5 => exact cB HR1_2)
 (case side6 => exact HC1_2.out)
 rintro e w15 ⟨rfl, hb⟩
 refine ⟨_, rfl, ?_⟩
 replace BK223 := kb BK223 hb
 replace HB := bs HB hb
 (try clear hb)
 (try clear hb2)
 (try clear hk)
 (try clear hi)
 refine hK.out _ _ (cn4 BK223) (fun hHeld => ?_)
 clear hK K
 refine nB ?_
 refine pa 3 8 (mb 19 15) HT_ ?_
 refine pu 4 9 (mb 19 31) HT_ ?_
 refine pu 5 10 (mb 19 63) HT_ ?_
 refine pu 6 11 (mb 19 127) HT_ ?_
 refine pu 7 12 (mb 19 255) HT_ ?_
 refine pa 8 13 (mb 19 511) HT_ ?_
 refine pa 9 14 (mb 19 1023) HT_ ?_
 refine pu 10 15 (mb 19 2047) HT_ ?_
 refine pu 11 16 (mb 19 4095) HT_ ?_
 refine pu 12 17 (mb 19 8191) HT_ ?_
 refine pu 13 18 (mb 19 16383) HT_ ?_
 refine pu 14 19 (mb 19 32767) HT_ ?_
 refine pu 15 20 (mb 19 65535) HT_ ?_
 refine pu 16 21 (mb 19 131071) HT_ ?_
 refine pa 17 22 (mb 19 262143) HT_ ?_
 refine pa 18 4 (mb 19 524287) HT_ ?_
 refine eA HT_ ?_
 try go_wp2
 go_ret
 exact ⟨rA, bG⟩

/-! ### spec_EqualInts: function 83 -/
def spec_EqualInts.l0 : Nat → List Int → List Int → Int → Option (Bool)
 | 0, _, _, _ => none
 | k + 1, x0, x1, x5 => if x5 < (x0.length : Int) then (if 0 ≤ x5 then (if x5 < (x1.length : Int) then (if (rd x0 x5) = (rd x1 x5) then (spec_EqualInts.l0 k x0 x1 (wrap64 (x5 + 1))) else (some false)) else (none)) else (none)) else (some true)
def spec_EqualInts.f (k : Nat) (l0 : List Int) (l1 : List Int) : Option (Bool) := if (l0.length : Int) = (l1.length : Int) then (spec_EqualInts.l0 k l0 l1 0) else (some false)
theorem spec_EqualInts.mono_l : ∀ k, (∀ y0 y1 y2, LeO (spec_EqualInts.l0 k y0 y1 y2) (spec_EqualInts.l0 (k + 1) y0 y1 y2))
 | 0 => fun _ _ _ r h => by simp [spec_EqualInts.l0] at h
 | k + 1 => by
  have ih0 := spec_EqualInts.mono_l k
  ·
   intro y0 y1 y2
   unfold spec_EqualInts.l0
   exact mz1 ih0
theorem spec_EqualInts.mono : ∀ a0 a1 k, LeO (spec_EqualInts.f k a0 a1) (spec_EqualInts.f (k + 1) a0 a1) := by
 intro a0 a1 k
 have ih0 := spec_EqualInts.mono_l k
 unfold spec_EqualInts.f
 exact mz1 ih0
set_option maxHeartbeats 8000000 in
set_option maxRecDepth 100000 in
theorem spec_EqualInts.calls (k : Nat) (A0 : Option Addr) (c0 : Nat) (l0 : List Int) (A1 : Option Addr) (c1 : Nat) (l1 : List Int) (r : Bool) (w : World) (hr0 : Kd.C (Kd.int .i64) w A0 l0.length l0) (hc0 : l0.length ≤ c0) (hr1 : Kd.C (Kd.int .i64) w A1 l1.length l1) (hc1 : l1.length ≤ c1) (h : spec_EqualInts.f k l0 l1 = some r) :
  Calls Try.prog 83 #[.slice A0 l0.length c0, .slice A1 l1.length c1] w fun e w' => e = .returned (.bool r) ∧ Drawn0 w w' := by
 have HR0 := Aside0.mk hr0
 have HC0 := Aside0.mk hc0
 clear hr0 hc0
 have HR1 := Aside0.mk hr1
 have HC1 := Aside0.mk hc1
 clear hr1 hc1
 have H : (if (l0.length : Int) = (l1.length : Int) then (spec_EqualInts.l0 k l0 l1 0) else (some false)) = some r := h
 clear h
 by_cases c3 : (l0.length : Int) = (l1.length : Int)
 ·
  rw [if_pos c3] at H
  have c3b0 : ((l0.length : Int) == (l1.length : Int)) = true := beq_iff_eq.mpr c3
  have c3b1 : ((l0.length : Int) != (l1.length : Int)) = false := bne_eq_false_iff_eq.mpr c3
  have c3b2 : (l0.length == l1.length) = true := by first | simpa using c3 | (simp at c3 ⊢; omega)
  clear c3
  have H' := Aside0.mk H
  clear H
  go_enter Try.func83, Try.ntmps83
  go_wp2
  repeat (go_quiet (fail); try go_wp2)
  go_loopg [5] k (fun kq v5 w' => ∃ (x5_1 : Int), v5 = .int .i64 x5_1 ∧ Aside0 (spec_EqualInts.l0 kq l0 l1 x5_1 = some r) ∧ Aside0 (kq ≤ k) ∧ Drawn0 w w')
  case atStart => exact ⟨(0), rS, H', ⟨Nat.le_refl _⟩, by repeat (first | exact Drawn0.refl _ | apply Drawn0.step)⟩
  case round =>
   clear H'
   obtain ⟨x5_1, rfl, HA, HK1, ⟨m1, rfl⟩⟩ := hrel
   cases gk with
   | zero => exact absurd HA.out (by simp [spec_EqualInts.l0])
   | succ k1 =>
    have H := HA.out
    clear HA
    simp only [spec_EqualInts.l0] at H
    by_cases c4 : x5_1 < (l0.length : Int)
    ·
     rw [if_pos c4] at H
     have c4b0 := decide_eq_true c4
     clear c4
     have c5 : 0 ≤ x5_1 := ifN H
     replace H := ifT H
     have c5b0 := decide_eq_true c5
     clear c5
     have c6 : x5_1 < (l1.length : Int) := ifN H
     replace H := ifT H
     have c6b0 := decide_eq_true c6
     clear c6
     by_cases c7 : (rd l0 x5_1) = (rd l1 x5_1)
     ·
      rw [if_pos c7] at H
      have c7b0 : ((rd l0 x5_1) == (rd l1 x5_1)) = true := beq_iff_eq.mpr c7
      have c7b1 : ((rd l0 x5_1) != (rd l1 x5_1)) = false := bne_eq_false_iff_eq.mpr c7
      clear c7
      have H' := Aside0.mk H
      clear H
      obtain ⟨p226, q226⟩ : 0 ≤ (x5_1 : Int) ∧ x5_1 < (l0.length : Int) := ⟨dA, dA⟩
      obtain ⟨ad226, e226, hx226_0⟩ := Kd.at_int HR0.out x5_1 p226 q226
      cases e226
      obtain ⟨p226, q226⟩ := eT p226 q226
      obtain ⟨p227, q227⟩ : 0 ≤ (x5_1 : Int) ∧ x5_1 < (l1.length : Int) := ⟨dA, dA⟩
      obtain ⟨ad227, e227, hx227_0⟩ := Kd.at_int HR1.out x5_1 p227 q227
      cases e227
      obtain ⟨p227, q227⟩ := eT p227 q227
      go_wp2
      repeat (go_quiet (fail); try go_wp2)
      go_roundg k1
      case measure => have := HK1.out; omega
      case rel => exact ⟨(wrap64 (x5_1 + 1)), rS, H', ⟨by have := HK1.out; omega⟩, by repeat (first | exact Drawn0.refl _ | apply Drawn0.step)⟩
     rw [if_neg c7] at H
     have c7b0 : ((rd l0 x5_1) == (rd l1 x5_1)) = false := beq_eq_false_iff_ne.mpr c7
     have c7b1 : ((rd l0 x5_1) != (rd l1 x5_1)) = true := bne_iff_ne.mpr c7
     obtain rfl := Option.some.inj H
     obtain ⟨p226, q226⟩ : 0 ≤ (x5_1 : Int) ∧ x5_1 < (l0.length : Int) := ⟨dA, dA⟩
     obtain ⟨ad226, e226, hx226_0⟩ := Kd.at_int HR0.out x5_1 p226 q226
     cases e226
     obtain ⟨p226, q226⟩ := eT p226 q226
     obtain ⟨p227, q227⟩ : 0 ≤ (x5_1 : Int) ∧ x5_1 < (l1.length : Int) := ⟨dA, dA⟩
     obtain ⟨ad227, e227, hx227_0⟩ := Kd.at_int HR1.out x5_1 p227 q227
     cases e227
     obtain ⟨p227, q227⟩ := eT p227 q227
     go_wp2
     repeat (go_quiet (fail); try go_wp2)
     go_ret
     exact ⟨rS, dD⟩
    rw [if_neg c4] at H
    have c4b0 := decide_eq_false c4
    clear c4
    obtain rfl := Option.some.inj H
    go_wp2
    repeat (go_quiet (fail); try go_wp2)
    go_ret
    exact ⟨rS, dD⟩
 rw [if_neg c3] at H
 have c3b0 : ((l0.length : Int) == (l1.length : Int)) = false := beq_eq_false_iff_ne.mpr c3
 have c3b1 : ((l0.length : Int) != (l1.length : Int)) = true := bne_iff_ne.mpr c3
 have c3b2 : (l0.length == l1.length) = false := by first | simpa using c3 | (simp at c3 ⊢; omega)
 obtain rfl := Option.some.inj H
 go_enter Try.func83, Try.ntmps83
 go_wp2
 repeat (go_quiet (fail); try go_wp2)
 go_ret
 exact ⟨rS, dD⟩

/-! ### spec_AskStage: function 39 -/
def spec_AskStage.j0 : Nat → List (S89) → List Int → Bool → List Int → Int → List Int → Int → List Int → Int → List Int → Int → Option (List Int × Int × List Int × Int × Bool)
 | 0, _, _, _, _, _, _, _, _, _, _, _ => none
 | k + 1, x0, x2, x32, x229000, x229001, x229002, x229003, x239000, x239001, x239002, x239003 => if x32 = true then (some (x239000, x239001, x239002, x239003, false)) else ((spec_ClearBetween.f k x0 x229000 x2).bind fun t242 => (if t242 = 0 then ((some (([] : List Int) : List Int)).bind fun y243 => (if y243.length + x2.length < 17592186044416 then (some ((y243 ++ x2), 0, ([] : List Int), 0, true)) else (none))) else ((some (([] : List Int) : List Int)).bind fun y249 => (if y249.length + x2.length < 17592186044416 then (some (x239000, x239001, (y249 ++ x2), t242, true)) else (none)))))
def spec_AskStage.f (k : Nat) (l0 : List (S89)) (l1_0 : List Int) (a1_1 : Int) (l1_2 : List Int) (a1_3 : Int) (l2 : List Int) : Option (List Int × Int × List Int × Int × Bool) := (spec_l14Copy.f l1_0 a1_1 l1_2 a1_3).bind fun bt230 => ((spec_CanEnd.f k l0 l1_0 a1_1 l1_2 a1_3).bind fun t239 => (if t239 = true then (if (l2.length : Int) = 0 then (spec_AskStage.j0 k l0 l2 true l1_0 a1_1 l1_2 a1_3 bt230.1 bt230.2.1 bt230.2.2.1 bt230.2.2.2) else ((spec_IsTogether.f k l0 l2).bind fun t240 => (if t240 = true then ((spec_EqualInts.f k l2 l1_0).bind fun t241 => (spec_AskStage.j0 k l0 l2 t241 l1_0 a1_1 l1_2 a1_3 bt230.1 bt230.2.1 bt230.2.2.1 bt230.2.2.2)) else (spec_AskStage.j0 k l0 l2 true l1_0 a1_1 l1_2 a1_3 bt230.1 bt230.2.1 bt230.2.2.1 bt230.2.2.2)))) else (spec_AskStage.j0 k l0 l2 true l1_0 a1_1 l1_2 a1_3 bt230.1 bt230.2.1 bt230.2.2.1 bt230.2.2.2)))
theorem spec_AskStage.mono_l : ∀ k, (∀ y0 y1 y2 y3 y4 y5 y6 y7 y8 y9 y10, LeO (spec_AskStage.j0 k y0 y1 y2 y3 y4 y5 y6 y7 y8 y9 y10) (spec_AskStage.j0 (k + 1) y0 y1 y2 y3 y4 y5 y6 y7 y8 y9 y10))
 | 0 => fun _ _ _ _ _ _ _ _ _ _ _ r h => by simp [spec_AskStage.j0] at h
 | k + 1 => by
  have ih0 := spec_AskStage.mono_l k
  ·
   intro y0 y1 y2 y3 y4 y5 y6 y7 y8 y9 y10
   unfold spec_AskStage.j0
   exact mz5 ih0 spec_CanEnd.mono spec_ClearBetween.mono spec_EqualInts.mono spec_IsTogether.mono
theorem spec_AskStage.mono : ∀ a0 a1 a2 a3 a4 a5 k, LeO (spec_AskStage.f k a0 a1 a2 a3 a4 a5) (spec_AskStage.f (k + 1) a0 a1 a2 a3 a4 a5) := by
 intro a0 a1 a2 a3 a4 a5 k
 have ih0 := spec_AskStage.mono_l k
 unfold spec_AskStage.f
 exact mz5 ih0 spec_CanEnd.mono spec_ClearBetween.mono spec_EqualInts.mono spec_IsTogether.mono
set_option maxHeartbeats 8000000 in
set_option maxRecDepth 100000 in
theorem spec_AskStage.calls (k : Nat) (A0 : Option Addr) (c0 : Nat) (l0 : List (S89)) (A1_0 : Option Addr) (c1_0 : Nat) (l1_0 : List Int) (a1_1 : Int) (A1_2 : Option Addr) (c1_2 : Nat) (l1_2 : List Int) (a1_3 : Int) (A2 : Option Addr) (c2 : Nat) (l2 : List Int) (r1 : List Int) (r2 : Int) (r3 : List Int) (r4 : Int) (r5 : Bool) (w : World) (hr0 : Kd.C k89 w A0 l0.length l0) (hc0 : l0.length ≤ c0) (hr1_0 : Kd.C (Kd.int .i64) w A1_0 l1_0.length l1_0) (hc1_0 : l1_0.length ≤ c1_0) (hr1_2 : Kd.C (Kd.int .i64) w A1_2 l1_2.length l1_2) (hc1_2 : l1_2.length ≤ c1_2) (hr2 : Kd.C (Kd.int .i64) w A2 l2.length l2) (hc2 : l2.length ≤ c2) (h : spec_AskStage.f k l0 l1_0 a1_1 l1_2 a1_3 l2 = some (r1, r2, r3, r4, r5)) :
  Calls Try.prog 39 #[.slice A0 l0.length c0, .agg #[.slice A1_0 l1_0.length c1_0, .int .i64 a1_1, .slice A1_2 l1_2.length c1_2, .int .i64 a1_3], .slice A2 l2.length c2] w fun e w' => ∃ v0_ v2_ : Value, e = .returned (.tuple #[.agg #[v0_, .int .i64 r2, v2_, .int .i64 r4], .bool r5]) ∧ Kd.R (Kd.int .i64) 3 w' w.heap.size (n1 v2_) v0_ r1 ∧ Kd.R (Kd.int .i64) 3 w' w.heap.size (n1 v0_) v2_ r3 ∧ Below w.heap.size w w' := by
 have hu57 := Try.underlying57
 have HR0 := Aside0.mk hr0
 have HC0 := Aside0.mk hc0
 clear hr0 hc0
 have HR1_0 := Aside0.mk hr1_0
 have HC1_0 := Aside0.mk hc1_0
 clear hr1_0 hc1_0
 have HR1_2 := Aside0.mk hr1_2
 have HC1_2 := Aside0.mk hc1_2
 clear hr1_2 hc1_2
 have HR2 := Aside0.mk hr2
 have HC2 := Aside0.mk hc2
 clear hr2 hc2
 have HB := Aside0.mk (Below.refl w.heap.size w)
 have H : ((spec_l14Copy.f l1_0 a1_1 l1_2 a1_3).bind fun bt230 => ((spec_CanEnd.f k l0 l1_0 a1_1 l1_2 a1_3).bind fun t239 => (if t239 = true then (if (l2.length : Int) = 0 then (spec_AskStage.j0 k l0 l2 true l1_0 a1_1 l1_2 a1_3 bt230.1 bt230.2.1 bt230.2.2.1 bt230.2.2.2) else ((spec_IsTogether.f k l0 l2).bind fun t240 => (if t240 = true then ((spec_EqualInts.f k l2 l1_0).bind fun t241 => (spec_AskStage.j0 k l0 l2 t241 l1_0 a1_1 l1_2 a1_3 bt230.1 bt230.2.1 bt230.2.2.1 bt230.2.2.2)) else (spec_AskStage.j0 k l0 l2 true l1_0 a1_1 l1_2 a1_3 bt230.1 bt230.2.1 bt230.2.2.1 bt230.2.2.2)))) else (spec_AskStage.j0 k l0 l2 true l1_0 a1_1 l1_2 a1_3 bt230.1 bt230.2.1 bt230.2.2.1 bt230.2.2.2)))) = some (r1, r2, r3, r4, r5) := h
 clear h
 obtain ⟨⟨t230, t233, t234, t237⟩, A4, H⟩ := bindE H
 try dsimp only at H
 have HC5 := Aside0.mk H
 clear H
 go_enter Try.func39, Try.ntmps39
 go_upto_region 2 with (first | ((with_reducible refine gate_dst (N := 4) rfl ?_); (try (refine gate_guard (by rfl) ?_; dsimp only)); refine bE (N := 4) (cs := #[.slice A1_0 l1_0.length c1_0, .int .i64 a1_1, .slice A1_2 l1_2.length c1_2, .int .i64 a1_3]) (t := 57) ?_; intro gb228 hg w6 hbox hb; have BK228 := Aside0.mk (hbox); have GW228 := gw w hg; have GE228 := gw w hg; replace HB := bs HB hb; clear hb hbox hg) | ((with_reducible refine gate_dst (N := 6) rfl ?_); (try (refine gate_guard (by rfl) ?_; dsimp only)); refine bE (N := 6) (cs := #[.slice none 0 0, .int .i64 0, .slice none 0 0, .int .i64 0]) (t := 57) ?_; intro gb229 hg w7 hbox hb; have BK229 := Aside0.mk (hbox); have GW229 := gw w hg; have GE229 := gw w hg; replace HB := bs HB hb; have NB228_229 := nl BK228 hg; have NB229_228 := nr BK228 hg; replace BK228 := kb BK228 hb; clear hb hbox hg; have hnb8 := NB228_229.out; have hnc8 := NB229_228.out; have hcz9_0 : w7.cell? ⟨gb228, 0, none⟩ = some (.slice A1_0 l1_0.length c1_0) := bC BK228 0; have hcz9_1 : w7.cell? ⟨gb228, 1, none⟩ = some (.int .i64 a1_1) := bC BK228 1; have hcz9_2 : w7.cell? ⟨gb228, 2, none⟩ = some (.slice A1_2 l1_2.length c1_2) := bC BK228 2; have hcz9_3 : w7.cell? ⟨gb228, 3, none⟩ = some (.int .i64 a1_3) := bC BK228 3; have hfz9_0 := blk_frozen BK228.out 0; have hfz9_1 := blk_frozen BK228.out 1; have hfz9_2 := blk_frozen BK228.out 2; have hfz9_3 := blk_frozen BK228.out 3) | ((with_reducible refine gate_callee (f := 80) rfl ?_); refine gL (some 11) Try.func80 #[.agg #[.slice A1_0 l1_0.length c1_0, .int .i64 a1_1, .slice A1_2 l1_2.length c1_2, .int .i64 a1_3]] ?_; (with_reducible refine (spec_l14Copy.calls _ _ l1_0 a1_1 _ _ l1_2 a1_3 t230 t233 t234 t237 _ ?_ ?_ ?_ ?_ A4.out).mono ?_); exact cB HR1_0; exact HC1_0.out; exact cB HR1_2; exact HC1_2.out; rintro e w10 ⟨v231, v235, rfl, ho0, ho1, hb⟩; refine ⟨_, rfl, ?_⟩; have HO232 := rl w ho0; have HO236 := rl w ho1; replace BK228 := kb BK228 hb; replace BK229 := kb BK229 hb; replace HB := bs HB hb; (try clear hb); (try clear ho0); (try clear ho1)) | ((with_reducible refine gate_dst (N := 8) rfl ?_); (try (refine gate_guard (by rfl) ?_; dsimp only)); refine bE (N := 8) (cs := #[.slice none 0 0, .int .i64 0, .slice none 0 0, .int .i64 0]) (t := 57) ?_; intro gb238 hg w11 hbox hb; replace HO232 := rb HO232 hb; replace HO236 := rb HO236 hb; have BK238 := Aside0.mk (hbox); have GW238 := gw w hg; have GE238 := gw w hg; replace HB := bs HB hb; have NB228_238 := nl BK228 hg; have NB238_228 := nr BK228 hg; replace BK228 := kb BK228 hb; have NB229_238 := nl BK229 hg; have NB238_229 := nr BK229 hg; replace BK229 := kb BK229 hb; clear hb hbox hg; obtain ⟨Ao12, co12, eo12⟩ := Kd.R_slice HO232.out; subst eo12; have hnb13 := NB238_228.out; have hnc13 := NB228_238.out; have hnb14 := NB238_229.out; have hnc14 := NB229_238.out; obtain ⟨_, _, _, _, _, _, _, _⟩ := blkc4 BK238; obtain ⟨Ao16, co16, eo16⟩ := Kd.R_slice HO236.out; subst eo16))
 (try simp only [Act.put, List.setIfInBounds_toArray, List.set_cons_zero, List.set_cons_succ])
 go_cut [32] (fun v32 wc => ∃ (kq : Nat) (x32_4 : Bool), v32 = .bool x32_4 ∧ Aside0 (spec_AskStage.j0 kq l0 l2 x32_4 l1_0 a1_1 l1_2 a1_3 t230 t233 t234 t237 = some (r1, r2, r3, r4, r5)) ∧ Aside0 (kq ≤ k) ∧ Aside0 (Kd.R (Kd.int .i64) 3 wc w.heap.size (n1 (.slice Ao16 t234.length co16)) (.slice Ao12 t230.length co12) t230) ∧ Aside0 (Kd.R (Kd.int .i64) 3 wc w.heap.size (n1 (.slice Ao12 t230.length co12)) (.slice Ao16 t234.length co16) t234) ∧ Aside0 (wc.heap[gb228]? = some (.cells #[(.slice A1_0 l1_0.length c1_0), .int .i64 a1_1, (.slice A1_2 l1_2.length c1_2), .int .i64 a1_3] 57 (0, 0))) ∧ Aside0 (wc.heap[gb229]? = some (.cells #[(.slice none 0 0), .int .i64 0, (.slice none 0 0), .int .i64 0] 57 (0, 0))) ∧ Aside0 (wc.heap[gb238]? = some (.cells #[(.slice Ao12 t230.length co12), .int .i64 t233, (.slice Ao16 t234.length co16), .int .i64 t237] 57 (0, 0))) ∧ Aside0 (Below w.heap.size w wc))
 case first =>
  have H := HC5.out
  clear HC5
  obtain ⟨t239, A17, H⟩ := bindE H
  try dsimp only at H
  by_cases c18 : t239 = true
  ·
   subst c18
   have H1 : (if (l2.length : Int) = 0 then (spec_AskStage.j0 k l0 l2 true l1_0 a1_1 l1_2 a1_3 t230 t233 t234 t237) else ((spec_IsTogether.f k l0 l2).bind fun t240 => (if t240 = true then ((spec_EqualInts.f k l2 l1_0).bind fun t241 => (spec_AskStage.j0 k l0 l2 t241 l1_0 a1_1 l1_2 a1_3 t230 t233 t234 t237)) else (spec_AskStage.j0 k l0 l2 true l1_0 a1_1 l1_2 a1_3 t230 t233 t234 t237)))) = some (r1, r2, r3, r4, r5) := by rw [if_pos rfl] at H; exact H
   clear H
   have H := H1
   clear H1
   by_cases c19 : (l2.length : Int) = 0
   ·
    rw [if_pos c19] at H
    have c19b0 : ((l2.length : Int) == 0) = true := beq_iff_eq.mpr c19
    have c19b1 : ((l2.length : Int) != 0) = false := bne_eq_false_iff_eq.mpr c19
    clear c19
    (first | rw [c19b0] | (simp only [i64_w, i32_w]; rw [c19b0]) | skip)
    have H' := Aside0.mk H
    clear H
    have hnb20 := NB228_229.out
    have hnc20 := NB229_228.out
    have hnb21 := NB228_238.out
    have hnc21 := NB238_228.out
    obtain ⟨_, _, _, _, _, _, _, _⟩ := blkc4 BK228
    go_wp2_with (first | ((with_reducible refine gate_callee (f := 81) rfl ?_); refine gL (some 14) Try.func81 #[.slice A0 l0.length c0, .agg #[.slice A1_0 l1_0.length c1_0, .int .i64 a1_1, .slice A1_2 l1_2.length c1_2, .int .i64 a1_3]] ?_; (with_reducible refine (spec_CanEnd.calls k _ _ l0 _ _ l1_0 a1_1 _ _ l1_2 a1_3 true _ ?_ ?_ ?_ ?_ ?_ ?_ A17.out).mono ?_); exact Kd.C_below HR0.out bG; exact HC0.out; exact Kd.C_below HR1_0.out bG; exact HC1_0.out; exact Kd.C_below HR1_2.out bG; exact HC1_2.out; rintro e w23 ⟨rfl, hb⟩; refine ⟨_, rfl, ?_⟩; replace HO232 := Aside0.mk (Kd.R_below (rf HO232 BK238) hb); replace HO236 := Aside0.mk (Kd.R_below (rf HO236 BK238) hb); replace BK228 := kc (kf BK228 NB228_238) hb; replace BK229 := kc (kf BK229 NB229_238) hb; replace BK238 := kc (o := .cells #[.slice Ao12 t230.length co12, .int .i64 t233, .slice Ao16 t234.length co16, .int .i64 t237] 57 (0, 0)) (kp BK238) hb; replace HB := bs HB hb; (try clear hb)))
    go_meet
    case rel => exact ⟨_, (true), rS, H', ⟨oL⟩, ⟨rK HO232⟩, ⟨rK HO236⟩, ⟨bK BK228⟩, ⟨bK BK229⟩, ⟨bK BK238⟩, ⟨bG⟩⟩
   rw [if_neg c19] at H
   have c19b0 : ((l2.length : Int) == 0) = false := beq_eq_false_iff_ne.mpr c19
   have c19b1 : ((l2.length : Int) != 0) = true := bne_iff_ne.mpr c19
   have c19b2 : ¬ (l2 = []) := fun h_ => c19 (by rw [h_]; rfl)
   (first | rw [c19b0] | (simp only [i64_w, i32_w]; rw [c19b0]) | skip)
   obtain ⟨t240, A24, H⟩ := bindE H
   try dsimp only at H
   by_cases c25 : t240 = true
   ·
    subst c25
    have H1 : ((spec_EqualInts.f k l2 l1_0).bind fun t241 => (spec_AskStage.j0 k l0 l2 t241 l1_0 a1_1 l1_2 a1_3 t230 t233 t234 t237)) = some (r1, r2, r3, r4, r5) := by rw [if_pos rfl] at H; exact H
    clear H
    have H := H1
    clear H1
    obtain ⟨t241, A26, H⟩ := bindE H
    try dsimp only at H
    have H' := Aside0.mk H
    clear H
    have hnb27 := NB228_229.out
    have hnc27 := NB229_228.out
    have hnb28 := NB228_238.out
    have hnc28 := NB238_228.out
    obtain ⟨_, _, _, _, _, _, _, _⟩ := blkc4 BK228
    go_wp2_with (first | ((with_reducible refine gate_callee (f := 81) rfl ?_); refine gL (some 14) Try.func81 #[.slice A0 l0.length c0, .agg #[.slice A1_0 l1_0.length c1_0, .int .i64 a1_1, .slice A1_2 l1_2.length c1_2, .int .i64 a1_3]] ?_; (with_reducible refine (spec_CanEnd.calls k _ _ l0 _ _ l1_0 a1_1 _ _ l1_2 a1_3 true _ ?_ ?_ ?_ ?_ ?_ ?_ A17.out).mono ?_); exact Kd.C_below HR0.out bG; exact HC0.out; exact Kd.C_below HR1_0.out bG; exact HC1_0.out; exact Kd.C_below HR1_2.out bG; exact HC1_2.out; rintro e w30 ⟨rfl, hb⟩; refine ⟨_, rfl, ?_⟩; replace HO232 := Aside0.mk (Kd.R_below (rf HO232 BK238) hb); replace HO236 := Aside0.mk (Kd.R_below (rf HO236 BK238) hb); replace BK228 := kc (kf BK228 NB228_238) hb; replace BK229 := kc (kf BK229 NB229_238) hb; replace BK238 := kc (o := .cells #[.slice Ao12 t230.length co12, .int .i64 t233, .slice Ao16 t234.length co16, .int .i64 t237] 57 (0, 0)) (kp BK238) hb; replace HB := bs HB hb; (try clear hb)) | (go_at_call 82; (with_reducible refine (spec_IsTogether.calls k _ _ l0 _ _ l2 true _ ?_ ?_ ?_ ?_ A24.out).mono ?_); exact cB HR0; exact HC0.out; exact cB HR2; exact HC2.out; rintro e w31 ⟨rfl, hb⟩; replace HO232 := rb HO232 hb; replace HO236 := rb HO236 hb; replace BK228 := kb BK228 hb; replace BK229 := kb BK229 hb; replace BK238 := kb BK238 hb; replace HB := bs HB hb; (try clear hb); have hcz32_0 : w31.cell? ⟨gb228, 0, none⟩ = some (.slice A1_0 l1_0.length c1_0) := bC BK228 0; have hcz32_1 : w31.cell? ⟨gb228, 1, none⟩ = some (.int .i64 a1_1) := bC BK228 1; have hcz32_2 : w31.cell? ⟨gb228, 2, none⟩ = some (.slice A1_2 l1_2.length c1_2) := bC BK228 2; have hcz32_3 : w31.cell? ⟨gb228, 3, none⟩ = some (.int .i64 a1_3) := bC BK228 3; have hfz32_0 := blk_frozen BK228.out 0; have hfz32_1 := blk_frozen BK228.out 1; have hfz32_2 := blk_frozen BK228.out 2; have hfz32_3 := blk_frozen BK228.out 3) | (go_at_call 83; (with_reducible refine (spec_EqualInts.calls k _ _ l2 _ _ l1_0 t241 _ ?_ ?_ ?_ ?_ A26.out).mono ?_); exact cB HR2; exact HC2.out; exact cB HR1_0; exact HC1_0.out; rintro e w' ⟨rfl, ⟨nd, rfl⟩⟩))
    go_meet
    case rel => exact ⟨_, (t241), rS, H', ⟨oL⟩, ⟨rK HO232⟩, ⟨rK HO236⟩, ⟨bK BK228⟩, ⟨bK BK229⟩, ⟨bK BK238⟩, ⟨bG⟩⟩
   replace c25 := Bool.eq_false_iff.mpr c25
   subst c25
   have H1 : (spec_AskStage.j0 k l0 l2 true l1_0 a1_1 l1_2 a1_3 t230 t233 t234 t237) = some (r1, r2, r3, r4, r5) := by rw [if_neg (show ¬ (false = true) by decide)] at H; exact H
   clear H
   have H := H1
   clear H1
   have H' := Aside0.mk H
   clear H
   have hnb33 := NB228_229.out
   have hnc33 := NB229_228.out
   have hnb34 := NB228_238.out
   have hnc34 := NB238_228.out
   obtain ⟨_, _, _, _, _, _, _, _⟩ := blkc4 BK228
   go_wp2_with (first | ((with_reducible refine gate_callee (f := 81) rfl ?_); refine gL (some 14) Try.func81 #[.slice A0 l0.length c0, .agg #[.slice A1_0 l1_0.length c1_0, .int .i64 a1_1, .slice A1_2 l1_2.length c1_2, .int .i64 a1_3]] ?_; (with_reducible refine (spec_CanEnd.calls k _ _ l0 _ _ l1_0 a1_1 _ _ l1_2 a1_3 true _ ?_ ?_ ?_ ?_ ?_ ?_ A17.out).mono ?_); exact Kd.C_below HR0.out bG; exact HC0.out; exact Kd.C_below HR1_0.out bG; exact HC1_0.out; exact Kd.C_below HR1_2.out bG; exact HC1_2.out; rintro e w36 ⟨rfl, hb⟩; refine ⟨_, rfl, ?_⟩; replace HO232 := Aside0.mk (Kd.R_below (rf HO232 BK238) hb); replace HO236 := Aside0.mk (Kd.R_below (rf HO236 BK238) hb); replace BK228 := kc (kf BK228 NB228_238) hb; replace BK229 := kc (kf BK229 NB229_238) hb; replace BK238 := kc (o := .cells #[.slice Ao12 t230.length co12, .int .i64 t233, .slice Ao16 t234.length co16, .int .i64 t237] 57 (0, 0)) (kp BK238) hb; replace HB := bs HB hb; (try clear hb)) | (go_at_call 82; (with_reducible refine (spec_IsTogether.calls k _ _ l0 _ _ l2 false _ ?_ ?_ ?_ ?_ A24.out).mono ?_); exact cB HR0; exact HC0.out; exact cB HR2; exact HC2.out; rintro e w37 ⟨rfl, hb⟩; replace HO232 := rb HO232 hb; replace HO236 := rb HO236 hb; replace BK228 := kb BK228 hb; replace BK229 := kb BK229 hb; replace BK238 := kb BK238 hb; replace HB := bs HB hb; (try clear hb)))
   go_meet
   case rel => exact ⟨_, (true), rS, H', ⟨oL⟩, ⟨rK HO232⟩, ⟨rK HO236⟩, ⟨bK BK228⟩, ⟨bK BK229⟩, ⟨bK BK238⟩, ⟨bG⟩⟩
  replace c18 := Bool.eq_false_iff.mpr c18
  subst c18
  have H1 : (spec_AskStage.j0 k l0 l2 true l1_0 a1_1 l1_2 a1_3 t230 t233 t234 t237) = some (r1, r2, r3, r4, r5) := by rw [if_neg (show ¬ (false = true) by decide)] at H; exact H
  clear H
  have H := H1
  clear H1
  have H' := Aside0.mk H
  clear H
  have hnb38 := NB228_229.out
  have hnc38 := NB229_228.out
  have hnb39 := NB228_238.out
  have hnc39 := NB238_228.out
  obtain ⟨_, _, _, _, _, _, _, _⟩ := blkc4 BK228
  go_wp2_with (first | ((with_reducible refine gate_callee (f := 81) rfl ?_); refine gL (some 14) Try.func81 #[.slice A0 l0.length c0, .agg #[.slice A1_0 l1_0.length c1_0, .int .i64 a1_1, .slice A1_2 l1_2.length c1_2, .int .i64 a1_3]] ?_; (with_reducible refine (spec_CanEnd.calls k _ _ l0 _ _ l1_0 a1_1 _ _ l1_2 a1_3 false _ ?_ ?_ ?_ ?_ ?_ ?_ A17.out).mono ?_); exact Kd.C_below HR0.out bG; exact HC0.out; exact Kd.C_below HR1_0.out bG; exact HC1_0.out; exact Kd.C_below HR1_2.out bG; exact HC1_2.out; rintro e w41 ⟨rfl, hb⟩; refine ⟨_, rfl, ?_⟩; replace HO232 := Aside0.mk (Kd.R_below (rf HO232 BK238) hb); replace HO236 := Aside0.mk (Kd.R_below (rf HO236 BK238) hb); replace BK228 := kc (kf BK228 NB228_238) hb; replace BK229 := kc (kf BK229 NB229_238) hb; replace BK238 := kc (o := .cells #[.slice Ao12 t230.length co12, .int .i64 t233, .slice Ao16 t234.length co16, .int .i64 t237] 57 (0, 0)) (kp BK238) hb; replace HB := bs HB hb; (try clear hb)))
  go_meet
  case rel => exact ⟨_, (true), rS, H', ⟨oL⟩, ⟨rK HO232⟩, ⟨rK HO236⟩, ⟨bK BK228⟩, ⟨bK BK229⟩, ⟨bK BK238⟩, ⟨bG⟩⟩
 case rest =>
  clear HC5
  obtain ⟨kq, x32_4, rfl, HA, HJ4, HO_239000, HO_239002, BK228, BK229, BK238, HB⟩ := hcut
  cases kq with
  | zero => exact absurd HA.out (by simp [spec_AskStage.j0])
  | succ kj4 =>
   have H := HA.out
   clear HA
   simp only [spec_AskStage.j0] at H
   by_cases c42 : x32_4 = true
   ·
    subst c42
    have H1 : (some (t230, t233, t234, t237, false)) = some (r1, r2, r3, r4, r5) := by rw [if_pos rfl] at H; exact H
    clear H
    have H := H1
    clear H1
    simp only [Option.some.injEq, Prod.mk.injEq] at H
    obtain ⟨rfl, rfl, rfl, rfl, rfl⟩ := H
    have hnb43 := NB238_228.out
    have hnc43 := NB228_238.out
    have hnb44 := NB238_229.out
    have hnc44 := NB229_238.out
    obtain ⟨_, _, _, _, _, _, _, _⟩ := blkc4 BK238
    have hnb46 := NB229_228.out
    have hnc46 := NB228_229.out
    obtain ⟨_, _, _, _, _, _, _, _⟩ := blkc4 BK229
    go_wp2
    refine bodyPost_ret (results_ct rfl _ _ gb229 57 #[.slice Ao12 t230.length co12, .int .i64 t233, .slice Ao16 t234.length co16, .int .i64 t237] (0, 0) _ rfl (kp BK229) Try.underlying57 rfl (by kernel_rfl)) rfl ?_
    exact ⟨_, _, rA, rf HO_239000 BK229, rf HO_239002 BK229, bG⟩
   replace c42 := Bool.eq_false_iff.mpr c42
   subst c42
   have H1 : ((spec_ClearBetween.f kj4 l0 l1_0 l2).bind fun t242 => (if t242 = 0 then ((some (([] : List Int) : List Int)).bind fun y243 => (if y243.length + l2.length < 17592186044416 then (some ((y243 ++ l2), 0, ([] : List Int), 0, true)) else (none))) else ((some (([] : List Int) : List Int)).bind fun y249 => (if y249.length + l2.length < 17592186044416 then (some (t230, t233, (y249 ++ l2), t242, true)) else (none))))) = some (r1, r2, r3, r4, r5) := by rw [if_neg (show ¬ (false = true) by decide)] at H; exact H
   clear H
   have H := H1
   clear H1
   obtain ⟨t242, A48, H⟩ := bindE H
   try dsimp only at H
   by_cases c49 : t242 = 0
   ·
    rw [if_pos c49] at H
    have c49b0 : (t242 == 0) = true := beq_iff_eq.mpr c49
    have c49b1 : (t242 != 0) = false := bne_eq_false_iff_eq.mpr c49
    clear c49
    obtain ⟨y243, hy243⟩ : ∃ y_ : List Int, y_ = (([] : List Int)) := ⟨_, rfl⟩
    replace H : (if y243.length + l2.length < 17592186044416 then (some ((y243 ++ l2), 0, ([] : List Int), 0, true)) else (none)) = some (r1, r2, r3, r4, r5) := rH H hy243
    have Ny243 := Aside0.mk hy243
    clear hy243
    have c50 : y243.length + l2.length < 17592186044416 := ifN H
    replace H := ifT H
    have LMc50 := Aside0.mk c50
    clear c50
    obtain ⟨y246, hy246⟩ : ∃ y_ : List Int, y_ = (y243 ++ l2) := ⟨_, rfl⟩
    replace H : (some (y246, 0, ([] : List Int), 0, true)) = some (r1, r2, r3, r4, r5) := rH H hy246
    have Ny246 := Aside0.mk hy246
    clear hy246
    simp only [Option.some.injEq, Prod.mk.injEq] at H
    obtain ⟨rfl, rfl, rfl, rfl, rfl⟩ := H
    have hnb51 := NB228_229.out
    have hnc51 := NB229_228.out
    have hnb52 := NB228_238.out
    have hnc52 := NB238_228.out
    obtain ⟨_, _, _, _, _, _, _, _⟩ := blkc4 BK228
    go_wp2_with (first | ((with_reducible refine gate_callee (f := 84) rfl ?_); refine gL (some 38) Try.func84 #[.slice A0 l0.length c0, .slice A1_0 l1_0.length c1_0, .slice A2 l2.length c2] ?_; (with_reducible refine (spec_ClearBetween.calls kj4 _ _ l0 _ _ l1_0 _ _ l2 t242 _ ?_ ?_ ?_ ?_ ?_ ?_ A48.out).mono ?_); exact cB HR0; exact HC0.out; exact cB HR1_0; exact HC1_0.out; exact cB HR2; exact HC2.out; rintro e w54 ⟨rfl, hb⟩; refine ⟨_, rfl, ?_⟩; replace HO_239000 := rb HO_239000 hb; replace HO_239002 := rb HO_239002 hb; replace BK228 := kb BK228 hb; replace BK229 := kb BK229 hb; replace BK238 := kb BK238 hb; replace HB := bs HB hb; (try clear hb)) | ((with_reducible refine gate_dst (N := 41) rfl ?_); (try (refine gate_guard (by rfl) ?_; dsimp only)); refine Kd.R_lit (Kd.int .i64) _ 3 ?hg (N := 41) ?hd (xs := ([] : List Int)) (inner := []) (ok := fun _ => True) (okp := fun _ => True) ?hr ?hp (fun _ hk => hk) trivial (Below.refl _ _) (Nat.le_refl _) (by simp) ?_; (case hd => rfl); (case hg => rfl); (case hr => first | (go_simp; done) | (go_simp; rfl)); (case hp => exact (Reps.none _ _)); intro v244 w55 ho56 hb hg_ hnew_; clear hg_ hnew_; (first | rw [← Ny243.out] at ho56 | (simp only [Int.reduceToNat] at ho56; rw [← Ny243.out] at ho56)); have HO245 := rl w (rn (rn ho56 HO_239000) HO_239002); replace HO_239000 := re HO_239000 ho56 hb; replace HO_239002 := re HO_239002 ho56 hb; replace BK228 := kb BK228 hb; replace BK229 := kb BK229 hb; replace BK238 := kb BK238 hb; replace HB := bs HB hb; clear hb ho56) | ((with_reducible refine gate_builtin (b := .append) (xs := #[.tmp 41, .tmp 42]) rfl ?_); (try (refine gate_guard (by rfl) ?_; dsimp only)); at_builtin; refine Kd.R_append_rows (Kd.int .i64) (w0 := w) w.heap.size rfl (.tmp 41) (.tmp 42) 41 3 (.int .i64 0) 8 rfl Try.underlying41 info3 rfl (by decide) (by omega) v244 y243 l2 _ _ _ (n2 (.slice Ao12 t230.length co12) (.slice Ao16 t234.length co16)) (fun _ => False) rfl rfl ?aO ?aR (fun _ _ h => h) (fun _ h => h.elim) ?aF ?aB ?aS ?aL ?_; (case aR => repeat (first | exact (Kd.C_below HR2.out HB.out) | (with_reducible refine Kd.C_alloc ?_ _) | (with_reducible refine Kd.C_drewN ?_ _) | (with_reducible refine Kd.C_drew ?_))); (case aB => exact bG); (case aF => exact (fun k_ hk => ⟨Kd.fresh' (Kd.R_lt (rK HO_239000)) k_ hk, Kd.fresh' (Kd.R_lt (rK HO_239002)) k_ hk⟩)); (case aO => exact (rm HO245 (fun _ hk => ⟨hk.1.2, hk.2⟩))); (case aS => exact (below_size bG)); (case aL => have := LMc50.out; omega); intro v247 w57 ho hb hg hat; rw [← Ny246.out] at ho; have n0_ := Aside0.mk (Kd.R_after (ok := (n1 (.slice Ao16 t234.length co16))) (rK HO_239000) hg hat); have n1_ := Aside0.mk (Kd.R_after (ok := (n1 (.slice Ao12 t230.length co12))) (rK HO_239002) hg hat); have n2_ := Aside0.mk (blk_grown (g := gb228) (o := .cells #[.slice A1_0 l1_0.length c1_0, .int .i64 a1_1, .slice A1_2 l1_2.length c1_2, .int .i64 a1_3] 57 (0, 0)) (bK BK228) hg (Kd.R_ne HO245.out BK228.out (by decide))); have n3_ := Aside0.mk (blk_grown (g := gb229) (o := .cells #[.slice none 0 0, .int .i64 0, .slice none 0 0, .int .i64 0] 57 (0, 0)) (bK BK229) hg (Kd.R_ne HO245.out BK229.out (by decide))); have n4_ := Aside0.mk (blk_grown (g := gb238) (o := .cells #[.slice Ao12 t230.length co12, .int .i64 t233, .slice Ao16 t234.length co16, .int .i64 t237] 57 (0, 0)) (bK BK238) hg (Kd.R_ne HO245.out BK238.out (by decide))); have n5_ := Aside0.mk (hb); have n6_ := Aside0.mk (ho); clear HO_239000; clear HO_239002; clear BK228; clear BK229; clear BK238; clear HB; clear HO245; have HO_239000 := n0_; have HO_239002 := n1_; have BK228 := n2_; have BK229 := n3_; have BK238 := n4_; have HB := n5_; have HO248 := n6_; clear n0_ n1_ n2_ n3_ n4_ n5_ n6_; clear ho hb hg hat; obtain ⟨Ao58, co58, eo58⟩ := Kd.R_slice HO248.out; subst eo58; have hnb59 := NB229_238.out; have hnc59 := NB238_229.out; obtain ⟨_, _, _, _, _, _, _, _⟩ := blkc4 BK229))
    refine bodyPost_ret (results_ct rfl _ _ gb229 57 #[.slice Ao58 y246.length co58, .int .i64 0, .slice none 0 0, .int .i64 0] (0, 0) _ rfl (kp BK229) Try.underlying57 rfl (by kernel_rfl)) rfl ?_
    exact ⟨_, _, rA, Kd.R_mono (rf HO248 BK229) (fun _ hk => (by simp [Value.ownBlock])), by first | exact Kd.R_nil _ _ _ _ _ | exact Kd.N_nil _ _ _ _ _ | exact Kd.V_nil _ _ _ _ _ | exact Kd.Q_nil _ _ _ _ _ | exact Kd.S_nil _ _ _ _ _, bG⟩
   rw [if_neg c49] at H
   have c49b0 : (t242 == 0) = false := beq_eq_false_iff_ne.mpr c49
   have c49b1 : (t242 != 0) = true := bne_iff_ne.mpr c49
   obtain ⟨y249, hy249⟩ : ∃ y_ : List Int, y_ = (([] : List Int)) := ⟨_, rfl⟩
   replace H : (if y249.length + l2.length < 17592186044416 then (some (t230, t233, (y249 ++ l2), t242, true)) else (none)) = some (r1, r2, r3, r4, r5) := rH H hy249
   have Ny249 := Aside0.mk hy249
   clear hy249
   have c61 : y249.length + l2.length < 17592186044416 := ifN H
   replace H := ifT H
   have LMc61 := Aside0.mk c61
   clear c61
   obtain ⟨y252, hy252⟩ : ∃ y_ : List Int, y_ = (y249 ++ l2) := ⟨_, rfl⟩
   replace H : (some (t230, t233, y252, t242, true)) = some (r1, r2, r3, r4, r5) := rH H hy252
   have Ny252 := Aside0.mk hy252
   clear hy252
   simp only [Option.some.injEq, Prod.mk.injEq] at H
   obtain ⟨rfl, rfl, rfl, rfl, rfl⟩ := H
   have hnb62 := NB228_229.out
   have hnc62 := NB229_228.out
   have hnb63 := NB228_238.out
   have hnc63 := NB238_228.out
   obtain ⟨_, _, _, _, _, _, _, _⟩ := blkc4 BK228
   go_wp2_with (first | ((with_reducible refine gate_callee (f := 84) rfl ?_); refine gL (some 38) Try.func84 #[.slice A0 l0.length c0, .slice A1_0 l1_0.length c1_0, .slice A2 l2.length c2] ?_; (with_reducible refine (spec_ClearBetween.calls kj4 _ _ l0 _ _ l1_0 _ _ l2 t242 _ ?_ ?_ ?_ ?_ ?_ ?_ A48.out).mono ?_); exact cB HR0; exact HC0.out; exact cB HR1_0; exact HC1_0.out; exact cB HR2; exact HC2.out; rintro e w65 ⟨rfl, hb⟩; refine ⟨_, rfl, ?_⟩; replace HO_239000 := rb HO_239000 hb; replace HO_239002 := rb HO_239002 hb; replace BK228 := kb BK228 hb; replace BK229 := kb BK229 hb; replace BK238 := kb BK238 hb; replace HB := bs HB hb; (try clear hb)) | ((with_reducible refine gate_dst (N := 45) rfl ?_); (try (refine gate_guard (by rfl) ?_; dsimp only)); refine Kd.R_lit (Kd.int .i64) _ 3 ?hg (N := 45) ?hd (xs := ([] : List Int)) (inner := []) (ok := fun _ => True) (okp := fun _ => True) ?hr ?hp (fun _ hk => hk) trivial (Below.refl _ _) (Nat.le_refl _) (by simp) ?_; (case hd => rfl); (case hg => rfl); (case hr => first | (go_simp; done) | (go_simp; rfl)); (case hp => exact (Reps.none _ _)); intro v250 w66 ho67 hb hg_ hnew_; clear hg_ hnew_; (first | rw [← Ny249.out] at ho67 | (simp only [Int.reduceToNat] at ho67; rw [← Ny249.out] at ho67)); have HO251 := rl w (rn (rn ho67 HO_239000) HO_239002); replace HO_239000 := re HO_239000 ho67 hb; replace HO_239002 := re HO_239002 ho67 hb; replace BK228 := kb BK228 hb; replace BK229 := kb BK229 hb; replace BK238 := kb BK238 hb; replace HB := bs HB hb; clear hb ho67) | ((with_reducible refine gate_builtin (b := .append) (xs := #[.tmp 45, .tmp 46]) rfl ?_); (try (refine gate_guard (by rfl) ?_; dsimp only)); at_builtin; refine Kd.R_append_rows (Kd.int .i64) (w0 := w) w.heap.size rfl (.tmp 45) (.tmp 46) 41 3 (.int .i64 0) 8 rfl Try.underlying41 info3 rfl (by decide) (by omega) v250 y249 l2 _ _ _ (n2 (.slice Ao12 t230.length co12) (.slice Ao16 t234.length co16)) (fun _ => False) rfl rfl ?aO ?aR (fun _ _ h => h) (fun _ h => h.elim) ?aF ?aB ?aS ?aL ?_; (case aR => repeat (first | exact (Kd.C_below HR2.out HB.out) | (with_reducible refine Kd.C_alloc ?_ _) | (with_reducible refine Kd.C_drewN ?_ _) | (with_reducible refine Kd.C_drew ?_))); (case aB => exact bG); (case aF => exact (fun k_ hk => ⟨Kd.fresh' (Kd.R_lt (rK HO_239000)) k_ hk, Kd.fresh' (Kd.R_lt (rK HO_239002)) k_ hk⟩)); (case aO => exact (rm HO251 (fun _ hk => ⟨hk.1.2, hk.2⟩))); (case aS => exact (below_size bG)); (case aL => have := LMc61.out; omega); intro v253 w68 ho hb hg hat; rw [← Ny252.out] at ho; have n0_ := Aside0.mk (Kd.R_after (ok := (n1 (.slice Ao16 t234.length co16))) (rK HO_239000) hg hat); have n1_ := Aside0.mk (Kd.R_after (ok := (n1 (.slice Ao12 t230.length co12))) (rK HO_239002) hg hat); have n2_ := Aside0.mk (blk_grown (g := gb228) (o := .cells #[.slice A1_0 l1_0.length c1_0, .int .i64 a1_1, .slice A1_2 l1_2.length c1_2, .int .i64 a1_3] 57 (0, 0)) (bK BK228) hg (Kd.R_ne HO251.out BK228.out (by decide))); have n3_ := Aside0.mk (blk_grown (g := gb229) (o := .cells #[.slice none 0 0, .int .i64 0, .slice none 0 0, .int .i64 0] 57 (0, 0)) (bK BK229) hg (Kd.R_ne HO251.out BK229.out (by decide))); have n4_ := Aside0.mk (blk_grown (g := gb238) (o := .cells #[.slice Ao12 t230.length co12, .int .i64 t233, .slice Ao16 t234.length co16, .int .i64 t237] 57 (0, 0)) (bK BK238) hg (Kd.R_ne HO251.out BK238.out (by decide))); have n5_ := Aside0.mk (hb); have n6_ := Aside0.mk (ho); clear HO_239000; clear HO_239002; clear BK228; clear BK229; clear BK238; clear HB; clear HO251; have HO_239000 := n0_; have HO_239002 := n1_; have BK228 := n2_; have BK229 := n3_; have BK238 := n4_; have HB := n5_; have HO254 := n6_; clear n0_ n1_ n2_ n3_ n4_ n5_ n6_; clear ho hb hg hat; obtain ⟨Ao69, co69, eo69⟩ := Kd.R_slice HO254.out; subst eo69; have hnb70 := NB238_229.out; have hnc70 := NB229_238.out; obtain ⟨_, _, _, _, _, _, _, _⟩ := blkc4 BK238; obtain ⟨_, _, _, _, _, _, _, _⟩ := blkc4 BK229))
   refine bodyPost_ret (results_ct rfl _ _ gb229 57 #[.slice Ao12 t230.length co12, .int .i64 t233, .slice Ao69 y252.length co69, .int .i64 t242] (0, 0) _ rfl (kP BK229 NB229_238) Try.underlying57 rfl (by kernel_rfl)) rfl ?_
   exact ⟨_, _, rA, by (with_reducible repeat (first | apply Kd.R_alloc | apply Kd.R_drewN | apply Kd.R_drew)); exact Kd.R_mono (Kd.R_far (p := ⟨gb229, 3, none⟩) (Kd.R_far (p := ⟨gb229, 2, none⟩) (Kd.R_far (p := ⟨gb229, 1, none⟩) (Kd.R_far (p := ⟨gb229, 0, none⟩) (Kd.R_far (p := ⟨gb238, 3, none⟩) (Kd.R_far (p := ⟨gb238, 2, none⟩) (Kd.R_types (Kd.R_types HO_239000.out BK238.out (by decide)) BK229.out (by decide)) (fun _ hk => hk.1.2) (.slice Ao69 y252.length co69)) (fun _ hk => hk.1.2) (.int .i64 t242)) (fun _ hk => hk.2) (.slice Ao12 t230.length co12)) (fun _ hk => hk.2) (.int .i64 t233)) (fun _ hk => hk.2) (.slice Ao69 y252.length co69)) (fun _ hk => hk.2) (.int .i64 t242)) (fun _ hk => hk.1.1.2), by (with_reducible repeat (first | apply Kd.R_alloc | apply Kd.R_drewN | apply Kd.R_drew)); exact Kd.R_mono (Kd.R_far (p := ⟨gb229, 3, none⟩) (Kd.R_far (p := ⟨gb229, 2, none⟩) (Kd.R_far (p := ⟨gb229, 1, none⟩) (Kd.R_far (p := ⟨gb229, 0, none⟩) (Kd.R_far (p := ⟨gb238, 3, none⟩) (Kd.R_far (p := ⟨gb238, 2, none⟩) (Kd.R_types (Kd.R_types HO254.out BK238.out (by decide)) BK229.out (by decide)) (fun _ hk => hk.1.2) (.slice Ao69 y252.length co69)) (fun _ hk => hk.1.2) (.int .i64 t242)) (fun _ hk => hk.2) (.slice Ao12 t230.length co12)) (fun _ hk => hk.2) (.int .i64 t233)) (fun _ hk => hk.2) (.slice Ao69 y252.length co69)) (fun _ hk => hk.2) (.int .i64 t242)) (fun _ hk => hk.1.1.1), bG⟩

/-! ### laws_toIntS: function 41 -/
def laws_toIntS.l0 : Nat → List Int → List Int → Int → Option (List Int)
 | 0, _, _, _ => none
 | k + 1, x0, x3, x4 => if x4 < (x0.length : Int) then (if 0 ≤ x4 then (if x4 < (x3.length : Int) then (laws_toIntS.l0 k x0 (x3.set (x4 : Int).toNat (rd x0 x4)) (wrap64 (x4 + 1))) else (none)) else (none)) else (some x3)
def laws_toIntS.f (k : Nat) (l0 : List Int) : Option (List Int) := if 0 ≤ (l0.length : Int) then (if ((l0.length : Int) : Int).toNat ≤ 35184372088832 then (laws_toIntS.l0 k l0 (List.replicate ((l0.length : Int) : Int).toNat 0) 0) else (none)) else (none)
theorem laws_toIntS.mono_l : ∀ k, (∀ y0 y1 y2, LeO (laws_toIntS.l0 k y0 y1 y2) (laws_toIntS.l0 (k + 1) y0 y1 y2))
 | 0 => fun _ _ _ r h => by simp [laws_toIntS.l0] at h
 | k + 1 => by
  have ih0 := laws_toIntS.mono_l k
  ·
   intro y0 y1 y2
   unfold laws_toIntS.l0
   exact mz1 ih0
theorem laws_toIntS.mono : ∀ a0 k, LeO (laws_toIntS.f k a0) (laws_toIntS.f (k + 1) a0) := by
 intro a0 k
 have ih0 := laws_toIntS.mono_l k
 unfold laws_toIntS.f
 exact mz1 ih0
set_option maxHeartbeats 8000000 in
set_option maxRecDepth 100000 in
theorem laws_toIntS.calls (k : Nat) (A0 : Option Addr) (c0 : Nat) (l0 : List Int) (r : List Int) (w : World) (hr0 : Kd.C (Kd.int .i64) w A0 l0.length l0) (hc0 : l0.length ≤ c0) (h : laws_toIntS.f k l0 = some r) :
  Calls Try.prog 41 #[.slice A0 l0.length c0] w fun e w' => ∃ v0_ : Value, e = .returned (v0_) ∧ Kd.R (Kd.int .i64) 3 w' w.heap.size (fun _ => True) v0_ r ∧ Below w.heap.size w w' := by
 have HR0 := Aside0.mk hr0
 have HC0 := Aside0.mk hc0
 clear hr0 hc0
 have HB := Aside0.mk (Below.refl w.heap.size w)
 have H : (if 0 ≤ (l0.length : Int) then (if ((l0.length : Int) : Int).toNat ≤ 35184372088832 then (laws_toIntS.l0 k l0 (List.replicate ((l0.length : Int) : Int).toNat 0) 0) else (none)) else (none)) = some r := h
 clear h
 have c2 : 0 ≤ (l0.length : Int) := ifN H
 replace H := ifT H
 have c2b0 := eq_true c2
 have c2b1 := decide_eq_true c2
 clear c2
 have c3 : ((l0.length : Int) : Int).toNat ≤ 35184372088832 := ifN H
 replace H := ifT H
 have c3b0 := eq_true c3
 have c3b1 := decide_eq_true c3
 clear c3
 obtain ⟨y255, hy255⟩ : ∃ y_ : List Int, y_ = (List.replicate ((l0.length : Int) : Int).toNat 0) := ⟨_, rfl⟩
 replace H : (laws_toIntS.l0 k l0 y255 0) = some r := rH H hy255
 have Ny255 := Aside0.mk hy255
 clear hy255
 have H' := Aside0.mk H
 clear H
 go_enter Try.func41, Try.ntmps41
 go_wp2_with (first | ((with_reducible refine gate_dst (N := 7) rfl ?_); refine Kd.R_make (Kd.int .i64) _ 3 rfl (N := 7) rfl 41 _ _ rfl (l0.length : Int) rfl rfl Try.underlying41 (.int .i64 0) 8 info3 rfl (by decide) (by omega) 0 (ok := fun _ => True) (okp := fun _ => True) rfl (fun _ hk => hk) trivial (dA) (Nat.le_trans (Nat.mul_le_mul_right _ (dA : (l0.length : Int).toNat ≤ 35184372088832)) (by omega)) (Below.refl _ _) (Nat.le_refl _) ?_; intro v256 w4 ho5 hb hg_ hnew_; clear hg_ hnew_; (first | rw [← Ny255.out] at ho5 | (simp only [Int.reduceToNat] at ho5; rw [← Ny255.out] at ho5)); have HO257 := rl w ho5; replace HB := bs HB hb; clear hb ho5))
 go_loopg [4] k (fun kq v4 w' => ∃ (x3_1 : List Int) (x4_1 : Int), v4 = .int .i64 x4_1 ∧ Aside0 (laws_toIntS.l0 kq l0 x3_1 x4_1 = some r) ∧ Aside0 (kq ≤ k) ∧ Aside0 (Kd.R (Kd.int .i64) 3 w' w.heap.size (fun _ => True) v256 x3_1) ∧ Aside0 (Below w.heap.size w w'))
 case atStart => exact ⟨(y255), (0), rS, H', ⟨Nat.le_refl _⟩, ⟨rK HO257⟩, ⟨bA⟩⟩
 case round =>
  clear H'
  obtain ⟨x3_1, x4_1, rfl, HA, HK1, HO_3, HB⟩ := hrel
  cases gk with
  | zero => exact absurd HA.out (by simp [laws_toIntS.l0])
  | succ k1 =>
   have H := HA.out
   clear HA
   simp only [laws_toIntS.l0] at H
   by_cases c6 : x4_1 < (l0.length : Int)
   ·
    rw [if_pos c6] at H
    have c6b0 := decide_eq_true c6
    clear c6
    have c7 : 0 ≤ x4_1 := ifN H
    replace H := ifT H
    have c7b0 := decide_eq_true c7
    clear c7
    have c8 : x4_1 < (x3_1.length : Int) := ifN H
    replace H := ifT H
    have c8b0 := decide_eq_true c8
    clear c8
    obtain ⟨y259, hy259⟩ : ∃ y_ : List Int, y_ = (x3_1.set (x4_1 : Int).toNat (rd l0 x4_1)) := ⟨_, rfl⟩
    replace H : (laws_toIntS.l0 k1 l0 y259 (wrap64 (x4_1 + 1))) = some r := rH H hy259
    have Ny259 := Aside0.mk hy259
    clear hy259
    have H' := Aside0.mk H
    clear H
    obtain ⟨p258, q258⟩ : 0 ≤ (x4_1 : Int) ∧ x4_1 < (l0.length : Int) := ⟨dA, dA⟩
    obtain ⟨ad258, e258, hx258_0⟩ := Kd.at_int (Kd.C_below HR0.out HB.out) x4_1 p258 q258
    cases e258
    obtain ⟨p258, q258⟩ := eT p258 q258
    obtain ⟨p9, q9⟩ : 0 ≤ (x4_1 : Int) ∧ (x4_1 : Int) < ((x3_1.length : Int) : Int) := ⟨dA, dA⟩
    obtain ⟨go9, co9, eo9, gb9, gl9, cl9, HG9⟩ := Kd.R_form HO_3.out (by omega)
    (first | cases eo9 | (injection eo9 with ea_ en_ ec_; (first | subst ea_ | (injection ea_ with ea_; subst ea_)); subst ec_; clear en_))
    have GB9 := Aside0.mk gb9
    have GG9 := Aside0.mk HG9
    clear gb9 gl9 HG9
    obtain ⟨hx9_0, hf9_0⟩ := Kd.R_celln 0 HO_3.out (x4_1 : Int) p9 q9
    obtain ⟨p9, q9⟩ := eT p9 q9
    have HP10 := Kd.R_putg HO_3.out (x4_1 : Int) (rd l0 x4_1)
    go_wp2_with (first | ((with_reducible refine gate_store (t := 3) (p := 20) rfl ?_); refine store_event (t := 3) (p := 20) (v := ?vo_w11) (w1 := (wr.setCell ⟨go9, (x4_1 : Int).toNat, none⟩ (.int .i64 (rd l0 x4_1)))) ?hg ?ho ?hn ?hr ?_; (case ho => rfl); (case hg => rfl); (case hn => rfl); (case hr => first | (go_simp; done) | (go_simp; rfl)); intro w11 hw; have hg : wr.grownBy w11 (some go9) := (by rw [hw]; exact HP10.2); have hp_ : Kd.R (Kd.int .i64) 3 w11 w.heap.size (fun _ => True) (.slice (some ⟨go9, 0, none⟩) x3_1.length co9) y259 := (by rw [hw, Ny259.out]; exact HP10.1); clear HP10; have n0_ := Aside0.mk (hp_); have n1_ := Aside0.mk ((by rw [hw]; exact below_set (HB.out) GB9.out : Below w.heap.size w w11)); clear HO_3; clear HB; have HO_3 := n0_; have HB := n1_; clear n0_ n1_; clear hg hw hp_))
    go_roundg k1
    case measure => have := HK1.out; omega
    case rel => exact ⟨(y259), (wrap64 (x4_1 + 1)), rS, H', ⟨by have := HK1.out; omega⟩, ⟨rK HO_3⟩, ⟨bA⟩⟩
   rw [if_neg c6] at H
   have c6b0 := decide_eq_false c6
   clear c6
   obtain rfl := Option.some.inj H
   go_wp2
   go_ret
   exact ⟨_, rA, rK HO_3, bA⟩

/-! ### laws_toControl: function 40 -/
def laws_toControl.f (k : Nat) (l0_0 : List Int) (a0_1 : Int) (l0_2 : List Int) (a0_3 : Int) : Option (List Int × Int × List Int × Int) := (laws_toIntS.f k l0_0).bind fun t263 => ((laws_toIntS.f k l0_2).bind fun t266 => (some (t263, a0_1, t266, a0_3)))
theorem laws_toControl.mono : ∀ a0 a1 a2 a3 k, LeO (laws_toControl.f k a0 a1 a2 a3) (laws_toControl.f (k + 1) a0 a1 a2 a3) := by
 intro a0 a1 a2 a3 k
 unfold laws_toControl.f
 exact mz1 laws_toIntS.mono
set_option maxHeartbeats 8000000 in
set_option maxRecDepth 100000 in
theorem laws_toControl.calls (k : Nat) (A0_0 : Option Addr) (c0_0 : Nat) (l0_0 : List Int) (a0_1 : Int) (A0_2 : Option Addr) (c0_2 : Nat) (l0_2 : List Int) (a0_3 : Int) (r1 : List Int) (r2 : Int) (r3 : List Int) (r4 : Int) (w : World) (hr0_0 : Kd.C (Kd.int .i64) w A0_0 l0_0.length l0_0) (hc0_0 : l0_0.length ≤ c0_0) (hr0_2 : Kd.C (Kd.int .i64) w A0_2 l0_2.length l0_2) (hc0_2 : l0_2.length ≤ c0_2) (h : laws_toControl.f k l0_0 a0_1 l0_2 a0_3 = some (r1, r2, r3, r4)) :
  Calls Try.prog 40 #[.agg #[.slice A0_0 l0_0.length c0_0, .int .i64 a0_1, .slice A0_2 l0_2.length c0_2, .int .i64 a0_3]] w fun e w' => ∃ v0_ v2_ : Value, e = .returned (.agg #[v0_, .int .i64 r2, v2_, .int .i64 r4]) ∧ Kd.R (Kd.int .i64) 3 w' w.heap.size (n1 v2_) v0_ r1 ∧ Kd.R (Kd.int .i64) 3 w' w.heap.size (n1 v0_) v2_ r3 ∧ Below w.heap.size w w' := by
 have hu55 := Try.underlying55
 have hu57 := Try.underlying57
 have HR0_0 := Aside0.mk hr0_0
 have HC0_0 := Aside0.mk hc0_0
 clear hr0_0 hc0_0
 have HR0_2 := Aside0.mk hr0_2
 have HC0_2 := Aside0.mk hc0_2
 clear hr0_2 hc0_2
 have HB := Aside0.mk (Below.refl w.heap.size w)
 have H : ((laws_toIntS.f k l0_0).bind fun t263 => ((laws_toIntS.f k l0_2).bind fun t266 => (some (t263, a0_1, t266, a0_3)))) = some (r1, r2, r3, r4) := h
 clear h
 obtain ⟨t263, A2, H⟩ := bindE H
 try dsimp only at H
 obtain ⟨t266, A3, H⟩ := bindE H
 try dsimp only at H
 simp only [Option.some.injEq, Prod.mk.injEq] at H
 obtain ⟨rfl, rfl, rfl, rfl⟩ := H
 go_enter Try.func40, Try.ntmps40
 go_wp2_with (first | ((with_reducible refine gate_dst (N := 1) rfl ?_); refine bE (N := 1) (cs := #[.slice A0_0 l0_0.length c0_0, .int .i64 a0_1, .slice A0_2 l0_2.length c0_2, .int .i64 a0_3]) (t := 55) ?_; intro gb260 hg w4 hbox hb; have BK260 := Aside0.mk (hbox); have GW260 := gw w hg; have GE260 := gw w hg; replace HB := bs HB hb; clear hb hbox hg) | ((with_reducible refine gate_dst (N := 2) rfl ?_); refine bE (N := 2) (cs := #[.slice none 0 0, .int .i64 0, .slice none 0 0, .int .i64 0]) (t := 57) ?_; intro gb261 hg w5 hbox hb; have BK261 := Aside0.mk (hbox); have GW261 := gw w hg; have GE261 := gw w hg; replace HB := bs HB hb; have NB260_261 := nl BK260 hg; have NB261_260 := nr BK260 hg; replace BK260 := kb BK260 hb; clear hb hbox hg) | ((with_reducible refine gate_dst (N := 3) rfl ?_); refine bE (N := 3) (cs := #[.slice none 0 0, .int .i64 0, .slice none 0 0, .int .i64 0]) (t := 57) ?_; intro gb262 hg w6 hbox hb; have BK262 := Aside0.mk (hbox); have GW262 := gw w hg; have GE262 := gw w hg; replace HB := bs HB hb; have NB260_262 := nl BK260 hg; have NB262_260 := nr BK260 hg; replace BK260 := kb BK260 hb; have NB261_262 := nl BK261 hg; have NB262_261 := nr BK261 hg; replace BK261 := kb BK261 hb; clear hb hbox hg; have hnb7 := NB260_261.out; have hnc7 := NB261_260.out; have hnb8 := NB260_262.out; have hnc8 := NB262_260.out; have hcz9_0 : w6.cell? ⟨gb260, 0, none⟩ = some (.slice A0_0 l0_0.length c0_0) := bC BK260 0; have hcz9_1 : w6.cell? ⟨gb260, 1, none⟩ = some (.int .i64 a0_1) := bC BK260 1; have hcz9_2 : w6.cell? ⟨gb260, 2, none⟩ = some (.slice A0_2 l0_2.length c0_2) := bC BK260 2; have hcz9_3 : w6.cell? ⟨gb260, 3, none⟩ = some (.int .i64 a0_3) := bC BK260 3; have hfz9_0 := blk_frozen BK260.out 0; have hfz9_1 := blk_frozen BK260.out 1; have hfz9_2 := blk_frozen BK260.out 2; have hfz9_3 := blk_frozen BK260.out 3) | ((with_reducible refine gate_callee (f := 41) rfl ?_); refine gL (some 6) Try.func41 #[.slice A0_0 l0_0.length c0_0] ?_; (with_reducible refine (laws_toIntS.calls k _ _ l0_0 t263 _ ?_ ?_ A2.out).mono ?_); exact cB HR0_0; exact HC0_0.out; rintro e w10 ⟨v264, rfl, ho0, hb⟩; refine ⟨_, rfl, ?_⟩; have HO265 := rl w ho0; replace BK260 := kb BK260 hb; replace BK261 := kb BK261 hb; replace BK262 := kb BK262 hb; replace HB := bs HB hb; (try clear hb); (try clear ho0); obtain ⟨Ao11, co11, eo11⟩ := Kd.R_slice HO265.out; subst eo11; have hnb12 := NB262_261.out; have hnc12 := NB261_262.out; obtain ⟨_, _, _, _, _, _, _, _⟩ := blkc4 BK262; have hcz14_0 : w10.cell? ⟨gb260, 0, none⟩ = some (.slice A0_0 l0_0.length c0_0) := bC BK260 0; have hcz14_1 : w10.cell? ⟨gb260, 1, none⟩ = some (.int .i64 a0_1) := bC BK260 1; have hcz14_2 : w10.cell? ⟨gb260, 2, none⟩ = some (.slice A0_2 l0_2.length c0_2) := bC BK260 2; have hcz14_3 : w10.cell? ⟨gb260, 3, none⟩ = some (.int .i64 a0_3) := bC BK260 3; have hfz14_0 := blk_frozen BK260.out 0; have hfz14_1 := blk_frozen BK260.out 1; have hfz14_2 := blk_frozen BK260.out 2; have hfz14_3 := blk_frozen BK260.out 3) | ((with_reducible refine gate_callee (f := 41) rfl ?_); refine gL (some 13) Try.func41 #[.slice A0_2 l0_2.length c0_2] ?_; (with_reducible refine (laws_toIntS.calls k _ _ l0_2 t266 _ ?_ ?_ A3.out).mono ?_); exact Kd.C_below HR0_2.out bG; exact HC0_2.out; rintro e w15 ⟨v267, rfl, ho0, hb⟩; refine ⟨_, rfl, ?_⟩; have HO268 := rl w (Kd.R_new' ho0 (Kd.R_lt (rf HO265 BK262))); replace HO265 := Aside0.mk (Kd.R_elder' (rf HO265 BK262) (Kd.R_base ho0) hb); replace BK260 := kc (kf BK260 NB260_262) hb; replace BK261 := kc (kf BK261 NB261_262) hb; replace BK262 := kc (o := .cells #[.slice Ao11 t263.length co11, .int .i64 a0_1, .slice none 0 0, .int .i64 0] 57 (0, 0)) (kp BK262) hb; replace HB := bs HB hb; (try clear hb); (try clear ho0); obtain ⟨Ao16, co16, eo16⟩ := Kd.R_slice HO268.out; subst eo16; obtain ⟨_, _, _, _, _, _, _, _⟩ := blkc4 BK262; obtain ⟨_, _, _, _, _, _, _, _⟩ := blkc4 BK260; obtain ⟨_, _, _, _, _, _, _, _⟩ := blkc4 BK261))
 refine bodyPost_ret (results_cell_row rfl _ _ gb261 57 #[.slice Ao11 t263.length co11, .int .i64 a0_1, .slice Ao16 t266.length co16, .int .i64 a0_3] (0, 0) _ rfl (kP BK261 NB261_262) Try.underlying57 rfl (by kernel_rfl)) rfl ?_
 exact ⟨_, _, rA, by (with_reducible repeat (first | apply Kd.R_alloc | apply Kd.R_drewN | apply Kd.R_drew)); exact Kd.R_mono (Kd.R_far (p := ⟨gb261, 3, none⟩) (Kd.R_far (p := ⟨gb261, 2, none⟩) (Kd.R_far (p := ⟨gb261, 1, none⟩) (Kd.R_far (p := ⟨gb261, 0, none⟩) (Kd.R_far (p := ⟨gb262, 3, none⟩) (Kd.R_far (p := ⟨gb262, 2, none⟩) (Kd.R_types (Kd.R_types HO265.out BK262.out (by decide)) BK261.out (by decide)) (fun _ hk => hk.1.2) (.slice Ao16 t266.length co16)) (fun _ hk => hk.1.2) (.int .i64 a0_3)) (fun _ hk => hk.2) (.slice Ao11 t263.length co11)) (fun _ hk => hk.2) (.int .i64 a0_1)) (fun _ hk => hk.2) (.slice Ao16 t266.length co16)) (fun _ hk => hk.2) (.int .i64 a0_3)) (fun _ hk => hk.1.1.2), by (with_reducible repeat (first | apply Kd.R_alloc | apply Kd.R_drewN | apply Kd.R_drew)); exact Kd.R_mono (Kd.R_far (p := ⟨gb261, 3, none⟩) (Kd.R_far (p := ⟨gb261, 2, none⟩) (Kd.R_far (p := ⟨gb261, 1, none⟩) (Kd.R_far (p := ⟨gb261, 0, none⟩) (Kd.R_far (p := ⟨gb262, 3, none⟩) (Kd.R_far (p := ⟨gb262, 2, none⟩) (Kd.R_types (Kd.R_types HO268.out BK262.out (by decide)) BK261.out (by decide)) (fun _ hk => hk.1.2) (.slice Ao16 t266.length co16)) (fun _ hk => hk.1.2) (.int .i64 a0_3)) (fun _ hk => hk.2) (.slice Ao11 t263.length co11)) (fun _ hk => hk.2) (.int .i64 a0_1)) (fun _ hk => hk.2) (.slice Ao16 t266.length co16)) (fun _ hk => hk.2) (.int .i64 a0_3)) (fun _ hk => hk.1.1.2), bG⟩

/-! ### slices_Clone_int_int: function 90 -/
def slices_Clone_int_int.f (l0 : List Int) : Option (List Int) := if l0.length < 17592186044416 then some l0 else none
theorem slices_Clone_int_int.eq0 {P : Program} (w : World) (d : Nat) (t e : TypeId) (a : Option Addr) (n c n' c' : Nat) (h : P.underlying t = some (.slice e)) : (Op.equalIn (d + 1) t (.slice a n c) (.slice none n' c')).run P w = .ok a.isNone w := by
 cases a <;> simp [Op.equalIn, run_underlying h]
theorem slices_Clone_int_int.eq1 {P : Program} (w : World) (t e : TypeId) (a : Option Addr) (n c n' c' : Nat) (h : P.underlying t = some (.slice e)) : (binOp .eql t (.slice a n c) (.slice none n' c')).run P w = .ok (.bool a.isNone) w := by
 simp only [binOp]
 simp [Op.equal, Op.maxDepth, slices_Clone_int_int.eq0 w 9999 t e a n c n' c' h]
set_option maxHeartbeats 4000000 in
set_option maxRecDepth 100000 in
theorem slices_Clone_int_int.calls (A0 : Option Addr) (c0 : Nat) (l0 : List Int) (r : List Int) (w : World) (hr0 : Kd.C (Kd.int .i64) w A0 l0.length l0) (hc0 : l0.length ≤ c0) (h : slices_Clone_int_int.f l0 = some r) :
  Calls Try.prog 90 #[.slice A0 l0.length c0] w fun e w' => ∃ v0_ : Value, e = .returned (v0_) ∧ Kd.R (Kd.int .i64) 3 w' w.heap.size (fun _ => True) v0_ r ∧ Below w.heap.size w w' := by
 unfold slices_Clone_int_int.f at h
 have hlim := ifN h
 replace h := ifT h
 obtain rfl := Option.some.inj h
 have HL := Aside0.mk hlim
 have HR0 := Aside0.mk hr0
 have HC0 := Aside0.mk hc0
 clear hr0 hc0 h hlim
 have q_ : ∀ (w : World) (a : Option Addr) (n c n' c' : Nat), (binOp .eql 41 (.slice a n c) (.slice none n' c')).run Try.prog w = .ok (.bool a.isNone) w := fun w a n c n' c' => slices_Clone_int_int.eq1 w _ _ a n c n' c' Try.underlying41
 cases A0 with
 | none =>
  have hl0 : l0 = [] := by
   rcases Nat.eq_zero_or_pos l0.length with h0 | h0
   ·
    exact List.eq_nil_of_length_eq_zero h0
   ·
    obtain ⟨ad, ha, _⟩ := HR0.out.2.2 h0
    cases ha
  subst hl0
  go_enter Try.func90, Try.ntmps90
  go_wp2
  go_ret
  exact ⟨_, rfl, Kd.R_nil _ _ _ _ _, Below.refl _ _⟩
 | some ad =>
  go_enter Try.func90, Try.ntmps90
  go_wp2_with (first
   | ((with_reducible refine gate_dst (N := 5) rfl ?_); refine Kd.R_lit (Kd.int .i64) _ 3 ?hg (N := 5) ?hd (xs := ([] : List Int)) (inner := []) (ok := fun _ => True) (okp := fun _ => True) ?hr ?hp (fun _ hk => hk) trivial (Below.refl w.heap.size w) (Nat.le_refl _) (by simp) ?_; (case hd => rfl); (case hg => rfl); (case hr => first | (go_simp; done) | (go_simp; rfl)); (case hp => exact (Reps.none _ _)); intro v304 w3 ho4 hb hg_ hnew_; have HO := Aside0.mk ho4; have HB := Aside0.mk hb; clear ho4 hb hg_ hnew_)
   | ((with_reducible refine gate_builtin (b := .append) (xs := #[.tmp 5, .tmp 6]) rfl ?_); at_builtin; refine Kd.R_append_rows (Kd.int .i64) (w0 := w) w.heap.size rfl (.tmp 5) (.tmp 6) 41 3 (.int .i64 0) 8 rfl Try.underlying41 info3 rfl (by decide) (by omega) v304 ([] : List Int) l0 _ _ _ (fun _ => True) (fun _ => False) rfl rfl ?aO ?aR (fun _ _ h => h) (fun _ h => h.elim) ?aF ?aB ?aS ?aL ?_; (case aR => exact Kd.C_below HR0.out HB.out); (case aB => exact HB.out); (case aF => exact (fun _ _ => trivial)); (case aO => exact HO.out); (case aS => exact HB.out.size); (case aL => have := HL.out; simp; omega); intro v1 w9 ho hb hg hat; rw [List.nil_append] at ho; have HO1 := Aside0.mk ho; have HB1 := Aside0.mk hb; clear ho hb hg hat))
  go_ret
  exact ⟨_, rfl, HO1.out, HB1.out⟩

/-! ### impl_cloneControl: function 85 -/
def impl_cloneControl.f (l0_0 : List Int) (a0_1 : Int) (l0_2 : List Int) (a0_3 : Int) : Option (List Int × Int × List Int × Int) := (slices_Clone_int_int.f l0_0).bind fun t271 => ((slices_Clone_int_int.f l0_2).bind fun t274 => (some (t271, a0_1, t274, a0_3)))
def impl_cloneControl.T1 : Bool × List (List Nat × List Nat) := (true, [([], []), ([0], [0]), ([1], [1]), ([], []), ([3], [3]), ([4, 2], [4]), ([0, 1, 2, 3, 4], []), ([6, 2, 5, 0, 1, 2, 3, 4], [2, 6]), ([0, 1, 2, 3, 4, 5, 6, 7], []), ([8, 5, 7, 0, 1, 2, 3, 4, 5, 6, 7], [5, 8])])
def impl_cloneControl.B1 : List Nat := [0, 1, 3, 0, 8, 31, 31, 127, 255, 511]
theorem impl_cloneControl.tab1 : rtab .any (opsOf Try.f85 1) = impl_cloneControl.T1 := by kernel_rfl
theorem impl_cloneControl.bits1 : waitsOk impl_cloneControl.T1.2 impl_cloneControl.B1 = true := by kernel_rfl
set_option maxHeartbeats 8000000 in
set_option maxRecDepth 100000 in
theorem impl_cloneControl.calls (A0_0 : Option Addr) (c0_0 : Nat) (l0_0 : List Int) (a0_1 : Int) (A0_2 : Option Addr) (c0_2 : Nat) (l0_2 : List Int) (a0_3 : Int) (r1 : List Int) (r2 : Int) (r3 : List Int) (r4 : Int) (w : World) (hr0_0 : Kd.C (Kd.int .i64) w A0_0 l0_0.length l0_0) (hc0_0 : l0_0.length ≤ c0_0) (hr0_2 : Kd.C (Kd.int .i64) w A0_2 l0_2.length l0_2) (hc0_2 : l0_2.length ≤ c0_2) (h : impl_cloneControl.f l0_0 a0_1 l0_2 a0_3 = some (r1, r2, r3, r4)) :
  Calls Try.prog 85 #[.agg #[.slice A0_0 l0_0.length c0_0, .int .i64 a0_1, .slice A0_2 l0_2.length c0_2, .int .i64 a0_3]] w fun e w' => ∃ v0_ v2_ : Value, e = .returned (.agg #[v0_, .int .i64 r2, v2_, .int .i64 r4]) ∧ Kd.R (Kd.int .i64) 3 w' w.heap.size (n1 v2_) v0_ r1 ∧ Kd.R (Kd.int .i64) 3 w' w.heap.size (n1 v0_) v2_ r3 ∧ Below w.heap.size w w' := by
 have hu57 := Try.underlying57
 have HR0_0 := Aside0.mk hr0_0
 have HC0_0 := Aside0.mk hc0_0
 clear hr0_0 hc0_0
 have HR0_2 := Aside0.mk hr0_2
 have HC0_2 := Aside0.mk hc0_2
 clear hr0_2 hc0_2
 have HB := Aside0.mk (Below.refl w.heap.size w)
 have H : ((slices_Clone_int_int.f l0_0).bind fun t271 => ((slices_Clone_int_int.f l0_2).bind fun t274 => (some (t271, a0_1, t274, a0_3)))) = some (r1, r2, r3, r4) := h
 clear h
 obtain ⟨t271, A2, H⟩ := bindE H
 try dsimp only at H
 obtain ⟨t274, A3, H⟩ := bindE H
 try dsimp only at H
 simp only [Option.some.injEq, Prod.mk.injEq] at H
 obtain ⟨rfl, rfl, rfl, rfl⟩ := H
 go_enter Try.func85, Try.ntmps85
 try go_wp2_with (first | ((with_reducible refine gate_dst (N := 1) rfl ?_); refine bE (N := 1) (cs := #[.slice A0_0 l0_0.length c0_0, .int .i64 a0_1, .slice A0_2 l0_2.length c0_2, .int .i64 a0_3]) (t := 57) ?_; intro gb269 hg w4 hbox hb; have BK269 := Aside0.mk (hbox); have GW269 := gw w hg; have GE269 := gw w hg; replace HB := bs HB hb; clear hb hbox hg) | ((with_reducible refine gate_dst (N := 2) rfl ?_); refine bE (N := 2) (cs := #[.slice none 0 0, .int .i64 0, .slice none 0 0, .int .i64 0]) (t := 57) ?_; intro gb270 hg w5 hbox hb; have BK270 := Aside0.mk (hbox); have GW270 := gw w hg; have GE270 := gw w hg; replace HB := bs HB hb; have NB269_270 := nl BK269 hg; have NB270_269 := nr BK269 hg; replace BK269 := kb BK269 hb; clear hb hbox hg))
 replace BK269 := dk BK269
 replace BK270 := dk BK270
 have HBo := HB
 replace HB := db HB
 refine start_ (n := 10) (S := fun w' => w'.cell? ⟨gb269, 0, none⟩ = some (.slice A0_0 l0_0.length c0_0) ∧ w'.cell? ⟨gb269, 1, none⟩ = some (.int .i64 a0_1) ∧ w'.cell? ⟨gb269, 2, none⟩ = some (.slice A0_2 l0_2.length c0_2) ∧ w'.cell? ⟨gb269, 3, none⟩ = some (.int .i64 a0_3)) (ds := [7, 9]) (mb 10 0) (by kernel_rfl) rfl rfl (cn4 BK269) (fun hHeld => ?_); refine with_tabW impl_cloneControl.tab1 impl_cloneControl.bits1 (fun HT_ HW_ => ?_)
 generalize w5.drew = w6 at BK269 BK270 HB hHeld ⊢
 refine pa 0 3 (mb 10 1) HT_ ?_
 refine pa 3 6 (mb 10 9) HT_ ?_
 refine ta4 1 4 (mb 10 11) HT_ HW_ hHeld ?_
 refine ta4 4 7 (mb 10 27) HT_ HW_ hHeld ?_
 refine oa 2 5 (mb 10 31) HT_ (fun K hK => ?_)
 refine gA Try.func90 #[.slice A0_0 l0_0.length c0_0] ?_
 with_reducible refine (slices_Clone_int_int.calls _ _ l0_0 t271 _ ?side1 ?side2 A2.out).mono ?_
 (case side1 => exact cB HR0_0)
 (case side2 => exact HC0_0.out)
 rintro e w7 ⟨v272, rfl, ho0, hb⟩
 refine ⟨_, rfl, ?_⟩
 have HO273 := rl w ho0
 replace BK269 := kb BK269 hb
 replace BK270 := kb BK270 hb
 replace HB := bs HB hb
 (try clear hb)
 (try clear hb2)
 (try clear hk)
 (try clear hi)
 (try clear ho0)
 refine hK.out _ _ (cn4 BK269) (fun hHeld => ?_)
 clear hK K
 refine nB ?_
 refine pa 6 9 (mb 10 95) HT_ ?_
 refine oa 5 8 (mb 10 127) HT_ (fun K hK => ?_)
 refine gA Try.func90 #[.slice A0_2 l0_2.length c0_2] ?_
 with_reducible refine (slices_Clone_int_int.calls _ _ l0_2 t274 _ ?side1 ?side2 A3.out).mono ?_
 (case side1 => exact cB HR0_2)
 (case side2 => exact HC0_2.out)
 rintro e w8 ⟨v275, rfl, ho0, hb⟩
 refine ⟨_, rfl, ?_⟩
 have HO276 := rl w (rn ho0 HO273)
 replace HO273 := re HO273 ho0 hb
 replace BK269 := kb BK269 hb
 replace BK270 := kb BK270 hb
 replace HB := bs HB hb
 (try clear hb)
 (try clear hb2)
 (try clear hk)
 (try clear hi)
 (try clear ho0)
 obtain ⟨Ao9, co9, eo9⟩ := Kd.R_slice HO273.out
 (first | subst eo9 | (injection eo9 with f1_ f2_ f3_; have f4_ := f1_.symm; have f5_ := f3_.symm; clear f1_ f2_ f3_; subst f4_; subst f5_))
 obtain ⟨Ao11, co11, eo11⟩ := Kd.R_slice HO276.out
 (first | subst eo11 | (injection eo11 with f1_ f2_ f3_; have f4_ := f1_.symm; have f5_ := f3_.symm; clear f1_ f2_ f3_; subst f4_; subst f5_))
 refine hK.out _ _ (cn4 BK269) (fun hHeld => ?_)
 clear hK K
 refine nB ?_
 refine last_ (i := 7) (N := none) (mb 10 255) rfl rfl (one_of HT_.out (by kernel_rfl)) (by decide) (fun K hK => ?_)
 have hs10 : w8.cell? ⟨gb269, 0, none⟩ = some (.slice A0_0 l0_0.length c0_0) := bC BK269 0
 have hfs10 := blk_frozen BK269.out 0
 have hns10_1 := NB270_269.out
 have hms10_1 := NB269_270.out
 refine skip_ (w1 := ?_) (by rfl) rfl ?_ ?_
 rotate_left
 ·
  go_simp
  rfl
 refine hK.out _ _ ?_
 clear hK K
 refine pa 8 10 (mb 10 511) HT_ ?_
 refine last_ (i := 9) (N := none) (mb 10 1023) rfl rfl (one_of HT_.out (by kernel_rfl)) (by decide) (fun K hK => ?_)
 have hs12 : w8.cell? ⟨gb269, 2, none⟩ = some (.slice A0_2 l0_2.length c0_2) := bC BK269 2
 have hfs12 := blk_frozen BK269.out 2
 have hns12_1 := NB270_269.out
 have hms12_1 := NB269_270.out
 refine skip_ (w1 := ?_) (by rfl) rfl ?_ ?_
 rotate_left
 ·
  go_simp
  rfl
 refine hK.out _ _ ?_
 clear hK K
 refine eA HT_ ?_
 have hnb13 := NB269_270.out
 have hnc13 := NB270_269.out
 obtain ⟨_, _, _, _, _, _, _, _⟩ := blkc4 BK269
 obtain ⟨_, _, _, _, _, _, _, _⟩ := blkc4 BK270
 try go_wp2
 refine bodyPost_ret (results_cell_row rfl _ _ gb270 57 #[.slice Ao9 t271.length co9, .int .i64 a0_1, .slice Ao11 t274.length co11, .int .i64 a0_3] (0, 0) _ rfl (kP BK270 NB270_269) Try.underlying57 rfl (by kernel_rfl)) rfl ?_
 exact ⟨_, _, rA, by (with_reducible repeat (first | apply Kd.R_alloc | apply Kd.R_drewN | apply Kd.R_drew)); exact Kd.R_mono (Kd.R_far (p := ⟨gb270, 3, none⟩) (Kd.R_far (p := ⟨gb270, 2, none⟩) (Kd.R_far (p := ⟨gb270, 1, none⟩) (Kd.R_far (p := ⟨gb270, 0, none⟩) (Kd.R_far (p := ⟨gb269, 2, none⟩) (Kd.R_far (p := ⟨gb269, 0, none⟩) (Kd.R_types (Kd.R_types HO273.out BK269.out (by decide)) BK270.out (by decide)) (fun _ hk => hk.1.2) (.slice Ao9 t271.length co9)) (fun _ hk => hk.1.2) (.slice Ao11 t274.length co11)) (fun _ hk => hk.2) (.slice Ao9 t271.length co9)) (fun _ hk => hk.2) (.int .i64 a0_1)) (fun _ hk => hk.2) (.slice Ao11 t274.length co11)) (fun _ hk => hk.2) (.int .i64 a0_3)) (fun _ hk => hk.1.1.2), by (with_reducible repeat (first | apply Kd.R_alloc | apply Kd.R_drewN | apply Kd.R_drew)); exact Kd.R_mono (Kd.R_far (p := ⟨gb270, 3, none⟩) (Kd.R_far (p := ⟨gb270, 2, none⟩) (Kd.R_far (p := ⟨gb270, 1, none⟩) (Kd.R_far (p := ⟨gb270, 0, none⟩) (Kd.R_far (p := ⟨gb269, 2, none⟩) (Kd.R_far (p := ⟨gb269, 0, none⟩) (Kd.R_types (Kd.R_types HO276.out BK269.out (by decide)) BK270.out (by decide)) (fun _ hk => hk.1.2) (.slice Ao9 t271.length co9)) (fun _ hk => hk.1.2) (.slice Ao11 t274.length co11)) (fun _ hk => hk.2) (.slice Ao9 t271.length co9)) (fun _ hk => hk.2) (.int .i64 a0_1)) (fun _ hk => hk.2) (.slice Ao11 t274.length co11)) (fun _ hk => hk.2) (.int .i64 a0_3)) (fun _ hk => hk.1.1.2), bG⟩

/-! ### impl_FindPath: function 119 -/
def impl_FindPath.q (id : Int) (x : S89) : Bool := decide (x.f0 = id)
set_option maxHeartbeats 400000 in
set_option maxRecDepth 100000 in
theorem impl_FindPath.clo (id : Int) (g : Nat) (x : S89) (w : World) (hc : w.cell? ⟨g, 0, none⟩ = some (.int .i64 id)) :
  Calls Try.prog 143 #[.agg #[.int .i64 x.f0, .int .i64 x.f1, .int .i64 x.f2, .int .i64 x.f3], .pointer (some ⟨g, 0, none⟩)] w fun e w' => e = .returned (.bool (impl_FindPath.q id x)) ∧ Below w.heap.size w w' := by
 have hu := Try.underlying89
 have hg : g < w.heap.size := World.block_lt_of_cell? w _ hc
 go_enter Try.func143, Try.ntmps143
 go_wp2
 go_ret
 exact ⟨by unfold impl_FindPath.q; first | rfl | simp, (Below.refl _ _).alloc (Nat.le_refl _) _⟩
def impl_FindPath.ix (id : Int) : List S89 → Int → Int
 | [], _ => -1
 | x :: l, i => if impl_FindPath.q id x = true then i else impl_FindPath.ix id l (i + 1)
theorem impl_FindPath.ix_hit (id : Int) : ∀ (l : List S89) (i : Int) (m : Nat) (hm : m < l.length), (∀ j (hj : j < m), impl_FindPath.q id (l[j]'(by omega)) = false) → impl_FindPath.q id l[m] = true → impl_FindPath.ix id l i = i + m
 | [], i, m, hm, _, _ => absurd hm (by simp)
 | p :: l, i, 0, hm, _, h => by
  unfold impl_FindPath.ix
  rw [if_pos (show impl_FindPath.q id p = true from h)]
  simp
 | p :: l, i, m + 1, hm, hne, h => by
  unfold impl_FindPath.ix
  have h2 : impl_FindPath.q id p = false := hne 0 (by omega)
  rw [if_neg (by rw [h2]; decide), impl_FindPath.ix_hit id l (i + 1) m (by simpa using hm) (fun j hj => hne (j + 1) (by omega)) h]
  omega
theorem impl_FindPath.ix_miss (id : Int) : ∀ (l : List S89) (i : Int), (∀ j (hj : j < l.length), impl_FindPath.q id l[j] = false) → impl_FindPath.ix id l i = -1
 | [], i, _ => rfl
 | p :: l, i, h => by
  unfold impl_FindPath.ix
  have h2 : impl_FindPath.q id p = false := h 0 (by simp)
  rw [if_neg (by rw [h2]; decide), impl_FindPath.ix_miss id l (i + 1) (fun j hj => h (j + 1) (by simpa using hj))]
theorem impl_FindPath.rd_ (l : List S89) (j : Nat) (hj : j < l.length) : rd_T89 l (j : Int) = l[j] := by
 unfold rd_T89; simp [List.getD_eq_getElem?_getD, List.getElem?_eq_getElem hj]
set_option maxHeartbeats 4000000 in
set_option maxRecDepth 100000 in
theorem impl_FindPath.idx (id : Int) (g : Nat) (A0 : Option Addr) (c0 : Nat) (l0 : List S89) (w : World) (hr0 : Kd.C k89 w A0 l0.length l0) (hc0 : l0.length ≤ c0) (hc : w.cell? ⟨g, 0, none⟩ = some (.int .i64 id)) :
  Calls Try.prog 142 #[.slice A0 l0.length c0, .func (.func 143) #[] #[.pointer (some ⟨g, 0, none⟩)]] w fun e w' => e = .returned (.int .i64 (impl_FindPath.ix id l0 0)) ∧ Below w.heap.size w w' := by
 have hu := Try.underlying89
 have HC := Aside0.mk hc
 clear hc
 have HR0 := Aside0.mk hr0
 have HC0 := Aside0.mk hc0
 have hlen : l0.length ≤ 9223372036854775807 := hr0.2.1
 clear hr0 hc0
 have HB := Aside0.mk (Below.refl w.heap.size w)
 go_enter Try.func142, Try.ntmps142
 go_wp2
 go_loopg [5, 8] l0.length (fun gg v5 v8 w' => ∃ kk : Nat, v8 = .int .i64 kk ∧ Aside0 (kk ≤ l0.length) ∧ Aside0 (l0.length - kk ≤ gg) ∧ Aside0 (Below w.heap.size w w') ∧ Aside0 (∀ j (hj : j < kk) (hl : j < l0.length), impl_FindPath.q id l0[j] = false))
 case atStart => exact ⟨0, rfl, ⟨Nat.zero_le _⟩, ⟨by omega⟩, HB, ⟨fun j hj => absurd hj (Nat.not_lt_zero _)⟩⟩
 case round =>
  clear HB
  obtain ⟨kk, rfl, hk, hg, HB, HA⟩ := hrel
  by_cases hlt : kk < l0.length
  ·
   have hltz : decide ((kk : Int) < (l0.length : Int)) = true := decide_eq_true (by omega)
   have hltn : decide (kk < l0.length) = true := decide_eq_true hlt
   have p0 : (0 : Int) ≤ (kk : Int) := by omega
   have q0 : (kk : Int) < (l0.length : Int) := by omega
   have HE := Aside0.mk (impl_FindPath.rd_ l0 kk hlt)
   obtain ⟨ad, e1, hx0, hx1, hx2, hx3⟩ := at_T89 HR0.out (kk : Int) p0 q0
   cases e1
   rw [Int.toNat_natCast] at hx0 hx1 hx2 hx3
   replace hx0 := hC HB hx0
   replace hx1 := hC HB hx1
   replace hx2 := hC HB hx2
   replace hx3 := hC HB hx3
   replace p0 := eq_true p0
   replace q0 := eq_true q0
   have hcl := fun (w' : World) (hb : Below w.heap.size w w') => impl_FindPath.clo id g (rd_T89 l0 (kk : Int)) w' ((hb.cell (World.block_lt_of_cell? w _ HC.out)).trans HC.out)
   cases hq : impl_FindPath.q id (rd_T89 l0 (kk : Int)) with
   | true =>
    rw [hq] at hcl
    have HCL := Aside0.mk hcl
    have HQ := Aside0.mk hq
    clear hcl hq
    go_wp2_with (go_at_call 143; refine (HCL.out _ HB.out).mono ?_; rintro e w1 ⟨rfl, hb1⟩)
    go_ret
    refine ⟨?_, below_step HB.out hb1⟩
    have hq := HQ.out
    rw [HE.out] at hq
    rw [impl_FindPath.ix_hit id l0 0 kk hlt (fun j hj => HA.out j hj (by omega)) hq, Int.zero_add]
    rfl
   | false =>
    rw [hq] at hcl
    have HCL := Aside0.mk hcl
    have HQ := Aside0.mk hq
    clear hcl hq
    go_wp2_with (go_at_call 143; refine (HCL.out _ HB.out).mono ?_; rintro e w1 ⟨rfl, hb1⟩)
    go_roundg (l0.length - (kk + 1))
    case measure => have := hg.out; omega
    case rel =>
     refine ⟨kk + 1, by go_num, ⟨by omega⟩, ⟨by omega⟩, ⟨below_step HB.out hb1⟩, ⟨fun j hj hl => ?_⟩⟩
     rcases Nat.lt_or_ge j kk with h3 | h3
     ·
      exact HA.out j h3 hl
     ·
      have h4 : j = kk := by omega
      subst h4
      rw [← HE.out]
      exact HQ.out
  ·
   have hge : decide ((kk : Int) < (l0.length : Int)) = false := decide_eq_false (by omega)
   have hgen : decide (kk < l0.length) = false := decide_eq_false hlt
   go_wp2
   go_ret
   refine ⟨?_, HB.out⟩
   rw [impl_FindPath.ix_miss id l0 0 (fun j hj => HA.out j (by omega) hj)]
   rfl

def impl_FindPath.f (l0 : List S89) (a1 : Int) : Option Int := some (impl_FindPath.ix a1 l0 0)
set_option maxHeartbeats 400000 in
set_option maxRecDepth 100000 in
theorem impl_FindPath.calls (A0 : Option Addr) (c0 : Nat) (l0 : List S89) (a1 : Int) (r : Int) (w : World) (hr0 : Kd.C k89 w A0 l0.length l0) (hc0 : l0.length ≤ c0) (h : impl_FindPath.f l0 a1 = some r) :
  Calls Try.prog 119 #[.slice A0 l0.length c0, .int .i64 a1] w fun e w' => e = .returned (.int .i64 r) ∧ Below w.heap.size w w' := by
 obtain rfl := Option.some.inj h
 have HR0 := Aside0.mk hr0
 have HC0 := Aside0.mk hc0
 clear hr0 hc0 h
 go_enter Try.func119, Try.ntmps119
 go_wp2_with (go_at_call 142; refine (impl_FindPath.idx a1 w.heap.size A0 c0 l0 _ ?s1 HC0.out ?s2).mono ?_; (case s1 => exact Kd.C_alloc HR0.out _); (case s2 => simp); rintro e w1 ⟨rfl, hb1⟩)
 go_ret
 exact ⟨rfl, below_step (below_alloc (Below.refl _ _) _) hb1⟩

/-! ### impl_LeastGreen: function 77 -/
def impl_LeastGreen.l0 : Nat → List (S89) → List Int → Int → Int → Option (Int)
 | 0, _, _, _, _ => none
 | k + 1, x0, x8, x9, x10 => if x10 < x9 then (if 0 ≤ x10 then (if x10 < (x8.length : Int) then ((impl_FindPath.f x0 (rd x8 x10)).bind fun t278 => (if t278 ≥ 0 then (if 0 ≤ t278 then (if t278 < (x0.length : Int) then (if ((rd_T89 x0 t278).f1) = 2 then (some 7) else (impl_LeastGreen.l0 k x0 x8 x9 (wrap64 (x10 + 1)))) else (none)) else (none)) else (impl_LeastGreen.l0 k x0 x8 x9 (wrap64 (x10 + 1))))) else (none)) else (none)) else (some 5)
def impl_LeastGreen.f (k : Nat) (l0 : List (S89)) (l1 : List Int) : Option (Int) := impl_LeastGreen.l0 k l0 l1 (l1.length : Int) 0
theorem impl_LeastGreen.mono_l : ∀ k, (∀ y0 y1 y2 y3, LeO (impl_LeastGreen.l0 k y0 y1 y2 y3) (impl_LeastGreen.l0 (k + 1) y0 y1 y2 y3))
 | 0 => fun _ _ _ _ r h => by simp [impl_LeastGreen.l0] at h
 | k + 1 => by
  have ih0 := impl_LeastGreen.mono_l k
  ·
   intro y0 y1 y2 y3
   unfold impl_LeastGreen.l0
   exact mz1 ih0
theorem impl_LeastGreen.mono : ∀ a0 a1 k, LeO (impl_LeastGreen.f k a0 a1) (impl_LeastGreen.f (k + 1) a0 a1) := by
 intro a0 a1 k
 have ih0 := impl_LeastGreen.mono_l k
 unfold impl_LeastGreen.f
 exact mz1 ih0
set_option maxHeartbeats 8000000 in
set_option maxRecDepth 100000 in
theorem impl_LeastGreen.calls (k : Nat) (A0 : Option Addr) (c0 : Nat) (l0 : List (S89)) (A1 : Option Addr) (c1 : Nat) (l1 : List Int) (r : Int) (w : World) (hr0 : Kd.C k89 w A0 l0.length l0) (hc0 : l0.length ≤ c0) (hr1 : Kd.C (Kd.int .i64) w A1 l1.length l1) (hc1 : l1.length ≤ c1) (h : impl_LeastGreen.f k l0 l1 = some r) :
  Calls Try.prog 77 #[.slice A0 l0.length c0, .slice A1 l1.length c1] w fun e w' => e = .returned (.int .i64 r) ∧ Below w.heap.size w w' := by
 have HR0 := Aside0.mk hr0
 have HC0 := Aside0.mk hc0
 clear hr0 hc0
 have HR1 := Aside0.mk hr1
 have HC1 := Aside0.mk hc1
 clear hr1 hc1
 have HB := Aside0.mk (Below.refl w.heap.size w)
 have H : (impl_LeastGreen.l0 k l0 l1 (l1.length : Int) 0) = some r := h
 clear h
 have H' := Aside0.mk H
 clear H
 go_enter Try.func77, Try.ntmps77
 go_wp2
 go_loopg [10] k (fun kq v10 w' => ∃ (x10_1 : Int), v10 = .int .i64 x10_1 ∧ Aside0 (impl_LeastGreen.l0 kq l0 l1 (l1.length : Int) x10_1 = some r) ∧ Aside0 (kq ≤ k) ∧ Aside0 (Below w.heap.size w w'))
 case atStart => exact ⟨(0), rS, H', ⟨Nat.le_refl _⟩, ⟨bA⟩⟩
 case round =>
  clear H'
  obtain ⟨x10_1, rfl, HA, HK1, HB⟩ := hrel
  cases gk with
  | zero => exact absurd HA.out (by simp [impl_LeastGreen.l0])
  | succ k1 =>
   have H := HA.out
   clear HA
   simp only [impl_LeastGreen.l0] at H
   by_cases c3 : x10_1 < (l1.length : Int)
   ·
    rw [if_pos c3] at H
    have c3b0 := decide_eq_true c3
    clear c3
    have c4 : 0 ≤ x10_1 := ifN H
    replace H := ifT H
    have c4b0 := decide_eq_true c4
    clear c4
    have c5 : x10_1 < (l1.length : Int) := ifN H
    replace H := ifT H
    have c5b0 := decide_eq_true c5
    clear c5
    obtain ⟨t278, A6, H⟩ := bindE H
    try dsimp only at H
    by_cases c7 : t278 ≥ 0
    ·
     rw [if_pos c7] at H
     have c7b0 := decide_eq_true c7
     clear c7
     have c8 : 0 ≤ t278 := ifN H
     replace H := ifT H
     have c8b0 := decide_eq_true c8
     clear c8
     have c9 : t278 < (l0.length : Int) := ifN H
     replace H := ifT H
     have c9b0 := decide_eq_true c9
     clear c9
     by_cases c10 : ((rd_T89 l0 t278).f1) = 2
     ·
      rw [if_pos c10] at H
      have c10b0 : (((rd_T89 l0 t278).f1) == 2) = true := beq_iff_eq.mpr c10
      have c10b1 : (((rd_T89 l0 t278).f1) != 2) = false := bne_eq_false_iff_eq.mpr c10
      clear c10
      obtain rfl := Option.some.inj H
      obtain ⟨p277, q277⟩ : 0 ≤ (x10_1 : Int) ∧ x10_1 < (l1.length : Int) := ⟨dA, dA⟩
      obtain ⟨ad277, e277, hx277_0⟩ := Kd.at_int (Kd.C_below HR1.out HB.out) x10_1 p277 q277
      cases e277
      obtain ⟨p277, q277⟩ := eT p277 q277
      go_wp2_with (first | ((with_reducible refine gate_callee (f := 119) rfl ?_); refine gL (some 16) Try.func119 #[.slice A0 l0.length c0, .int .i64 (rd l1 x10_1)] ?_; (with_reducible refine (impl_FindPath.calls _ _ l0 (rd l1 x10_1) t278 _ ?_ ?_ A6.out).mono ?_); exact cB HR0; exact HC0.out; rintro e w11 ⟨rfl, hb⟩; refine ⟨_, rfl, ?_⟩; replace HB := bs HB hb; (try clear hb); have p279 : 0 ≤ (t278 : Int) := dA; have q279 : t278 < (l0.length : Int) := dA; obtain ⟨ad279, e279, hx279_0, hx279_1, hx279_2, hx279_3⟩ := at_T89 HR0.out t278 p279 q279; cases e279; replace hx279_0 := hC HB hx279_0; replace hx279_1 := hC HB hx279_1; replace hx279_2 := hC HB hx279_2; replace hx279_3 := hC HB hx279_3; replace p279 := eq_true p279; replace q279 := eq_true q279))
      go_ret
      exact ⟨rA, bA⟩
     rw [if_neg c10] at H
     have c10b0 : (((rd_T89 l0 t278).f1) == 2) = false := beq_eq_false_iff_ne.mpr c10
     have c10b1 : (((rd_T89 l0 t278).f1) != 2) = true := bne_iff_ne.mpr c10
     have H' := Aside0.mk H
     clear H
     obtain ⟨p277, q277⟩ : 0 ≤ (x10_1 : Int) ∧ x10_1 < (l1.length : Int) := ⟨dA, dA⟩
     obtain ⟨ad277, e277, hx277_0⟩ := Kd.at_int (Kd.C_below HR1.out HB.out) x10_1 p277 q277
     cases e277
     obtain ⟨p277, q277⟩ := eT p277 q277
     go_wp2_with (first | ((with_reducible refine gate_callee (f := 119) rfl ?_); refine gL (some 16) Try.func119 #[.slice A0 l0.length c0, .int .i64 (rd l1 x10_1)] ?_; (with_reducible refine (impl_FindPath.calls _ _ l0 (rd l1 x10_1) t278 _ ?_ ?_ A6.out).mono ?_); exact cB HR0; exact HC0.out; rintro e w12 ⟨rfl, hb⟩; refine ⟨_, rfl, ?_⟩; replace HB := bs HB hb; (try clear hb); have p279 : 0 ≤ (t278 : Int) := dA; have q279 : t278 < (l0.length : Int) := dA; obtain ⟨ad279, e279, hx279_0, hx279_1, hx279_2, hx279_3⟩ := at_T89 HR0.out t278 p279 q279; cases e279; replace hx279_0 := hC HB hx279_0; replace hx279_1 := hC HB hx279_1; replace hx279_2 := hC HB hx279_2; replace hx279_3 := hC HB hx279_3; replace p279 := eq_true p279; replace q279 := eq_true q279))
     go_roundg k1
     case measure => have := HK1.out; omega
     case rel => exact ⟨(wrap64 (x10_1 + 1)), rS, H', ⟨by have := HK1.out; omega⟩, ⟨bA⟩⟩
    rw [if_neg c7] at H
    have c7b0 := decide_eq_false c7
    clear c7
    have H' := Aside0.mk H
    clear H
    obtain ⟨p277, q277⟩ : 0 ≤ (x10_1 : Int) ∧ x10_1 < (l1.length : Int) := ⟨dA, dA⟩
    obtain ⟨ad277, e277, hx277_0⟩ := Kd.at_int (Kd.C_below HR1.out HB.out) x10_1 p277 q277
    cases e277
    obtain ⟨p277, q277⟩ := eT p277 q277
    go_wp2_with (first | ((with_reducible refine gate_callee (f := 119) rfl ?_); refine gL (some 16) Try.func119 #[.slice A0 l0.length c0, .int .i64 (rd l1 x10_1)] ?_; (with_reducible refine (impl_FindPath.calls _ _ l0 (rd l1 x10_1) t278 _ ?_ ?_ A6.out).mono ?_); exact cB HR0; exact HC0.out; rintro e w13 ⟨rfl, hb⟩; refine ⟨_, rfl, ?_⟩; replace HB := bs HB hb; (try clear hb)))
    go_roundg k1
    case measure => have := HK1.out; omega
    case rel => exact ⟨(wrap64 (x10_1 + 1)), rS, H', ⟨by have := HK1.out; omega⟩, ⟨bA⟩⟩
   rw [if_neg c3] at H
   have c3b0 := decide_eq_false c3
   clear c3
   obtain rfl := Option.some.inj H
   go_wp2
   go_ret
   exact ⟨rA, bA⟩

/-! ### impl_InRange: function 66 -/
def impl_InRange.f (a0 : Int) (a1 : Int) (a2 : Int) : Option (Bool) := if a1 ≤ a0 then (some (decide (a0 ≤ a2))) else (some false)
set_option maxHeartbeats 8000000 in
set_option maxRecDepth 100000 in
theorem impl_InRange.calls (a0 : Int) (a1 : Int) (a2 : Int) (r : Bool) (w : World) (h : impl_InRange.f a0 a1 a2 = some r) :
  Calls Try.prog 66 #[.int .i64 a0, .int .i64 a1, .int .i64 a2] w fun e w' => e = .returned (.bool r) ∧ Drawn0 w w' := by
 have H : (if a1 ≤ a0 then (some (decide (a0 ≤ a2))) else (some false)) = some r := h
 clear h
 by_cases c4 : a1 ≤ a0
 ·
  rw [if_pos c4] at H
  have c4b0 := decide_eq_true c4
  clear c4
  obtain rfl := Option.some.inj H
  go_enter Try.func66, Try.ntmps66
  go_wp2
  go_ret
  exact ⟨rS, dD⟩
 rw [if_neg c4] at H
 have c4b0 := decide_eq_false c4
 clear c4
 obtain rfl := Option.some.inj H
 go_enter Try.func66, Try.ntmps66
 go_wp2
 go_ret
 exact ⟨rS, dD⟩

/-! ### impl_IsPath: function 146 -/
def impl_IsPath.f (a0_0 : Int) (a0_1 : Int) (a0_2 : Int) (a0_3 : Int) : Option (Bool) := (impl_InRange.f a0_0 1 20).bind fun t281 => (if t281 = true then ((impl_InRange.f a0_1 1 3).bind fun t282 => (if t282 = true then ((impl_InRange.f a0_2 0 3).bind fun t283 => (if t283 = true then ((impl_InRange.f a0_3 0 3).bind fun t284 => (if t284 = true then (some ((a0_2 == a0_3) == (a0_1 == 2))) else (some false))) else (some false))) else (some false))) else (some false))
set_option maxHeartbeats 8000000 in
set_option maxRecDepth 100000 in
theorem impl_IsPath.calls (a0_0 : Int) (a0_1 : Int) (a0_2 : Int) (a0_3 : Int) (r : Bool) (w : World) (h : impl_IsPath.f a0_0 a0_1 a0_2 a0_3 = some r) :
  Calls Try.prog 146 #[.agg #[.int .i64 a0_0, .int .i64 a0_1, .int .i64 a0_2, .int .i64 a0_3]] w fun e w' => e = .returned (.bool r) ∧ Below w.heap.size w w' := by
 have hu89 := Try.underlying89
 have HB := Aside0.mk (Below.refl w.heap.size w)
 have H : ((impl_InRange.f a0_0 1 20).bind fun t281 => (if t281 = true then ((impl_InRange.f a0_1 1 3).bind fun t282 => (if t282 = true then ((impl_InRange.f a0_2 0 3).bind fun t283 => (if t283 = true then ((impl_InRange.f a0_3 0 3).bind fun t284 => (if t284 = true then (some ((a0_2 == a0_3) == (a0_1 == 2))) else (some false))) else (some false))) else (some false))) else (some false))) = some r := h
 clear h
 obtain ⟨t281, A2, H⟩ := bindE H
 try dsimp only at H
 by_cases c3 : t281 = true
 ·
  subst c3
  have H1 : ((impl_InRange.f a0_1 1 3).bind fun t282 => (if t282 = true then ((impl_InRange.f a0_2 0 3).bind fun t283 => (if t283 = true then ((impl_InRange.f a0_3 0 3).bind fun t284 => (if t284 = true then (some ((a0_2 == a0_3) == (a0_1 == 2))) else (some false))) else (some false))) else (some false))) = some r := by rw [if_pos rfl] at H; exact H
  clear H
  have H := H1
  clear H1
  obtain ⟨t282, A4, H⟩ := bindE H
  try dsimp only at H
  by_cases c5 : t282 = true
  ·
   subst c5
   have H1 : ((impl_InRange.f a0_2 0 3).bind fun t283 => (if t283 = true then ((impl_InRange.f a0_3 0 3).bind fun t284 => (if t284 = true then (some ((a0_2 == a0_3) == (a0_1 == 2))) else (some false))) else (some false))) = some r := by rw [if_pos rfl] at H; exact H
   clear H
   have H := H1
   clear H1
   obtain ⟨t283, A6, H⟩ := bindE H
   try dsimp only at H
   by_cases c7 : t283 = true
   ·
    subst c7
    have H1 : ((impl_InRange.f a0_3 0 3).bind fun t284 => (if t284 = true then (some ((a0_2 == a0_3) == (a0_1 == 2))) else (some false))) = some r := by rw [if_pos rfl] at H; exact H
    clear H
    have H := H1
    clear H1
    obtain ⟨t284, A8, H⟩ := bindE H
    try dsimp only at H
    by_cases c9 : t284 = true
    ·
     subst c9
     have H1 : (some ((a0_2 == a0_3) == (a0_1 == 2))) = some r := by rw [if_pos rfl] at H; exact H
     clear H
     have H := H1
     clear H1
     obtain rfl := Option.some.inj H
     go_enter Try.func146, Try.ntmps146
     go_wp2_with (first | ((with_reducible refine gate_dst (N := 1) rfl ?_); refine bE (N := 1) (cs := #[.int .i64 a0_0, .int .i64 a0_1, .int .i64 a0_2, .int .i64 a0_3]) (t := 89) ?_; intro gb280 hg w10 hbox hb; have BK280 := Aside0.mk (hbox); have GW280 := gw w hg; have GE280 := gw w hg; replace HB := bs HB hb; clear hb hbox hg; have hcz11_0 : w10.cell? ⟨gb280, 0, none⟩ = some (.int .i64 a0_0) := bC BK280 0; have hcz11_1 : w10.cell? ⟨gb280, 1, none⟩ = some (.int .i64 a0_1) := bC BK280 1; have hcz11_2 : w10.cell? ⟨gb280, 2, none⟩ = some (.int .i64 a0_2) := bC BK280 2; have hcz11_3 : w10.cell? ⟨gb280, 3, none⟩ = some (.int .i64 a0_3) := bC BK280 3; have hfz11_0 := blk_frozen BK280.out 0; have hfz11_1 := blk_frozen BK280.out 1; have hfz11_2 := blk_frozen BK280.out 2; have hfz11_3 := blk_frozen BK280.out 3) | ((with_reducible refine gate_callee (f := 66) rfl ?_); refine gL (some 5) Try.func66 #[.int .i64 a0_0, .int .i64 1, .int .i64 20] ?_; (with_reducible refine (impl_InRange.calls a0_0 1 20 true _ A2.out).mono ?_); rintro e w' ⟨rfl, ⟨nd, rfl⟩⟩; refine ⟨_, rfl, ?_⟩) | (go_at_call 66; (with_reducible refine (impl_InRange.calls a0_1 1 3 true _ A4.out).mono ?_); rintro e w' ⟨rfl, ⟨nd, rfl⟩⟩) | (go_at_call 66; (with_reducible refine (impl_InRange.calls a0_2 0 3 true _ A6.out).mono ?_); rintro e w' ⟨rfl, ⟨nd, rfl⟩⟩) | (go_at_call 66; (with_reducible refine (impl_InRange.calls a0_3 0 3 true _ A8.out).mono ?_); rintro e w' ⟨rfl, ⟨nd, rfl⟩⟩))
     go_ret
     exact ⟨rA, bG⟩
    replace c9 := Bool.eq_false_iff.mpr c9
    subst c9
    have H1 : (some false) = some r := by rw [if_neg (show ¬ (false = true) by decide)] at H; exact H
    clear H
    have H := H1
    clear H1
    obtain rfl := Option.some.inj H
    go_enter Try.func146, Try.ntmps146
    go_wp2_with (first | ((with_reducible refine gate_dst (N := 1) rfl ?_); refine bE (N := 1) (cs := #[.int .i64 a0_0, .int .i64 a0_1, .int .i64 a0_2, .int .i64 a0_3]) (t := 89) ?_; intro gb280 hg w12 hbox hb; have BK280 := Aside0.mk (hbox); have GW280 := gw w hg; have GE280 := gw w hg; replace HB := bs HB hb; clear hb hbox hg; have hcz13_0 : w12.cell? ⟨gb280, 0, none⟩ = some (.int .i64 a0_0) := bC BK280 0; have hcz13_1 : w12.cell? ⟨gb280, 1, none⟩ = some (.int .i64 a0_1) := bC BK280 1; have hcz13_2 : w12.cell? ⟨gb280, 2, none⟩ = some (.int .i64 a0_2) := bC BK280 2; have hcz13_3 : w12.cell? ⟨gb280, 3, none⟩ = some (.int .i64 a0_3) := bC BK280 3; have hfz13_0 := blk_frozen BK280.out 0; have hfz13_1 := blk_frozen BK280.out 1; have hfz13_2 := blk_frozen BK280.out 2; have hfz13_3 := blk_frozen BK280.out 3) | ((with_reducible refine gate_callee (f := 66) rfl ?_); refine gL (some 5) Try.func66 #[.int .i64 a0_0, .int .i64 1, .int .i64 20] ?_; (with_reducible refine (impl_InRange.calls a0_0 1 20 true _ A2.out).mono ?_); rintro e w' ⟨rfl, ⟨nd, rfl⟩⟩; refine ⟨_, rfl, ?_⟩) | (go_at_call 66; (with_reducible refine (impl_InRange.calls a0_1 1 3 true _ A4.out).mono ?_); rintro e w' ⟨rfl, ⟨nd, rfl⟩⟩) | (go_at_call 66; (with_reducible refine (impl_InRange.calls a0_2 0 3 true _ A6.out).mono ?_); rintro e w' ⟨rfl, ⟨nd, rfl⟩⟩) | (go_at_call 66; (with_reducible refine (impl_InRange.calls a0_3 0 3 false _ A8.out).mono ?_); rintro e w' ⟨rfl, ⟨nd, rfl⟩⟩))
    go_ret
    exact ⟨rA, bG⟩
   replace c7 := Bool.eq_false_iff.mpr c7
   subst c7
   have H1 : (some false) = some r := by rw [if_neg (show ¬ (false = true) by decide)] at H; exact H
   clear H
   have H := H1
   clear H1
   obtain rfl := Option.some.inj H
   go_enter Try.func146, Try.ntmps146
   go_wp2_with (first | ((with_reducible refine gate_dst (N := 1) rfl ?_); refine bE (N := 1) (cs := #[.int .i64 a0_0, .int .i64 a0_1, .int .i64 a0_2, .int .i64 a0_3]) (t := 89) ?_; intro gb280 hg w14 hbox hb; have BK280 := Aside0.mk (hbox); have GW280 := gw w hg; have GE280 := gw w hg; replace HB := bs HB hb; clear hb hbox hg; have hcz15_0 : w14.cell? ⟨gb280, 0, none⟩ = some (.int .i64 a0_0) := bC BK280 0; have hcz15_1 : w14.cell? ⟨gb280, 1, none⟩ = some (.int .i64 a0_1) := bC BK280 1; have hcz15_2 : w14.cell? ⟨gb280, 2, none⟩ = some (.int .i64 a0_2) := bC BK280 2; have hcz15_3 : w14.cell? ⟨gb280, 3, none⟩ = some (.int .i64 a0_3) := bC BK280 3; have hfz15_0 := blk_frozen BK280.out 0; have hfz15_1 := blk_frozen BK280.out 1; have hfz15_2 := blk_frozen BK280.out 2; have hfz15_3 := blk_frozen BK280.out 3) | ((with_reducible refine gate_callee (f := 66) rfl ?_); refine gL (some 5) Try.func66 #[.int .i64 a0_0, .int .i64 1, .int .i64 20] ?_; (with_reducible refine (impl_InRange.calls a0_0 1 20 true _ A2.out).mono ?_); rintro e w' ⟨rfl, ⟨nd, rfl⟩⟩; refine ⟨_, rfl, ?_⟩) | (go_at_call 66; (with_reducible refine (impl_InRange.calls a0_1 1 3 true _ A4.out).mono ?_); rintro e w' ⟨rfl, ⟨nd, rfl⟩⟩) | (go_at_call 66; (with_reducible refine (impl_InRange.calls a0_2 0 3 false _ A6.out).mono ?_); rintro e w' ⟨rfl, ⟨nd, rfl⟩⟩))
   go_ret
   exact ⟨rA, bG⟩
  replace c5 := Bool.eq_false_iff.mpr c5
  subst c5
  have H1 : (some false) = some r := by rw [if_neg (show ¬ (false = true) by decide)] at H; exact H
  clear H
  have H := H1
  clear H1
  obtain rfl := Option.some.inj H
  go_enter Try.func146, Try.ntmps146
  go_wp2_with (first | ((with_reducible refine gate_dst (N := 1) rfl ?_); refine bE (N := 1) (cs := #[.int .i64 a0_0, .int .i64 a0_1, .int .i64 a0_2, .int .i64 a0_3]) (t := 89) ?_; intro gb280 hg w16 hbox hb; have BK280 := Aside0.mk (hbox); have GW280 := gw w hg; have GE280 := gw w hg; replace HB := bs HB hb; clear hb hbox hg; have hcz17_0 : w16.cell? ⟨gb280, 0, none⟩ = some (.int .i64 a0_0) := bC BK280 0; have hcz17_1 : w16.cell? ⟨gb280, 1, none⟩ = some (.int .i64 a0_1) := bC BK280 1; have hcz17_2 : w16.cell? ⟨gb280, 2, none⟩ = some (.int .i64 a0_2) := bC BK280 2; have hcz17_3 : w16.cell? ⟨gb280, 3, none⟩ = some (.int .i64 a0_3) := bC BK280 3; have hfz17_0 := blk_frozen BK280.out 0; have hfz17_1 := blk_frozen BK280.out 1; have hfz17_2 := blk_frozen BK280.out 2; have hfz17_3 := blk_frozen BK280.out 3) | ((with_reducible refine gate_callee (f := 66) rfl ?_); refine gL (some 5) Try.func66 #[.int .i64 a0_0, .int .i64 1, .int .i64 20] ?_; (with_reducible refine (impl_InRange.calls a0_0 1 20 true _ A2.out).mono ?_); rintro e w' ⟨rfl, ⟨nd, rfl⟩⟩; refine ⟨_, rfl, ?_⟩) | (go_at_call 66; (with_reducible refine (impl_InRange.calls a0_1 1 3 false _ A4.out).mono ?_); rintro e w' ⟨rfl, ⟨nd, rfl⟩⟩))
  go_ret
  exact ⟨rA, bG⟩
 replace c3 := Bool.eq_false_iff.mpr c3
 subst c3
 have H1 : (some false) = some r := by rw [if_neg (show ¬ (false = true) by decide)] at H; exact H
 clear H
 have H := H1
 clear H1
 obtain rfl := Option.some.inj H
 go_enter Try.func146, Try.ntmps146
 go_wp2_with (first | ((with_reducible refine gate_dst (N := 1) rfl ?_); refine bE (N := 1) (cs := #[.int .i64 a0_0, .int .i64 a0_1, .int .i64 a0_2, .int .i64 a0_3]) (t := 89) ?_; intro gb280 hg w18 hbox hb; have BK280 := Aside0.mk (hbox); have GW280 := gw w hg; have GE280 := gw w hg; replace HB := bs HB hb; clear hb hbox hg; have hcz19_0 : w18.cell? ⟨gb280, 0, none⟩ = some (.int .i64 a0_0) := bC BK280 0; have hcz19_1 : w18.cell? ⟨gb280, 1, none⟩ = some (.int .i64 a0_1) := bC BK280 1; have hcz19_2 : w18.cell? ⟨gb280, 2, none⟩ = some (.int .i64 a0_2) := bC BK280 2; have hcz19_3 : w18.cell? ⟨gb280, 3, none⟩ = some (.int .i64 a0_3) := bC BK280 3; have hfz19_0 := blk_frozen BK280.out 0; have hfz19_1 := blk_frozen BK280.out 1; have hfz19_2 := blk_frozen BK280.out 2; have hfz19_3 := blk_frozen BK280.out 3) | ((with_reducible refine gate_callee (f := 66) rfl ?_); refine gL (some 5) Try.func66 #[.int .i64 a0_0, .int .i64 1, .int .i64 20] ?_; (with_reducible refine (impl_InRange.calls a0_0 1 20 false _ A2.out).mono ?_); rintro e w' ⟨rfl, ⟨nd, rfl⟩⟩; refine ⟨_, rfl, ?_⟩))
 go_ret
 exact ⟨rA, bG⟩

/-! ### impl_ArePaths: function 126 -/
def impl_ArePaths.l0 : Nat → List (S89) → List (S89) → Int → Int → Option (Bool)
 | 0, _, _, _, _ => none
 | k + 1, x0, x8, x9, x10 => if x10 < x9 then (if 0 ≤ x10 then (if x10 < (x8.length : Int) then ((impl_IsPath.f ((rd_T89 x8 x10).f0) ((rd_T89 x8 x10).f1) ((rd_T89 x8 x10).f2) ((rd_T89 x8 x10).f3)).bind fun t287 => (if t287 = true then (if x10 > 0 then (if 0 ≤ (wrap64 (x10 - 1)) then (if (wrap64 (x10 - 1)) < (x0.length : Int) then (if ((rd_T89 x8 x10).f0) ≤ ((rd_T89 x0 (wrap64 (x10 - 1))).f0) then (some false) else (impl_ArePaths.l0 k x0 x8 x9 (wrap64 (x10 + 1)))) else (none)) else (none)) else (impl_ArePaths.l0 k x0 x8 x9 (wrap64 (x10 + 1)))) else (some false))) else (none)) else (none)) else (some true)
def impl_ArePaths.f (k : Nat) (l0 : List (S89)) : Option (Bool) := if (l0.length : Int) > 12 then (some false) else (impl_ArePaths.l0 k l0 l0 (l0.length : Int) 0)
theorem impl_ArePaths.mono_l : ∀ k, (∀ y0 y1 y2 y3, LeO (impl_ArePaths.l0 k y0 y1 y2 y3) (impl_ArePaths.l0 (k + 1) y0 y1 y2 y3))
 | 0 => fun _ _ _ _ r h => by simp [impl_ArePaths.l0] at h
 | k + 1 => by
  have ih0 := impl_ArePaths.mono_l k
  ·
   intro y0 y1 y2 y3
   unfold impl_ArePaths.l0
   exact mz1 ih0
theorem impl_ArePaths.mono : ∀ a0 k, LeO (impl_ArePaths.f k a0) (impl_ArePaths.f (k + 1) a0) := by
 intro a0 k
 have ih0 := impl_ArePaths.mono_l k
 unfold impl_ArePaths.f
 exact mz1 ih0
def impl_ArePaths.T6 : Bool × List (List Nat × List Nat) := (true, [([], []), ([0], [0]), ([1], [1]), ([2, 1], [2]), ([3], [3]), ([4, 3], [3, 4]), ([5, 3, 3], [3, 5]), ([6], [6]), ([7, 6], [6, 7]), ([6], [6]), ([6], [6]), ([10, 6], [6, 10]), ([9, 11, 6], [6, 9, 11]), ([12, 6], [6, 12]), ([13, 6], [6, 13]), ([8, 14, 6], [6, 8, 14]), ([6, 15, 3], [3, 6, 15]), ([3, 16], [3, 16])])
def impl_ArePaths.B6 : List Nat := [0, 1, 3, 7, 15, 31, 63, 127, 255, 127, 127, 1151, 3711, 7807, 15999, 32767, 65535, 131071]
theorem impl_ArePaths.tab6 : rtab .any (opsOf Try.f126 6) = impl_ArePaths.T6 := by kernel_rfl
theorem impl_ArePaths.bits6 : waitsOk impl_ArePaths.T6.2 impl_ArePaths.B6 = true := by kernel_rfl
set_option maxHeartbeats 8000000 in
set_option maxRecDepth 100000 in
theorem impl_ArePaths.calls (k : Nat) (A0 : Option Addr) (c0 : Nat) (l0 : List (S89)) (r : Bool) (w : World) (hr0 : Kd.C k89 w A0 l0.length l0) (hc0 : l0.length ≤ c0) (h : impl_ArePaths.f k l0 = some r) :
  Calls Try.prog 126 #[.slice A0 l0.length c0] w fun e w' => e = .returned (.bool r) ∧ Below w.heap.size w w' := by
 have hu89 := Try.underlying89
 have HR0 := Aside0.mk hr0
 have HC0 := Aside0.mk hc0
 clear hr0 hc0
 have HB := Aside0.mk (Below.refl w.heap.size w)
 have H : (if (l0.length : Int) > 12 then (some false) else (impl_ArePaths.l0 k l0 l0 (l0.length : Int) 0)) = some r := h
 clear h
 by_cases c2 : (l0.length : Int) > 12
 ·
  rw [if_pos c2] at H
  have c2b0 := decide_eq_true c2
  have c2b1 : decide (12 < l0.length) = true := decide_eq_true (by omega)
  clear c2
  obtain rfl := Option.some.inj H
  go_enter Try.func126, Try.ntmps126
  go_wp2
  go_ret
  exact ⟨rA, bA⟩
 rw [if_neg c2] at H
 have c2b0 := decide_eq_false c2
 have c2b1 : decide (12 < l0.length) = false := decide_eq_false (by omega)
 clear c2
 have H' := Aside0.mk H
 clear H
 go_enter Try.func126, Try.ntmps126
 go_wp2
 go_loopg [10] k (fun kq v10 w' => ∃ (x10_1 : Int), v10 = .int .i64 x10_1 ∧ Aside0 (impl_ArePaths.l0 kq l0 l0 (l0.length : Int) x10_1 = some r) ∧ Aside0 (kq ≤ k) ∧ Aside0 (Below w.heap.size w w'))
 case atStart => exact ⟨(0), rS, H', ⟨Nat.le_refl _⟩, ⟨bA⟩⟩
 case round =>
  clear H'
  obtain ⟨x10_1, rfl, HA, HK1, HB⟩ := hrel
  cases gk with
  | zero => exact absurd HA.out (by simp [impl_ArePaths.l0])
  | succ k1 =>
   have H := HA.out
   clear HA
   simp only [impl_ArePaths.l0] at H
   by_cases c3 : x10_1 < (l0.length : Int)
   ·
    rw [if_pos c3] at H
    have c3b0 := decide_eq_true c3
    clear c3
    have c4 : 0 ≤ x10_1 := ifN H
    replace H := ifT H
    have c4b0 := decide_eq_true c4
    clear c4
    have c5 : x10_1 < (l0.length : Int) := ifN H
    replace H := ifT H
    have c5b0 := decide_eq_true c5
    clear c5
    obtain ⟨t287, A6, H⟩ := bindE H
    try dsimp only at H
    by_cases c7 : t287 = true
    ·
     subst c7
     have H1 : (if x10_1 > 0 then (if 0 ≤ (wrap64 (x10_1 - 1)) then (if (wrap64 (x10_1 - 1)) < (l0.length : Int) then (if ((rd_T89 l0 x10_1).f0) ≤ ((rd_T89 l0 (wrap64 (x10_1 - 1))).f0) then (some false) else (impl_ArePaths.l0 k1 l0 l0 (l0.length : Int) (wrap64 (x10_1 + 1)))) else (none)) else (none)) else (impl_ArePaths.l0 k1 l0 l0 (l0.length : Int) (wrap64 (x10_1 + 1)))) = some r := by rw [if_pos rfl] at H; exact H
     clear H
     have H := H1
     clear H1
     by_cases c8 : x10_1 > 0
     ·
      rw [if_pos c8] at H
      have c8b0 := decide_eq_true c8
      clear c8
      obtain ⟨ji9, hji9⟩ : ∃ j_ : Int, (wrap64 (x10_1 - 1)) = j_ := ⟨_, rfl⟩
      replace H : (if 0 ≤ (ji9) then (if (ji9) < (l0.length : Int) then (if ((rd_T89 l0 x10_1).f0) ≤ ((rd_T89 l0 (ji9)).f0) then (some false) else (impl_ArePaths.l0 k1 l0 l0 (l0.length : Int) (wrap64 (x10_1 + 1)))) else (none)) else (none)) = some r := by first | (rw [hji9] at H; exact H) | (simp only [hji9] at H ⊢; exact H)
      (try rw [hji9] at A6)
      have hji9w : (IntKind.i64.wrap (x10_1 - 1)) = ji9 := (i64_w _).trans hji9
      have c10 : 0 ≤ (ji9) := ifN H
      replace H := ifT H
      have c10b0 := decide_eq_true c10
      clear c10
      have c11 : (ji9) < (l0.length : Int) := ifN H
      replace H := ifT H
      have c11b0 := decide_eq_true c11
      clear c11
      by_cases c12 : ((rd_T89 l0 x10_1).f0) ≤ ((rd_T89 l0 (ji9)).f0)
      ·
       rw [if_pos c12] at H
       have c12b0 := decide_eq_true c12
       clear c12
       obtain rfl := Option.some.inj H
       obtain ⟨p285, q285⟩ : 0 ≤ (x10_1 : Int) ∧ x10_1 < (l0.length : Int) := ⟨dA, dA⟩
       obtain ⟨ad285, e285, hx285_0, hx285_1, hx285_2, hx285_3⟩ := at_T89 (Kd.C_below HR0.out HB.out) x10_1 p285 q285
       cases e285
       obtain ⟨p285, q285⟩ := eT p285 q285
       try go_wp2_with (first | ((with_reducible refine gate_dst (N := 4) rfl ?_); refine bE (N := 4) (cs := #[.int .i64 0, .int .i64 0, .int .i64 0, .int .i64 0]) (t := 89) ?_; intro gb286 hg w13 hbox hb; have BK286 := Aside0.mk (hbox); have GW286 := gw w hg; have GE286 := gw w hg; replace HB := bs HB hb; clear hb hbox hg; obtain ⟨_, _, _, _, _, _, _, _⟩ := blkc4 BK286))
       have n0_ : Aside0 (((((w13.setCell ⟨gb286, 0, none⟩ (.int .i64 ((rd_T89 l0 x10_1).f0))).setCell ⟨gb286, 1, none⟩ (.int .i64 ((rd_T89 l0 x10_1).f1))).setCell ⟨gb286, 2, none⟩ (.int .i64 ((rd_T89 l0 x10_1).f2))).setCell ⟨gb286, 3, none⟩ (.int .i64 ((rd_T89 l0 x10_1).f3))).heap[gb286]? = some (.cells #[.int .i64 ((rd_T89 l0 x10_1).f0), .int .i64 ((rd_T89 l0 x10_1).f1), .int .i64 ((rd_T89 l0 x10_1).f2), .int .i64 ((rd_T89 l0 x10_1).f3)] 89 (0, 0))) := ⟨kp BK286⟩
       have n1_ : Aside0 (Below w.heap.size w ((((w13.setCell ⟨gb286, 0, none⟩ (.int .i64 ((rd_T89 l0 x10_1).f0))).setCell ⟨gb286, 1, none⟩ (.int .i64 ((rd_T89 l0 x10_1).f1))).setCell ⟨gb286, 2, none⟩ (.int .i64 ((rd_T89 l0 x10_1).f2))).setCell ⟨gb286, 3, none⟩ (.int .i64 ((rd_T89 l0 x10_1).f3)))) := ⟨bG⟩
       (try clear BK286)
       (try clear HB)
       generalize ((((w13.setCell ⟨gb286, 0, none⟩ (.int .i64 ((rd_T89 l0 x10_1).f0))).setCell ⟨gb286, 1, none⟩ (.int .i64 ((rd_T89 l0 x10_1).f1))).setCell ⟨gb286, 2, none⟩ (.int .i64 ((rd_T89 l0 x10_1).f2))).setCell ⟨gb286, 3, none⟩ (.int .i64 ((rd_T89 l0 x10_1).f3))) = w15 at n0_ n1_ ⊢
       have BK286 := n0_
       have HB := n1_
       clear n0_ n1_
       replace BK286 := dk BK286
       have HBo := HB
       replace HB := db HB
       obtain ⟨p288, q288⟩ : 0 ≤ ((ji9) : Int) ∧ (ji9) < (l0.length : Int) := ⟨dA, dA⟩
       obtain ⟨ad288, e288, hx288_0, hx288_1, hx288_2, hx288_3⟩ := at_T89 HR0.out (ji9) p288 q288
       have hw288_3 := hx288_3
       have hw288_2 := hx288_2
       have hw288_1 := hx288_1
       have hw288_0 := hx288_0
       obtain rfl : ad285 = ad288 := (by injection e288)
       replace hx288_0 := hC HB hx288_0
       replace hx288_1 := hC HB hx288_1
       replace hx288_2 := hC HB hx288_2
       replace hx288_3 := hC HB hx288_3
       obtain ⟨p288, q288⟩ := eT p288 q288
       refine start_ (n := 18) (S := fun w' => w'.cell? ⟨gb286, 0, none⟩ = some (.int .i64 ((rd_T89 l0 x10_1).f0)) ∧ w'.cell? ⟨gb286, 1, none⟩ = some (.int .i64 ((rd_T89 l0 x10_1).f1)) ∧ w'.cell? ⟨gb286, 2, none⟩ = some (.int .i64 ((rd_T89 l0 x10_1).f2)) ∧ w'.cell? ⟨gb286, 3, none⟩ = some (.int .i64 ((rd_T89 l0 x10_1).f3)) ∧ w'.cell? (ad285.add (((ji9)).toNat * 4)) = some (.int .i64 ((rd_T89 l0 (ji9)).f0)) ∧ w'.cell? ⟨(ad285.add (((ji9)).toNat * 4)).block, (ad285.add (((ji9)).toNat * 4)).off + 1, none⟩ = some (.int .i64 ((rd_T89 l0 (ji9)).f1)) ∧ w'.cell? ⟨(ad285.add (((ji9)).toNat * 4)).block, (ad285.add (((ji9)).toNat * 4)).off + 2, none⟩ = some (.int .i64 ((rd_T89 l0 (ji9)).f2)) ∧ w'.cell? ⟨(ad285.add (((ji9)).toNat * 4)).block, (ad285.add (((ji9)).toNat * 4)).off + 3, none⟩ = some (.int .i64 ((rd_T89 l0 (ji9)).f3))) (ds := []) (mb 18 0) (by kernel_rfl) rfl rfl (cm4 BK286 ⟨(hC HB hw288_0), (hC HB hw288_1), (hC HB hw288_2), (hC HB hw288_3)⟩) (fun hHeld => ?_); refine with_tabW impl_ArePaths.tab6 impl_ArePaths.bits6 (fun HT_ HW_ => ?_)
       generalize w15.drew = w16 at BK286 HB hx288_0 hx288_1 hx288_2 hx288_3 hHeld ⊢
       refine ta8 0 15 (mb 18 1) HT_ HW_ hHeld ?_
       refine oa 1 16 (mb 18 3) HT_ (fun K hK => ?_)
       refine gA Try.func146 #[.agg #[.int .i64 ((rd_T89 l0 x10_1).f0), .int .i64 ((rd_T89 l0 x10_1).f1), .int .i64 ((rd_T89 l0 x10_1).f2), .int .i64 ((rd_T89 l0 x10_1).f3)]] ?_
       with_reducible refine (impl_IsPath.calls ((rd_T89 l0 x10_1).f0) ((rd_T89 l0 x10_1).f1) ((rd_T89 l0 x10_1).f2) ((rd_T89 l0 x10_1).f3) true _ A6.out).mono ?_
       rintro e w17 ⟨rfl, hb⟩
       refine ⟨_, rfl, ?_⟩
       replace BK286 := kb BK286 hb
       replace HB := bs HB hb
       (try clear hb)
       (try clear hb2)
       (try clear hk)
       (try clear hi)
       refine hK.out _ _ (cm4 BK286 ⟨(hC HB hw288_0), (hC HB hw288_1), (hC HB hw288_2), (hC HB hw288_3)⟩) (fun hHeld => ?_)
       clear hK K
       refine nB ?_
       refine pa 2 17 (mb 18 7) HT_ ?_
       refine pa 3 18 (mb 18 15) HT_ ?_
       refine pa 4 19 (mb 18 31) HT_ ?_
       refine pa 5 20 (mb 18 63) HT_ ?_
       refine pa 6 21 (mb 18 127) HT_ ?_
       refine pa 7 22 (mb 18 255) HT_ ?_
       refine pa 9 24 (mb 18 767) HT_ ?_
       refine pa 10 25 (mb 18 1791) HT_ ?_
       refine pa 11 26 (mb 18 3839) HT_ ?_
       refine pa 12 27 (mb 18 7935) HT_ ?_
       refine pa 13 28 (mb 18 16127) HT_ ?_
       refine ta8 8 23 (mb 18 16383) HT_ HW_ hHeld ?_
       refine ta8 14 29 (mb 18 32767) HT_ HW_ hHeld ?_
       refine pa 15 30 (mb 18 65535) HT_ ?_
       refine pa 16 31 (mb 18 131071) HT_ ?_
       refine pa 17 32 (mb 18 262143) HT_ ?_
       refine eA HT_ ?_
       try go_wp2
       go_ret
       exact ⟨by first | rfl | (simp [errW_none, errW_some] <;> rfl) | (simp only [← hji9]; first | rfl | (simp [errW_none, errW_some] <;> rfl)) | (simp [*, errW_none, errW_some] <;> rfl), bG⟩
      rw [if_neg c12] at H
      have c12b0 := decide_eq_false c12
      clear c12
      have H' := Aside0.mk H
      clear H
      obtain ⟨p285, q285⟩ : 0 ≤ (x10_1 : Int) ∧ x10_1 < (l0.length : Int) := ⟨dA, dA⟩
      obtain ⟨ad285, e285, hx285_0, hx285_1, hx285_2, hx285_3⟩ := at_T89 (Kd.C_below HR0.out HB.out) x10_1 p285 q285
      cases e285
      obtain ⟨p285, q285⟩ := eT p285 q285
      try go_wp2_with (first | ((with_reducible refine gate_dst (N := 4) rfl ?_); refine bE (N := 4) (cs := #[.int .i64 0, .int .i64 0, .int .i64 0, .int .i64 0]) (t := 89) ?_; intro gb286 hg w18 hbox hb; have BK286 := Aside0.mk (hbox); have GW286 := gw w hg; have GE286 := gw w hg; replace HB := bs HB hb; clear hb hbox hg; obtain ⟨_, _, _, _, _, _, _, _⟩ := blkc4 BK286))
      have n0_ : Aside0 (((((w18.setCell ⟨gb286, 0, none⟩ (.int .i64 ((rd_T89 l0 x10_1).f0))).setCell ⟨gb286, 1, none⟩ (.int .i64 ((rd_T89 l0 x10_1).f1))).setCell ⟨gb286, 2, none⟩ (.int .i64 ((rd_T89 l0 x10_1).f2))).setCell ⟨gb286, 3, none⟩ (.int .i64 ((rd_T89 l0 x10_1).f3))).heap[gb286]? = some (.cells #[.int .i64 ((rd_T89 l0 x10_1).f0), .int .i64 ((rd_T89 l0 x10_1).f1), .int .i64 ((rd_T89 l0 x10_1).f2), .int .i64 ((rd_T89 l0 x10_1).f3)] 89 (0, 0))) := ⟨kp BK286⟩
      have n1_ : Aside0 (Below w.heap.size w ((((w18.setCell ⟨gb286, 0, none⟩ (.int .i64 ((rd_T89 l0 x10_1).f0))).setCell ⟨gb286, 1, none⟩ (.int .i64 ((rd_T89 l0 x10_1).f1))).setCell ⟨gb286, 2, none⟩ (.int .i64 ((rd_T89 l0 x10_1).f2))).setCell ⟨gb286, 3, none⟩ (.int .i64 ((rd_T89 l0 x10_1).f3)))) := ⟨bG⟩
      (try clear BK286)
      (try clear HB)
      generalize ((((w18.setCell ⟨gb286, 0, none⟩ (.int .i64 ((rd_T89 l0 x10_1).f0))).setCell ⟨gb286, 1, none⟩ (.int .i64 ((rd_T89 l0 x10_1).f1))).setCell ⟨gb286, 2, none⟩ (.int .i64 ((rd_T89 l0 x10_1).f2))).setCell ⟨gb286, 3, none⟩ (.int .i64 ((rd_T89 l0 x10_1).f3))) = w20 at n0_ n1_ ⊢
      have BK286 := n0_
      have HB := n1_
      clear n0_ n1_
      replace BK286 := dk BK286
      have HBo := HB
      replace HB := db HB
      obtain ⟨p288, q288⟩ : 0 ≤ ((ji9) : Int) ∧ (ji9) < (l0.length : Int) := ⟨dA, dA⟩
      obtain ⟨ad288, e288, hx288_0, hx288_1, hx288_2, hx288_3⟩ := at_T89 HR0.out (ji9) p288 q288
      have hw288_3 := hx288_3
      have hw288_2 := hx288_2
      have hw288_1 := hx288_1
      have hw288_0 := hx288_0
      obtain rfl : ad285 = ad288 := (by injection e288)
      replace hx288_0 := hC HB hx288_0
      replace hx288_1 := hC HB hx288_1
      replace hx288_2 := hC HB hx288_2
      replace hx288_3 := hC HB hx288_3
      obtain ⟨p288, q288⟩ := eT p288 q288
      refine start_ (n := 18) (S := fun w' => w'.cell? ⟨gb286, 0, none⟩ = some (.int .i64 ((rd_T89 l0 x10_1).f0)) ∧ w'.cell? ⟨gb286, 1, none⟩ = some (.int .i64 ((rd_T89 l0 x10_1).f1)) ∧ w'.cell? ⟨gb286, 2, none⟩ = some (.int .i64 ((rd_T89 l0 x10_1).f2)) ∧ w'.cell? ⟨gb286, 3, none⟩ = some (.int .i64 ((rd_T89 l0 x10_1).f3)) ∧ w'.cell? (ad285.add (((ji9)).toNat * 4)) = some (.int .i64 ((rd_T89 l0 (ji9)).f0)) ∧ w'.cell? ⟨(ad285.add (((ji9)).toNat * 4)).block, (ad285.add (((ji9)).toNat * 4)).off + 1, none⟩ = some (.int .i64 ((rd_T89 l0 (ji9)).f1)) ∧ w'.cell? ⟨(ad285.add (((ji9)).toNat * 4)).block, (ad285.add (((ji9)).toNat * 4)).off + 2, none⟩ = some (.int .i64 ((rd_T89 l0 (ji9)).f2)) ∧ w'.cell? ⟨(ad285.add (((ji9)).toNat * 4)).block, (ad285.add (((ji9)).toNat * 4)).off + 3, none⟩ = some (.int .i64 ((rd_T89 l0 (ji9)).f3))) (ds := []) (mb 18 0) (by kernel_rfl) rfl rfl (cm4 BK286 ⟨(hC HB hw288_0), (hC HB hw288_1), (hC HB hw288_2), (hC HB hw288_3)⟩) (fun hHeld => ?_); refine with_tabW impl_ArePaths.tab6 impl_ArePaths.bits6 (fun HT_ HW_ => ?_)
      generalize w20.drew = w21 at BK286 HB hx288_0 hx288_1 hx288_2 hx288_3 hHeld ⊢
      refine ta8 0 15 (mb 18 1) HT_ HW_ hHeld ?_
      refine oa 1 16 (mb 18 3) HT_ (fun K hK => ?_)
      refine gA Try.func146 #[.agg #[.int .i64 ((rd_T89 l0 x10_1).f0), .int .i64 ((rd_T89 l0 x10_1).f1), .int .i64 ((rd_T89 l0 x10_1).f2), .int .i64 ((rd_T89 l0 x10_1).f3)]] ?_
      with_reducible refine (impl_IsPath.calls ((rd_T89 l0 x10_1).f0) ((rd_T89 l0 x10_1).f1) ((rd_T89 l0 x10_1).f2) ((rd_T89 l0 x10_1).f3) true _ A6.out).mono ?_
      rintro e w22 ⟨rfl, hb⟩
      refine ⟨_, rfl, ?_⟩
      replace BK286 := kb BK286 hb
      replace HB := bs HB hb
      (try clear hb)
      (try clear hb2)
      (try clear hk)
      (try clear hi)
      refine hK.out _ _ (cm4 BK286 ⟨(hC HB hw288_0), (hC HB hw288_1), (hC HB hw288_2), (hC HB hw288_3)⟩) (fun hHeld => ?_)
      clear hK K
      refine nB ?_
      refine pa 2 17 (mb 18 7) HT_ ?_
      refine pa 3 18 (mb 18 15) HT_ ?_
      refine pa 4 19 (mb 18 31) HT_ ?_
      refine pa 5 20 (mb 18 63) HT_ ?_
      refine pa 6 21 (mb 18 127) HT_ ?_
      refine pa 7 22 (mb 18 255) HT_ ?_
      refine pa 9 24 (mb 18 767) HT_ ?_
      refine pa 10 25 (mb 18 1791) HT_ ?_
      refine pa 11 26 (mb 18 3839) HT_ ?_
      refine pa 12 27 (mb 18 7935) HT_ ?_
      refine pa 13 28 (mb 18 16127) HT_ ?_
      refine ta8 8 23 (mb 18 16383) HT_ HW_ hHeld ?_
      refine ta8 14 29 (mb 18 32767) HT_ HW_ hHeld ?_
      refine pa 15 30 (mb 18 65535) HT_ ?_
      refine pa 16 31 (mb 18 131071) HT_ ?_
      refine pa 17 32 (mb 18 262143) HT_ ?_
      refine eA HT_ ?_
      try go_wp2
      go_roundg k1
      case measure => have := HK1.out; omega
      case rel => exact ⟨(wrap64 (x10_1 + 1)), rS, H', ⟨by have := HK1.out; omega⟩, ⟨bG⟩⟩
     rw [if_neg c8] at H
     have c8b0 := decide_eq_false c8
     clear c8
     have H' := Aside0.mk H
     clear H
     obtain ⟨p285, q285⟩ : 0 ≤ (x10_1 : Int) ∧ x10_1 < (l0.length : Int) := ⟨dA, dA⟩
     obtain ⟨ad285, e285, hx285_0, hx285_1, hx285_2, hx285_3⟩ := at_T89 (Kd.C_below HR0.out HB.out) x10_1 p285 q285
     cases e285
     obtain ⟨p285, q285⟩ := eT p285 q285
     try go_wp2_with (first | ((with_reducible refine gate_dst (N := 4) rfl ?_); refine bE (N := 4) (cs := #[.int .i64 0, .int .i64 0, .int .i64 0, .int .i64 0]) (t := 89) ?_; intro gb286 hg w23 hbox hb; have BK286 := Aside0.mk (hbox); have GW286 := gw w hg; have GE286 := gw w hg; replace HB := bs HB hb; clear hb hbox hg; obtain ⟨_, _, _, _, _, _, _, _⟩ := blkc4 BK286))
     have n0_ : Aside0 (((((w23.setCell ⟨gb286, 0, none⟩ (.int .i64 ((rd_T89 l0 x10_1).f0))).setCell ⟨gb286, 1, none⟩ (.int .i64 ((rd_T89 l0 x10_1).f1))).setCell ⟨gb286, 2, none⟩ (.int .i64 ((rd_T89 l0 x10_1).f2))).setCell ⟨gb286, 3, none⟩ (.int .i64 ((rd_T89 l0 x10_1).f3))).heap[gb286]? = some (.cells #[.int .i64 ((rd_T89 l0 x10_1).f0), .int .i64 ((rd_T89 l0 x10_1).f1), .int .i64 ((rd_T89 l0 x10_1).f2), .int .i64 ((rd_T89 l0 x10_1).f3)] 89 (0, 0))) := ⟨kp BK286⟩
     have n1_ : Aside0 (Below w.heap.size w ((((w23.setCell ⟨gb286, 0, none⟩ (.int .i64 ((rd_T89 l0 x10_1).f0))).setCell ⟨gb286, 1, none⟩ (.int .i64 ((rd_T89 l0 x10_1).f1))).setCell ⟨gb286, 2, none⟩ (.int .i64 ((rd_T89 l0 x10_1).f2))).setCell ⟨gb286, 3, none⟩ (.int .i64 ((rd_T89 l0 x10_1).f3)))) := ⟨bG⟩
     (try clear BK286)
     (try clear HB)
     generalize ((((w23.setCell ⟨gb286, 0, none⟩ (.int .i64 ((rd_T89 l0 x10_1).f0))).setCell ⟨gb286, 1, none⟩ (.int .i64 ((rd_T89 l0 x10_1).f1))).setCell ⟨gb286, 2, none⟩ (.int .i64 ((rd_T89 l0 x10_1).f2))).setCell ⟨gb286, 3, none⟩ (.int .i64 ((rd_T89 l0 x10_1).f3))) = w25 at n0_ n1_ ⊢
     have BK286 := n0_
     have HB := n1_
     clear n0_ n1_
     replace BK286 := dk BK286
     have HBo := HB
     replace HB := db HB
     refine start_ (n := 18) (S := fun w' => w'.cell? ⟨gb286, 0, none⟩ = some (.int .i64 ((rd_T89 l0 x10_1).f0)) ∧ w'.cell? ⟨gb286, 1, none⟩ = some (.int .i64 ((rd_T89 l0 x10_1).f1)) ∧ w'.cell? ⟨gb286, 2, none⟩ = some (.int .i64 ((rd_T89 l0 x10_1).f2)) ∧ w'.cell? ⟨gb286, 3, none⟩ = some (.int .i64 ((rd_T89 l0 x10_1).f3))) (ds := []) (mb 18 0) (by kernel_rfl) rfl rfl (cn4 BK286) (fun hHeld => ?_); refine with_tabW impl_ArePaths.tab6 impl_ArePaths.bits6 (fun HT_ HW_ => ?_)
     generalize w25.drew = w26 at BK286 HB hHeld ⊢
     refine ta4 0 15 (mb 18 1) HT_ HW_ hHeld ?_
     refine oa 1 16 (mb 18 3) HT_ (fun K hK => ?_)
     refine gA Try.func146 #[.agg #[.int .i64 ((rd_T89 l0 x10_1).f0), .int .i64 ((rd_T89 l0 x10_1).f1), .int .i64 ((rd_T89 l0 x10_1).f2), .int .i64 ((rd_T89 l0 x10_1).f3)]] ?_
     with_reducible refine (impl_IsPath.calls ((rd_T89 l0 x10_1).f0) ((rd_T89 l0 x10_1).f1) ((rd_T89 l0 x10_1).f2) ((rd_T89 l0 x10_1).f3) true _ A6.out).mono ?_
     rintro e w27 ⟨rfl, hb⟩
     refine ⟨_, rfl, ?_⟩
     replace BK286 := kb BK286 hb
     replace HB := bs HB hb
     (try clear hb)
     (try clear hb2)
     (try clear hk)
     (try clear hi)
     refine hK.out _ _ (cn4 BK286) (fun hHeld => ?_)
     clear hK K
     refine nB ?_
     refine pa 2 17 (mb 18 7) HT_ ?_
     refine pa 3 18 (mb 18 15) HT_ ?_
     refine pa 4 19 (mb 18 31) HT_ ?_
     refine pa 5 20 (mb 18 63) HT_ ?_
     refine pa 6 21 (mb 18 127) HT_ ?_
     refine pu 7 22 (mb 18 255) HT_ ?_
     refine pu 8 23 (mb 18 511) HT_ ?_
     refine pu 9 24 (mb 18 1023) HT_ ?_
     refine pu 10 25 (mb 18 2047) HT_ ?_
     refine pu 11 26 (mb 18 4095) HT_ ?_
     refine pu 12 27 (mb 18 8191) HT_ ?_
     refine pu 13 28 (mb 18 16383) HT_ ?_
     refine pu 14 29 (mb 18 32767) HT_ ?_
     refine pu 15 30 (mb 18 65535) HT_ ?_
     refine pa 16 31 (mb 18 131071) HT_ ?_
     refine pa 17 32 (mb 18 262143) HT_ ?_
     refine eA HT_ ?_
     try go_wp2
     go_roundg k1
     case measure => have := HK1.out; omega
     case rel => exact ⟨(wrap64 (x10_1 + 1)), rS, H', ⟨by have := HK1.out; omega⟩, ⟨bG⟩⟩
    replace c7 := Bool.eq_false_iff.mpr c7
    subst c7
    have H1 : (some false) = some r := by rw [if_neg (show ¬ (false = true) by decide)] at H; exact H
    clear H
    have H := H1
    clear H1
    obtain rfl := Option.some.inj H
    obtain ⟨p285, q285⟩ : 0 ≤ (x10_1 : Int) ∧ x10_1 < (l0.length : Int) := ⟨dA, dA⟩
    obtain ⟨ad285, e285, hx285_0, hx285_1, hx285_2, hx285_3⟩ := at_T89 (Kd.C_below HR0.out HB.out) x10_1 p285 q285
    cases e285
    obtain ⟨p285, q285⟩ := eT p285 q285
    try go_wp2_with (first | ((with_reducible refine gate_dst (N := 4) rfl ?_); refine bE (N := 4) (cs := #[.int .i64 0, .int .i64 0, .int .i64 0, .int .i64 0]) (t := 89) ?_; intro gb286 hg w28 hbox hb; have BK286 := Aside0.mk (hbox); have GW286 := gw w hg; have GE286 := gw w hg; replace HB := bs HB hb; clear hb hbox hg; obtain ⟨_, _, _, _, _, _, _, _⟩ := blkc4 BK286))
    have n0_ : Aside0 (((((w28.setCell ⟨gb286, 0, none⟩ (.int .i64 ((rd_T89 l0 x10_1).f0))).setCell ⟨gb286, 1, none⟩ (.int .i64 ((rd_T89 l0 x10_1).f1))).setCell ⟨gb286, 2, none⟩ (.int .i64 ((rd_T89 l0 x10_1).f2))).setCell ⟨gb286, 3, none⟩ (.int .i64 ((rd_T89 l0 x10_1).f3))).heap[gb286]? = some (.cells #[.int .i64 ((rd_T89 l0 x10_1).f0), .int .i64 ((rd_T89 l0 x10_1).f1), .int .i64 ((rd_T89 l0 x10_1).f2), .int .i64 ((rd_T89 l0 x10_1).f3)] 89 (0, 0))) := ⟨kp BK286⟩
    have n1_ : Aside0 (Below w.heap.size w ((((w28.setCell ⟨gb286, 0, none⟩ (.int .i64 ((rd_T89 l0 x10_1).f0))).setCell ⟨gb286, 1, none⟩ (.int .i64 ((rd_T89 l0 x10_1).f1))).setCell ⟨gb286, 2, none⟩ (.int .i64 ((rd_T89 l0 x10_1).f2))).setCell ⟨gb286, 3, none⟩ (.int .i64 ((rd_T89 l0 x10_1).f3)))) := ⟨bG⟩
    (try clear BK286)
    (try clear HB)
    generalize ((((w28.setCell ⟨gb286, 0, none⟩ (.int .i64 ((rd_T89 l0 x10_1).f0))).setCell ⟨gb286, 1, none⟩ (.int .i64 ((rd_T89 l0 x10_1).f1))).setCell ⟨gb286, 2, none⟩ (.int .i64 ((rd_T89 l0 x10_1).f2))).setCell ⟨gb286, 3, none⟩ (.int .i64 ((rd_T89 l0 x10_1).f3))) = w30 at n0_ n1_ ⊢
    have BK286 := n0_
    have HB := n1_
    clear n0_ n1_
    replace BK286 := dk BK286
    have HBo := HB
    replace HB := db HB
    refine start_ (n := 18) (S := fun w' => w'.cell? ⟨gb286, 0, none⟩ = some (.int .i64 ((rd_T89 l0 x10_1).f0)) ∧ w'.cell? ⟨gb286, 1, none⟩ = some (.int .i64 ((rd_T89 l0 x10_1).f1)) ∧ w'.cell? ⟨gb286, 2, none⟩ = some (.int .i64 ((rd_T89 l0 x10_1).f2)) ∧ w'.cell? ⟨gb286, 3, none⟩ = some (.int .i64 ((rd_T89 l0 x10_1).f3))) (ds := []) (mb 18 0) (by kernel_rfl) rfl rfl (cn4 BK286) (fun hHeld => ?_); refine with_tabW impl_ArePaths.tab6 impl_ArePaths.bits6 (fun HT_ HW_ => ?_)
    generalize w30.drew = w31 at BK286 HB hHeld ⊢
    refine ta4 0 15 (mb 18 1) HT_ HW_ hHeld ?_
    refine oa 1 16 (mb 18 3) HT_ (fun K hK => ?_)
    refine gA Try.func146 #[.agg #[.int .i64 ((rd_T89 l0 x10_1).f0), .int .i64 ((rd_T89 l0 x10_1).f1), .int .i64 ((rd_T89 l0 x10_1).f2), .int .i64 ((rd_T89 l0 x10_1).f3)]] ?_
    with_reducible refine (impl_IsPath.calls ((rd_T89 l0 x10_1).f0) ((rd_T89 l0 x10_1).f1) ((rd_T89 l0 x10_1).f2) ((rd_T89 l0 x10_1).f3) false _ A6.out).mono ?_
    rintro e w32 ⟨rfl, hb⟩
    refine ⟨_, rfl, ?_⟩
    replace BK286 := kb BK286 hb
    replace HB := bs HB hb
    (try clear hb)
    (try clear hb2)
    (try clear hk)
    (try clear hi)
    refine hK.out _ _ (cn4 BK286) (fun hHeld => ?_)
    clear hK K
    refine nB ?_
    refine pa 2 17 (mb 18 7) HT_ ?_
    refine pa 3 18 (mb 18 15) HT_ ?_
    refine pu 4 19 (mb 18 31) HT_ ?_
    refine pu 5 20 (mb 18 63) HT_ ?_
    refine pu 6 21 (mb 18 127) HT_ ?_
    refine pu 7 22 (mb 18 255) HT_ ?_
    refine pu 8 23 (mb 18 511) HT_ ?_
    refine pu 9 24 (mb 18 1023) HT_ ?_
    refine pu 10 25 (mb 18 2047) HT_ ?_
    refine pu 11 26 (mb 18 4095) HT_ ?_
    refine pu 12 27 (mb 18 8191) HT_ ?_
    refine pu 13 28 (mb 18 16383) HT_ ?_
    refine pu 14 29 (mb 18 32767) HT_ ?_
    refine pu 15 30 (mb 18 65535) HT_ ?_
    refine pu 16 31 (mb 18 131071) HT_ ?_
    refine pa 17 32 (mb 18 262143) HT_ ?_
    refine eA HT_ ?_
    try go_wp2
    go_ret
    exact ⟨rA, bG⟩
   rw [if_neg c3] at H
   have c3b0 := decide_eq_false c3
   clear c3
   obtain rfl := Option.some.inj H
   go_wp2
   go_ret
   exact ⟨rA, bA⟩

/-! ### impl_Interleave: function 152 -/
def impl_Interleave.l0 : Nat → Int → Int → Int → Int → List Int → Int → Int → Option (Bool)
 | 0, _, _, _, _, _, _, _ => none
 | k + 1, x0, x1, x2, x3, x16, x17, x18 => if x18 < x17 then (if 0 ≤ x18 then (if x18 < (x16.length : Int) then ((impl_InRange.f (rd x16 x18) 0 7).bind fun t293 => (if t293 = true then (impl_Interleave.l0 k x0 x1 x2 x3 x16 x17 (wrap64 (x18 + 1))) else (some false))) else (none)) else (none)) else (if x0 = x1 then (some false) else (if x0 = x2 then (some false) else (if x0 = x3 then (some false) else (if x1 = x2 then (some false) else (if x1 = x3 then (some false) else (if x2 = x3 then (some false) else (some ((decide ((Int.tmod (wrap64 ((wrap64 (x2 - x0)) + 8)) 8) < (Int.tmod (wrap64 ((wrap64 (x1 - x0)) + 8)) 8))) != (decide ((Int.tmod (wrap64 ((wrap64 (x3 - x0)) + 8)) 8) < (Int.tmod (wrap64 ((wrap64 (x1 - x0)) + 8)) 8)))))))))))
def impl_Interleave.f (k : Nat) (a0 : Int) (a1 : Int) (a2 : Int) (a3 : Int) : Option (Bool) := (some (([a0, a1, a2, a3] : List Int) : List Int)).bind fun y289 => (impl_Interleave.l0 k a0 a1 a2 a3 y289 (y289.length : Int) 0)
theorem impl_Interleave.mono_l : ∀ k, (∀ y0 y1 y2 y3 y4 y5 y6, LeO (impl_Interleave.l0 k y0 y1 y2 y3 y4 y5 y6) (impl_Interleave.l0 (k + 1) y0 y1 y2 y3 y4 y5 y6))
 | 0 => fun _ _ _ _ _ _ _ r h => by simp [impl_Interleave.l0] at h
 | k + 1 => by
  have ih0 := impl_Interleave.mono_l k
  ·
   intro y0 y1 y2 y3 y4 y5 y6
   unfold impl_Interleave.l0
   exact mz1 ih0
theorem impl_Interleave.mono : ∀ a0 a1 a2 a3 k, LeO (impl_Interleave.f k a0 a1 a2 a3) (impl_Interleave.f (k + 1) a0 a1 a2 a3) := by
 intro a0 a1 a2 a3 k
 have ih0 := impl_Interleave.mono_l k
 unfold impl_Interleave.f
 exact mz1 ih0
set_option maxHeartbeats 8000000 in
set_option maxRecDepth 100000 in
theorem impl_Interleave.calls (k : Nat) (a0 : Int) (a1 : Int) (a2 : Int) (a3 : Int) (r : Bool) (w : World) (h : impl_Interleave.f k a0 a1 a2 a3 = some r) :
  Calls Try.prog 152 #[.int .i64 a0, .int .i64 a1, .int .i64 a2, .int .i64 a3] w fun e w' => e = .returned (.bool r) ∧ Below w.heap.size w w' := by
 have HB := Aside0.mk (Below.refl w.heap.size w)
 have H : ((some (([a0, a1, a2, a3] : List Int) : List Int)).bind fun y289 => (impl_Interleave.l0 k a0 a1 a2 a3 y289 (y289.length : Int) 0)) = some r := h
 clear h
 obtain ⟨y289, hy289⟩ : ∃ y_ : List Int, y_ = (([a0, a1, a2, a3] : List Int)) := ⟨_, rfl⟩
 replace H : (impl_Interleave.l0 k a0 a1 a2 a3 y289 (y289.length : Int) 0) = some r := rH H hy289
 have Ny289 := Aside0.mk hy289
 clear hy289
 have H' := Aside0.mk H
 clear H
 go_enter Try.func152, Try.ntmps152
 go_wp2_with (first | ((with_reducible refine gate_dst (N := 16) rfl ?_); refine Kd.R_lit (Kd.int .i64) _ 3 ?hg (N := 16) ?hd (xs := ([a0, a1, a2, a3] : List Int)) (inner := [.int .i64 a0, .int .i64 a1, .int .i64 a2, .int .i64 a3]) (ok := fun _ => True) (okp := fun _ => True) ?hr ?hp (fun _ hk => hk) trivial (Below.refl _ _) (Nat.le_refl _) (by simp) ?_; (case hd => rfl); (case hg => rfl); (case hr => first | (go_simp; done) | (go_simp; rfl)); (case hp => exact (Reps.one (show Kd.M (Kd.int .i64) _ _ _ a0 [.int .i64 a0] from rfl) (Reps.one (show Kd.M (Kd.int .i64) _ _ _ a1 [.int .i64 a1] from rfl) (Reps.one (show Kd.M (Kd.int .i64) _ _ _ a2 [.int .i64 a2] from rfl) (Reps.one (show Kd.M (Kd.int .i64) _ _ _ a3 [.int .i64 a3] from rfl) (Reps.none _ _)))))); intro v290 w5 ho6 hb hg_ hnew_; clear hg_ hnew_; (first | rw [← Ny289.out] at ho6 | (simp only [Int.reduceToNat] at ho6; rw [← Ny289.out] at ho6)); have HO291 := rl w ho6; replace HB := bs HB hb; clear hb ho6; obtain ⟨Ao7, co7, eo7⟩ := Kd.R_slice HO291.out; subst eo7))
 go_loopg [18] k (fun kq v18 w' => ∃ (x18_1 : Int), v18 = .int .i64 x18_1 ∧ Aside0 (impl_Interleave.l0 kq a0 a1 a2 a3 y289 (y289.length : Int) x18_1 = some r) ∧ Aside0 (kq ≤ k) ∧ Aside0 (Kd.R (Kd.int .i64) 3 w' w.heap.size (fun _ => True) (.slice Ao7 y289.length co7) y289) ∧ Aside0 (Below w.heap.size w w'))
 case atStart => exact ⟨(0), rS, H', ⟨Nat.le_refl _⟩, ⟨rK HO291⟩, ⟨bA⟩⟩
 case round =>
  clear H'
  obtain ⟨x18_1, rfl, HA, HK1, HO_16, HB⟩ := hrel
  cases gk with
  | zero => exact absurd HA.out (by simp [impl_Interleave.l0])
  | succ k1 =>
   have H := HA.out
   clear HA
   simp only [impl_Interleave.l0] at H
   by_cases c8 : x18_1 < (y289.length : Int)
   ·
    rw [if_pos c8] at H
    have c8b0 := decide_eq_true c8
    clear c8
    have c9 : 0 ≤ x18_1 := ifN H
    replace H := ifT H
    have c9b0 := decide_eq_true c9
    clear c9
    have c10 : x18_1 < (y289.length : Int) := ifN H
    replace H := ifT H
    have c10b0 := decide_eq_true c10
    clear c10
    obtain ⟨t293, A11, H⟩ := bindE H
    try dsimp only at H
    by_cases c12 : t293 = true
    ·
     subst c12
     have H1 : (impl_Interleave.l0 k1 a0 a1 a2 a3 y289 (y289.length : Int) (wrap64 (x18_1 + 1))) = some r := by rw [if_pos rfl] at H; exact H
     clear H
     have H := H1
     clear H1
     have H' := Aside0.mk H
     clear H
     obtain ⟨p292, q292⟩ : 0 ≤ (x18_1 : Int) ∧ x18_1 < (y289.length : Int) := ⟨dA, dA⟩
     obtain ⟨ad292, e292, hx292_0⟩ := Kd.at_int (Kd.R_reads' HO_16.out).2.2 x18_1 p292 q292
     cases e292
     obtain ⟨p292, q292⟩ := eT p292 q292
     go_wp2_with (first | ((with_reducible refine gate_callee (f := 66) rfl ?_); refine gL (some 23) Try.func66 #[.int .i64 (rd y289 x18_1), .int .i64 0, .int .i64 7] ?_; (with_reducible refine (impl_InRange.calls (rd y289 x18_1) 0 7 true _ A11.out).mono ?_); rintro e w' ⟨rfl, ⟨nd, rfl⟩⟩; refine ⟨_, rfl, ?_⟩))
     go_roundg k1
     case measure => have := HK1.out; omega
     case rel => exact ⟨(wrap64 (x18_1 + 1)), rS, H', ⟨by have := HK1.out; omega⟩, ⟨rK HO_16⟩, ⟨bA⟩⟩
    replace c12 := Bool.eq_false_iff.mpr c12
    subst c12
    have H1 : (some false) = some r := by rw [if_neg (show ¬ (false = true) by decide)] at H; exact H
    clear H
    have H := H1
    clear H1
    obtain rfl := Option.some.inj H
    obtain ⟨p292, q292⟩ : 0 ≤ (x18_1 : Int) ∧ x18_1 < (y289.length : Int) := ⟨dA, dA⟩
    obtain ⟨ad292, e292, hx292_0⟩ := Kd.at_int (Kd.R_reads' HO_16.out).2.2 x18_1 p292 q292
    cases e292
    obtain ⟨p292, q292⟩ := eT p292 q292
    go_wp2_with (first | ((with_reducible refine gate_callee (f := 66) rfl ?_); refine gL (some 23) Try.func66 #[.int .i64 (rd y289 x18_1), .int .i64 0, .int .i64 7] ?_; (with_reducible refine (impl_InRange.calls (rd y289 x18_1) 0 7 false _ A11.out).mono ?_); rintro e w' ⟨rfl, ⟨nd, rfl⟩⟩; refine ⟨_, rfl, ?_⟩))
    go_ret
    exact ⟨rA, bA⟩
   rw [if_neg c8] at H
   have c8b0 := decide_eq_false c8
   clear c8
   by_cases c13 : a0 = a1
   ·
    rw [if_pos c13] at H
    have c13b0 : (a0 == a1) = true := beq_iff_eq.mpr c13
    have c13b1 : (a0 != a1) = false := bne_eq_false_iff_eq.mpr c13
    clear c13
    obtain rfl := Option.some.inj H
    go_wp2
    go_ret
    exact ⟨rA, bA⟩
   rw [if_neg c13] at H
   have c13b0 : (a0 == a1) = false := beq_eq_false_iff_ne.mpr c13
   have c13b1 : (a0 != a1) = true := bne_iff_ne.mpr c13
   by_cases c14 : a0 = a2
   ·
    rw [if_pos c14] at H
    have c14b0 : (a0 == a2) = true := beq_iff_eq.mpr c14
    have c14b1 : (a0 != a2) = false := bne_eq_false_iff_eq.mpr c14
    clear c14
    obtain rfl := Option.some.inj H
    go_wp2
    go_ret
    exact ⟨rA, bA⟩
   rw [if_neg c14] at H
   have c14b0 : (a0 == a2) = false := beq_eq_false_iff_ne.mpr c14
   have c14b1 : (a0 != a2) = true := bne_iff_ne.mpr c14
   by_cases c15 : a0 = a3
   ·
    rw [if_pos c15] at H
    have c15b0 : (a0 == a3) = true := beq_iff_eq.mpr c15
    have c15b1 : (a0 != a3) = false := bne_eq_false_iff_eq.mpr c15
    clear c15
    obtain rfl := Option.some.inj H
    go_wp2
    go_ret
    exact ⟨rA, bA⟩
   rw [if_neg c15] at H
   have c15b0 : (a0 == a3) = false := beq_eq_false_iff_ne.mpr c15
   have c15b1 : (a0 != a3) = true := bne_iff_ne.mpr c15
   by_cases c16 : a1 = a2
   ·
    rw [if_pos c16] at H
    have c16b0 : (a1 == a2) = true := beq_iff_eq.mpr c16
    have c16b1 : (a1 != a2) = false := bne_eq_false_iff_eq.mpr c16
    clear c16
    obtain rfl := Option.some.inj H
    go_wp2
    go_ret
    exact ⟨rA, bA⟩
   rw [if_neg c16] at H
   have c16b0 : (a1 == a2) = false := beq_eq_false_iff_ne.mpr c16
   have c16b1 : (a1 != a2) = true := bne_iff_ne.mpr c16
   by_cases c17 : a1 = a3
   ·
    rw [if_pos c17] at H
    have c17b0 : (a1 == a3) = true := beq_iff_eq.mpr c17
    have c17b1 : (a1 != a3) = false := bne_eq_false_iff_eq.mpr c17
    clear c17
    obtain rfl := Option.some.inj H
    go_wp2
    go_ret
    exact ⟨rA, bA⟩
   rw [if_neg c17] at H
   have c17b0 : (a1 == a3) = false := beq_eq_false_iff_ne.mpr c17
   have c17b1 : (a1 != a3) = true := bne_iff_ne.mpr c17
   by_cases c18 : a2 = a3
   ·
    rw [if_pos c18] at H
    have c18b0 : (a2 == a3) = true := beq_iff_eq.mpr c18
    have c18b1 : (a2 != a3) = false := bne_eq_false_iff_eq.mpr c18
    clear c18
    obtain rfl := Option.some.inj H
    go_wp2
    go_ret
    exact ⟨rA, bA⟩
   rw [if_neg c18] at H
   have c18b0 : (a2 == a3) = false := beq_eq_false_iff_ne.mpr c18
   have c18b1 : (a2 != a3) = true := bne_iff_ne.mpr c18
   obtain rfl := Option.some.inj H
   go_wp2
   go_ret
   exact ⟨rA, bA⟩

/-! ### impl_InPlace: function 153 -/
def impl_InPlace.f (a0 : Int) : Option (Int) := (impl_InRange.f a0 0 3).bind fun t294 => (if t294 = true then (some (wrap64 (2 * a0))) else (some (-1)))
set_option maxHeartbeats 8000000 in
set_option maxRecDepth 100000 in
theorem impl_InPlace.calls (a0 : Int) (r : Int) (w : World) (h : impl_InPlace.f a0 = some r) :
  Calls Try.prog 153 #[.int .i64 a0] w fun e w' => e = .returned (.int .i64 r) ∧ Drawn0 w w' := by
 have H : ((impl_InRange.f a0 0 3).bind fun t294 => (if t294 = true then (some (wrap64 (2 * a0))) else (some (-1)))) = some r := h
 clear h
 obtain ⟨t294, A2, H⟩ := bindE H
 try dsimp only at H
 by_cases c3 : t294 = true
 ·
  subst c3
  have H1 : (some (wrap64 (2 * a0))) = some r := by rw [if_pos rfl] at H; exact H
  clear H
  have H := H1
  clear H1
  obtain rfl := Option.some.inj H
  go_enter Try.func153, Try.ntmps153
  go_wp2_with (first | ((with_reducible refine gate_callee (f := 66) rfl ?_); refine gL (some 4) Try.func66 #[.int .i64 a0, .int .i64 0, .int .i64 3] ?_; (with_reducible refine (impl_InRange.calls a0 0 3 true _ A2.out).mono ?_); rintro e w' ⟨rfl, ⟨nd, rfl⟩⟩; refine ⟨_, rfl, ?_⟩))
  go_ret
  exact ⟨rS, dD⟩
 replace c3 := Bool.eq_false_iff.mpr c3
 subst c3
 have H1 : (some (-1)) = some r := by rw [if_neg (show ¬ (false = true) by decide)] at H; exact H
 clear H
 have H := H1
 clear H1
 obtain rfl := Option.some.inj H
 go_enter Try.func153, Try.ntmps153
 go_wp2_with (first | ((with_reducible refine gate_callee (f := 66) rfl ?_); refine gL (some 4) Try.func66 #[.int .i64 a0, .int .i64 0, .int .i64 3] ?_; (with_reducible refine (impl_InRange.calls a0 0 3 false _ A2.out).mono ?_); rintro e w' ⟨rfl, ⟨nd, rfl⟩⟩; refine ⟨_, rfl, ?_⟩))
 go_ret
 exact ⟨rS, dD⟩

/-! ### impl_OutPlace: function 154 -/
def impl_OutPlace.f (a0 : Int) : Option (Int) := (impl_InRange.f a0 0 3).bind fun t295 => (if t295 = true then (some (wrap64 ((wrap64 (2 * a0)) + 1))) else (some (-1)))
set_option maxHeartbeats 8000000 in
set_option maxRecDepth 100000 in
theorem impl_OutPlace.calls (a0 : Int) (r : Int) (w : World) (h : impl_OutPlace.f a0 = some r) :
  Calls Try.prog 154 #[.int .i64 a0] w fun e w' => e = .returned (.int .i64 r) ∧ Drawn0 w w' := by
 have H : ((impl_InRange.f a0 0 3).bind fun t295 => (if t295 = true then (some (wrap64 ((wrap64 (2 * a0)) + 1))) else (some (-1)))) = some r := h
 clear h
 obtain ⟨t295, A2, H⟩ := bindE H
 try dsimp only at H
 by_cases c3 : t295 = true
 ·
  subst c3
  have H1 : (some (wrap64 ((wrap64 (2 * a0)) + 1))) = some r := by rw [if_pos rfl] at H; exact H
  clear H
  have H := H1
  clear H1
  obtain rfl := Option.some.inj H
  go_enter Try.func154, Try.ntmps154
  go_wp2_with (first | ((with_reducible refine gate_callee (f := 66) rfl ?_); refine gL (some 4) Try.func66 #[.int .i64 a0, .int .i64 0, .int .i64 3] ?_; (with_reducible refine (impl_InRange.calls a0 0 3 true _ A2.out).mono ?_); rintro e w' ⟨rfl, ⟨nd, rfl⟩⟩; refine ⟨_, rfl, ?_⟩))
  go_ret
  exact ⟨rS, dD⟩
 replace c3 := Bool.eq_false_iff.mpr c3
 subst c3
 have H1 : (some (-1)) = some r := by rw [if_neg (show ¬ (false = true) by decide)] at H; exact H
 clear H
 have H := H1
 clear H1
 obtain rfl := Option.some.inj H
 go_enter Try.func154, Try.ntmps154
 go_wp2_with (first | ((with_reducible refine gate_callee (f := 66) rfl ?_); refine gL (some 4) Try.func66 #[.int .i64 a0, .int .i64 0, .int .i64 3] ?_; (with_reducible refine (impl_InRange.calls a0 0 3 false _ A2.out).mono ?_); rintro e w' ⟨rfl, ⟨nd, rfl⟩⟩; refine ⟨_, rfl, ?_⟩))
 go_ret
 exact ⟨rS, dD⟩

/-! ### impl_Conflict: function 133 -/
def impl_Conflict.j0 : Nat → Bool → Int → Int → Int → Int → Int → Int → Int → Int → Option (Bool)
 | 0, _, _, _, _, _, _, _, _, _ => none
 | k + 1, x22, x297000, x297001, x297002, x297003, x298000, x298001, x298002, x298003 => if x22 = true then (some false) else (if x297001 = 2 then (if x298002 = x297002 then (some true) else (some (x298003 == x297002))) else (if x298001 = 2 then (if x297002 = x298002 then (some true) else (some (x297003 == x298002))) else (if x297002 = x298002 then ((impl_InPlace.f x297002).bind fun t300 => ((impl_OutPlace.f x297003).bind fun t301 => ((impl_InPlace.f x298002).bind fun t302 => ((impl_OutPlace.f x298003).bind fun t303 => ((impl_Interleave.f k t300 t301 t302 t303).bind fun t304 => (some t304)))))) else (if x297003 = x298003 then (some true) else ((impl_InPlace.f x297002).bind fun t305 => ((impl_OutPlace.f x297003).bind fun t306 => ((impl_InPlace.f x298002).bind fun t307 => ((impl_OutPlace.f x298003).bind fun t308 => ((impl_Interleave.f k t305 t306 t307 t308).bind fun t309 => (some t309))))))))))
def impl_Conflict.f (k : Nat) (a0_0 : Int) (a0_1 : Int) (a0_2 : Int) (a0_3 : Int) (a1_0 : Int) (a1_1 : Int) (a1_2 : Int) (a1_3 : Int) : Option (Bool) := (impl_IsPath.f a0_0 a0_1 a0_2 a0_3).bind fun t298 => (if t298 = true then ((impl_IsPath.f a1_0 a1_1 a1_2 a1_3).bind fun t299 => (if t299 = true then (if a0_1 = 2 then (impl_Conflict.j0 k (a1_1 == 2) a0_0 a0_1 a0_2 a0_3 a1_0 a1_1 a1_2 a1_3) else (impl_Conflict.j0 k false a0_0 a0_1 a0_2 a0_3 a1_0 a1_1 a1_2 a1_3)) else (impl_Conflict.j0 k true a0_0 a0_1 a0_2 a0_3 a1_0 a1_1 a1_2 a1_3))) else (impl_Conflict.j0 k true a0_0 a0_1 a0_2 a0_3 a1_0 a1_1 a1_2 a1_3))
theorem impl_Conflict.mono_l : ∀ k, (∀ y0 y1 y2 y3 y4 y5 y6 y7 y8, LeO (impl_Conflict.j0 k y0 y1 y2 y3 y4 y5 y6 y7 y8) (impl_Conflict.j0 (k + 1) y0 y1 y2 y3 y4 y5 y6 y7 y8))
 | 0 => fun _ _ _ _ _ _ _ _ _ r h => by simp [impl_Conflict.j0] at h
 | k + 1 => by
  have ih0 := impl_Conflict.mono_l k
  ·
   intro y0 y1 y2 y3 y4 y5 y6 y7 y8
   unfold impl_Conflict.j0
   exact mz2 ih0 impl_Interleave.mono
theorem impl_Conflict.mono : ∀ a0 a1 a2 a3 a4 a5 a6 a7 k, LeO (impl_Conflict.f k a0 a1 a2 a3 a4 a5 a6 a7) (impl_Conflict.f (k + 1) a0 a1 a2 a3 a4 a5 a6 a7) := by
 intro a0 a1 a2 a3 a4 a5 a6 a7 k
 have ih0 := impl_Conflict.mono_l k
 unfold impl_Conflict.f
 exact mz2 ih0 impl_Interleave.mono
def impl_Conflict.T7 : Bool × List (List Nat × List Nat) := (true, [([], []), ([0], [0]), ([], []), ([2], [2]), ([1, 3], [1, 3]), ([4], [4]), ([5], [5]), ([6, 5], [5, 6]), ([5], [5]), ([8, 5], [5, 8]), ([7, 9, 5], [5, 7, 9]), ([5, 10], [5, 10]), ([11, 5], [11]), ([12], [12]), ([13, 12], [12, 13]), ([14, 12, 12], [12, 14]), ([12], [12]), ([16, 12], [12, 16]), ([17, 15, 12], [12, 17]), ([12], [12]), ([19, 12], [12, 19]), ([20, 18, 12], [12, 20]), ([12], [12]), ([22, 12], [12, 22]), ([23, 21, 12], [12, 23]), ([15, 18, 21, 24, 24, 12], [12, 15, 18, 21, 24]), ([12, 25], [12, 25]), ([26, 25, 0, 1, 2, 3, 4, 5, 6, 7, 8, 9, 10, 11, 12, 13, 14, 15, 16, 17, 18, 19, 20, 21, 22, 23, 24, 25, 26], [26])])
def impl_Conflict.B7 : List Nat := [0, 1, 0, 4, 15, 31, 63, 127, 63, 319, 1023, 2047, 4095, 8191, 16383, 32767, 8191, 73727, 262143, 8191, 532479, 2097151, 8191, 4202495, 16777215, 33554431, 67108863, 134217727]
theorem impl_Conflict.tab7 : rtab .any (opsOf Try.f133 7) = impl_Conflict.T7 := by kernel_rfl
theorem impl_Conflict.bits7 : waitsOk impl_Conflict.T7.2 impl_Conflict.B7 = true := by kernel_rfl
set_option maxHeartbeats 8000000 in
set_option maxRecDepth 100000 in
theorem impl_Conflict.calls (k : Nat) (a0_0 : Int) (a0_1 : Int) (a0_2 : Int) (a0_3 : Int) (a1_0 : Int) (a1_1 : Int) (a1_2 : Int) (a1_3 : Int) (r : Bool) (w : World) (h : impl_Conflict.f k a0_0 a0_1 a0_2 a0_3 a1_0 a1_1 a1_2 a1_3 = some r) :
  Calls Try.prog 133 #[.agg #[.int .i64 a0_0, .int .i64 a0_1, .int .i64 a0_2, .int .i64 a0_3], .agg #[.int .i64 a1_0, .int .i64 a1_1, .int .i64 a1_2, .int .i64 a1_3]] w fun e w' => e = .returned (.bool r) ∧ Below w.heap.size w w' := by
 have hu89 := Try.underlying89
 have HB := Aside0.mk (Below.refl w.heap.size w)
 have H : ((impl_IsPath.f a0_0 a0_1 a0_2 a0_3).bind fun t298 => (if t298 = true then ((impl_IsPath.f a1_0 a1_1 a1_2 a1_3).bind fun t299 => (if t299 = true then (if a0_1 = 2 then (impl_Conflict.j0 k (a1_1 == 2) a0_0 a0_1 a0_2 a0_3 a1_0 a1_1 a1_2 a1_3) else (impl_Conflict.j0 k false a0_0 a0_1 a0_2 a0_3 a1_0 a1_1 a1_2 a1_3)) else (impl_Conflict.j0 k true a0_0 a0_1 a0_2 a0_3 a1_0 a1_1 a1_2 a1_3))) else (impl_Conflict.j0 k true a0_0 a0_1 a0_2 a0_3 a1_0 a1_1 a1_2 a1_3))) = some r := h
 clear h
 have HC3 := Aside0.mk H
 clear H
 go_enter Try.func133, Try.ntmps133
 go_upto_region 1 with (first | ((with_reducible refine gate_dst (N := 2) rfl ?_); refine bE (N := 2) (cs := #[.int .i64 a0_0, .int .i64 a0_1, .int .i64 a0_2, .int .i64 a0_3]) (t := 89) ?_; intro gb296 hg w4 hbox hb; have BK296 := Aside0.mk (hbox); have GW296 := gw w hg; have GE296 := gw w hg; replace HB := bs HB hb; clear hb hbox hg) | ((with_reducible refine gate_dst (N := 3) rfl ?_); refine bE (N := 3) (cs := #[.int .i64 a1_0, .int .i64 a1_1, .int .i64 a1_2, .int .i64 a1_3]) (t := 89) ?_; intro gb297 hg w5 hbox hb; have BK297 := Aside0.mk (hbox); have GW297 := gw w hg; have GE297 := gw w hg; replace HB := bs HB hb; have NB296_297 := nl BK296 hg; have NB297_296 := nr BK296 hg; replace BK296 := kb BK296 hb; clear hb hbox hg))
 (try simp only [Act.put, List.setIfInBounds_toArray, List.set_cons_zero, List.set_cons_succ])
 go_cut [22] (fun v22 wc => ∃ (kq : Nat) (x22_2 : Bool), v22 = .bool x22_2 ∧ Aside0 (impl_Conflict.j0 kq x22_2 a0_0 a0_1 a0_2 a0_3 a1_0 a1_1 a1_2 a1_3 = some r) ∧ Aside0 (kq ≤ k) ∧ Aside0 (wc.heap[gb296]? = some (.cells #[.int .i64 a0_0, .int .i64 a0_1, .int .i64 a0_2, .int .i64 a0_3] 89 (0, 0))) ∧ Aside0 (wc.heap[gb297]? = some (.cells #[.int .i64 a1_0, .int .i64 a1_1, .int .i64 a1_2, .int .i64 a1_3] 89 (0, 0))) ∧ Aside0 (Below w.heap.size w wc))
 case first =>
  have H := HC3.out
  clear HC3
  obtain ⟨t298, A6, H⟩ := bindE H
  try dsimp only at H
  by_cases c7 : t298 = true
  ·
   subst c7
   have H1 : ((impl_IsPath.f a1_0 a1_1 a1_2 a1_3).bind fun t299 => (if t299 = true then (if a0_1 = 2 then (impl_Conflict.j0 k (a1_1 == 2) a0_0 a0_1 a0_2 a0_3 a1_0 a1_1 a1_2 a1_3) else (impl_Conflict.j0 k false a0_0 a0_1 a0_2 a0_3 a1_0 a1_1 a1_2 a1_3)) else (impl_Conflict.j0 k true a0_0 a0_1 a0_2 a0_3 a1_0 a1_1 a1_2 a1_3))) = some r := by rw [if_pos rfl] at H; exact H
   clear H
   have H := H1
   clear H1
   obtain ⟨t299, A8, H⟩ := bindE H
   try dsimp only at H
   by_cases c9 : t299 = true
   ·
    subst c9
    have H1 : (if a0_1 = 2 then (impl_Conflict.j0 k (a1_1 == 2) a0_0 a0_1 a0_2 a0_3 a1_0 a1_1 a1_2 a1_3) else (impl_Conflict.j0 k false a0_0 a0_1 a0_2 a0_3 a1_0 a1_1 a1_2 a1_3)) = some r := by rw [if_pos rfl] at H; exact H
    clear H
    have H := H1
    clear H1
    by_cases c10 : a0_1 = 2
    ·
     rw [if_pos c10] at H
     have c10b0 : (a0_1 == 2) = true := beq_iff_eq.mpr c10
     have c10b1 : (a0_1 != 2) = false := bne_eq_false_iff_eq.mpr c10
     clear c10
     (first | rw [c10b0] | (simp only [i64_w, i32_w]; rw [c10b0]) | skip)
     have H' := Aside0.mk H
     clear H
     have hnb11 := NB296_297.out
     have hnc11 := NB297_296.out
     obtain ⟨_, _, _, _, _, _, _, _⟩ := blkc4 BK296
     go_wp2_with (first | ((with_reducible refine gate_callee (f := 146) rfl ?_); refine gL (some 6) Try.func146 #[.agg #[.int .i64 a0_0, .int .i64 a0_1, .int .i64 a0_2, .int .i64 a0_3]] ?_; (with_reducible refine (impl_IsPath.calls a0_0 a0_1 a0_2 a0_3 true _ A6.out).mono ?_); rintro e w13 ⟨rfl, hb⟩; refine ⟨_, rfl, ?_⟩; replace BK296 := kb BK296 hb; replace BK297 := kb BK297 hb; replace HB := bs HB hb; (try clear hb); have hcz14_0 : w13.cell? ⟨gb297, 0, none⟩ = some (.int .i64 a1_0) := bC BK297 0; have hcz14_1 : w13.cell? ⟨gb297, 1, none⟩ = some (.int .i64 a1_1) := bC BK297 1; have hcz14_2 : w13.cell? ⟨gb297, 2, none⟩ = some (.int .i64 a1_2) := bC BK297 2; have hcz14_3 : w13.cell? ⟨gb297, 3, none⟩ = some (.int .i64 a1_3) := bC BK297 3; have hfz14_0 := blk_frozen BK297.out 0; have hfz14_1 := blk_frozen BK297.out 1; have hfz14_2 := blk_frozen BK297.out 2; have hfz14_3 := blk_frozen BK297.out 3) | (go_at_call 146; (with_reducible refine (impl_IsPath.calls a1_0 a1_1 a1_2 a1_3 true _ A8.out).mono ?_); rintro e w15 ⟨rfl, hb⟩; replace BK296 := kb BK296 hb; replace BK297 := kb BK297 hb; replace HB := bs HB hb; (try clear hb); obtain ⟨_, _, _, _, _, _, _, _⟩ := blkc4 BK296; obtain ⟨_, _, _, _, _, _, _, _⟩ := blkc4 BK297))
     go_meet
     case rel => exact ⟨_, ((a1_1 == 2)), rS, H', ⟨oL⟩, ⟨bK BK296⟩, ⟨bK BK297⟩, ⟨bG⟩⟩
    rw [if_neg c10] at H
    have c10b0 : (a0_1 == 2) = false := beq_eq_false_iff_ne.mpr c10
    have c10b1 : (a0_1 != 2) = true := bne_iff_ne.mpr c10
    (first | rw [c10b0] | (simp only [i64_w, i32_w]; rw [c10b0]) | skip)
    have H' := Aside0.mk H
    clear H
    have hnb18 := NB296_297.out
    have hnc18 := NB297_296.out
    obtain ⟨_, _, _, _, _, _, _, _⟩ := blkc4 BK296
    go_wp2_with (first | ((with_reducible refine gate_callee (f := 146) rfl ?_); refine gL (some 6) Try.func146 #[.agg #[.int .i64 a0_0, .int .i64 a0_1, .int .i64 a0_2, .int .i64 a0_3]] ?_; (with_reducible refine (impl_IsPath.calls a0_0 a0_1 a0_2 a0_3 true _ A6.out).mono ?_); rintro e w20 ⟨rfl, hb⟩; refine ⟨_, rfl, ?_⟩; replace BK296 := kb BK296 hb; replace BK297 := kb BK297 hb; replace HB := bs HB hb; (try clear hb); have hcz21_0 : w20.cell? ⟨gb297, 0, none⟩ = some (.int .i64 a1_0) := bC BK297 0; have hcz21_1 : w20.cell? ⟨gb297, 1, none⟩ = some (.int .i64 a1_1) := bC BK297 1; have hcz21_2 : w20.cell? ⟨gb297, 2, none⟩ = some (.int .i64 a1_2) := bC BK297 2; have hcz21_3 : w20.cell? ⟨gb297, 3, none⟩ = some (.int .i64 a1_3) := bC BK297 3; have hfz21_0 := blk_frozen BK297.out 0; have hfz21_1 := blk_frozen BK297.out 1; have hfz21_2 := blk_frozen BK297.out 2; have hfz21_3 := blk_frozen BK297.out 3) | (go_at_call 146; (with_reducible refine (impl_IsPath.calls a1_0 a1_1 a1_2 a1_3 true _ A8.out).mono ?_); rintro e w22 ⟨rfl, hb⟩; replace BK296 := kb BK296 hb; replace BK297 := kb BK297 hb; replace HB := bs HB hb; (try clear hb); obtain ⟨_, _, _, _, _, _, _, _⟩ := blkc4 BK296))
    go_meet
    case rel => exact ⟨_, (false), rS, H', ⟨oL⟩, ⟨bK BK296⟩, ⟨bK BK297⟩, ⟨bG⟩⟩
   replace c9 := Bool.eq_false_iff.mpr c9
   subst c9
   have H1 : (impl_Conflict.j0 k true a0_0 a0_1 a0_2 a0_3 a1_0 a1_1 a1_2 a1_3) = some r := by rw [if_neg (show ¬ (false = true) by decide)] at H; exact H
   clear H
   have H := H1
   clear H1
   have H' := Aside0.mk H
   clear H
   have hnb24 := NB296_297.out
   have hnc24 := NB297_296.out
   obtain ⟨_, _, _, _, _, _, _, _⟩ := blkc4 BK296
   go_wp2_with (first | ((with_reducible refine gate_callee (f := 146) rfl ?_); refine gL (some 6) Try.func146 #[.agg #[.int .i64 a0_0, .int .i64 a0_1, .int .i64 a0_2, .int .i64 a0_3]] ?_; (with_reducible refine (impl_IsPath.calls a0_0 a0_1 a0_2 a0_3 true _ A6.out).mono ?_); rintro e w26 ⟨rfl, hb⟩; refine ⟨_, rfl, ?_⟩; replace BK296 := kb BK296 hb; replace BK297 := kb BK297 hb; replace HB := bs HB hb; (try clear hb); have hcz27_0 : w26.cell? ⟨gb297, 0, none⟩ = some (.int .i64 a1_0) := bC BK297 0; have hcz27_1 : w26.cell? ⟨gb297, 1, none⟩ = some (.int .i64 a1_1) := bC BK297 1; have hcz27_2 : w26.cell? ⟨gb297, 2, none⟩ = some (.int .i64 a1_2) := bC BK297 2; have hcz27_3 : w26.cell? ⟨gb297, 3, none⟩ = some (.int .i64 a1_3) := bC BK297 3; have hfz27_0 := blk_frozen BK297.out 0; have hfz27_1 := blk_frozen BK297.out 1; have hfz27_2 := blk_frozen BK297.out 2; have hfz27_3 := blk_frozen BK297.out 3) | (go_at_call 146; (with_reducible refine (impl_IsPath.calls a1_0 a1_1 a1_2 a1_3 false _ A8.out).mono ?_); rintro e w28 ⟨rfl, hb⟩; replace BK296 := kb BK296 hb; replace BK297 := kb BK297 hb; replace HB := bs HB hb; (try clear hb)))
   go_meet
   case rel => exact ⟨_, (true), rS, H', ⟨oL⟩, ⟨bK BK296⟩, ⟨bK BK297⟩, ⟨bG⟩⟩
  replace c7 := Bool.eq_false_iff.mpr c7
  subst c7
  have H1 : (impl_Conflict.j0 k true a0_0 a0_1 a0_2 a0_3 a1_0 a1_1 a1_2 a1_3) = some r := by rw [if_neg (show ¬ (false = true) by decide)] at H; exact H
  clear H
  have H := H1
  clear H1
  have H' := Aside0.mk H
  clear H
  have hnb29 := NB296_297.out
  have hnc29 := NB297_296.out
  obtain ⟨_, _, _, _, _, _, _, _⟩ := blkc4 BK296
  go_wp2_with (first | ((with_reducible refine gate_callee (f := 146) rfl ?_); refine gL (some 6) Try.func146 #[.agg #[.int .i64 a0_0, .int .i64 a0_1, .int .i64 a0_2, .int .i64 a0_3]] ?_; (with_reducible refine (impl_IsPath.calls a0_0 a0_1 a0_2 a0_3 false _ A6.out).mono ?_); rintro e w31 ⟨rfl, hb⟩; refine ⟨_, rfl, ?_⟩; replace BK296 := kb BK296 hb; replace BK297 := kb BK297 hb; replace HB := bs HB hb; (try clear hb)))
  go_meet
  case rel => exact ⟨_, (true), rS, H', ⟨oL⟩, ⟨bK BK296⟩, ⟨bK BK297⟩, ⟨bG⟩⟩
 case rest =>
  clear HC3
  obtain ⟨kq, x22_2, rfl, HA, HJ2, BK296, BK297, HB⟩ := hcut
  cases kq with
  | zero => exact absurd HA.out (by simp [impl_Conflict.j0])
  | succ kj2 =>
   have H := HA.out
   clear HA
   simp only [impl_Conflict.j0] at H
   by_cases c32 : x22_2 = true
   ·
    subst c32
    have H1 : (some false) = some r := by rw [if_pos rfl] at H; exact H
    clear H
    have H := H1
    clear H1
    obtain rfl := Option.some.inj H
    go_wp2
    go_ret
    exact ⟨rA, bG⟩
   replace c32 := Bool.eq_false_iff.mpr c32
   subst c32
   have H1 : (if a0_1 = 2 then (if a1_2 = a0_2 then (some true) else (some (a1_3 == a0_2))) else (if a1_1 = 2 then (if a0_2 = a1_2 then (some true) else (some (a0_3 == a1_2))) else (if a0_2 = a1_2 then ((impl_InPlace.f a0_2).bind fun t300 => ((impl_OutPlace.f a0_3).bind fun t301 => ((impl_InPlace.f a1_2).bind fun t302 => ((impl_OutPlace.f a1_3).bind fun t303 => ((impl_Interleave.f kj2 t300 t301 t302 t303).bind fun t304 => (some t304)))))) else (if a0_3 = a1_3 then (some true) else ((impl_InPlace.f a0_2).bind fun t305 => ((impl_OutPlace.f a0_3).bind fun t306 => ((impl_InPlace.f a1_2).bind fun t307 => ((impl_OutPlace.f a1_3).bind fun t308 => ((impl_Interleave.f kj2 t305 t306 t307 t308).bind fun t309 => (some t309)))))))))) = some r := by rw [if_neg (show ¬ (false = true) by decide)] at H; exact H
   clear H
   have H := H1
   clear H1
   by_cases c33 : a0_1 = 2
   ·
    rw [if_pos c33] at H
    have c33b0 : (a0_1 == 2) = true := beq_iff_eq.mpr c33
    have c33b1 : (a0_1 != 2) = false := bne_eq_false_iff_eq.mpr c33
    clear c33
    by_cases c34 : a1_2 = a0_2
    ·
     rw [if_pos c34] at H
     have c34b0 : (a1_2 == a0_2) = true := beq_iff_eq.mpr c34
     have c34b1 : (a1_2 != a0_2) = false := bne_eq_false_iff_eq.mpr c34
     clear c34
     obtain rfl := Option.some.inj H
     have hnb35 := NB296_297.out
     have hnc35 := NB297_296.out
     obtain ⟨_, _, _, _, _, _, _, _⟩ := blkc4 BK296
     obtain ⟨_, _, _, _, _, _, _, _⟩ := blkc4 BK297
     go_wp2
     go_ret
     exact ⟨rA, bG⟩
    rw [if_neg c34] at H
    have c34b0 : (a1_2 == a0_2) = false := beq_eq_false_iff_ne.mpr c34
    have c34b1 : (a1_2 != a0_2) = true := bne_iff_ne.mpr c34
    obtain rfl := Option.some.inj H
    have hnb38 := NB296_297.out
    have hnc38 := NB297_296.out
    obtain ⟨_, _, _, _, _, _, _, _⟩ := blkc4 BK296
    obtain ⟨_, _, _, _, _, _, _, _⟩ := blkc4 BK297
    go_wp2
    go_ret
    exact ⟨rA, bG⟩
   rw [if_neg c33] at H
   have c33b0 : (a0_1 == 2) = false := beq_eq_false_iff_ne.mpr c33
   have c33b1 : (a0_1 != 2) = true := bne_iff_ne.mpr c33
   by_cases c41 : a1_1 = 2
   ·
    rw [if_pos c41] at H
    have c41b0 : (a1_1 == 2) = true := beq_iff_eq.mpr c41
    have c41b1 : (a1_1 != 2) = false := bne_eq_false_iff_eq.mpr c41
    clear c41
    by_cases c42 : a0_2 = a1_2
    ·
     rw [if_pos c42] at H
     have c42b0 : (a0_2 == a1_2) = true := beq_iff_eq.mpr c42
     have c42b1 : (a0_2 != a1_2) = false := bne_eq_false_iff_eq.mpr c42
     clear c42
     obtain rfl := Option.some.inj H
     have hnb43 := NB296_297.out
     have hnc43 := NB297_296.out
     obtain ⟨_, _, _, _, _, _, _, _⟩ := blkc4 BK296
     obtain ⟨_, _, _, _, _, _, _, _⟩ := blkc4 BK297
     go_wp2
     go_ret
     exact ⟨rA, bG⟩
    rw [if_neg c42] at H
    have c42b0 : (a0_2 == a1_2) = false := beq_eq_false_iff_ne.mpr c42
    have c42b1 : (a0_2 != a1_2) = true := bne_iff_ne.mpr c42
    obtain rfl := Option.some.inj H
    have hnb46 := NB296_297.out
    have hnc46 := NB297_296.out
    obtain ⟨_, _, _, _, _, _, _, _⟩ := blkc4 BK296
    obtain ⟨_, _, _, _, _, _, _, _⟩ := blkc4 BK297
    go_wp2
    go_ret
    exact ⟨rA, bG⟩
   rw [if_neg c41] at H
   have c41b0 : (a1_1 == 2) = false := beq_eq_false_iff_ne.mpr c41
   have c41b1 : (a1_1 != 2) = true := bne_iff_ne.mpr c41
   by_cases c49 : a0_2 = a1_2
   ·
    rw [if_pos c49] at H
    have c49b0 : (a0_2 == a1_2) = true := beq_iff_eq.mpr c49
    have c49b1 : (a0_2 != a1_2) = false := bne_eq_false_iff_eq.mpr c49
    clear c49
    obtain ⟨t300, A50, H⟩ := bindE H
    try dsimp only at H
    obtain ⟨t301, A51, H⟩ := bindE H
    try dsimp only at H
    obtain ⟨t302, A52, H⟩ := bindE H
    try dsimp only at H
    obtain ⟨t303, A53, H⟩ := bindE H
    try dsimp only at H
    obtain ⟨t304, A54, H⟩ := bindE H
    try dsimp only at H
    obtain rfl := Option.some.inj H
    have hnb55 := NB296_297.out
    have hnc55 := NB297_296.out
    obtain ⟨_, _, _, _, _, _, _, _⟩ := blkc4 BK296
    obtain ⟨_, _, _, _, _, _, _, _⟩ := blkc4 BK297
    try go_wp2
    replace BK296 := dk BK296
    replace BK297 := dk BK297
    have HBo := HB
    replace HB := db HB
    refine start_ (n := 28) (S := fun w' => w'.cell? ⟨gb296, 0, none⟩ = some (.int .i64 a0_0) ∧ w'.cell? ⟨gb296, 1, none⟩ = some (.int .i64 a0_1) ∧ w'.cell? ⟨gb296, 2, none⟩ = some (.int .i64 a0_2) ∧ w'.cell? ⟨gb296, 3, none⟩ = some (.int .i64 a0_3) ∧ w'.cell? ⟨gb297, 0, none⟩ = some (.int .i64 a1_0) ∧ w'.cell? ⟨gb297, 1, none⟩ = some (.int .i64 a1_1) ∧ w'.cell? ⟨gb297, 2, none⟩ = some (.int .i64 a1_2) ∧ w'.cell? ⟨gb297, 3, none⟩ = some (.int .i64 a1_3)) (ds := []) (mb 28 0) (by kernel_rfl) rfl rfl (cm4 BK296 (cn4 BK297)) (fun hHeld => ?_); refine with_tabW impl_Conflict.tab7 impl_Conflict.bits7 (fun HT_ HW_ => ?_)
    generalize wc.drew = w58 at BK296 BK297 HB hHeld ⊢
    refine pa 0 53 (mb 28 1) HT_ ?_
    refine pa 2 55 (mb 28 5) HT_ ?_
    refine ta8 1 54 (mb 28 7) HT_ HW_ hHeld ?_
    refine ta8 3 56 (mb 28 15) HT_ HW_ hHeld ?_
    refine pa 4 57 (mb 28 31) HT_ ?_
    refine pa 5 58 (mb 28 63) HT_ ?_
    refine pu 6 59 (mb 28 127) HT_ ?_
    refine pu 7 60 (mb 28 255) HT_ ?_
    refine pu 8 61 (mb 28 511) HT_ ?_
    refine pu 9 62 (mb 28 1023) HT_ ?_
    refine pu 10 63 (mb 28 2047) HT_ ?_
    refine pa 11 64 (mb 28 4095) HT_ ?_
    refine pa 12 65 (mb 28 8191) HT_ ?_
    refine pa 13 66 (mb 28 16383) HT_ ?_
    refine pa 16 69 (mb 28 81919) HT_ ?_
    refine pa 19 72 (mb 28 606207) HT_ ?_
    refine pa 22 75 (mb 28 4800511) HT_ ?_
    refine ta8 14 67 (mb 28 4816895) HT_ HW_ hHeld ?_
    refine ta8 17 70 (mb 28 4947967) HT_ HW_ hHeld ?_
    refine ta8 20 73 (mb 28 5996543) HT_ HW_ hHeld ?_
    refine ta8 23 76 (mb 28 14385151) HT_ HW_ hHeld ?_
    refine oa 15 68 (mb 28 14417919) HT_ (fun K hK => ?_)
    refine gA Try.func153 #[.int .i64 a0_2] ?_
    with_reducible refine (impl_InPlace.calls a0_2 t300 _ A50.out).mono ?_
    rintro e w' ⟨rfl, ⟨nd, rfl⟩⟩
    refine ⟨_, rfl, ?_⟩
    refine hK.out _ _ (cm4 BK296 (cn4 BK297)) (fun hHeld => ?_)
    clear hK K
    refine nB ?_
    refine oa 18 71 (mb 28 14680063) HT_ (fun K hK => ?_)
    refine gA Try.func154 #[.int .i64 a0_3] ?_
    with_reducible refine (impl_OutPlace.calls a0_3 t301 _ A51.out).mono ?_
    rintro e w' ⟨rfl, ⟨nd, rfl⟩⟩
    refine ⟨_, rfl, ?_⟩
    refine hK.out _ _ (cm4 BK296 (cn4 BK297)) (fun hHeld => ?_)
    clear hK K
    refine nB ?_
    refine oa 21 74 (mb 28 16777215) HT_ (fun K hK => ?_)
    refine gA Try.func153 #[.int .i64 a1_2] ?_
    with_reducible refine (impl_InPlace.calls a1_2 t302 _ A52.out).mono ?_
    rintro e w' ⟨rfl, ⟨nd, rfl⟩⟩
    refine ⟨_, rfl, ?_⟩
    refine hK.out _ _ (cm4 BK296 (cn4 BK297)) (fun hHeld => ?_)
    clear hK K
    refine nB ?_
    refine oa 24 77 (mb 28 33554431) HT_ (fun K hK => ?_)
    refine gA Try.func154 #[.int .i64 a1_3] ?_
    with_reducible refine (impl_OutPlace.calls a1_3 t303 _ A53.out).mono ?_
    rintro e w' ⟨rfl, ⟨nd, rfl⟩⟩
    refine ⟨_, rfl, ?_⟩
    refine hK.out _ _ (cm4 BK296 (cn4 BK297)) (fun hHeld => ?_)
    clear hK K
    refine nB ?_
    refine oa 25 78 (mb 28 67108863) HT_ (fun K hK => ?_)
    refine gA Try.func152 #[.int .i64 t300, .int .i64 t301, .int .i64 t302, .int .i64 t303] ?_
    with_reducible refine (impl_Interleave.calls kj2 t300 t301 t302 t303 t304 _ A54.out).mono ?_
    rintro e w59 ⟨rfl, hb⟩
    refine ⟨_, rfl, ?_⟩
    replace BK296 := kb BK296 hb
    replace BK297 := kb BK297 hb
    replace HB := bs HB hb
    (try clear hb)
    (try clear hb2)
    (try clear hk)
    (try clear hi)
    refine hK.out _ _ (cm4 BK296 (cn4 BK297)) (fun hHeld => ?_)
    clear hK K
    refine nB ?_
    refine pa 26 79 (mb 28 134217727) HT_ ?_
    refine pa 27 4 (mb 28 268435455) HT_ ?_
    refine eA HT_ ?_
    try go_wp2
    go_ret
    exact ⟨rA, bG⟩
   rw [if_neg c49] at H
   have c49b0 : (a0_2 == a1_2) = false := beq_eq_false_iff_ne.mpr c49
   have c49b1 : (a0_2 != a1_2) = true := bne_iff_ne.mpr c49
   by_cases c60 : a0_3 = a1_3
   ·
    rw [if_pos c60] at H
    have c60b0 : (a0_3 == a1_3) = true := beq_iff_eq.mpr c60
    have c60b1 : (a0_3 != a1_3) = false := bne_eq_false_iff_eq.mpr c60
    clear c60
    obtain rfl := Option.some.inj H
    have hnb61 := NB296_297.out
    have hnc61 := NB297_296.out
    obtain ⟨_, _, _, _, _, _, _, _⟩ := blkc4 BK296
    obtain ⟨_, _, _, _, _, _, _, _⟩ := blkc4 BK297
    try go_wp2
    replace BK296 := dk BK296
    replace BK297 := dk BK297
    have HBo := HB
    replace HB := db HB
    refine start_ (n := 28) (S := fun w' => w'.cell? ⟨gb296, 0, none⟩ = some (.int .i64 a0_0) ∧ w'.cell? ⟨gb296, 1, none⟩ = some (.int .i64 a0_1) ∧ w'.cell? ⟨gb296, 2, none⟩ = some (.int .i64 a0_2) ∧ w'.cell? ⟨gb296, 3, none⟩ = some (.int .i64 a0_3) ∧ w'.cell? ⟨gb297, 0, none⟩ = some (.int .i64 a1_0) ∧ w'.cell? ⟨gb297, 1, none⟩ = some (.int .i64 a1_1) ∧ w'.cell? ⟨gb297, 2, none⟩ = some (.int .i64 a1_2) ∧ w'.cell? ⟨gb297, 3, none⟩ = some (.int .i64 a1_3)) (ds := []) (mb 28 0) (by kernel_rfl) rfl rfl (cm4 BK296 (cn4 BK297)) (fun hHeld => ?_); refine with_tabW impl_Conflict.tab7 impl_Conflict.bits7 (fun HT_ HW_ => ?_)
    generalize wc.drew = w64 at BK296 BK297 HB hHeld ⊢
    refine pa 0 53 (mb 28 1) HT_ ?_
    refine pa 2 55 (mb 28 5) HT_ ?_
    refine ta8 1 54 (mb 28 7) HT_ HW_ hHeld ?_
    refine ta8 3 56 (mb 28 15) HT_ HW_ hHeld ?_
    refine pa 4 57 (mb 28 31) HT_ ?_
    refine pa 5 58 (mb 28 63) HT_ ?_
    refine pa 6 59 (mb 28 127) HT_ ?_
    refine pa 8 61 (mb 28 383) HT_ ?_
    refine ta8 7 60 (mb 28 511) HT_ HW_ hHeld ?_
    refine ta8 9 62 (mb 28 1023) HT_ HW_ hHeld ?_
    refine pa 10 63 (mb 28 2047) HT_ ?_
    refine pa 11 64 (mb 28 4095) HT_ ?_
    refine pa 12 65 (mb 28 8191) HT_ ?_
    refine pu 13 66 (mb 28 16383) HT_ ?_
    refine pu 14 67 (mb 28 32767) HT_ ?_
    refine pu 15 68 (mb 28 65535) HT_ ?_
    refine pu 16 69 (mb 28 131071) HT_ ?_
    refine pu 17 70 (mb 28 262143) HT_ ?_
    refine pu 18 71 (mb 28 524287) HT_ ?_
    refine pu 19 72 (mb 28 1048575) HT_ ?_
    refine pu 20 73 (mb 28 2097151) HT_ ?_
    refine pu 21 74 (mb 28 4194303) HT_ ?_
    refine pu 22 75 (mb 28 8388607) HT_ ?_
    refine pu 23 76 (mb 28 16777215) HT_ ?_
    refine pu 24 77 (mb 28 33554431) HT_ ?_
    refine pu 25 78 (mb 28 67108863) HT_ ?_
    refine pa 26 79 (mb 28 134217727) HT_ ?_
    refine pa 27 4 (mb 28 268435455) HT_ ?_
    refine eA HT_ ?_
    try go_wp2
    go_ret
    exact ⟨rA, bG⟩
   rw [if_neg c60] at H
   have c60b0 : (a0_3 == a1_3) = false := beq_eq_false_iff_ne.mpr c60
   have c60b1 : (a0_3 != a1_3) = true := bne_iff_ne.mpr c60
   obtain ⟨t305, A65, H⟩ := bindE H
   try dsimp only at H
   obtain ⟨t306, A66, H⟩ := bindE H
   try dsimp only at H
   obtain ⟨t307, A67, H⟩ := bindE H
   try dsimp only at H
   obtain ⟨t308, A68, H⟩ := bindE H
   try dsimp only at H
   obtain ⟨t309, A69, H⟩ := bindE H
   try dsimp only at H
   obtain rfl := Option.some.inj H
   have hnb70 := NB296_297.out
   have hnc70 := NB297_296.out
   obtain ⟨_, _, _, _, _, _, _, _⟩ := blkc4 BK296
   obtain ⟨_, _, _, _, _, _, _, _⟩ := blkc4 BK297
   try go_wp2
   replace BK296 := dk BK296
   replace BK297 := dk BK297
   have HBo := HB
   replace HB := db HB
   refine start_ (n := 28) (S := fun w' => w'.cell? ⟨gb296, 0, none⟩ = some (.int .i64 a0_0) ∧ w'.cell? ⟨gb296, 1, none⟩ = some (.int .i64 a0_1) ∧ w'.cell? ⟨gb296, 2, none⟩ = some (.int .i64 a0_2) ∧ w'.cell? ⟨gb296, 3, none⟩ = some (.int .i64 a0_3) ∧ w'.cell? ⟨gb297, 0, none⟩ = some (.int .i64 a1_0) ∧ w'.cell? ⟨gb297, 1, none⟩ = some (.int .i64 a1_1) ∧ w'.cell? ⟨gb297, 2, none⟩ = some (.int .i64 a1_2) ∧ w'.cell? ⟨gb297, 3, none⟩ = some (.int .i64 a1_3)) (ds := []) (mb 28 0) (by kernel_rfl) rfl rfl (cm4 BK296 (cn4 BK297)) (fun hHeld => ?_); refine with_tabW impl_Conflict.tab7 impl_Conflict.bits7 (fun HT_ HW_ => ?_)
   generalize wc.drew = w73 at BK296 BK297 HB hHeld ⊢
   refine pa 0 53 (mb 28 1) HT_ ?_
   refine pa 2 55 (mb 28 5) HT_ ?_
   refine ta8 1 54 (mb 28 7) HT_ HW_ hHeld ?_
   refine ta8 3 56 (mb 28 15) HT_ HW_ hHeld ?_
   refine pa 4 57 (mb 28 31) HT_ ?_
   refine pa 5 58 (mb 28 63) HT_ ?_
   refine pa 6 59 (mb 28 127) HT_ ?_
   refine pa 8 61 (mb 28 383) HT_ ?_
   refine ta8 7 60 (mb 28 511) HT_ HW_ hHeld ?_
   refine ta8 9 62 (mb 28 1023) HT_ HW_ hHeld ?_
   refine pa 10 63 (mb 28 2047) HT_ ?_
   refine pa 11 64 (mb 28 4095) HT_ ?_
   refine pa 12 65 (mb 28 8191) HT_ ?_
   refine pa 13 66 (mb 28 16383) HT_ ?_
   refine pa 16 69 (mb 28 81919) HT_ ?_
   refine pa 19 72 (mb 28 606207) HT_ ?_
   refine pa 22 75 (mb 28 4800511) HT_ ?_
   refine ta8 14 67 (mb 28 4816895) HT_ HW_ hHeld ?_
   refine ta8 17 70 (mb 28 4947967) HT_ HW_ hHeld ?_
   refine ta8 20 73 (mb 28 5996543) HT_ HW_ hHeld ?_
   refine ta8 23 76 (mb 28 14385151) HT_ HW_ hHeld ?_
   refine oa 15 68 (mb 28 14417919) HT_ (fun K hK => ?_)
   refine gA Try.func153 #[.int .i64 a0_2] ?_
   with_reducible refine (impl_InPlace.calls a0_2 t305 _ A65.out).mono ?_
   rintro e w' ⟨rfl, ⟨nd, rfl⟩⟩
   refine ⟨_, rfl, ?_⟩
   refine hK.out _ _ (cm4 BK296 (cn4 BK297)) (fun hHeld => ?_)
   clear hK K
   refine nB ?_
   refine oa 18 71 (mb 28 14680063) HT_ (fun K hK => ?_)
   refine gA Try.func154 #[.int .i64 a0_3] ?_
   with_reducible refine (impl_OutPlace.calls a0_3 t306 _ A66.out).mono ?_
   rintro e w' ⟨rfl, ⟨nd, rfl⟩⟩
   refine ⟨_, rfl, ?_⟩
   refine hK.out _ _ (cm4 BK296 (cn4 BK297)) (fun hHeld => ?_)
   clear hK K
   refine nB ?_
   refine oa 21 74 (mb 28 16777215) HT_ (fun K hK => ?_)
   refine gA Try.func153 #[.int .i64 a1_2] ?_
   with_reducible refine (impl_InPlace.calls a1_2 t307 _ A67.out).mono ?_
   rintro e w' ⟨rfl, ⟨nd, rfl⟩⟩
   refine ⟨_, rfl, ?_⟩
   refine hK.out _ _ (cm4 BK296 (cn4 BK297)) (fun hHeld => ?_)
   clear hK K
   refine nB ?_
   refine oa 24 77 (mb 28 33554431) HT_ (fun K hK => ?_)
   refine gA Try.func154 #[.int .i64 a1_3] ?_
   with_reducible refine (impl_OutPlace.calls a1_3 t308 _ A68.out).mono ?_
   rintro e w' ⟨rfl, ⟨nd, rfl⟩⟩
   refine ⟨_, rfl, ?_⟩
   refine hK.out _ _ (cm4 BK296 (cn4 BK297)) (fun hHeld => ?_)
   clear hK K
   refine nB ?_
   refine oa 25 78 (mb 28 67108863) HT_ (fun K hK => ?_)
   refine gA Try.func152 #[.int .i64 t305, .int .i64 t306, .int .i64 t307, .int .i64 t308] ?_
   with_reducible refine (impl_Interleave.calls kj2 t305 t306 t307 t308 t309 _ A69.out).mono ?_
   rintro e w74 ⟨rfl, hb⟩
   refine ⟨_, rfl, ?_⟩
   replace BK296 := kb BK296 hb
   replace BK297 := kb BK297 hb
   replace HB := bs HB hb
   (try clear hb)
   (try clear hb2)
   (try clear hk)
   (try clear hi)
   refine hK.out _ _ (cm4 BK296 (cn4 BK297)) (fun hHeld => ?_)
   clear hK K
   refine nB ?_
   refine pa 26 79 (mb 28 134217727) HT_ ?_
   refine pa 27 4 (mb 28 268435455) HT_ ?_
   refine eA HT_ ?_
   try go_wp2
   go_ret
   exact ⟨rA, bG⟩

/-! ### impl_IsTogether: function 87 -/
mutual
def impl_IsTogether.l0 : Nat → List (S89) → List Int → List Int → Int → Int → Option (Bool)
 | 0, _, _, _, _, _ => none
 | k + 1, x0, x1, x13, x14, x15 => if x15 < x14 then (if 0 ≤ x15 then (if x15 < (x13.length : Int) then ((impl_FindPath.f x0 (rd x13 x15)).bind fun t312 => (if t312 < 0 then (impl_IsTogether.j1 k x0 x1 x15 t312 x13 x14 x15 true) else (if x15 > 0 then (if 0 ≤ (wrap64 (x15 - 1)) then (if (wrap64 (x15 - 1)) < (x1.length : Int) then (impl_IsTogether.j1 k x0 x1 x15 t312 x13 x14 x15 (decide ((rd x13 x15) ≤ (rd x1 (wrap64 (x15 - 1)))))) else (none)) else (none)) else (impl_IsTogether.j1 k x0 x1 x15 t312 x13 x14 x15 false)))) else (none)) else (none)) else (some true)
def impl_IsTogether.j1 : Nat → List (S89) → List Int → Int → Int → List Int → Int → Int → Bool → Option (Bool)
 | 0, _, _, _, _, _, _, _, _ => none
 | k + 1, x0, x1, x5, x7, x13, x14, x15, x37 => if x37 = true then (some false) else (if 0 ≤ x5 then (if x5 ≤ (x1.length : Int) then (impl_IsTogether.l1 k x0 x1 x7 x13 x14 x15 (x1.take (x5 : Int).toNat) ((x1.take (x5 : Int).toNat).length : Int) 0) else (none)) else (none))
def impl_IsTogether.l1 : Nat → List (S89) → List Int → Int → List Int → Int → Int → List Int → Int → Int → Option (Bool)
 | 0, _, _, _, _, _, _, _, _, _ => none
 | k + 1, x0, x1, x7, x13, x14, x15, x40, x41, x42 => if x42 < x41 then (if 0 ≤ x42 then (if x42 < (x40.length : Int) then (if 0 ≤ x7 then (if x7 < (x0.length : Int) then ((impl_FindPath.f x0 (rd x40 x42)).bind fun t317 => (if 0 ≤ t317 then (if t317 < (x0.length : Int) then ((impl_Conflict.f k ((rd_T89 x0 x7).f0) ((rd_T89 x0 x7).f1) ((rd_T89 x0 x7).f2) ((rd_T89 x0 x7).f3) ((rd_T89 x0 t317).f0) ((rd_T89 x0 t317).f1) ((rd_T89 x0 t317).f2) ((rd_T89 x0 t317).f3)).bind fun t319 => (if t319 = true then (some false) else (impl_IsTogether.l1 k x0 x1 x7 x13 x14 x15 x40 x41 (wrap64 (x42 + 1))))) else (none)) else (none))) else (none)) else (none)) else (none)) else (none)) else (impl_IsTogether.l0 k x0 x1 x13 x14 (wrap64 (x15 + 1)))
end
def impl_IsTogether.f (k : Nat) (l0 : List (S89)) (l1 : List Int) : Option (Bool) := (impl_ArePaths.f k l0).bind fun t310 => (if t310 = true then (impl_IsTogether.l0 k l0 l1 l1 (l1.length : Int) 0) else (some false))
theorem impl_IsTogether.mono_l : ∀ k, (∀ y0 y1 y2 y3 y4, LeO (impl_IsTogether.l0 k y0 y1 y2 y3 y4) (impl_IsTogether.l0 (k + 1) y0 y1 y2 y3 y4)) ∧ (∀ y0 y1 y2 y3 y4 y5 y6 y7, LeO (impl_IsTogether.j1 k y0 y1 y2 y3 y4 y5 y6 y7) (impl_IsTogether.j1 (k + 1) y0 y1 y2 y3 y4 y5 y6 y7)) ∧ (∀ y0 y1 y2 y3 y4 y5 y6 y7 y8, LeO (impl_IsTogether.l1 k y0 y1 y2 y3 y4 y5 y6 y7 y8) (impl_IsTogether.l1 (k + 1) y0 y1 y2 y3 y4 y5 y6 y7 y8))
 | 0 => ⟨fun _ _ _ _ _ r h => by simp [impl_IsTogether.l0] at h, fun _ _ _ _ _ _ _ _ r h => by simp [impl_IsTogether.j1] at h, fun _ _ _ _ _ _ _ _ _ r h => by simp [impl_IsTogether.l1] at h⟩
 | k + 1 => by
  obtain ⟨ih0, ih1, ih2⟩ := impl_IsTogether.mono_l k
  refine ⟨?_, ?_, ?_⟩
  ·
   intro y0 y1 y2 y3 y4
   unfold impl_IsTogether.l0
   exact mz5 ih0 ih1 ih2 impl_ArePaths.mono impl_Conflict.mono
  ·
   intro y0 y1 y2 y3 y4 y5 y6 y7
   unfold impl_IsTogether.j1
   exact mz5 ih0 ih1 ih2 impl_ArePaths.mono impl_Conflict.mono
  ·
   intro y0 y1 y2 y3 y4 y5 y6 y7 y8
   unfold impl_IsTogether.l1
   exact mz5 ih0 ih1 ih2 impl_ArePaths.mono impl_Conflict.mono
theorem impl_IsTogether.mono : ∀ a0 a1 k, LeO (impl_IsTogether.f k a0 a1) (impl_IsTogether.f (k + 1) a0 a1) := by
 intro a0 a1 k
 obtain ⟨ih0, ih1, ih2⟩ := impl_IsTogether.mono_l k
 unfold impl_IsTogether.f
 exact mz5 ih0 ih1 ih2 impl_ArePaths.mono impl_Conflict.mono
def impl_IsTogether.T12 : Bool × List (List Nat × List Nat) := (true, [([], []), ([], []), ([0, 1], [0, 1]), ([2], [2]), ([], []), ([], []), ([], []), ([5, 6], [5, 6]), ([4, 7], [4, 7]), ([8], [8]), ([3, 9, 7], [3, 9])])
def impl_IsTogether.B12 : List Nat := [0, 0, 3, 7, 0, 0, 0, 96, 240, 496, 1023]
theorem impl_IsTogether.tab12 : rtab .any (opsOf Try.f87 12) = impl_IsTogether.T12 := by kernel_rfl
theorem impl_IsTogether.bits12 : waitsOk impl_IsTogether.T12.2 impl_IsTogether.B12 = true := by kernel_rfl
set_option maxHeartbeats 8000000 in
set_option maxRecDepth 100000 in
theorem impl_IsTogether.calls (k : Nat) (A0 : Option Addr) (c0 : Nat) (l0 : List (S89)) (A1 : Option Addr) (c1 : Nat) (l1 : List Int) (r : Bool) (w : World) (hr0 : Kd.C k89 w A0 l0.length l0) (hc0 : l0.length ≤ c0) (hr1 : Kd.C (Kd.int .i64) w A1 l1.length l1) (hc1 : l1.length ≤ c1) (h : impl_IsTogether.f k l0 l1 = some r) :
  Calls Try.prog 87 #[.slice A0 l0.length c0, .slice A1 l1.length c1] w fun e w' => e = .returned (.bool r) ∧ Below w.heap.size w w' := by
 have hu89 := Try.underlying89
 have HR0 := Aside0.mk hr0
 have HC0 := Aside0.mk hc0
 clear hr0 hc0
 have HR1 := Aside0.mk hr1
 have HC1 := Aside0.mk hc1
 clear hr1 hc1
 have HB := Aside0.mk (Below.refl w.heap.size w)
 have H : ((impl_ArePaths.f k l0).bind fun t310 => (if t310 = true then (impl_IsTogether.l0 k l0 l1 l1 (l1.length : Int) 0) else (some false))) = some r := h
 clear h
 obtain ⟨t310, A3, H⟩ := bindE H
 try dsimp only at H
 by_cases c4 : t310 = true
 ·
  subst c4
  have H1 : (impl_IsTogether.l0 k l0 l1 l1 (l1.length : Int) 0) = some r := by rw [if_pos rfl] at H; exact H
  clear H
  have H := H1
  clear H1
  have H' := Aside0.mk H
  clear H
  go_enter Try.func87, Try.ntmps87
  go_wp2_with (first | ((with_reducible refine gate_callee (f := 126) rfl ?_); refine gL (some 11) Try.func126 #[.slice A0 l0.length c0] ?_; (with_reducible refine (impl_ArePaths.calls k _ _ l0 true _ ?_ ?_ A3.out).mono ?_); exact cO HR0; exact HC0.out; rintro e w5 ⟨rfl, hb⟩; refine ⟨_, rfl, ?_⟩; replace HB := bs HB hb; (try clear hb)))
  go_loopg [15] k (fun kq v15 w' => ∃ (x15_1 : Int), v15 = .int .i64 x15_1 ∧ Aside0 (impl_IsTogether.l0 kq l0 l1 l1 (l1.length : Int) x15_1 = some r) ∧ Aside0 (kq ≤ k) ∧ Aside0 (Below w.heap.size w w'))
  case atStart => exact ⟨(0), rS, H', ⟨Nat.le_refl _⟩, ⟨bA⟩⟩
  case round =>
   clear H'
   obtain ⟨x15_1, rfl, HA, HK1, HB⟩ := hrel
   cases gk with
   | zero => exact absurd HA.out (by simp [impl_IsTogether.l0])
   | succ k1 =>
    have H := HA.out
    clear HA
    simp only [impl_IsTogether.l0] at H
    by_cases c6 : x15_1 < (l1.length : Int)
    ·
     rw [if_pos c6] at H
     have c6b0 := decide_eq_true c6
     clear c6
     have c7 : 0 ≤ x15_1 := ifN H
     replace H := ifT H
     have c7b0 := decide_eq_true c7
     clear c7
     have c8 : x15_1 < (l1.length : Int) := ifN H
     replace H := ifT H
     have c8b0 := decide_eq_true c8
     clear c8
     obtain ⟨t312, A9, H⟩ := bindE H
     try dsimp only at H
     have HC10 := Aside0.mk H
     clear H
     obtain ⟨p311, q311⟩ : 0 ≤ (x15_1 : Int) ∧ x15_1 < (l1.length : Int) := ⟨dA, dA⟩
     obtain ⟨ad311, e311, hx311_0⟩ := Kd.at_int (Kd.C_below HR1.out HB.out) x15_1 p311 q311
     cases e311
     obtain ⟨p311, q311⟩ := eT p311 q311
     go_upto_region 7 with (first | ((with_reducible refine gate_callee (f := 119) rfl ?_); refine gL (some 22) Try.func119 #[.slice A0 l0.length c0, .int .i64 (rd l1 x15_1)] ?_; (with_reducible refine (impl_FindPath.calls _ _ l0 (rd l1 x15_1) t312 _ ?_ ?_ A9.out).mono ?_); exact cB HR0; exact HC0.out; rintro e w11 ⟨rfl, hb⟩; refine ⟨_, rfl, ?_⟩; replace HB := bs HB hb; (try clear hb)))
     (try simp only [Act.put, List.setIfInBounds_toArray, List.set_cons_zero, List.set_cons_succ])
     go_cut [37] (fun v37 wc => ∃ (kq : Nat) (x37_9 : Bool), v37 = .bool x37_9 ∧ Aside0 (impl_IsTogether.j1 kq l0 l1 x15_1 t312 l1 (l1.length : Int) x15_1 x37_9 = some r) ∧ Aside0 (kq ≤ k1) ∧ Aside0 (Below w.heap.size w wc))
     case first =>
      have H := HC10.out
      clear HC10
      by_cases c12 : t312 < 0
      ·
       rw [if_pos c12] at H
       have c12b0 := decide_eq_true c12
       clear c12
       (first | rw [c12b0] | (simp only [i64_w, i32_w]; rw [c12b0]) | skip)
       have H' := Aside0.mk H
       clear H
       go_wp2
       go_meet
       case rel => exact ⟨_, (true), rS, H', ⟨by have := HK1.out; first | omega | exact Nat.le_refl _⟩, ⟨bA⟩⟩
      rw [if_neg c12] at H
      have c12b0 := decide_eq_false c12
      clear c12
      (first | rw [c12b0] | (simp only [i64_w, i32_w]; rw [c12b0]) | skip)
      by_cases c13 : x15_1 > 0
      ·
       rw [if_pos c13] at H
       have c13b0 := decide_eq_true c13
       clear c13
       obtain ⟨ji14, hji14⟩ : ∃ j_ : Int, (wrap64 (x15_1 - 1)) = j_ := ⟨_, rfl⟩
       replace H : (if 0 ≤ (ji14) then (if (ji14) < (l1.length : Int) then (impl_IsTogether.j1 k1 l0 l1 x15_1 t312 l1 (l1.length : Int) x15_1 (decide ((rd l1 x15_1) ≤ (rd l1 (ji14))))) else (none)) else (none)) = some r := by first | (rw [hji14] at H; exact H) | (simp only [hji14] at H ⊢; exact H)
       have hji14w : (IntKind.i64.wrap (x15_1 - 1)) = ji14 := (i64_w _).trans hji14
       have c15 : 0 ≤ (ji14) := ifN H
       replace H := ifT H
       have c15b0 := decide_eq_true c15
       clear c15
       have c16 : (ji14) < (l1.length : Int) := ifN H
       replace H := ifT H
       have c16b0 := decide_eq_true c16
       clear c16
       have H' := Aside0.mk H
       clear H
       obtain ⟨p313, q313⟩ : 0 ≤ ((ji14) : Int) ∧ (ji14) < (l1.length : Int) := ⟨dA, dA⟩
       obtain ⟨ad313, e313, hx313_0⟩ := Kd.at_int (Kd.C_below HR1.out HB.out) (ji14) p313 q313
       obtain rfl : ad311 = ad313 := (by injection e313)
       obtain ⟨p313, q313⟩ := eT p313 q313
       go_wp2
       go_meet
       case rel => exact ⟨_, (decide ((rd l1 x15_1) ≤ (rd l1 (ji14)))), (by first | rfl | (simp; done) | (simp only [← hji14] <;> (first | rfl | simp)) | (simp [*]; done)), H', ⟨by have := HK1.out; first | omega | exact Nat.le_refl _⟩, ⟨bA⟩⟩
      rw [if_neg c13] at H
      have c13b0 := decide_eq_false c13
      clear c13
      have H' := Aside0.mk H
      clear H
      go_wp2
      go_meet
      case rel => exact ⟨_, (false), rS, H', ⟨by have := HK1.out; first | omega | exact Nat.le_refl _⟩, ⟨bA⟩⟩
     case rest =>
      clear HC10
      obtain ⟨kq, x37_9, rfl, HA, HJ9, HB⟩ := hcut
      cases kq with
      | zero => exact absurd HA.out (by simp [impl_IsTogether.j1])
      | succ kj9 =>
       have H := HA.out
       clear HA
       simp only [impl_IsTogether.j1] at H
       by_cases c17 : x37_9 = true
       ·
        subst c17
        have H1 : (some false) = some r := by rw [if_pos rfl] at H; exact H
        clear H
        have H := H1
        clear H1
        obtain rfl := Option.some.inj H
        go_wp2
        go_ret
        exact ⟨rA, bA⟩
       replace c17 := Bool.eq_false_iff.mpr c17
       subst c17
       have H1 : (if 0 ≤ x15_1 then (if x15_1 ≤ (l1.length : Int) then (impl_IsTogether.l1 kj9 l0 l1 t312 l1 (l1.length : Int) x15_1 (l1.take (x15_1 : Int).toNat) ((l1.take (x15_1 : Int).toNat).length : Int) 0) else (none)) else (none)) = some r := by rw [if_neg (show ¬ (false = true) by decide)] at H; exact H
       clear H
       have H := H1
       clear H1
       have c18 : 0 ≤ x15_1 := ifN H
       replace H := ifT H
       have c18b0 := eq_true c18
       have c18b1 := decide_eq_true c18
       clear c18
       have c19 : x15_1 ≤ (l1.length : Int) := ifN H
       replace H := ifT H
       have c19b0 := eq_true c19
       have c19b1 := decide_eq_true c19
       clear c19
       have H' := Aside0.mk H
       clear H
       obtain ⟨i020, hi020, _, hsz20, _⟩ := info_parts info3
       obtain ⟨hcut20, hA20, hC20⟩ := print_take_of (P := Try.prog) (Value.int .i64) 0 41 3 .i64 Try.underlying41 hi020 hsz20 (some ad311) c1 l1 x15_1 (dA) (dA) HC1.out
       have HR314 := Aside0.mk (Kd.C_of_reads (h1 := fun _ => rfl) (hA20 _ (Kd.reads_of_C HR1.out)))
       have HC314 := Aside0.mk hC20
       clear hA20 hC20 hi020 hsz20
       have HL314 := Aside0.mk (show (x15_1 : Int) ≤ (l1.length : Int) from (dA))
       go_wp2
       go_loopg [42] kj9 (fun kq v42 w' => ∃ (x42_3 : Int), v42 = .int .i64 x42_3 ∧ Aside0 (impl_IsTogether.l1 kq l0 l1 t312 l1 (l1.length : Int) x15_1 (l1.take (x15_1 : Int).toNat) ((l1.take (x15_1 : Int).toNat).length : Int) x42_3 = some r) ∧ Aside0 (kq ≤ kj9) ∧ Aside0 (Below w.heap.size w w'))
       case atStart => exact ⟨(0), rS, H', ⟨Nat.le_refl _⟩, ⟨bA⟩⟩
       case round =>
        clear H'
        obtain ⟨x42_3, rfl, HA, HK3, HB⟩ := hrel
        cases gk with
        | zero => exact absurd HA.out (by simp [impl_IsTogether.l1])
        | succ k3 =>
         have H := HA.out
         clear HA
         simp only [impl_IsTogether.l1] at H
         by_cases c21 : x42_3 < ((l1.take (x15_1 : Int).toNat).length : Int)
         ·
          rw [if_pos c21] at H
          have c21b0 := decide_eq_true c21
          (try (have c21b1 : decide (x42_3 < max x15_1 0) = true := decide_eq_true (by rw [List.length_take] at c21; omega)))
          clear c21
          have c22 : 0 ≤ x42_3 := ifN H
          replace H := ifT H
          have c22b0 := decide_eq_true c22
          clear c22
          have c23 : x42_3 < ((l1.take (x15_1 : Int).toNat).length : Int) := ifN H
          replace H := ifT H
          have c23b0 := decide_eq_true c23
          (try (have c23b1 : decide (x42_3 < max x15_1 0) = true := decide_eq_true (by rw [List.length_take] at c23; omega)))
          clear c23
          have c24 : 0 ≤ t312 := ifN H
          replace H := ifT H
          have c24b0 := decide_eq_true c24
          clear c24
          have c25 : t312 < (l0.length : Int) := ifN H
          replace H := ifT H
          have c25b0 := decide_eq_true c25
          clear c25
          obtain ⟨t317, A26, H⟩ := bindE H
          try dsimp only at H
          have c27 : 0 ≤ t317 := ifN H
          replace H := ifT H
          have c27b0 := decide_eq_true c27
          clear c27
          have c28 : t317 < (l0.length : Int) := ifN H
          replace H := ifT H
          have c28b0 := decide_eq_true c28
          clear c28
          obtain ⟨t319, A29, H⟩ := bindE H
          try dsimp only at H
          by_cases c30 : t319 = true
          ·
           subst c30
           have H1 : (some false) = some r := by rw [if_pos rfl] at H; exact H
           clear H
           have H := H1
           clear H1
           obtain rfl := Option.some.inj H
           obtain ⟨p315, q315⟩ : 0 ≤ (x42_3 : Int) ∧ x42_3 < ((l1.take (x15_1 : Int).toNat).length : Int) := ⟨dA, dA⟩
           (try have q315m : (x42_3 < max x15_1 0) = True := eq_true (of_decide_eq_true (by assumption)))
           obtain ⟨ad315, e315, hx315_0⟩ := Kd.at_int (Kd.C_below HR314.out HB.out) x42_3 p315 q315
           obtain rfl : ad311 = ad315 := (by injection e315)
           obtain ⟨p315, q315⟩ := eT p315 q315
           try go_wp2
           have HBo := HB
           replace HB := db HB
           obtain ⟨p316, q316⟩ : 0 ≤ (t312 : Int) ∧ t312 < (l0.length : Int) := ⟨dA, dA⟩
           obtain ⟨ad316, e316, hx316_0, hx316_1, hx316_2, hx316_3⟩ := at_T89 HR0.out t312 p316 q316
           have hw316_3 := hx316_3
           have hw316_2 := hx316_2
           have hw316_1 := hx316_1
           have hw316_0 := hx316_0
           cases e316
           replace hx316_0 := hC HB hx316_0
           replace hx316_1 := hC HB hx316_1
           replace hx316_2 := hC HB hx316_2
           replace hx316_3 := hC HB hx316_3
           obtain ⟨p316, q316⟩ := eT p316 q316
           obtain ⟨p318, q318⟩ : 0 ≤ (t317 : Int) ∧ t317 < (l0.length : Int) := ⟨dA, dA⟩
           obtain ⟨ad318, e318, hx318_0, hx318_1, hx318_2, hx318_3⟩ := at_T89 HR0.out t317 p318 q318
           have hw318_3 := hx318_3
           have hw318_2 := hx318_2
           have hw318_1 := hx318_1
           have hw318_0 := hx318_0
           obtain rfl : ad316 = ad318 := (by injection e318)
           replace hx318_0 := hC HB hx318_0
           replace hx318_1 := hC HB hx318_1
           replace hx318_2 := hC HB hx318_2
           replace hx318_3 := hC HB hx318_3
           obtain ⟨p318, q318⟩ := eT p318 q318
           refine start_ (n := 11) (S := fun w' => w'.cell? (ad316.add ((t312).toNat * 4)) = some (.int .i64 ((rd_T89 l0 t312).f0)) ∧ w'.cell? ⟨(ad316.add ((t312).toNat * 4)).block, (ad316.add ((t312).toNat * 4)).off + 1, none⟩ = some (.int .i64 ((rd_T89 l0 t312).f1)) ∧ w'.cell? ⟨(ad316.add ((t312).toNat * 4)).block, (ad316.add ((t312).toNat * 4)).off + 2, none⟩ = some (.int .i64 ((rd_T89 l0 t312).f2)) ∧ w'.cell? ⟨(ad316.add ((t312).toNat * 4)).block, (ad316.add ((t312).toNat * 4)).off + 3, none⟩ = some (.int .i64 ((rd_T89 l0 t312).f3)) ∧ w'.cell? (ad316.add ((t317).toNat * 4)) = some (.int .i64 ((rd_T89 l0 t317).f0)) ∧ w'.cell? ⟨(ad316.add ((t317).toNat * 4)).block, (ad316.add ((t317).toNat * 4)).off + 1, none⟩ = some (.int .i64 ((rd_T89 l0 t317).f1)) ∧ w'.cell? ⟨(ad316.add ((t317).toNat * 4)).block, (ad316.add ((t317).toNat * 4)).off + 2, none⟩ = some (.int .i64 ((rd_T89 l0 t317).f2)) ∧ w'.cell? ⟨(ad316.add ((t317).toNat * 4)).block, (ad316.add ((t317).toNat * 4)).off + 3, none⟩ = some (.int .i64 ((rd_T89 l0 t317).f3))) (ds := []) (mb 11 0) (by kernel_rfl) rfl rfl ⟨(hC HB hw316_0), (hC HB hw316_1), (hC HB hw316_2), (hC HB hw316_3), (hC HB hw318_0), (hC HB hw318_1), (hC HB hw318_2), (hC HB hw318_3)⟩ (fun hHeld => ?_); refine with_tabW impl_IsTogether.tab12 impl_IsTogether.bits12 (fun HT_ HW_ => ?_)
           generalize wr.drew = w31 at HB hx316_0 hx316_1 hx316_2 hx316_3 hx318_0 hx318_1 hx318_2 hx318_3 hHeld ⊢
           refine pa 0 46 (mb 11 1) HT_ ?_
           refine pa 1 47 (mb 11 3) HT_ ?_
           refine pa 2 48 (mb 11 7) HT_ ?_
           refine pa 4 50 (mb 11 23) HT_ ?_
           refine pa 5 51 (mb 11 55) HT_ ?_
           refine pa 6 52 (mb 11 119) HT_ ?_
           refine ta8 3 49 (mb 11 127) HT_ HW_ hHeld ?_
           refine oa 7 53 (mb 11 255) HT_ (fun K hK => ?_)
           refine gA Try.func119 #[.slice (some ad316) l0.length c0, .int .i64 (rd (l1.take (x15_1 : Int).toNat) x42_3)] ?_
           with_reducible refine (impl_FindPath.calls _ _ l0 (rd (l1.take (x15_1 : Int).toNat) x42_3) t317 _ ?side1 ?side2 A26.out).mono ?_
           (case side1 => exact cB HR0)
           (case side2 => exact HC0.out)
           rintro e w32 ⟨rfl, hb⟩
           refine ⟨_, rfl, ?_⟩
           replace HB := bs HB hb
           (try clear hb)
           (try clear hb2)
           (try clear hk)
           (try clear hi)
           refine hK.out _ _ ⟨(hC HB hw316_0), (hC HB hw316_1), (hC HB hw316_2), (hC HB hw316_3), (hC HB hw318_0), (hC HB hw318_1), (hC HB hw318_2), (hC HB hw318_3)⟩ (fun hHeld => ?_)
           clear hK K
           refine nB ?_
           refine pa 8 54 (mb 11 511) HT_ ?_
           refine ta8 9 55 (mb 11 1023) HT_ HW_ hHeld ?_
           refine oa 10 56 (mb 11 2047) HT_ (fun K hK => ?_)
           refine gA Try.func133 #[.agg #[.int .i64 ((rd_T89 l0 t312).f0), .int .i64 ((rd_T89 l0 t312).f1), .int .i64 ((rd_T89 l0 t312).f2), .int .i64 ((rd_T89 l0 t312).f3)], .agg #[.int .i64 ((rd_T89 l0 t317).f0), .int .i64 ((rd_T89 l0 t317).f1), .int .i64 ((rd_T89 l0 t317).f2), .int .i64 ((rd_T89 l0 t317).f3)]] ?_
           with_reducible refine (impl_Conflict.calls k3 ((rd_T89 l0 t312).f0) ((rd_T89 l0 t312).f1) ((rd_T89 l0 t312).f2) ((rd_T89 l0 t312).f3) ((rd_T89 l0 t317).f0) ((rd_T89 l0 t317).f1) ((rd_T89 l0 t317).f2) ((rd_T89 l0 t317).f3) true _ A29.out).mono ?_
           rintro e w33 ⟨rfl, hb⟩
           refine ⟨_, rfl, ?_⟩
           replace HB := bs HB hb
           (try clear hb)
           (try clear hb2)
           (try clear hk)
           (try clear hi)
           refine hK.out _ _ ⟨(hC HB hw316_0), (hC HB hw316_1), (hC HB hw316_2), (hC HB hw316_3), (hC HB hw318_0), (hC HB hw318_1), (hC HB hw318_2), (hC HB hw318_3)⟩ (fun hHeld => ?_)
           clear hK K
           refine nB ?_
           refine eA HT_ ?_
           try go_wp2
           go_ret
           exact ⟨rA, bA⟩
          replace c30 := Bool.eq_false_iff.mpr c30
          subst c30
          have H1 : (impl_IsTogether.l1 k3 l0 l1 t312 l1 (l1.length : Int) x15_1 (l1.take (x15_1 : Int).toNat) ((l1.take (x15_1 : Int).toNat).length : Int) (wrap64 (x42_3 + 1))) = some r := by rw [if_neg (show ¬ (false = true) by decide)] at H; exact H
          clear H
          have H := H1
          clear H1
          have H' := Aside0.mk H
          clear H
          obtain ⟨p315, q315⟩ : 0 ≤ (x42_3 : Int) ∧ x42_3 < ((l1.take (x15_1 : Int).toNat).length : Int) := ⟨dA, dA⟩
          (try have q315m : (x42_3 < max x15_1 0) = True := eq_true (of_decide_eq_true (by assumption)))
          obtain ⟨ad315, e315, hx315_0⟩ := Kd.at_int (Kd.C_below HR314.out HB.out) x42_3 p315 q315
          obtain rfl : ad311 = ad315 := (by injection e315)
          obtain ⟨p315, q315⟩ := eT p315 q315
          try go_wp2
          have HBo := HB
          replace HB := db HB
          obtain ⟨p316, q316⟩ : 0 ≤ (t312 : Int) ∧ t312 < (l0.length : Int) := ⟨dA, dA⟩
          obtain ⟨ad316, e316, hx316_0, hx316_1, hx316_2, hx316_3⟩ := at_T89 HR0.out t312 p316 q316
          have hw316_3 := hx316_3
          have hw316_2 := hx316_2
          have hw316_1 := hx316_1
          have hw316_0 := hx316_0
          cases e316
          replace hx316_0 := hC HB hx316_0
          replace hx316_1 := hC HB hx316_1
          replace hx316_2 := hC HB hx316_2
          replace hx316_3 := hC HB hx316_3
          obtain ⟨p316, q316⟩ := eT p316 q316
          obtain ⟨p318, q318⟩ : 0 ≤ (t317 : Int) ∧ t317 < (l0.length : Int) := ⟨dA, dA⟩
          obtain ⟨ad318, e318, hx318_0, hx318_1, hx318_2, hx318_3⟩ := at_T89 HR0.out t317 p318 q318
          have hw318_3 := hx318_3
          have hw318_2 := hx318_2
          have hw318_1 := hx318_1
          have hw318_0 := hx318_0
          obtain rfl : ad316 = ad318 := (by injection e318)
          replace hx318_0 := hC HB hx318_0
          replace hx318_1 := hC HB hx318_1
          replace hx318_2 := hC HB hx318_2
          replace hx318_3 := hC HB hx318_3
          obtain ⟨p318, q318⟩ := eT p318 q318
          refine start_ (n := 11) (S := fun w' => w'.cell? (ad316.add ((t312).toNat * 4)) = some (.int .i64 ((rd_T89 l0 t312).f0)) ∧ w'.cell? ⟨(ad316.add ((t312).toNat * 4)).block, (ad316.add ((t312).toNat * 4)).off + 1, none⟩ = some (.int .i64 ((rd_T89 l0 t312).f1)) ∧ w'.cell? ⟨(ad316.add ((t312).toNat * 4)).block, (ad316.add ((t312).toNat * 4)).off + 2, none⟩ = some (.int .i64 ((rd_T89 l0 t312).f2)) ∧ w'.cell? ⟨(ad316.add ((t312).toNat * 4)).block, (ad316.add ((t312).toNat * 4)).off + 3, none⟩ = some (.int .i64 ((rd_T89 l0 t312).f3)) ∧ w'.cell? (ad316.add ((t317).toNat * 4)) = some (.int .i64 ((rd_T89 l0 t317).f0)) ∧ w'.cell? ⟨(ad316.add ((t317).toNat * 4)).block, (ad316.add ((t317).toNat * 4)).off + 1, none⟩ = some (.int .i64 ((rd_T89 l0 t317).f1)) ∧ w'.cell? ⟨(ad316.add ((t317).toNat * 4)).block, (ad316.add ((t317).toNat * 4)).off + 2, none⟩ = some (.int .i64 ((rd_T89 l0 t317).f2)) ∧ w'.cell? ⟨(ad316.add ((t317).toNat * 4)).block, (ad316.add ((t317).toNat * 4)).off + 3, none⟩ = some (.int .i64 ((rd_T89 l0 t317).f3))) (ds := []) (mb 11 0) (by kernel_rfl) rfl rfl ⟨(hC HB hw316_0), (hC HB hw316_1), (hC HB hw316_2), (hC HB hw316_3), (hC HB hw318_0), (hC HB hw318_1), (hC HB hw318_2), (hC HB hw318_3)⟩ (fun hHeld => ?_); refine with_tabW impl_IsTogether.tab12 impl_IsTogether.bits12 (fun HT_ HW_ => ?_)
          generalize wr.drew = w34 at HB hx316_0 hx316_1 hx316_2 hx316_3 hx318_0 hx318_1 hx318_2 hx318_3 hHeld ⊢
          refine pa 0 46 (mb 11 1) HT_ ?_
          refine pa 1 47 (mb 11 3) HT_ ?_
          refine pa 2 48 (mb 11 7) HT_ ?_
          refine pa 4 50 (mb 11 23) HT_ ?_
          refine pa 5 51 (mb 11 55) HT_ ?_
          refine pa 6 52 (mb 11 119) HT_ ?_
          refine ta8 3 49 (mb 11 127) HT_ HW_ hHeld ?_
          refine oa 7 53 (mb 11 255) HT_ (fun K hK => ?_)
          refine gA Try.func119 #[.slice (some ad316) l0.length c0, .int .i64 (rd (l1.take (x15_1 : Int).toNat) x42_3)] ?_
          with_reducible refine (impl_FindPath.calls _ _ l0 (rd (l1.take (x15_1 : Int).toNat) x42_3) t317 _ ?side1 ?side2 A26.out).mono ?_
          (case side1 => exact cB HR0)
          (case side2 => exact HC0.out)
          rintro e w35 ⟨rfl, hb⟩
          refine ⟨_, rfl, ?_⟩
          replace HB := bs HB hb
          (try clear hb)
          (try clear hb2)
          (try clear hk)
          (try clear hi)
          refine hK.out _ _ ⟨(hC HB hw316_0), (hC HB hw316_1), (hC HB hw316_2), (hC HB hw316_3), (hC HB hw318_0), (hC HB hw318_1), (hC HB hw318_2), (hC HB hw318_3)⟩ (fun hHeld => ?_)
          clear hK K
          refine nB ?_
          refine pa 8 54 (mb 11 511) HT_ ?_
          refine ta8 9 55 (mb 11 1023) HT_ HW_ hHeld ?_
          refine oa 10 56 (mb 11 2047) HT_ (fun K hK => ?_)
          refine gA Try.func133 #[.agg #[.int .i64 ((rd_T89 l0 t312).f0), .int .i64 ((rd_T89 l0 t312).f1), .int .i64 ((rd_T89 l0 t312).f2), .int .i64 ((rd_T89 l0 t312).f3)], .agg #[.int .i64 ((rd_T89 l0 t317).f0), .int .i64 ((rd_T89 l0 t317).f1), .int .i64 ((rd_T89 l0 t317).f2), .int .i64 ((rd_T89 l0 t317).f3)]] ?_
          with_reducible refine (impl_Conflict.calls k3 ((rd_T89 l0 t312).f0) ((rd_T89 l0 t312).f1) ((rd_T89 l0 t312).f2) ((rd_T89 l0 t312).f3) ((rd_T89 l0 t317).f0) ((rd_T89 l0 t317).f1) ((rd_T89 l0 t317).f2) ((rd_T89 l0 t317).f3) false _ A29.out).mono ?_
          rintro e w36 ⟨rfl, hb⟩
          refine ⟨_, rfl, ?_⟩
          replace HB := bs HB hb
          (try clear hb)
          (try clear hb2)
          (try clear hk)
          (try clear hi)
          refine hK.out _ _ ⟨(hC HB hw316_0), (hC HB hw316_1), (hC HB hw316_2), (hC HB hw316_3), (hC HB hw318_0), (hC HB hw318_1), (hC HB hw318_2), (hC HB hw318_3)⟩ (fun hHeld => ?_)
          clear hK K
          refine nB ?_
          refine eA HT_ ?_
          try go_wp2
          go_roundg k3
          case measure => have := HK1.out; have := HJ9.out; have := HK3.out; omega
          case rel => exact ⟨(wrap64 (x42_3 + 1)), rS, H', ⟨by have := HK1.out; have := HJ9.out; have := HK3.out; omega⟩, ⟨bA⟩⟩
         rw [if_neg c21] at H
         have c21b0 := decide_eq_false c21
         (try (have c21b1 : decide (x42_3 < max x15_1 0) = false := decide_eq_false (by have g_ : x15_1 ≤ (l1.length : Int) := (by first | exact dA | exact Int.le_of_lt dA | exact (show Aside0 (x15_1 ≤ (l1.length : Int)) by assumption).out); rw [List.length_take] at c21; omega)))
         clear c21
         have H' := Aside0.mk H
         clear H
         go_wp2
         go_roundg k3
         case measure => have := HK1.out; have := HJ9.out; have := HK3.out; omega
         case rel => exact ⟨(wrap64 (x15_1 + 1)), rS, H', ⟨by have := HK1.out; have := HJ9.out; have := HK3.out; omega⟩, ⟨bA⟩⟩
    rw [if_neg c6] at H
    have c6b0 := decide_eq_false c6
    clear c6
    obtain rfl := Option.some.inj H
    go_wp2
    go_ret
    exact ⟨rA, bA⟩
 replace c4 := Bool.eq_false_iff.mpr c4
 subst c4
 have H1 : (some false) = some r := by rw [if_neg (show ¬ (false = true) by decide)] at H; exact H
 clear H
 have H := H1
 clear H1
 obtain rfl := Option.some.inj H
 go_enter Try.func87, Try.ntmps87
 go_wp2_with (first | ((with_reducible refine gate_callee (f := 126) rfl ?_); refine gL (some 11) Try.func126 #[.slice A0 l0.length c0] ?_; (with_reducible refine (impl_ArePaths.calls k _ _ l0 false _ ?_ ?_ A3.out).mono ?_); exact cO HR0; exact HC0.out; rintro e w37 ⟨rfl, hb⟩; refine ⟨_, rfl, ?_⟩; replace HB := bs HB hb; (try clear hb)))
 go_ret
 exact ⟨rA, bA⟩

end Go.Proofs.Ytdkmmefmhfbgkaa.P
