/- Printed by myprint.py (wip/tools) over the kit's print: what Go's functions compute, and that they do. Lean checks it. -/
import Derived.Test.YtdkmmefmhfbgkaaGreatF0
import Derived.Test.YtdkmmefmhfbgkaaGreatFX00b
import Derived.Test.YtdkmmefmhfbgkaaGreatShelf
namespace Go.Proofs.YtdkmmefmhfbgkaaGreat.P
open Go.RowKit Go.Proofs.YtdkmmefmhfbgkaaGreatW.PrintWords Go.Proofs.YtdkmmefmhfbgkaaGreatW.PrintLast Go.Proofs.YtdkmmefmhfbgkaaGreatW.PrintMore Go.Proofs.YtdkmmefmhfbgkaaGreat.Sq
attribute [local go_sem] max2_int min2_int max_two min_two max_three min_three max_four min_four
set_option linter.unusedVariables false
set_option linter.unusedSimpArgs false

/-! ### impl_IsTogether: function 79 -/
mutual
def impl_IsTogether.l0 : Nat → List (S69) → List Int → List Int → Int → Int → Option (Bool)
 | 0, _, _, _, _, _ => none
 | k + 1, x0, x1, x13, x14, x15 => if x15 < x14 then (if 0 ≤ x15 then (if x15 < (x13.length : Int) then ((impl_FindPath.f x0 (rd x13 x15)).bind fun t360 => (if t360 < 0 then (impl_IsTogether.j1 k x0 x1 x15 t360 x13 x14 x15 true) else (if x15 > 0 then (if 0 ≤ (wrap64 (x15 - 1)) then (if (wrap64 (x15 - 1)) < (x1.length : Int) then (impl_IsTogether.j1 k x0 x1 x15 t360 x13 x14 x15 (decide ((rd x13 x15) ≤ (rd x1 (wrap64 (x15 - 1)))))) else (none)) else (none)) else (impl_IsTogether.j1 k x0 x1 x15 t360 x13 x14 x15 false)))) else (none)) else (none)) else (some true)
def impl_IsTogether.j1 : Nat → List (S69) → List Int → Int → Int → List Int → Int → Int → Bool → Option (Bool)
 | 0, _, _, _, _, _, _, _, _ => none
 | k + 1, x0, x1, x5, x7, x13, x14, x15, x37 => if x37 = true then (some false) else (if 0 ≤ x5 then (if x5 ≤ (x1.length : Int) then (impl_IsTogether.l1 k x0 x1 x7 x13 x14 x15 (x1.take (x5 : Int).toNat) ((x1.take (x5 : Int).toNat).length : Int) 0) else (none)) else (none))
def impl_IsTogether.l1 : Nat → List (S69) → List Int → Int → List Int → Int → Int → List Int → Int → Int → Option (Bool)
 | 0, _, _, _, _, _, _, _, _, _ => none
 | k + 1, x0, x1, x7, x13, x14, x15, x40, x41, x42 => if x42 < x41 then (if 0 ≤ x42 then (if x42 < (x40.length : Int) then (if 0 ≤ x7 then (if x7 < (x0.length : Int) then ((impl_FindPath.f x0 (rd x40 x42)).bind fun t365 => (if 0 ≤ t365 then (if t365 < (x0.length : Int) then ((impl_Conflict.f k ((rd_T69 x0 x7).f0) ((rd_T69 x0 x7).f1) ((rd_T69 x0 x7).f2) ((rd_T69 x0 x7).f3) ((rd_T69 x0 t365).f0) ((rd_T69 x0 t365).f1) ((rd_T69 x0 t365).f2) ((rd_T69 x0 t365).f3)).bind fun t367 => (if t367 = true then (some false) else (impl_IsTogether.l1 k x0 x1 x7 x13 x14 x15 x40 x41 (wrap64 (x42 + 1))))) else (none)) else (none))) else (none)) else (none)) else (none)) else (none)) else (impl_IsTogether.l0 k x0 x1 x13 x14 (wrap64 (x15 + 1)))
end
def impl_IsTogether.f (k : Nat) (l0 : List (S69)) (l1 : List Int) : Option (Bool) := (impl_ArePaths.f k l0).bind fun t358 => (if t358 = true then (impl_IsTogether.l0 k l0 l1 l1 (l1.length : Int) 0) else (some false))
theorem impl_IsTogether.mono_l : ∀ k, (∀ y0 y1 y2 y3 y4, LeO (impl_IsTogether.l0 k y0 y1 y2 y3 y4) (impl_IsTogether.l0 (k + 1) y0 y1 y2 y3 y4)) ∧ (∀ y0 y1 y2 y3 y4 y5 y6 y7, LeO (impl_IsTogether.j1 k y0 y1 y2 y3 y4 y5 y6 y7) (impl_IsTogether.j1 (k + 1) y0 y1 y2 y3 y4 y5 y6 y7)) ∧ (∀ y0 y1 y2 y3 y4 y5 y6 y7 y8, LeO (impl_IsTogether.l1 k y0 y1 y2 y3 y4 y5 y6 y7 y8) (impl_IsTogether.l1 (k + 1) y0 y1 y2 y3 y4 y5 y6 y7 y8))
 | 0 => ⟨fun _ _ _ _ _ r h => by simp [impl_IsTogether.l0] at h, fun _ _ _ _ _ _ _ _ r h => by simp [impl_IsTogether.j1] at h, fun _ _ _ _ _ _ _ _ _ r h => by simp [impl_IsTogether.l1] at h⟩
 | k + 1 => by
  obtain ⟨ih0, ih1, ih2⟩ := impl_IsTogether.mono_l k
  refine ⟨?_, ?_, ?_⟩
  ·
   intro y0 y1 y2 y3 y4
   unfold impl_IsTogether.l0
   exact mz5 ih0 ih1 ih2 impl_ArePaths.mono impl_Conflict.mono
  ·
   intro y0 y1 y2 y3 y4 y5 y6 y7
   unfold impl_IsTogether.j1
   exact mz5 ih0 ih1 ih2 impl_ArePaths.mono impl_Conflict.mono
  ·
   intro y0 y1 y2 y3 y4 y5 y6 y7 y8
   unfold impl_IsTogether.l1
   exact mz5 ih0 ih1 ih2 impl_ArePaths.mono impl_Conflict.mono
theorem impl_IsTogether.mono : ∀ a0 a1 k, LeO (impl_IsTogether.f k a0 a1) (impl_IsTogether.f (k + 1) a0 a1) := by
 intro a0 a1 k
 obtain ⟨ih0, ih1, ih2⟩ := impl_IsTogether.mono_l k
 unfold impl_IsTogether.f
 exact mz5 ih0 ih1 ih2 impl_ArePaths.mono impl_Conflict.mono
def impl_IsTogether.T12 : Bool × List (List Nat × List Nat) := (true, [([], []), ([], []), ([0, 1], [0, 1]), ([2], [2]), ([], []), ([], []), ([], []), ([5, 6], [5, 6]), ([4, 7], [4, 7]), ([8], [8]), ([3, 9, 7], [3, 9])])
def impl_IsTogether.B12 : List Nat := [0, 0, 3, 7, 0, 0, 0, 96, 240, 496, 1023]
theorem impl_IsTogether.tab12 : rtab .any (opsOf Tryz.f79 12) = impl_IsTogether.T12 := by kernel_rfl
theorem impl_IsTogether.bits12 : waitsOk impl_IsTogether.T12.2 impl_IsTogether.B12 = true := by kernel_rfl
set_option maxHeartbeats 8000000 in
set_option maxRecDepth 100000 in
theorem impl_IsTogether.calls (k : Nat) (A0 : Option Addr) (c0 : Nat) (l0 : List (S69)) (A1 : Option Addr) (c1 : Nat) (l1 : List Int) (r : Bool) (w : World) (hr0 : Kd.C k69 w A0 l0.length l0) (hc0 : l0.length ≤ c0) (hr1 : Kd.C (Kd.int .i64) w A1 l1.length l1) (hc1 : l1.length ≤ c1) (h : impl_IsTogether.f k l0 l1 = some r) :
  Calls Tryz.prog 79 #[.slice A0 l0.length c0, .slice A1 l1.length c1] w fun e w' => e = .returned (.bool r) ∧ Below w.heap.size w w' := by
 have hu69 := Tryz.underlying69
 have HR0 := Aside0.mk hr0
 have HC0 := Aside0.mk hc0
 clear hr0 hc0
 have HR1 := Aside0.mk hr1
 have HC1 := Aside0.mk hc1
 clear hr1 hc1
 have HB := Aside0.mk (Below.refl w.heap.size w)
 have H : ((impl_ArePaths.f k l0).bind fun t358 => (if t358 = true then (impl_IsTogether.l0 k l0 l1 l1 (l1.length : Int) 0) else (some false))) = some r := h
 clear h
 obtain ⟨t358, A3, H⟩ := bindE H
 try dsimp only at H
 by_cases c4 : t358 = true
 ·
  subst c4
  have H1 : (impl_IsTogether.l0 k l0 l1 l1 (l1.length : Int) 0) = some r := by rw [if_pos rfl] at H; exact H
  clear H
  have H := H1
  clear H1
  have H' := Aside0.mk H
  clear H
  go_enter Tryz.func79, Tryz.ntmps79
  go_wp2_with (first | ((with_reducible refine gate_callee (f := 82) rfl ?_); refine gL (some 11) Tryz.func82 #[.slice A0 l0.length c0] ?_; (with_reducible refine (impl_ArePaths.calls k _ _ l0 true _ ?_ ?_ A3.out).mono ?_); exact cO HR0; exact HC0.out; rintro e w5 ⟨rfl, hb⟩; refine ⟨_, rfl, ?_⟩; replace HB := bs HB hb; (try clear hb)))
  go_loopg [15] k (fun kq v15 w' => ∃ (x15_1 : Int), v15 = .int .i64 x15_1 ∧ Aside0 (impl_IsTogether.l0 kq l0 l1 l1 (l1.length : Int) x15_1 = some r) ∧ Aside0 (kq ≤ k) ∧ Aside0 (Below w.heap.size w w'))
  case atStart => exact ⟨(0), rS, H', ⟨Nat.le_refl _⟩, ⟨bA⟩⟩
  case round =>
   clear H'
   obtain ⟨x15_1, rfl, HA, HK1, HB⟩ := hrel
   cases gk with
   | zero => exact absurd HA.out (by simp [impl_IsTogether.l0])
   | succ k1 =>
    have H := HA.out
    clear HA
    simp only [impl_IsTogether.l0] at H
    by_cases c6 : x15_1 < (l1.length : Int)
    ·
     rw [if_pos c6] at H
     have c6b0 := decide_eq_true c6
     clear c6
     have c7 : 0 ≤ x15_1 := ifN H
     replace H := ifT H
     have c7b0 := decide_eq_true c7
     clear c7
     have c8 : x15_1 < (l1.length : Int) := ifN H
     replace H := ifT H
     have c8b0 := decide_eq_true c8
     clear c8
     obtain ⟨t360, A9, H⟩ := bindE H
     try dsimp only at H
     have HC10 := Aside0.mk H
     clear H
     obtain ⟨p359, q359⟩ : 0 ≤ (x15_1 : Int) ∧ x15_1 < (l1.length : Int) := ⟨dA, dA⟩
     obtain ⟨ad359, e359, hx359_0⟩ := Kd.at_int (Kd.C_below HR1.out HB.out) x15_1 p359 q359
     cases e359
     obtain ⟨p359, q359⟩ := eT p359 q359
     go_upto_region 7 with (first | ((with_reducible refine gate_callee (f := 83) rfl ?_); refine gL (some 22) Tryz.func83 #[.slice A0 l0.length c0, .int .i64 (rd l1 x15_1)] ?_; (with_reducible refine (impl_FindPath.calls _ _ l0 (rd l1 x15_1) t360 _ ?_ ?_ A9.out).mono ?_); exact cB HR0; exact HC0.out; rintro e w11 ⟨rfl, hb⟩; refine ⟨_, rfl, ?_⟩; replace HB := bs HB hb; (try clear hb)))
     (try simp only [Act.put, List.setIfInBounds_toArray, List.set_cons_zero, List.set_cons_succ])
     go_cut [37] (fun v37 wc => ∃ (kq : Nat) (x37_9 : Bool), v37 = .bool x37_9 ∧ Aside0 (impl_IsTogether.j1 kq l0 l1 x15_1 t360 l1 (l1.length : Int) x15_1 x37_9 = some r) ∧ Aside0 (kq ≤ k1) ∧ Aside0 (Below w.heap.size w wc))
     case first =>
      have H := HC10.out
      clear HC10
      by_cases c12 : t360 < 0
      ·
       rw [if_pos c12] at H
       have c12b0 := decide_eq_true c12
       clear c12
       (first | rw [c12b0] | (simp only [i64_w, i32_w]; rw [c12b0]) | skip)
       have H' := Aside0.mk H
       clear H
       go_wp2
       go_meet
       case rel => exact ⟨_, (true), rS, H', ⟨by have := HK1.out; first | omega | exact Nat.le_refl _⟩, ⟨bA⟩⟩
      rw [if_neg c12] at H
      have c12b0 := decide_eq_false c12
      clear c12
      (first | rw [c12b0] | (simp only [i64_w, i32_w]; rw [c12b0]) | skip)
      by_cases c13 : x15_1 > 0
      ·
       rw [if_pos c13] at H
       have c13b0 := decide_eq_true c13
       clear c13
       obtain ⟨ji14, hji14⟩ : ∃ j_ : Int, (wrap64 (x15_1 - 1)) = j_ := ⟨_, rfl⟩
       replace H : (if 0 ≤ (ji14) then (if (ji14) < (l1.length : Int) then (impl_IsTogether.j1 k1 l0 l1 x15_1 t360 l1 (l1.length : Int) x15_1 (decide ((rd l1 x15_1) ≤ (rd l1 (ji14))))) else (none)) else (none)) = some r := by first | (rw [hji14] at H; exact H) | (simp only [hji14] at H ⊢; exact H)
       have hji14w : (IntKind.i64.wrap (x15_1 - 1)) = ji14 := (i64_w _).trans hji14
       have c15 : 0 ≤ (ji14) := ifN H
       replace H := ifT H
       have c15b0 := decide_eq_true c15
       clear c15
       have c16 : (ji14) < (l1.length : Int) := ifN H
       replace H := ifT H
       have c16b0 := decide_eq_true c16
       clear c16
       have H' := Aside0.mk H
       clear H
       obtain ⟨p361, q361⟩ : 0 ≤ ((ji14) : Int) ∧ (ji14) < (l1.length : Int) := ⟨dA, dA⟩
       obtain ⟨ad361, e361, hx361_0⟩ := Kd.at_int (Kd.C_below HR1.out HB.out) (ji14) p361 q361
       obtain rfl : ad359 = ad361 := (by injection e361)
       obtain ⟨p361, q361⟩ := eT p361 q361
       go_wp2
       go_meet
       case rel => exact ⟨_, (decide ((rd l1 x15_1) ≤ (rd l1 (ji14)))), (by first | rfl | (simp; done) | (simp only [← hji14] <;> (first | rfl | simp)) | (simp [*]; done)), H', ⟨by have := HK1.out; first | omega | exact Nat.le_refl _⟩, ⟨bA⟩⟩
      rw [if_neg c13] at H
      have c13b0 := decide_eq_false c13
      clear c13
      have H' := Aside0.mk H
      clear H
      go_wp2
      go_meet
      case rel => exact ⟨_, (false), rS, H', ⟨by have := HK1.out; first | omega | exact Nat.le_refl _⟩, ⟨bA⟩⟩
     case rest =>
      clear HC10
      obtain ⟨kq, x37_9, rfl, HA, HJ9, HB⟩ := hcut
      cases kq with
      | zero => exact absurd HA.out (by simp [impl_IsTogether.j1])
      | succ kj9 =>
       have H := HA.out
       clear HA
       simp only [impl_IsTogether.j1] at H
       by_cases c17 : x37_9 = true
       ·
        subst c17
        have H1 : (some false) = some r := by rw [if_pos rfl] at H; exact H
        clear H
        have H := H1
        clear H1
        obtain rfl := Option.some.inj H
        go_wp2
        go_ret
        exact ⟨rA, bA⟩
       replace c17 := Bool.eq_false_iff.mpr c17
       subst c17
       have H1 : (if 0 ≤ x15_1 then (if x15_1 ≤ (l1.length : Int) then (impl_IsTogether.l1 kj9 l0 l1 t360 l1 (l1.length : Int) x15_1 (l1.take (x15_1 : Int).toNat) ((l1.take (x15_1 : Int).toNat).length : Int) 0) else (none)) else (none)) = some r := by rw [if_neg (show ¬ (false = true) by decide)] at H; exact H
       clear H
       have H := H1
       clear H1
       have c18 : 0 ≤ x15_1 := ifN H
       replace H := ifT H
       have c18b0 := eq_true c18
       have c18b1 := decide_eq_true c18
       clear c18
       have c19 : x15_1 ≤ (l1.length : Int) := ifN H
       replace H := ifT H
       have c19b0 := eq_true c19
       have c19b1 := decide_eq_true c19
       clear c19
       have H' := Aside0.mk H
       clear H
       obtain ⟨i020, hi020, _, hsz20, _⟩ := info_parts info3
       obtain ⟨hcut20, hA20, hC20⟩ := print_take_of (P := Tryz.prog) (Value.int .i64) 0 28 3 .i64 Tryz.underlying28 hi020 hsz20 (some ad359) c1 l1 x15_1 (dA) (dA) HC1.out
       have HR362 := Aside0.mk (Kd.C_of_reads (h1 := fun _ => rfl) (hA20 _ (Kd.reads_of_C HR1.out)))
       have HC362 := Aside0.mk hC20
       clear hA20 hC20 hi020 hsz20
       have HL362 := Aside0.mk (show (x15_1 : Int) ≤ (l1.length : Int) from (dA))
       go_wp2
       go_loopg [42] kj9 (fun kq v42 w' => ∃ (x42_3 : Int), v42 = .int .i64 x42_3 ∧ Aside0 (impl_IsTogether.l1 kq l0 l1 t360 l1 (l1.length : Int) x15_1 (l1.take (x15_1 : Int).toNat) ((l1.take (x15_1 : Int).toNat).length : Int) x42_3 = some r) ∧ Aside0 (kq ≤ kj9) ∧ Aside0 (Below w.heap.size w w'))
       case atStart => exact ⟨(0), rS, H', ⟨Nat.le_refl _⟩, ⟨bA⟩⟩
       case round =>
        clear H'
        obtain ⟨x42_3, rfl, HA, HK3, HB⟩ := hrel
        cases gk with
        | zero => exact absurd HA.out (by simp [impl_IsTogether.l1])
        | succ k3 =>
         have H := HA.out
         clear HA
         simp only [impl_IsTogether.l1] at H
         by_cases c21 : x42_3 < ((l1.take (x15_1 : Int).toNat).length : Int)
         ·
          rw [if_pos c21] at H
          have c21b0 := decide_eq_true c21
          (try (have c21b1 : decide (x42_3 < max x15_1 0) = true := decide_eq_true (by rw [List.length_take] at c21; omega)))
          clear c21
          have c22 : 0 ≤ x42_3 := ifN H
          replace H := ifT H
          have c22b0 := decide_eq_true c22
          clear c22
          have c23 : x42_3 < ((l1.take (x15_1 : Int).toNat).length : Int) := ifN H
          replace H := ifT H
          have c23b0 := decide_eq_true c23
          (try (have c23b1 : decide (x42_3 < max x15_1 0) = true := decide_eq_true (by rw [List.length_take] at c23; omega)))
          clear c23
          have c24 : 0 ≤ t360 := ifN H
          replace H := ifT H
          have c24b0 := decide_eq_true c24
          clear c24
          have c25 : t360 < (l0.length : Int) := ifN H
          replace H := ifT H
          have c25b0 := decide_eq_true c25
          clear c25
          obtain ⟨t365, A26, H⟩ := bindE H
          try dsimp only at H
          have c27 : 0 ≤ t365 := ifN H
          replace H := ifT H
          have c27b0 := decide_eq_true c27
          clear c27
          have c28 : t365 < (l0.length : Int) := ifN H
          replace H := ifT H
          have c28b0 := decide_eq_true c28
          clear c28
          obtain ⟨t367, A29, H⟩ := bindE H
          try dsimp only at H
          by_cases c30 : t367 = true
          ·
           subst c30
           have H1 : (some false) = some r := by rw [if_pos rfl] at H; exact H
           clear H
           have H := H1
           clear H1
           obtain rfl := Option.some.inj H
           obtain ⟨p363, q363⟩ : 0 ≤ (x42_3 : Int) ∧ x42_3 < ((l1.take (x15_1 : Int).toNat).length : Int) := ⟨dA, dA⟩
           (try have q363m : (x42_3 < max x15_1 0) = True := eq_true (of_decide_eq_true (by assumption)))
           obtain ⟨ad363, e363, hx363_0⟩ := Kd.at_int (Kd.C_below HR362.out HB.out) x42_3 p363 q363
           obtain rfl : ad359 = ad363 := (by injection e363)
           obtain ⟨p363, q363⟩ := eT p363 q363
           try go_wp2
           have HBo := HB
           replace HB := db HB
           obtain ⟨p364, q364⟩ : 0 ≤ (t360 : Int) ∧ t360 < (l0.length : Int) := ⟨dA, dA⟩
           obtain ⟨ad364, e364, hx364_0, hx364_1, hx364_2, hx364_3⟩ := at_T69 HR0.out t360 p364 q364
           have hw364_3 := hx364_3
           have hw364_2 := hx364_2
           have hw364_1 := hx364_1
           have hw364_0 := hx364_0
           cases e364
           replace hx364_0 := hC HB hx364_0
           replace hx364_1 := hC HB hx364_1
           replace hx364_2 := hC HB hx364_2
           replace hx364_3 := hC HB hx364_3
           obtain ⟨p364, q364⟩ := eT p364 q364
           obtain ⟨p366, q366⟩ : 0 ≤ (t365 : Int) ∧ t365 < (l0.length : Int) := ⟨dA, dA⟩
           obtain ⟨ad366, e366, hx366_0, hx366_1, hx366_2, hx366_3⟩ := at_T69 HR0.out t365 p366 q366
           have hw366_3 := hx366_3
           have hw366_2 := hx366_2
           have hw366_1 := hx366_1
           have hw366_0 := hx366_0
           obtain rfl : ad364 = ad366 := (by injection e366)
           replace hx366_0 := hC HB hx366_0
           replace hx366_1 := hC HB hx366_1
           replace hx366_2 := hC HB hx366_2
           replace hx366_3 := hC HB hx366_3
           obtain ⟨p366, q366⟩ := eT p366 q366
           refine sw (ds := []) 11 (mb 11 0) impl_IsTogether.tab12 impl_IsTogether.bits12 (h1c (hC HB hw364_0) (h1c (hC HB hw364_1) (h1c (hC HB hw364_2) (h1c (hC HB hw364_3) (h1c (hC HB hw366_0) (h1c (hC HB hw366_1) (h1c (hC HB hw366_2) (h1 (hC HB hw366_3))))))))) (fun hHeld HT_ HW_ => ?_)
           generalize wr.drew = w31 at HB hx364_0 hx364_1 hx364_2 hx364_3 hx366_0 hx366_1 hx366_2 hx366_3 hHeld ⊢
           refine pa 0 46 (mb 11 1) HT_ ?_
           refine pa 1 47 (mb 11 3) HT_ ?_
           refine pa 2 48 (mb 11 7) HT_ ?_
           refine pa 4 50 (mb 11 23) HT_ ?_
           refine pa 5 51 (mb 11 55) HT_ ?_
           refine pa 6 52 (mb 11 119) HT_ ?_
           refine ta8 3 49 (mb 11 127) HT_ HW_ hHeld ?_
           refine oa 7 53 (mb 11 255) HT_ (fun K hK => ?_)
           refine gA Tryz.func83 #[.slice (some ad364) l0.length c0, .int .i64 (rd (l1.take (x15_1 : Int).toNat) x42_3)] ?_
           with_reducible refine (impl_FindPath.calls _ _ l0 (rd (l1.take (x15_1 : Int).toNat) x42_3) t365 _ ?side1 ?side2 A26.out).mono ?_
           (case side1 => exact cB HR0)
           (case side2 => exact HC0.out)
           rintro e w32 ⟨rfl, hb⟩
           refine ⟨_, rfl, ?_⟩
           replace HB := bs HB hb
           (try clear hb)
           (try clear hb2)
           (try clear hk)
           (try clear hi)
           refine hK.out _ _ ⟨(hC HB hw364_0), (hC HB hw364_1), (hC HB hw364_2), (hC HB hw364_3), (hC HB hw366_0), (hC HB hw366_1), (hC HB hw366_2), (hC HB hw366_3)⟩ (fun hHeld => ?_)
           clear hK K
           refine nB ?_
           refine pa 8 54 (mb 11 511) HT_ ?_
           refine ta8 9 55 (mb 11 1023) HT_ HW_ hHeld ?_
           refine oa 10 56 (mb 11 2047) HT_ (fun K hK => ?_)
           refine gA Tryz.func111 #[.agg #[.int .i64 ((rd_T69 l0 t360).f0), .int .i64 ((rd_T69 l0 t360).f1), .int .i64 ((rd_T69 l0 t360).f2), .int .i64 ((rd_T69 l0 t360).f3)], .agg #[.int .i64 ((rd_T69 l0 t365).f0), .int .i64 ((rd_T69 l0 t365).f1), .int .i64 ((rd_T69 l0 t365).f2), .int .i64 ((rd_T69 l0 t365).f3)]] ?_
           with_reducible refine (impl_Conflict.calls k3 ((rd_T69 l0 t360).f0) ((rd_T69 l0 t360).f1) ((rd_T69 l0 t360).f2) ((rd_T69 l0 t360).f3) ((rd_T69 l0 t365).f0) ((rd_T69 l0 t365).f1) ((rd_T69 l0 t365).f2) ((rd_T69 l0 t365).f3) true _ A29.out).mono ?_
           rintro e w33 ⟨rfl, hb⟩
           refine ⟨_, rfl, ?_⟩
           replace HB := bs HB hb
           (try clear hb)
           (try clear hb2)
           (try clear hk)
           (try clear hi)
           refine hK.out _ _ ⟨(hC HB hw364_0), (hC HB hw364_1), (hC HB hw364_2), (hC HB hw364_3), (hC HB hw366_0), (hC HB hw366_1), (hC HB hw366_2), (hC HB hw366_3)⟩ (fun hHeld => ?_)
           clear hK K
           refine nB ?_
           refine eA HT_ ?_
           try go_wp2
           go_ret
           exact ⟨rA, bA⟩
          replace c30 := Bool.eq_false_iff.mpr c30
          subst c30
          have H1 : (impl_IsTogether.l1 k3 l0 l1 t360 l1 (l1.length : Int) x15_1 (l1.take (x15_1 : Int).toNat) ((l1.take (x15_1 : Int).toNat).length : Int) (wrap64 (x42_3 + 1))) = some r := by rw [if_neg (show ¬ (false = true) by decide)] at H; exact H
          clear H
          have H := H1
          clear H1
          have H' := Aside0.mk H
          clear H
          obtain ⟨p363, q363⟩ : 0 ≤ (x42_3 : Int) ∧ x42_3 < ((l1.take (x15_1 : Int).toNat).length : Int) := ⟨dA, dA⟩
          (try have q363m : (x42_3 < max x15_1 0) = True := eq_true (of_decide_eq_true (by assumption)))
          obtain ⟨ad363, e363, hx363_0⟩ := Kd.at_int (Kd.C_below HR362.out HB.out) x42_3 p363 q363
          obtain rfl : ad359 = ad363 := (by injection e363)
          obtain ⟨p363, q363⟩ := eT p363 q363
          try go_wp2
          have HBo := HB
          replace HB := db HB
          obtain ⟨p364, q364⟩ : 0 ≤ (t360 : Int) ∧ t360 < (l0.length : Int) := ⟨dA, dA⟩
          obtain ⟨ad364, e364, hx364_0, hx364_1, hx364_2, hx364_3⟩ := at_T69 HR0.out t360 p364 q364
          have hw364_3 := hx364_3
          have hw364_2 := hx364_2
          have hw364_1 := hx364_1
          have hw364_0 := hx364_0
          cases e364
          replace hx364_0 := hC HB hx364_0
          replace hx364_1 := hC HB hx364_1
          replace hx364_2 := hC HB hx364_2
          replace hx364_3 := hC HB hx364_3
          obtain ⟨p364, q364⟩ := eT p364 q364
          obtain ⟨p366, q366⟩ : 0 ≤ (t365 : Int) ∧ t365 < (l0.length : Int) := ⟨dA, dA⟩
          obtain ⟨ad366, e366, hx366_0, hx366_1, hx366_2, hx366_3⟩ := at_T69 HR0.out t365 p366 q366
          have hw366_3 := hx366_3
          have hw366_2 := hx366_2
          have hw366_1 := hx366_1
          have hw366_0 := hx366_0
          obtain rfl : ad364 = ad366 := (by injection e366)
          replace hx366_0 := hC HB hx366_0
          replace hx366_1 := hC HB hx366_1
          replace hx366_2 := hC HB hx366_2
          replace hx366_3 := hC HB hx366_3
          obtain ⟨p366, q366⟩ := eT p366 q366
          refine sw (ds := []) 11 (mb 11 0) impl_IsTogether.tab12 impl_IsTogether.bits12 (h1c (hC HB hw364_0) (h1c (hC HB hw364_1) (h1c (hC HB hw364_2) (h1c (hC HB hw364_3) (h1c (hC HB hw366_0) (h1c (hC HB hw366_1) (h1c (hC HB hw366_2) (h1 (hC HB hw366_3))))))))) (fun hHeld HT_ HW_ => ?_)
          generalize wr.drew = w34 at HB hx364_0 hx364_1 hx364_2 hx364_3 hx366_0 hx366_1 hx366_2 hx366_3 hHeld ⊢
          refine pa 0 46 (mb 11 1) HT_ ?_
          refine pa 1 47 (mb 11 3) HT_ ?_
          refine pa 2 48 (mb 11 7) HT_ ?_
          refine pa 4 50 (mb 11 23) HT_ ?_
          refine pa 5 51 (mb 11 55) HT_ ?_
          refine pa 6 52 (mb 11 119) HT_ ?_
          refine ta8 3 49 (mb 11 127) HT_ HW_ hHeld ?_
          refine oa 7 53 (mb 11 255) HT_ (fun K hK => ?_)
          refine gA Tryz.func83 #[.slice (some ad364) l0.length c0, .int .i64 (rd (l1.take (x15_1 : Int).toNat) x42_3)] ?_
          with_reducible refine (impl_FindPath.calls _ _ l0 (rd (l1.take (x15_1 : Int).toNat) x42_3) t365 _ ?side1 ?side2 A26.out).mono ?_
          (case side1 => exact cB HR0)
          (case side2 => exact HC0.out)
          rintro e w35 ⟨rfl, hb⟩
          refine ⟨_, rfl, ?_⟩
          replace HB := bs HB hb
          (try clear hb)
          (try clear hb2)
          (try clear hk)
          (try clear hi)
          refine hK.out _ _ ⟨(hC HB hw364_0), (hC HB hw364_1), (hC HB hw364_2), (hC HB hw364_3), (hC HB hw366_0), (hC HB hw366_1), (hC HB hw366_2), (hC HB hw366_3)⟩ (fun hHeld => ?_)
          clear hK K
          refine nB ?_
          refine pa 8 54 (mb 11 511) HT_ ?_
          refine ta8 9 55 (mb 11 1023) HT_ HW_ hHeld ?_
          refine oa 10 56 (mb 11 2047) HT_ (fun K hK => ?_)
          refine gA Tryz.func111 #[.agg #[.int .i64 ((rd_T69 l0 t360).f0), .int .i64 ((rd_T69 l0 t360).f1), .int .i64 ((rd_T69 l0 t360).f2), .int .i64 ((rd_T69 l0 t360).f3)], .agg #[.int .i64 ((rd_T69 l0 t365).f0), .int .i64 ((rd_T69 l0 t365).f1), .int .i64 ((rd_T69 l0 t365).f2), .int .i64 ((rd_T69 l0 t365).f3)]] ?_
          with_reducible refine (impl_Conflict.calls k3 ((rd_T69 l0 t360).f0) ((rd_T69 l0 t360).f1) ((rd_T69 l0 t360).f2) ((rd_T69 l0 t360).f3) ((rd_T69 l0 t365).f0) ((rd_T69 l0 t365).f1) ((rd_T69 l0 t365).f2) ((rd_T69 l0 t365).f3) false _ A29.out).mono ?_
          rintro e w36 ⟨rfl, hb⟩
          refine ⟨_, rfl, ?_⟩
          replace HB := bs HB hb
          (try clear hb)
          (try clear hb2)
          (try clear hk)
          (try clear hi)
          refine hK.out _ _ ⟨(hC HB hw364_0), (hC HB hw364_1), (hC HB hw364_2), (hC HB hw364_3), (hC HB hw366_0), (hC HB hw366_1), (hC HB hw366_2), (hC HB hw366_3)⟩ (fun hHeld => ?_)
          clear hK K
          refine nB ?_
          refine eA HT_ ?_
          try go_wp2
          go_roundg k3
          case measure => have := HK1.out; have := HJ9.out; have := HK3.out; omega
          case rel => exact ⟨(wrap64 (x42_3 + 1)), rS, H', ⟨by have := HK1.out; have := HJ9.out; have := HK3.out; omega⟩, ⟨bA⟩⟩
         rw [if_neg c21] at H
         have c21b0 := decide_eq_false c21
         (try (have c21b1 : decide (x42_3 < max x15_1 0) = false := decide_eq_false (by have g_ : x15_1 ≤ (l1.length : Int) := (by first | exact dA | exact Int.le_of_lt dA | exact (show Aside0 (x15_1 ≤ (l1.length : Int)) by assumption).out); rw [List.length_take] at c21; omega)))
         clear c21
         have H' := Aside0.mk H
         clear H
         go_wp2
         go_roundg k3
         case measure => have := HK1.out; have := HJ9.out; have := HK3.out; omega
         case rel => exact ⟨(wrap64 (x15_1 + 1)), rS, H', ⟨by have := HK1.out; have := HJ9.out; have := HK3.out; omega⟩, ⟨bA⟩⟩
    rw [if_neg c6] at H
    have c6b0 := decide_eq_false c6
    clear c6
    obtain rfl := Option.some.inj H
    go_wp2
    go_ret
    exact ⟨rA, bA⟩
 replace c4 := Bool.eq_false_iff.mpr c4
 subst c4
 have H1 : (some false) = some r := by rw [if_neg (show ¬ (false = true) by decide)] at H; exact H
 clear H
 have H := H1
 clear H1
 obtain rfl := Option.some.inj H
 go_enter Tryz.func79, Tryz.ntmps79
 go_wp2_with (first | ((with_reducible refine gate_callee (f := 82) rfl ?_); refine gL (some 11) Tryz.func82 #[.slice A0 l0.length c0] ?_; (with_reducible refine (impl_ArePaths.calls k _ _ l0 false _ ?_ ?_ A3.out).mono ?_); exact cO HR0; exact HC0.out; rintro e w37 ⟨rfl, hb⟩; refine ⟨_, rfl, ?_⟩; replace HB := bs HB hb; (try clear hb)))
 go_ret
 exact ⟨rA, bA⟩

/-! ### impl_LeastGreen: function 141 -/
def impl_LeastGreen.l0 : Nat → List (S69) → List Int → Int → Int → Option (Int)
 | 0, _, _, _, _ => none
 | k + 1, x0, x8, x9, x10 => if x10 < x9 then (if 0 ≤ x10 then (if x10 < (x8.length : Int) then ((impl_FindPath.f x0 (rd x8 x10)).bind fun t369 => (if t369 ≥ 0 then (if 0 ≤ t369 then (if t369 < (x0.length : Int) then (if ((rd_T69 x0 t369).f1) = 2 then (some 7) else (impl_LeastGreen.l0 k x0 x8 x9 (wrap64 (x10 + 1)))) else (none)) else (none)) else (impl_LeastGreen.l0 k x0 x8 x9 (wrap64 (x10 + 1))))) else (none)) else (none)) else (some 5)
def impl_LeastGreen.f (k : Nat) (l0 : List (S69)) (l1 : List Int) : Option (Int) := impl_LeastGreen.l0 k l0 l1 (l1.length : Int) 0
theorem impl_LeastGreen.mono_l : ∀ k, (∀ y0 y1 y2 y3, LeO (impl_LeastGreen.l0 k y0 y1 y2 y3) (impl_LeastGreen.l0 (k + 1) y0 y1 y2 y3))
 | 0 => fun _ _ _ _ r h => by simp [impl_LeastGreen.l0] at h
 | k + 1 => by
  have ih0 := impl_LeastGreen.mono_l k
  ·
   intro y0 y1 y2 y3
   unfold impl_LeastGreen.l0
   exact mz1 ih0
theorem impl_LeastGreen.mono : ∀ a0 a1 k, LeO (impl_LeastGreen.f k a0 a1) (impl_LeastGreen.f (k + 1) a0 a1) := by
 intro a0 a1 k
 have ih0 := impl_LeastGreen.mono_l k
 unfold impl_LeastGreen.f
 exact mz1 ih0
set_option maxHeartbeats 8000000 in
set_option maxRecDepth 100000 in
theorem impl_LeastGreen.calls (k : Nat) (A0 : Option Addr) (c0 : Nat) (l0 : List (S69)) (A1 : Option Addr) (c1 : Nat) (l1 : List Int) (r : Int) (w : World) (hr0 : Kd.C k69 w A0 l0.length l0) (hc0 : l0.length ≤ c0) (hr1 : Kd.C (Kd.int .i64) w A1 l1.length l1) (hc1 : l1.length ≤ c1) (h : impl_LeastGreen.f k l0 l1 = some r) :
  Calls Tryz.prog 141 #[.slice A0 l0.length c0, .slice A1 l1.length c1] w fun e w' => e = .returned (.int .i64 r) ∧ Below w.heap.size w w' := by
 have HR0 := Aside0.mk hr0
 have HC0 := Aside0.mk hc0
 clear hr0 hc0
 have HR1 := Aside0.mk hr1
 have HC1 := Aside0.mk hc1
 clear hr1 hc1
 have HB := Aside0.mk (Below.refl w.heap.size w)
 have H : (impl_LeastGreen.l0 k l0 l1 (l1.length : Int) 0) = some r := h
 clear h
 have H' := Aside0.mk H
 clear H
 go_enter Tryz.func141, Tryz.ntmps141
 go_wp2
 go_loopg [10] k (fun kq v10 w' => ∃ (x10_1 : Int), v10 = .int .i64 x10_1 ∧ Aside0 (impl_LeastGreen.l0 kq l0 l1 (l1.length : Int) x10_1 = some r) ∧ Aside0 (kq ≤ k) ∧ Aside0 (Below w.heap.size w w'))
 case atStart => exact ⟨(0), rS, H', ⟨Nat.le_refl _⟩, ⟨bA⟩⟩
 case round =>
  clear H'
  obtain ⟨x10_1, rfl, HA, HK1, HB⟩ := hrel
  cases gk with
  | zero => exact absurd HA.out (by simp [impl_LeastGreen.l0])
  | succ k1 =>
   have H := HA.out
   clear HA
   simp only [impl_LeastGreen.l0] at H
   by_cases c3 : x10_1 < (l1.length : Int)
   ·
    rw [if_pos c3] at H
    have c3b0 := decide_eq_true c3
    clear c3
    have c4 : 0 ≤ x10_1 := ifN H
    replace H := ifT H
    have c4b0 := decide_eq_true c4
    clear c4
    have c5 : x10_1 < (l1.length : Int) := ifN H
    replace H := ifT H
    have c5b0 := decide_eq_true c5
    clear c5
    obtain ⟨t369, A6, H⟩ := bindE H
    try dsimp only at H
    by_cases c7 : t369 ≥ 0
    ·
     rw [if_pos c7] at H
     have c7b0 := decide_eq_true c7
     clear c7
     have c8 : 0 ≤ t369 := ifN H
     replace H := ifT H
     have c8b0 := decide_eq_true c8
     clear c8
     have c9 : t369 < (l0.length : Int) := ifN H
     replace H := ifT H
     have c9b0 := decide_eq_true c9
     clear c9
     by_cases c10 : ((rd_T69 l0 t369).f1) = 2
     ·
      rw [if_pos c10] at H
      have c10b0 : (((rd_T69 l0 t369).f1) == 2) = true := beq_iff_eq.mpr c10
      have c10b1 : (((rd_T69 l0 t369).f1) != 2) = false := bne_eq_false_iff_eq.mpr c10
      clear c10
      obtain rfl := Option.some.inj H
      obtain ⟨p368, q368⟩ : 0 ≤ (x10_1 : Int) ∧ x10_1 < (l1.length : Int) := ⟨dA, dA⟩
      obtain ⟨ad368, e368, hx368_0⟩ := Kd.at_int (Kd.C_below HR1.out HB.out) x10_1 p368 q368
      cases e368
      obtain ⟨p368, q368⟩ := eT p368 q368
      go_wp2_with (first | ((with_reducible refine gate_callee (f := 83) rfl ?_); refine gL (some 16) Tryz.func83 #[.slice A0 l0.length c0, .int .i64 (rd l1 x10_1)] ?_; (with_reducible refine (impl_FindPath.calls _ _ l0 (rd l1 x10_1) t369 _ ?_ ?_ A6.out).mono ?_); exact cB HR0; exact HC0.out; rintro e w11 ⟨rfl, hb⟩; refine ⟨_, rfl, ?_⟩; replace HB := bs HB hb; (try clear hb); have p370 : 0 ≤ (t369 : Int) := dA; have q370 : t369 < (l0.length : Int) := dA; obtain ⟨ad370, e370, hx370_0, hx370_1, hx370_2, hx370_3⟩ := at_T69 HR0.out t369 p370 q370; cases e370; replace hx370_0 := hC HB hx370_0; replace hx370_1 := hC HB hx370_1; replace hx370_2 := hC HB hx370_2; replace hx370_3 := hC HB hx370_3; replace p370 := eq_true p370; replace q370 := eq_true q370))
      go_ret
      exact ⟨rA, bA⟩
     rw [if_neg c10] at H
     have c10b0 : (((rd_T69 l0 t369).f1) == 2) = false := beq_eq_false_iff_ne.mpr c10
     have c10b1 : (((rd_T69 l0 t369).f1) != 2) = true := bne_iff_ne.mpr c10
     have H' := Aside0.mk H
     clear H
     obtain ⟨p368, q368⟩ : 0 ≤ (x10_1 : Int) ∧ x10_1 < (l1.length : Int) := ⟨dA, dA⟩
     obtain ⟨ad368, e368, hx368_0⟩ := Kd.at_int (Kd.C_below HR1.out HB.out) x10_1 p368 q368
     cases e368
     obtain ⟨p368, q368⟩ := eT p368 q368
     go_wp2_with (first | ((with_reducible refine gate_callee (f := 83) rfl ?_); refine gL (some 16) Tryz.func83 #[.slice A0 l0.length c0, .int .i64 (rd l1 x10_1)] ?_; (with_reducible refine (impl_FindPath.calls _ _ l0 (rd l1 x10_1) t369 _ ?_ ?_ A6.out).mono ?_); exact cB HR0; exact HC0.out; rintro e w12 ⟨rfl, hb⟩; refine ⟨_, rfl, ?_⟩; replace HB := bs HB hb; (try clear hb); have p370 : 0 ≤ (t369 : Int) := dA; have q370 : t369 < (l0.length : Int) := dA; obtain ⟨ad370, e370, hx370_0, hx370_1, hx370_2, hx370_3⟩ := at_T69 HR0.out t369 p370 q370; cases e370; replace hx370_0 := hC HB hx370_0; replace hx370_1 := hC HB hx370_1; replace hx370_2 := hC HB hx370_2; replace hx370_3 := hC HB hx370_3; replace p370 := eq_true p370; replace q370 := eq_true q370))
     go_roundg k1
     case measure => have := HK1.out; omega
     case rel => exact ⟨(wrap64 (x10_1 + 1)), rS, H', ⟨by have := HK1.out; omega⟩, ⟨bA⟩⟩
    rw [if_neg c7] at H
    have c7b0 := decide_eq_false c7
    clear c7
    have H' := Aside0.mk H
    clear H
    obtain ⟨p368, q368⟩ : 0 ≤ (x10_1 : Int) ∧ x10_1 < (l1.length : Int) := ⟨dA, dA⟩
    obtain ⟨ad368, e368, hx368_0⟩ := Kd.at_int (Kd.C_below HR1.out HB.out) x10_1 p368 q368
    cases e368
    obtain ⟨p368, q368⟩ := eT p368 q368
    go_wp2_with (first | ((with_reducible refine gate_callee (f := 83) rfl ?_); refine gL (some 16) Tryz.func83 #[.slice A0 l0.length c0, .int .i64 (rd l1 x10_1)] ?_; (with_reducible refine (impl_FindPath.calls _ _ l0 (rd l1 x10_1) t369 _ ?_ ?_ A6.out).mono ?_); exact cB HR0; exact HC0.out; rintro e w13 ⟨rfl, hb⟩; refine ⟨_, rfl, ?_⟩; replace HB := bs HB hb; (try clear hb)))
    go_roundg k1
    case measure => have := HK1.out; omega
    case rel => exact ⟨(wrap64 (x10_1 + 1)), rS, H', ⟨by have := HK1.out; omega⟩, ⟨bA⟩⟩
   rw [if_neg c3] at H
   have c3b0 := decide_eq_false c3
   clear c3
   obtain rfl := Option.some.inj H
   go_wp2
   go_ret
   exact ⟨rA, bA⟩

/-! ### slices_Index_int_int: function 143 -/
def slices_Index_int_int.l0 : Nat → List Int → Int → Int → Int → Option (Int)
 | 0, _, _, _, _ => none
 | k + 1, x0, x1, x7, x8 => if x8 < x7 then (if 0 ≤ x8 then (if x8 < (x0.length : Int) then (if x1 = (rd x0 x8) then (some x8) else (slices_Index_int_int.l0 k x0 x1 x7 (wrap64 (x8 + 1)))) else (none)) else (none)) else (some (-1))
def slices_Index_int_int.f (k : Nat) (l0 : List Int) (a1 : Int) : Option (Int) := slices_Index_int_int.l0 k l0 a1 (l0.length : Int) 0
theorem slices_Index_int_int.mono_l : ∀ k, (∀ y0 y1 y2 y3, LeO (slices_Index_int_int.l0 k y0 y1 y2 y3) (slices_Index_int_int.l0 (k + 1) y0 y1 y2 y3))
 | 0 => fun _ _ _ _ r h => by simp [slices_Index_int_int.l0] at h
 | k + 1 => by
  have ih0 := slices_Index_int_int.mono_l k
  ·
   intro y0 y1 y2 y3
   unfold slices_Index_int_int.l0
   exact mz1 ih0
theorem slices_Index_int_int.mono : ∀ a0 a1 k, LeO (slices_Index_int_int.f k a0 a1) (slices_Index_int_int.f (k + 1) a0 a1) := by
 intro a0 a1 k
 have ih0 := slices_Index_int_int.mono_l k
 unfold slices_Index_int_int.f
 exact mz1 ih0
set_option maxHeartbeats 8000000 in
set_option maxRecDepth 100000 in
theorem slices_Index_int_int.calls (k : Nat) (A0 : Option Addr) (c0 : Nat) (l0 : List Int) (a1 : Int) (r : Int) (w : World) (hr0 : Kd.C (Kd.int .i64) w A0 l0.length l0) (hc0 : l0.length ≤ c0) (h : slices_Index_int_int.f k l0 a1 = some r) :
  Calls Tryz.prog 143 #[.slice A0 l0.length c0, .int .i64 a1] w fun e w' => e = .returned (.int .i64 r) ∧ Drawn0 w w' := by
 have HR0 := Aside0.mk hr0
 have HC0 := Aside0.mk hc0
 clear hr0 hc0
 have H : (slices_Index_int_int.l0 k l0 a1 (l0.length : Int) 0) = some r := h
 clear h
 have H' := Aside0.mk H
 clear H
 go_enter Tryz.func143, Tryz.ntmps143
 go_wp2
 go_loopg [8] k (fun kq v8 w' => ∃ (x8_1 : Int), v8 = .int .i64 x8_1 ∧ Aside0 (slices_Index_int_int.l0 kq l0 a1 (l0.length : Int) x8_1 = some r) ∧ Aside0 (kq ≤ k) ∧ Drawn0 w w')
 case atStart => exact ⟨(0), rS, H', ⟨Nat.le_refl _⟩, by repeat (first | exact Drawn0.refl _ | apply Drawn0.step)⟩
 case round =>
  clear H'
  obtain ⟨x8_1, rfl, HA, HK1, ⟨m1, rfl⟩⟩ := hrel
  cases gk with
  | zero => exact absurd HA.out (by simp [slices_Index_int_int.l0])
  | succ k1 =>
   have H := HA.out
   clear HA
   simp only [slices_Index_int_int.l0] at H
   by_cases c3 : x8_1 < (l0.length : Int)
   ·
    rw [if_pos c3] at H
    have c3b0 := decide_eq_true c3
    clear c3
    have c4 : 0 ≤ x8_1 := ifN H
    replace H := ifT H
    have c4b0 := decide_eq_true c4
    clear c4
    have c5 : x8_1 < (l0.length : Int) := ifN H
    replace H := ifT H
    have c5b0 := decide_eq_true c5
    clear c5
    by_cases c6 : a1 = (rd l0 x8_1)
    ·
     rw [if_pos c6] at H
     have c6b0 : (a1 == (rd l0 x8_1)) = true := beq_iff_eq.mpr c6
     have c6b1 : (a1 != (rd l0 x8_1)) = false := bne_eq_false_iff_eq.mpr c6
     clear c6
     obtain rfl := Option.some.inj H
     obtain ⟨p390, q390⟩ : 0 ≤ (x8_1 : Int) ∧ x8_1 < (l0.length : Int) := ⟨dA, dA⟩
     obtain ⟨ad390, e390, hx390_0⟩ := Kd.at_int HR0.out x8_1 p390 q390
     cases e390
     obtain ⟨p390, q390⟩ := eT p390 q390
     go_wp2
     go_ret
     exact ⟨rS, dD⟩
    rw [if_neg c6] at H
    have c6b0 : (a1 == (rd l0 x8_1)) = false := beq_eq_false_iff_ne.mpr c6
    have c6b1 : (a1 != (rd l0 x8_1)) = true := bne_iff_ne.mpr c6
    have H' := Aside0.mk H
    clear H
    obtain ⟨p390, q390⟩ : 0 ≤ (x8_1 : Int) ∧ x8_1 < (l0.length : Int) := ⟨dA, dA⟩
    obtain ⟨ad390, e390, hx390_0⟩ := Kd.at_int HR0.out x8_1 p390 q390
    cases e390
    obtain ⟨p390, q390⟩ := eT p390 q390
    go_wp2
    go_roundg k1
    case measure => have := HK1.out; omega
    case rel => exact ⟨(wrap64 (x8_1 + 1)), rS, H', ⟨by have := HK1.out; omega⟩, by repeat (first | exact Drawn0.refl _ | apply Drawn0.step)⟩
   rw [if_neg c3] at H
   have c3b0 := decide_eq_false c3
   clear c3
   obtain rfl := Option.some.inj H
   go_wp2
   go_ret
   exact ⟨rS, dD⟩

/-! ### slices_Contains_int_int: function 120 -/
def slices_Contains_int_int.f (k : Nat) (l0 : List Int) (a1 : Int) : Option (Bool) := (slices_Index_int_int.f k l0 a1).bind fun t391 => (some (decide (t391 ≥ 0)))
theorem slices_Contains_int_int.mono : ∀ a0 a1 k, LeO (slices_Contains_int_int.f k a0 a1) (slices_Contains_int_int.f (k + 1) a0 a1) := by
 intro a0 a1 k
 unfold slices_Contains_int_int.f
 exact mz1 slices_Index_int_int.mono
set_option maxHeartbeats 8000000 in
set_option maxRecDepth 100000 in
theorem slices_Contains_int_int.calls (k : Nat) (A0 : Option Addr) (c0 : Nat) (l0 : List Int) (a1 : Int) (r : Bool) (w : World) (hr0 : Kd.C (Kd.int .i64) w A0 l0.length l0) (hc0 : l0.length ≤ c0) (h : slices_Contains_int_int.f k l0 a1 = some r) :
  Calls Tryz.prog 120 #[.slice A0 l0.length c0, .int .i64 a1] w fun e w' => e = .returned (.bool r) ∧ Drawn0 w w' := by
 have HR0 := Aside0.mk hr0
 have HC0 := Aside0.mk hc0
 clear hr0 hc0
 have H : ((slices_Index_int_int.f k l0 a1).bind fun t391 => (some (decide (t391 ≥ 0)))) = some r := h
 clear h
 obtain ⟨t391, A3, H⟩ := bindE H
 try dsimp only at H
 obtain rfl := Option.some.inj H
 go_enter Tryz.func120, Tryz.ntmps120
 go_wp2_with (first | ((with_reducible refine gate_callee (f := 143) rfl ?_); refine gL (some 7) Tryz.func143 #[.slice A0 l0.length c0, .int .i64 a1] ?_; (with_reducible refine (slices_Index_int_int.calls k _ _ l0 a1 t391 _ ?_ ?_ A3.out).mono ?_); exact cO HR0; exact HC0.out; rintro e w' ⟨rfl, ⟨nd, rfl⟩⟩; refine ⟨_, rfl, ?_⟩))
 go_ret
 exact ⟨rS, dD⟩

/-! ### impl_isCovered: function 157 -/
theorem impl_isCovered.has_loop (l : List Int) (x : Int) (hl : l.length ≤ 9223372036854775807) : ∀ d i, i + d = l.length → ∃ r : Int, slices_Index_int_int.l0 (d + 1) l x (l.length : Int) (i : Int) = some r ∧ (0 ≤ r ↔ x ∈ l.drop i)
 | 0, i, h => by
  refine ⟨-1, ?_, ?_⟩
  ·
   rw [slices_Index_int_int.l0, if_neg (by omega)]
  ·
   rw [List.drop_of_length_le (by omega)]; simp
 | d + 1, i, h => by
  have hi : i < l.length := by omega
  have e : rd l (i : Int) = l[i] := by unfold rd; simp [List.getD_eq_getElem?_getD, List.getElem?_eq_getElem hi]
  rw [slices_Index_int_int.l0, if_pos (by omega), if_pos (by omega), if_pos (by omega), e, List.drop_eq_getElem_cons hi]
  by_cases c : x = l[i]
  ·
   exact ⟨i, if_pos c, ⟨fun _ => by rw [c]; exact List.mem_cons_self .., fun _ => by omega⟩⟩
  ·
   obtain ⟨r, h1, h2⟩ := impl_isCovered.has_loop l x hl d (i + 1) (by omega)
   refine ⟨r, ?_, h2.trans ⟨fun hh => List.mem_cons_of_mem _ hh, fun hh => (List.mem_cons.1 hh).resolve_left c⟩⟩
   rw [if_neg c, show wrap64 ((i : Int) + 1) = ((i + 1 : Nat) : Int) by unfold wrap64; omega]
   exact h1
theorem impl_isCovered.has (l : List Int) (x : Int) (hl : l.length ≤ 9223372036854775807) : slices_Contains_int_int.f (l.length + 1) l x = some (decide (x ∈ l)) := by
 obtain ⟨r, h1, h2⟩ := impl_isCovered.has_loop l x hl l.length 0 (by omega)
 unfold slices_Contains_int_int.f slices_Index_int_int.f
 have h1 : slices_Index_int_int.l0 (l.length + 1) l x (l.length : Int) 0 = some r := h1
 rw [h1, Option.bind_some]
 congr 1
 exact decide_eq_decide.2 (by rw [List.drop_zero] at h2; exact h2)
def impl_isCovered.q (id : Int) (x : List Int) : Bool := decide (id ∈ x)
set_option maxHeartbeats 400000 in
set_option maxRecDepth 100000 in
theorem impl_isCovered.clo (id : Int) (g : Nat) (A0 : Option Addr) (c0 : Nat) (x : List Int) (w : World) (hc : w.cell? ⟨g, 0, none⟩ = some (.int .i64 id)) (hr : Kd.C (Kd.int .i64) w A0 x.length x) (hk : x.length ≤ c0) :
  Calls Tryz.prog 160 #[.slice A0 x.length c0, .pointer (some ⟨g, 0, none⟩)] w fun e w' => e = .returned (.bool (impl_isCovered.q id x)) ∧ Below w.heap.size w w' := by
 have hg : g < w.heap.size := World.block_lt_of_cell? w _ hc
 have HI := Aside0.mk (impl_isCovered.has x id hr.2.1)
 have HR := Aside0.mk hr
 have HK := Aside0.mk hk
 clear hr hk
 go_enter Tryz.func160, Tryz.ntmps160
 go_wp2_with (go_at_call 120; refine (slices_Contains_int_int.calls _ _ _ x id _ _ ?s1 HK.out HI.out).mono ?_; (case s1 => first | exact HR.out | exact Kd.C_drew HR.out | exact Kd.C_alloc HR.out _); rintro e w1 ⟨rfl, hb1⟩)
 go_ret
 exact ⟨rfl, hb1.below⟩
def impl_isCovered.ix (id : Int) : List (List Int) → Int → Int
 | [], _ => -1
 | x :: l, i => if impl_isCovered.q id x = true then i else impl_isCovered.ix id l (i + 1)
theorem impl_isCovered.ix_hit (id : Int) : ∀ (l : List (List Int)) (i : Int) (m : Nat) (hm : m < l.length), (∀ j (hj : j < m), impl_isCovered.q id (l[j]'(by omega)) = false) → impl_isCovered.q id l[m] = true → impl_isCovered.ix id l i = i + m
 | [], i, m, hm, _, _ => absurd hm (by simp)
 | p :: l, i, 0, hm, _, h => by
  unfold impl_isCovered.ix
  rw [if_pos (show impl_isCovered.q id p = true from h)]
  simp
 | p :: l, i, m + 1, hm, hne, h => by
  unfold impl_isCovered.ix
  have h2 : impl_isCovered.q id p = false := hne 0 (by omega)
  rw [if_neg (by rw [h2]; decide), impl_isCovered.ix_hit id l (i + 1) m (by simpa using hm) (fun j hj => hne (j + 1) (by omega)) h]
  omega
theorem impl_isCovered.ix_miss (id : Int) : ∀ (l : List (List Int)) (i : Int), (∀ j (hj : j < l.length), impl_isCovered.q id l[j] = false) → impl_isCovered.ix id l i = -1
 | [], i, _ => rfl
 | p :: l, i, h => by
  unfold impl_isCovered.ix
  have h2 : impl_isCovered.q id p = false := h 0 (by simp)
  rw [if_neg (by rw [h2]; decide), impl_isCovered.ix_miss id l (i + 1) (fun j hj => h (j + 1) (by simpa using hj))]
theorem impl_isCovered.rd_ (l : List (List Int)) (j : Nat) (hj : j < l.length) : rd_L2 l (j : Int) = l[j] := by
 unfold rd_L2; simp [List.getD_eq_getElem?_getD, List.getElem?_eq_getElem hj]
set_option maxHeartbeats 4000000 in
set_option maxRecDepth 100000 in
theorem impl_isCovered.idx (id : Int) (g : Nat) (A0 : Option Addr) (c0 : Nat) (l0 : List (List Int)) (w : World) (hr0 : Kd.C (Kd.slice 3 (Kd.int .i64)) w A0 l0.length l0) (hc0 : l0.length ≤ c0) (hc : w.cell? ⟨g, 0, none⟩ = some (.int .i64 id)) :
  Calls Tryz.prog 162 #[.slice A0 l0.length c0, .func (.func 160) #[] #[.pointer (some ⟨g, 0, none⟩)]] w fun e w' => e = .returned (.int .i64 (impl_isCovered.ix id l0 0)) ∧ Below w.heap.size w w' := by
 have HC := Aside0.mk hc
 clear hc
 have HR0 := Aside0.mk hr0
 have HC0 := Aside0.mk hc0
 have hlen : l0.length ≤ 9223372036854775807 := hr0.2.1
 clear hr0 hc0
 have HB := Aside0.mk (Below.refl w.heap.size w)
 go_enter Tryz.func162, Tryz.ntmps162
 go_wp2
 go_loopg [5, 8] l0.length (fun gg v5 v8 w' => ∃ kk : Nat, v8 = .int .i64 kk ∧ Aside0 (kk ≤ l0.length) ∧ Aside0 (l0.length - kk ≤ gg) ∧ Aside0 (Below w.heap.size w w') ∧ Aside0 (∀ j (hj : j < kk) (hl : j < l0.length), impl_isCovered.q id l0[j] = false))
 case atStart => exact ⟨0, rfl, ⟨Nat.zero_le _⟩, ⟨by omega⟩, HB, ⟨fun j hj => absurd hj (Nat.not_lt_zero _)⟩⟩
 case round =>
  clear HB
  obtain ⟨kk, rfl, hk, hg, HB, HA⟩ := hrel
  by_cases hlt : kk < l0.length
  ·
   have hltz : decide ((kk : Int) < (l0.length : Int)) = true := decide_eq_true (by omega)
   have hltn : decide (kk < l0.length) = true := decide_eq_true hlt
   have p0 : (0 : Int) ≤ (kk : Int) := by omega
   have q0 : (kk : Int) < (l0.length : Int) := by omega
   have HE := Aside0.mk (impl_isCovered.rd_ l0 kk hlt)
   obtain ⟨ad, A1, c1, e1, hx0, hk1, hr1⟩ := at_L2 HR0.out (kk : Int) p0 q0
   cases e1
   rw [Int.toNat_natCast] at hx0
   replace hx0 := hC HB hx0
   replace p0 := eq_true p0
   replace q0 := eq_true q0
   have hcl := fun (w' : World) (hb : Below w.heap.size w w') => impl_isCovered.clo id g A1 c1 (rd_L2 l0 (kk : Int)) w' ((hb.cell (World.block_lt_of_cell? w _ HC.out)).trans HC.out) (Kd.C_below hr1 hb) hk1
   clear hr1
   have HK1 := Aside0.mk hk1
   clear hk1
   cases hq : impl_isCovered.q id (rd_L2 l0 (kk : Int)) with
   | true =>
    rw [hq] at hcl
    have HCL := Aside0.mk hcl
    have HQ := Aside0.mk hq
    clear hcl hq
    go_wp2_with (go_at_call 160; refine (HCL.out _ HB.out).mono ?_; rintro e w1 ⟨rfl, hb1⟩)
    go_ret
    refine ⟨?_, below_step HB.out hb1⟩
    have hq := HQ.out
    rw [HE.out] at hq
    rw [impl_isCovered.ix_hit id l0 0 kk hlt (fun j hj => HA.out j hj (by omega)) hq, Int.zero_add]
    rfl
   | false =>
    rw [hq] at hcl
    have HCL := Aside0.mk hcl
    have HQ := Aside0.mk hq
    clear hcl hq
    go_wp2_with (go_at_call 160; refine (HCL.out _ HB.out).mono ?_; rintro e w1 ⟨rfl, hb1⟩)
    go_roundg (l0.length - (kk + 1))
    case measure => have := hg.out; omega
    case rel =>
     refine ⟨kk + 1, by go_num, ⟨by omega⟩, ⟨by omega⟩, ⟨below_step HB.out hb1⟩, ⟨fun j hj hl => ?_⟩⟩
     rcases Nat.lt_or_ge j kk with h3 | h3
     ·
      exact HA.out j h3 hl
     ·
      have h4 : j = kk := by omega
      subst h4
      rw [← HE.out]
      exact HQ.out
  ·
   have hge : decide ((kk : Int) < (l0.length : Int)) = false := decide_eq_false (by omega)
   have hgen : decide (kk < l0.length) = false := decide_eq_false hlt
   go_wp2
   go_ret
   refine ⟨?_, HB.out⟩
   rw [impl_isCovered.ix_miss id l0 0 (fun j hj => HA.out j (by omega) hj)]
   rfl
def impl_isCovered.f (l0 : List (List Int)) (a1 : Int) : Option Bool := some (decide (impl_isCovered.ix a1 l0 0 ≥ 0))
set_option maxHeartbeats 400000 in
set_option maxRecDepth 100000 in
theorem impl_isCovered.con (id : Int) (g : Nat) (A0 : Option Addr) (c0 : Nat) (l0 : List (List Int)) (w : World) (hr0 : Kd.C (Kd.slice 3 (Kd.int .i64)) w A0 l0.length l0) (hc0 : l0.length ≤ c0) (hc : w.cell? ⟨g, 0, none⟩ = some (.int .i64 id)) :
  Calls Tryz.prog 159 #[.slice A0 l0.length c0, .func (.func 160) #[] #[.pointer (some ⟨g, 0, none⟩)]] w fun e w' => e = .returned (.bool (decide (impl_isCovered.ix id l0 0 ≥ 0))) ∧ Below w.heap.size w w' := by
 have HC := Aside0.mk hc
 have HR0 := Aside0.mk hr0
 have HC0 := Aside0.mk hc0
 clear hr0 hc0 hc
 go_enter Tryz.func159, Tryz.ntmps159
 go_wp2_with (go_at_call 162; refine (impl_isCovered.idx id g A0 c0 l0 _ HR0.out HC0.out HC.out).mono ?_; rintro e w1 ⟨rfl, hb1⟩)
 go_ret
 exact ⟨rfl, hb1⟩
set_option maxHeartbeats 400000 in
set_option maxRecDepth 100000 in
theorem impl_isCovered.calls (A0 : Option Addr) (c0 : Nat) (l0 : List (List Int)) (a1 : Int) (r : Bool) (w : World) (hr0 : Kd.C (Kd.slice 3 (Kd.int .i64)) w A0 l0.length l0) (hc0 : l0.length ≤ c0) (h : impl_isCovered.f l0 a1 = some r) :
  Calls Tryz.prog 157 #[.slice A0 l0.length c0, .int .i64 a1] w fun e w' => e = .returned (.bool r) ∧ Below w.heap.size w w' := by
 obtain rfl := Option.some.inj h
 have HR0 := Aside0.mk hr0
 have HC0 := Aside0.mk hc0
 clear hr0 hc0 h
 go_enter Tryz.func157, Tryz.ntmps157
 go_wp2_with (go_at_call 159; refine (impl_isCovered.con a1 w.heap.size A0 c0 l0 _ ?s1 HC0.out ?s2).mono ?_; (case s1 => exact Kd.C_alloc HR0.out _); (case s2 => simp); rintro e w1 ⟨rfl, hb1⟩)
 go_ret
 exact ⟨rfl, below_step (below_alloc (Below.refl _ _) _) hb1⟩

/-! ### impl_Covers: function 151 -/
mutual
def impl_Covers.l0 : Nat → List (S69) → List (List Int) → List (List Int) → Int → Int → Option (Bool)
 | 0, _, _, _, _, _ => none
 | k + 1, x0, x1, x12, x13, x14 => if x14 < x13 then (if 0 ≤ x14 then (if x14 < (x12.length : Int) then ((impl_IsTogether.f k x0 (rd_L2 x12 x14)).bind fun t373 => (if t373 = true then (impl_Covers.l0 k x0 x1 x12 x13 (wrap64 (x14 + 1))) else (some false))) else (none)) else (none)) else (impl_Covers.l1 k x1 x0 (x0.length : Int) 0)
def impl_Covers.l1 : Nat → List (List Int) → List (S69) → Int → Int → Option (Bool)
 | 0, _, _, _, _ => none
 | k + 1, x1, x23, x24, x25 => if x25 < x24 then (if 0 ≤ x25 then (if x25 < (x23.length : Int) then ((impl_isCovered.f x1 ((rd_T69 x23 x25).f0)).bind fun t376 => (if t376 = true then (impl_Covers.l1 k x1 x23 x24 (wrap64 (x25 + 1))) else (some false))) else (none)) else (none)) else (some true)
end
def impl_Covers.f (k : Nat) (l0 : List (S69)) (l1 : List (List Int)) : Option (Bool) := (impl_ArePaths.f k l0).bind fun t371 => (if t371 = true then (impl_Covers.l0 k l0 l1 l1 (l1.length : Int) 0) else (some false))
theorem impl_Covers.mono_l : ∀ k, (∀ y0 y1 y2 y3 y4, LeO (impl_Covers.l0 k y0 y1 y2 y3 y4) (impl_Covers.l0 (k + 1) y0 y1 y2 y3 y4)) ∧ (∀ y0 y1 y2 y3, LeO (impl_Covers.l1 k y0 y1 y2 y3) (impl_Covers.l1 (k + 1) y0 y1 y2 y3))
 | 0 => ⟨fun _ _ _ _ _ r h => by simp [impl_Covers.l0] at h, fun _ _ _ _ r h => by simp [impl_Covers.l1] at h⟩
 | k + 1 => by
  obtain ⟨ih0, ih1⟩ := impl_Covers.mono_l k
  refine ⟨?_, ?_⟩
  ·
   intro y0 y1 y2 y3 y4
   unfold impl_Covers.l0
   exact mz4 ih0 ih1 impl_ArePaths.mono impl_IsTogether.mono
  ·
   intro y0 y1 y2 y3
   unfold impl_Covers.l1
   exact mz4 ih0 ih1 impl_ArePaths.mono impl_IsTogether.mono
theorem impl_Covers.mono : ∀ a0 a1 k, LeO (impl_Covers.f k a0 a1) (impl_Covers.f (k + 1) a0 a1) := by
 intro a0 a1 k
 obtain ⟨ih0, ih1⟩ := impl_Covers.mono_l k
 unfold impl_Covers.f
 exact mz4 ih0 ih1 impl_ArePaths.mono impl_IsTogether.mono
set_option maxHeartbeats 8000000 in
set_option maxRecDepth 100000 in
theorem impl_Covers.calls (k : Nat) (A0 : Option Addr) (c0 : Nat) (l0 : List (S69)) (A1 : Option Addr) (c1 : Nat) (l1 : List (List Int)) (r : Bool) (w : World) (hr0 : Kd.C k69 w A0 l0.length l0) (hc0 : l0.length ≤ c0) (hr1 : Kd.C (Kd.slice 3 (Kd.int .i64)) w A1 l1.length l1) (hc1 : l1.length ≤ c1) (h : impl_Covers.f k l0 l1 = some r) :
  Calls Tryz.prog 151 #[.slice A0 l0.length c0, .slice A1 l1.length c1] w fun e w' => e = .returned (.bool r) ∧ Below w.heap.size w w' := by
 have hu69 := Tryz.underlying69
 have HR0 := Aside0.mk hr0
 have HC0 := Aside0.mk hc0
 clear hr0 hc0
 have HR1 := Aside0.mk hr1
 have HC1 := Aside0.mk hc1
 clear hr1 hc1
 have HB := Aside0.mk (Below.refl w.heap.size w)
 have H : ((impl_ArePaths.f k l0).bind fun t371 => (if t371 = true then (impl_Covers.l0 k l0 l1 l1 (l1.length : Int) 0) else (some false))) = some r := h
 clear h
 obtain ⟨t371, A3, H⟩ := bindE H
 try dsimp only at H
 by_cases c4 : t371 = true
 ·
  subst c4
  have H1 : (impl_Covers.l0 k l0 l1 l1 (l1.length : Int) 0) = some r := by rw [if_pos rfl] at H; exact H
  clear H
  have H := H1
  clear H1
  have H' := Aside0.mk H
  clear H
  go_enter Tryz.func151, Tryz.ntmps151
  go_wp2_with (first | ((with_reducible refine gate_callee (f := 82) rfl ?_); refine gL (some 10) Tryz.func82 #[.slice A0 l0.length c0] ?_; (with_reducible refine (impl_ArePaths.calls k _ _ l0 true _ ?_ ?_ A3.out).mono ?_); exact cO HR0; exact HC0.out; rintro e w5 ⟨rfl, hb⟩; refine ⟨_, rfl, ?_⟩; replace HB := bs HB hb; (try clear hb)))
  go_loopg [14] k (fun kq v14 w' => ∃ (x14_1 : Int), v14 = .int .i64 x14_1 ∧ Aside0 (impl_Covers.l0 kq l0 l1 l1 (l1.length : Int) x14_1 = some r) ∧ Aside0 (kq ≤ k) ∧ Aside0 (Below w.heap.size w w'))
  case atStart => exact ⟨(0), rS, H', ⟨Nat.le_refl _⟩, ⟨bA⟩⟩
  case round =>
   clear H'
   obtain ⟨x14_1, rfl, HA, HK1, HB⟩ := hrel
   cases gk with
   | zero => exact absurd HA.out (by simp [impl_Covers.l0])
   | succ k1 =>
    have H := HA.out
    clear HA
    simp only [impl_Covers.l0] at H
    by_cases c6 : x14_1 < (l1.length : Int)
    ·
     rw [if_pos c6] at H
     have c6b0 := decide_eq_true c6
     clear c6
     have c7 : 0 ≤ x14_1 := ifN H
     replace H := ifT H
     have c7b0 := decide_eq_true c7
     clear c7
     have c8 : x14_1 < (l1.length : Int) := ifN H
     replace H := ifT H
     have c8b0 := decide_eq_true c8
     clear c8
     obtain ⟨t373, A9, H⟩ := bindE H
     try dsimp only at H
     by_cases c10 : t373 = true
     ·
      subst c10
      have H1 : (impl_Covers.l0 k1 l0 l1 l1 (l1.length : Int) (wrap64 (x14_1 + 1))) = some r := by rw [if_pos rfl] at H; exact H
      clear H
      have H := H1
      clear H1
      have H' := Aside0.mk H
      clear H
      obtain ⟨p372, q372⟩ : 0 ≤ (x14_1 : Int) ∧ x14_1 < (l1.length : Int) := ⟨dA, dA⟩
      obtain ⟨ad372, A372_0, c372_0, e372, hx372_0, hl372_0, hi372_0⟩ := at_L2 HR1.out x14_1 p372 q372
      cases e372
      replace hx372_0 := hC HB hx372_0
      have HR372_0 := Aside0.mk hi372_0
      have HC372_0 := Aside0.mk hl372_0
      clear hi372_0 hl372_0
      obtain ⟨p372, q372⟩ := eT p372 q372
      go_wp2_with (first | ((with_reducible refine gate_callee (f := 79) rfl ?_); refine gL (some 20) Tryz.func79 #[.slice A0 l0.length c0, .slice A372_0 (rd_L2 l1 x14_1).length c372_0] ?_; (with_reducible refine (impl_IsTogether.calls k1 _ _ l0 _ _ (rd_L2 l1 x14_1) true _ ?_ ?_ ?_ ?_ A9.out).mono ?_); exact cB HR0; exact HC0.out; exact cB HR372_0; exact HC372_0.out; rintro e w11 ⟨rfl, hb⟩; refine ⟨_, rfl, ?_⟩; replace HB := bs HB hb; (try clear hb)))
      go_roundg k1
      case measure => have := HK1.out; omega
      case rel => exact ⟨(wrap64 (x14_1 + 1)), rS, H', ⟨by have := HK1.out; omega⟩, ⟨bA⟩⟩
     replace c10 := Bool.eq_false_iff.mpr c10
     subst c10
     have H1 : (some false) = some r := by rw [if_neg (show ¬ (false = true) by decide)] at H; exact H
     clear H
     have H := H1
     clear H1
     obtain rfl := Option.some.inj H
     obtain ⟨p372, q372⟩ : 0 ≤ (x14_1 : Int) ∧ x14_1 < (l1.length : Int) := ⟨dA, dA⟩
     obtain ⟨ad372, A372_0, c372_0, e372, hx372_0, hl372_0, hi372_0⟩ := at_L2 HR1.out x14_1 p372 q372
     cases e372
     replace hx372_0 := hC HB hx372_0
     have HR372_0 := Aside0.mk hi372_0
     have HC372_0 := Aside0.mk hl372_0
     clear hi372_0 hl372_0
     obtain ⟨p372, q372⟩ := eT p372 q372
     go_wp2_with (first | ((with_reducible refine gate_callee (f := 79) rfl ?_); refine gL (some 20) Tryz.func79 #[.slice A0 l0.length c0, .slice A372_0 (rd_L2 l1 x14_1).length c372_0] ?_; (with_reducible refine (impl_IsTogether.calls k1 _ _ l0 _ _ (rd_L2 l1 x14_1) false _ ?_ ?_ ?_ ?_ A9.out).mono ?_); exact cB HR0; exact HC0.out; exact cB HR372_0; exact HC372_0.out; rintro e w12 ⟨rfl, hb⟩; refine ⟨_, rfl, ?_⟩; replace HB := bs HB hb; (try clear hb)))
     go_ret
     exact ⟨rA, bA⟩
    rw [if_neg c6] at H
    have c6b0 := decide_eq_false c6
    clear c6
    have H' := Aside0.mk H
    clear H
    go_wp2
    go_loopg [25] k1 (fun kq v25 w' => ∃ (x25_2 : Int), v25 = .int .i64 x25_2 ∧ Aside0 (impl_Covers.l1 kq l1 l0 (l0.length : Int) x25_2 = some r) ∧ Aside0 (kq ≤ k1) ∧ Aside0 (Below w.heap.size w w'))
    case atStart => exact ⟨(0), rS, H', ⟨Nat.le_refl _⟩, ⟨bA⟩⟩
    case round =>
     clear H'
     obtain ⟨x25_2, rfl, HA, HK2, HB⟩ := hrel
     cases gk with
     | zero => exact absurd HA.out (by simp [impl_Covers.l1])
     | succ k2 =>
      have H := HA.out
      clear HA
      simp only [impl_Covers.l1] at H
      by_cases c13 : x25_2 < (l0.length : Int)
      ·
       rw [if_pos c13] at H
       have c13b0 := decide_eq_true c13
       clear c13
       have c14 : 0 ≤ x25_2 := ifN H
       replace H := ifT H
       have c14b0 := decide_eq_true c14
       clear c14
       have c15 : x25_2 < (l0.length : Int) := ifN H
       replace H := ifT H
       have c15b0 := decide_eq_true c15
       clear c15
       obtain ⟨t376, A16, H⟩ := bindE H
       try dsimp only at H
       by_cases c17 : t376 = true
       ·
        subst c17
        have H1 : (impl_Covers.l1 k2 l1 l0 (l0.length : Int) (wrap64 (x25_2 + 1))) = some r := by rw [if_pos rfl] at H; exact H
        clear H
        have H := H1
        clear H1
        have H' := Aside0.mk H
        clear H
        obtain ⟨p374, q374⟩ : 0 ≤ (x25_2 : Int) ∧ x25_2 < (l0.length : Int) := ⟨dA, dA⟩
        obtain ⟨ad374, e374, hx374_0, hx374_1, hx374_2, hx374_3⟩ := at_T69 (Kd.C_below HR0.out HB.out) x25_2 p374 q374
        cases e374
        obtain ⟨p374, q374⟩ := eT p374 q374
        go_wp2_with (first | ((with_reducible refine gate_dst (N := 8) rfl ?_); refine bE (N := 8) (cs := #[.int .i64 0, .int .i64 0, .int .i64 0, .int .i64 0]) (t := 69) ?_; intro gb375 hg w18 hbox hb; have BK375 := Aside0.mk (hbox); have GW375 := gw w hg; have GE375 := gw w hg; replace HB := bs HB hb; clear hb hbox hg; obtain ⟨_, _, _, _, _, _, _, _⟩ := blkc4 BK375) | ((with_reducible refine gate_callee (f := 157) rfl ?_); refine gL (some 32) Tryz.func157 #[.slice A1 l1.length c1, .int .i64 ((rd_T69 l0 x25_2).f0)] ?_; (with_reducible refine (impl_isCovered.calls _ _ l1 ((rd_T69 l0 x25_2).f0) true _ ?_ ?_ A16.out).mono ?_); exact Kd.C_below HR1.out bG; exact HC1.out; rintro e w20 ⟨rfl, hb⟩; refine ⟨_, rfl, ?_⟩; replace BK375 := kc (o := .cells #[.int .i64 ((rd_T69 l0 x25_2).f0), .int .i64 ((rd_T69 l0 x25_2).f1), .int .i64 ((rd_T69 l0 x25_2).f2), .int .i64 ((rd_T69 l0 x25_2).f3)] 69 (0, 0)) (kp BK375) hb; replace HB := bs HB hb; (try clear hb)))
        go_roundg k2
        case measure => have := HK1.out; have := HK2.out; omega
        case rel => exact ⟨(wrap64 (x25_2 + 1)), rS, H', ⟨by have := HK1.out; have := HK2.out; omega⟩, ⟨bG⟩⟩
       replace c17 := Bool.eq_false_iff.mpr c17
       subst c17
       have H1 : (some false) = some r := by rw [if_neg (show ¬ (false = true) by decide)] at H; exact H
       clear H
       have H := H1
       clear H1
       obtain rfl := Option.some.inj H
       obtain ⟨p374, q374⟩ : 0 ≤ (x25_2 : Int) ∧ x25_2 < (l0.length : Int) := ⟨dA, dA⟩
       obtain ⟨ad374, e374, hx374_0, hx374_1, hx374_2, hx374_3⟩ := at_T69 (Kd.C_below HR0.out HB.out) x25_2 p374 q374
       cases e374
       obtain ⟨p374, q374⟩ := eT p374 q374
       go_wp2_with (first | ((with_reducible refine gate_dst (N := 8) rfl ?_); refine bE (N := 8) (cs := #[.int .i64 0, .int .i64 0, .int .i64 0, .int .i64 0]) (t := 69) ?_; intro gb375 hg w21 hbox hb; have BK375 := Aside0.mk (hbox); have GW375 := gw w hg; have GE375 := gw w hg; replace HB := bs HB hb; clear hb hbox hg; obtain ⟨_, _, _, _, _, _, _, _⟩ := blkc4 BK375) | ((with_reducible refine gate_callee (f := 157) rfl ?_); refine gL (some 32) Tryz.func157 #[.slice A1 l1.length c1, .int .i64 ((rd_T69 l0 x25_2).f0)] ?_; (with_reducible refine (impl_isCovered.calls _ _ l1 ((rd_T69 l0 x25_2).f0) false _ ?_ ?_ A16.out).mono ?_); exact Kd.C_below HR1.out bG; exact HC1.out; rintro e w23 ⟨rfl, hb⟩; refine ⟨_, rfl, ?_⟩; replace BK375 := kc (o := .cells #[.int .i64 ((rd_T69 l0 x25_2).f0), .int .i64 ((rd_T69 l0 x25_2).f1), .int .i64 ((rd_T69 l0 x25_2).f2), .int .i64 ((rd_T69 l0 x25_2).f3)] 69 (0, 0)) (kp BK375) hb; replace HB := bs HB hb; (try clear hb)))
       go_ret
       exact ⟨rA, bG⟩
      rw [if_neg c13] at H
      have c13b0 := decide_eq_false c13
      clear c13
      obtain rfl := Option.some.inj H
      go_wp2
      go_ret
      exact ⟨rA, bA⟩
 replace c4 := Bool.eq_false_iff.mpr c4
 subst c4
 have H1 : (some false) = some r := by rw [if_neg (show ¬ (false = true) by decide)] at H; exact H
 clear H
 have H := H1
 clear H1
 obtain rfl := Option.some.inj H
 go_enter Tryz.func151, Tryz.ntmps151
 go_wp2_with (first | ((with_reducible refine gate_callee (f := 82) rfl ?_); refine gL (some 10) Tryz.func82 #[.slice A0 l0.length c0] ?_; (with_reducible refine (impl_ArePaths.calls k _ _ l0 false _ ?_ ?_ A3.out).mono ?_); exact cO HR0; exact HC0.out; rintro e w24 ⟨rfl, hb⟩; refine ⟨_, rfl, ?_⟩; replace HB := bs HB hb; (try clear hb)))
 go_ret
 exact ⟨rA, bA⟩

/-! ### impl_IsPlan: function 145 -/
def impl_IsPlan.l0 : Nat → List (S69) → List (List Int) → List (S72) → Int → Int → Option (Bool)
 | 0, _, _, _, _, _ => none
 | k + 1, x0, x5, x13, x14, x15 => if x15 < x14 then (if 0 ≤ x15 then (if x15 < (x13.length : Int) then (if (((rd_T72 x13 x15).f0).length : Int) = 0 then (some false) else ((impl_IsTogether.f k x0 ((rd_T72 x13 x15).f0)).bind fun t384 => (if t384 = true then ((impl_LeastGreen.f k x0 ((rd_T72 x13 x15).f0)).bind fun t385 => ((impl_InRange.f ((rd_T72 x13 x15).f1) t385 60).bind fun t386 => (if t386 = true then (if x5.length < 5864062014805 then (impl_IsPlan.l0 k x0 (x5 ++ [(rd_T72 x13 x15).f0]) x13 x14 (wrap64 (x15 + 1))) else (none)) else (some false)))) else (some false)))) else (none)) else (none)) else ((impl_Covers.f k x0 x5).bind fun t381 => (some t381))
def impl_IsPlan.f (k : Nat) (l0 : List (S69)) (l1 : List (S72)) : Option (Bool) := (impl_InRange.f (l1.length : Int) 1 6).bind fun t377 => (if t377 = true then (impl_IsPlan.l0 k l0 (([] : List (List Int))) l1 (l1.length : Int) 0) else (some false))
theorem impl_IsPlan.mono_l : ∀ k, (∀ y0 y1 y2 y3 y4, LeO (impl_IsPlan.l0 k y0 y1 y2 y3 y4) (impl_IsPlan.l0 (k + 1) y0 y1 y2 y3 y4))
 | 0 => fun _ _ _ _ _ r h => by simp [impl_IsPlan.l0] at h
 | k + 1 => by
  have ih0 := impl_IsPlan.mono_l k
  ·
   intro y0 y1 y2 y3 y4
   unfold impl_IsPlan.l0
   exact mz4 ih0 impl_Covers.mono impl_IsTogether.mono impl_LeastGreen.mono
theorem impl_IsPlan.mono : ∀ a0 a1 k, LeO (impl_IsPlan.f k a0 a1) (impl_IsPlan.f (k + 1) a0 a1) := by
 intro a0 a1 k
 have ih0 := impl_IsPlan.mono_l k
 unfold impl_IsPlan.f
 exact mz4 ih0 impl_Covers.mono impl_IsTogether.mono impl_LeastGreen.mono
def impl_IsPlan.T7 : Bool × List (List Nat × List Nat) := (true, [([], []), ([0], [0]), ([1], [1]), ([2], [2]), ([3], [3]), ([4], [4]), ([4], [4]), ([6, 4], [4, 6]), ([5, 7, 4, 4], [4, 5, 7]), ([8, 4], [4, 8]), ([4, 9], [4, 9]), ([10, 8], [10]), ([11], [11]), ([12, 11], [11, 12]), ([11], [11]), ([11], [11]), ([15, 11], [11, 15]), ([14, 16, 11, 11], [11, 14, 16]), ([13, 17, 17, 11], [11, 13, 17]), ([18, 11], [11, 18]), ([11, 19], [11, 19])])
def impl_IsPlan.B7 : List Nat := [0, 1, 3, 7, 15, 31, 31, 95, 255, 511, 1023, 2047, 4095, 8191, 4095, 4095, 36863, 118783, 262143, 524287, 1048575]
theorem impl_IsPlan.tab7 : rtab .any (opsOf Tryz.f145 7) = impl_IsPlan.T7 := by kernel_rfl
theorem impl_IsPlan.bits7 : waitsOk impl_IsPlan.T7.2 impl_IsPlan.B7 = true := by kernel_rfl
set_option maxHeartbeats 8000000 in
set_option maxRecDepth 100000 in
theorem impl_IsPlan.calls (k : Nat) (A0 : Option Addr) (c0 : Nat) (l0 : List (S69)) (P1_ : Nat → Prop) (A1 : Option Addr) (c1 : Nat) (l1 : List (S72)) (r : Bool) (w : World) (hr0 : Kd.C k69 w A0 l0.length l0) (hc0 : l0.length ≤ c0) (hs1 : Kd.V k72 72 w w.heap.size (fun k_ => P1_ k_) (.slice A1 l1.length c1) l1) (h : impl_IsPlan.f k l0 l1 = some r) :
  Calls Tryz.prog 145 #[.slice A0 l0.length c0, .slice A1 l1.length c1] w fun e w' => e = .returned (.bool r) ∧ Below w.heap.size w w' := by
 have hu72 := Tryz.underlying72
 have HR0 := Aside0.mk hr0
 have HC0 := Aside0.mk hc0
 clear hr0 hc0
 have HO1 := Aside0.mk (show Kd.V k72 72 w w.heap.size (fun k_ => (P1_ k_ ∨ w.heap.size ≤ k_)) (.slice A1 l1.length c1) l1 from Kd.V_mono hs1 (fun k_ hk => .inl hk))
 have HB := Aside0.mk (Below.refl w.heap.size w)
 have H : ((impl_InRange.f (l1.length : Int) 1 6).bind fun t377 => (if t377 = true then (impl_IsPlan.l0 k l0 (([] : List (List Int))) l1 (l1.length : Int) 0) else (some false))) = some r := h
 clear h
 obtain ⟨t377, A3, H⟩ := bindE H
 try dsimp only at H
 by_cases c4 : t377 = true
 ·
  subst c4
  have H1 : (impl_IsPlan.l0 k l0 (([] : List (List Int))) l1 (l1.length : Int) 0) = some r := by rw [if_pos rfl] at H; exact H
  clear H
  have H := H1
  clear H1
  obtain ⟨y378, hy378⟩ : ∃ y_ : List (List Int), y_ = (([] : List (List Int))) := ⟨_, rfl⟩
  replace H : (impl_IsPlan.l0 k l0 y378 l1 (l1.length : Int) 0) = some r := rH H hy378
  have Ny378 := Aside0.mk hy378
  clear hy378
  have H' := Aside0.mk H
  clear H
  go_enter Tryz.func145, Tryz.ntmps145
  go_wp2_with (first | ((with_reducible refine gate_callee (f := 80) rfl ?_); refine gL (some 10) Tryz.func80 #[.int .i64 (l1.length : Int), .int .i64 1, .int .i64 6] ?_; (with_reducible refine (impl_InRange.calls (l1.length : Int) 1 6 true _ A3.out).mono ?_); rintro e w' ⟨rfl, ⟨nd, rfl⟩⟩; refine ⟨_, rfl, ?_⟩) | ((with_reducible refine gate_dst (N := 12) rfl ?_); refine Kd.N_lit (Kd.slice 3 (Kd.int .i64)) _ 28 ?hg (N' := 12) ?hd (xs := ([] : List (List Int))) (inner := []) (ok := (fun k_ => (P1_ k_ ∨ w.heap.size ≤ k_))) (okp := (fun k_ => (P1_ k_ ∨ w.heap.size ≤ k_))) ?hr ?hp (fun _ hk => hk) ((show ∀ k_, w.heap.size ≤ k_ → (fun k_ => (P1_ k_ ∨ w.heap.size ≤ k_)) k_ from fun k_ hk => (.inr (Nat.le_trans (below_size bA) hk))) _ (Nat.le_refl _)) (Below.refl _ _) (Nat.le_refl _) (by simp) ?_; (case hd => rfl); (case hg => rfl); (case hr => first | (go_simp; done) | (go_simp; rfl)); (case hp => exact (Reps.none _ _)); intro v379 w5 ho6 hb hg_ hnew_; clear hg_ hnew_; (first | rw [← Ny378.out] at ho6 | (simp only [Int.reduceToNat] at ho6; rw [← Ny378.out] at ho6)); have n0_ := Aside0.mk (Kd.V_elder' (by (with_reducible repeat (first | apply Kd.V_alloc | apply Kd.V_drewN | apply Kd.V_drew)); exact HO1.out) (by first | exact Kd.N_base ho6 | exact Kd.N_base (Kd.S_N ho6)) hb); have n1_ := Aside0.mk (Kd.N_lower ho6 (below_size bA)); have n2_ := bs HB hb; clear HO1; clear HB; have HO1 := n0_; have HO380 := n1_; have HB := n2_; clear n0_ n1_ n2_; clear hb ho6))
  go_loopg [5, 15] k (fun kq v5 v15 w' => ∃ (x5_1 : List (List Int)) (x15_1 : Int), v15 = .int .i64 x15_1 ∧ Aside0 (impl_IsPlan.l0 kq l0 x5_1 l1 (l1.length : Int) x15_1 = some r) ∧ Aside0 (kq ≤ k) ∧ Aside0 (Kd.N (Kd.slice 3 (Kd.int .i64)) 28 w' w.heap.size (fun k_ => (P1_ k_ ∨ w.heap.size ≤ k_)) v5 x5_1) ∧ Aside0 (Kd.V k72 72 w' w.heap.size (fun k_ => (P1_ k_ ∨ w.heap.size ≤ k_) ∧ some k_ ≠ (v5 : Value).ownBlock) (.slice A1 l1.length c1) l1) ∧ Aside0 (Below w.heap.size w w'))
  case atStart => exact ⟨(y378), (0), rS, H', ⟨Nat.le_refl _⟩, ⟨by (with_reducible repeat (first | apply Kd.N_alloc | apply Kd.N_drewN | apply Kd.N_drew)); exact HO380.out⟩, ⟨by (with_reducible repeat (first | apply Kd.V_alloc | apply Kd.V_drewN | apply Kd.V_drew)); exact HO1.out⟩, ⟨bA⟩⟩
  case round =>
   clear H'
   obtain ⟨x5_1, x15_1, rfl, HA, HK1, HO_5, HO_13, HB⟩ := hrel
   cases gk with
   | zero => exact absurd HA.out (by simp [impl_IsPlan.l0])
   | succ k1 =>
    have H := HA.out
    clear HA
    simp only [impl_IsPlan.l0] at H
    by_cases c7 : x15_1 < (l1.length : Int)
    ·
     rw [if_pos c7] at H
     have c7b0 := decide_eq_true c7
     clear c7
     have c8 : 0 ≤ x15_1 := ifN H
     replace H := ifT H
     have c8b0 := decide_eq_true c8
     clear c8
     have c9 : x15_1 < (l1.length : Int) := ifN H
     replace H := ifT H
     have c9b0 := decide_eq_true c9
     clear c9
     by_cases c10 : (((rd_T72 l1 x15_1).f0).length : Int) = 0
     ·
      rw [if_pos c10] at H
      have c10b0 : ((((rd_T72 l1 x15_1).f0).length : Int) == 0) = true := beq_iff_eq.mpr c10
      have c10b1 : ((((rd_T72 l1 x15_1).f0).length : Int) != 0) = false := bne_eq_false_iff_eq.mpr c10
      clear c10
      obtain rfl := Option.some.inj H
      obtain ⟨p382, q382⟩ : 0 ≤ (x15_1 : Int) ∧ x15_1 < (l1.length : Int) := ⟨dA, dA⟩
      obtain ⟨ad382, A382_0, c382_0, e382, hx382_0, hx382_1, hl382_0, hi382_0⟩ := at_T72 (Kd.V_reads' HO_13.out).2.2 x15_1 p382 q382
      cases e382
      obtain ⟨ce382, hce382, hMe382, hcc382⟩ := Kd.V_get HO_13.out z72 x15_1 p382 (by first | exact q382 | exact dA | (have e_ := (Kd.V_reads' HO_13.out).1; omega))
      obtain ⟨ua382_0, uc382_0, rfl, ul382_0, ge382_0⟩ := k72_openF hMe382
      have hv382_0 := hcc382 0 _ rfl
      rw [Nat.add_zero] at hv382_0
      replace hv382_0 := Option.some.inj (hv382_0.symm.trans hx382_0)
      injection hv382_0 with hva_ hvn_ hvc_
      rw [hva_] at ge382_0
      rw [hvc_] at ul382_0
      have HL382_0 := Aside0.mk (show Kd.V (Kd.int .i64) 3 _ w.heap.size _ _ ((rd_T72 l1 x15_1).f0) from Kd.V_mk ul382_0 ge382_0)
      clear hva_ hvn_ hvc_ ge382_0 ul382_0
      clear hcc382 hce382
      have HR382_0 := Aside0.mk hi382_0
      have HC382_0 := Aside0.mk hl382_0
      clear hi382_0 hl382_0
      obtain ⟨p382, q382⟩ := eT p382 q382
      try go_wp2_with (first | ((with_reducible refine gate_dst (N := 7) rfl ?_); refine bE (N := 7) (cs := #[.slice none 0 0, .int .i64 0]) (t := 72) ?_; intro gb383 hg w11 hbox hb; have n0_ := Aside0.mk (Kd.N_below (Kd.N_elderB (by (with_reducible repeat (first | apply Kd.N_alloc | apply Kd.N_drewN | apply Kd.N_drew)); exact HO_5.out) gb383 (Nat.le_of_eq hg.symm)) hb); have n1_ := Aside0.mk (Kd.V_below (Kd.V_elderB (by (with_reducible repeat (first | apply Kd.V_alloc | apply Kd.V_drewN | apply Kd.V_drew)); exact HO_13.out) gb383 (Nat.le_of_eq hg.symm)) hb); have n2_ := Aside0.mk (Kd.V_below (Kd.V_elderB (by (with_reducible repeat (first | apply Kd.V_alloc | apply Kd.V_drewN | apply Kd.V_drew)); exact HL382_0.out) gb383 (Nat.le_of_eq hg.symm)) hb); have n3_ := Aside0.mk (Kd.C_below (by repeat (first | (with_reducible exact HR382_0.out) | (with_reducible refine Kd.C_alloc ?_ _) | (with_reducible refine Kd.C_drewN ?_ _) | (with_reducible refine Kd.C_drew ?_) | exact HR382_0.out)) hb); have n4_ := bs HB hb; have n5_ := Aside0.mk (hbox); have n6_ := gw w hg; have n7_ := gw w hg; clear HO_5; clear HO_13; clear HL382_0; clear HR382_0; clear HB; have HO_5 := n0_; have HO_13 := n1_; have HL382_0 := n2_; have HR382_0 := n3_; have HB := n4_; have BK383 := n5_; have GW383 := n6_; have GE383 := n7_; clear n0_ n1_ n2_ n3_ n4_ n5_ n6_ n7_; clear hb hbox hg; obtain ⟨_, _, _, _⟩ := blkc2 BK383))
      have n0_ : Aside0 (Kd.N (Kd.slice 3 (Kd.int .i64)) 28 ((w11.setCell ⟨gb383, 0, none⟩ (.slice A382_0 ((rd_T72 l1 x15_1).f0).length c382_0)).setCell ⟨gb383, 1, none⟩ (.int .i64 ((rd_T72 l1 x15_1).f1))) w.heap.size (fun k_ => (P1_ k_ ∨ w.heap.size ≤ k_) ∧ k_ ≠ gb383) u5 x5_1) := ⟨by (with_reducible repeat (first | apply Kd.N_alloc | apply Kd.N_drewN | apply Kd.N_drew)); exact Kd.N_mono (Kd.N_far (p := ⟨gb383, 1, none⟩) (Kd.N_far (p := ⟨gb383, 0, none⟩) (Kd.N_mono HO_5.out (fun k_ hk => (⟨hk, hk.2⟩ : _ ∧ k_ ≠ gb383))) (fun _ hk => hk.2) (.slice A382_0 ((rd_T72 l1 x15_1).f0).length c382_0)) (fun _ hk => hk.2) (.int .i64 ((rd_T72 l1 x15_1).f1))) (fun _ hk => ⟨hk.1.1, hk.1.2⟩)⟩
      have n1_ : Aside0 (Kd.V k72 72 ((w11.setCell ⟨gb383, 0, none⟩ (.slice A382_0 ((rd_T72 l1 x15_1).f0).length c382_0)).setCell ⟨gb383, 1, none⟩ (.int .i64 ((rd_T72 l1 x15_1).f1))) w.heap.size (fun k_ => (P1_ k_ ∨ w.heap.size ≤ k_) ∧ some k_ ≠ (u5 : Value).ownBlock ∧ k_ ≠ gb383) (.slice (some ad382) l1.length c1) l1) := ⟨by (with_reducible repeat (first | apply Kd.V_alloc | apply Kd.V_drewN | apply Kd.V_drew)); exact Kd.V_mono (Kd.V_far (p := ⟨gb383, 1, none⟩) (Kd.V_far (p := ⟨gb383, 0, none⟩) (Kd.V_mono HO_13.out (fun k_ hk => (⟨hk, hk.2⟩ : _ ∧ k_ ≠ gb383))) (fun _ hk => hk.2) (.slice A382_0 ((rd_T72 l1 x15_1).f0).length c382_0)) (fun _ hk => hk.2) (.int .i64 ((rd_T72 l1 x15_1).f1))) (fun _ hk => ⟨hk.1.1.1, ⟨hk.1.1.2, hk.1.2⟩⟩)⟩
      have n2_ : Aside0 (Kd.V (Kd.int .i64) 3 ((w11.setCell ⟨gb383, 0, none⟩ (.slice A382_0 ((rd_T72 l1 x15_1).f0).length c382_0)).setCell ⟨gb383, 1, none⟩ (.int .i64 ((rd_T72 l1 x15_1).f1))) w.heap.size (fun k_ => (P1_ k_ ∨ w.heap.size ≤ k_) ∧ some k_ ≠ (u5 : Value).ownBlock ∧ k_ ≠ gb383) (.slice A382_0 ((rd_T72 l1 x15_1).f0).length c382_0) ((rd_T72 l1 x15_1).f0)) := ⟨by (with_reducible repeat (first | apply Kd.V_alloc | apply Kd.V_drewN | apply Kd.V_drew)); exact Kd.V_mono (Kd.V_far (p := ⟨gb383, 1, none⟩) (Kd.V_far (p := ⟨gb383, 0, none⟩) (Kd.V_mono HL382_0.out (fun k_ hk => (⟨hk, hk.2⟩ : _ ∧ k_ ≠ gb383))) (fun _ hk => hk.2) (.slice A382_0 ((rd_T72 l1 x15_1).f0).length c382_0)) (fun _ hk => hk.2) (.int .i64 ((rd_T72 l1 x15_1).f1))) (fun _ hk => ⟨hk.1.1.1, ⟨hk.1.1.2, hk.1.2⟩⟩)⟩
      have n3_ : Aside0 (((w11.setCell ⟨gb383, 0, none⟩ (.slice A382_0 ((rd_T72 l1 x15_1).f0).length c382_0)).setCell ⟨gb383, 1, none⟩ (.int .i64 ((rd_T72 l1 x15_1).f1))).heap[gb383]? = some (.cells #[.slice A382_0 ((rd_T72 l1 x15_1).f0).length c382_0, .int .i64 ((rd_T72 l1 x15_1).f1)] 72 (0, 0))) := ⟨kp BK383⟩
      have n4_ : Aside0 (Below w.heap.size w ((w11.setCell ⟨gb383, 0, none⟩ (.slice A382_0 ((rd_T72 l1 x15_1).f0).length c382_0)).setCell ⟨gb383, 1, none⟩ (.int .i64 ((rd_T72 l1 x15_1).f1)))) := ⟨bG⟩
      (try clear HO_5)
      (try clear HO_13)
      (try clear HL382_0)
      (try clear BK383)
      (try clear HB)
      generalize ((w11.setCell ⟨gb383, 0, none⟩ (.slice A382_0 ((rd_T72 l1 x15_1).f0).length c382_0)).setCell ⟨gb383, 1, none⟩ (.int .i64 ((rd_T72 l1 x15_1).f1))) = w13 at n0_ n1_ n2_ n3_ n4_ ⊢
      have HO_5 := n0_
      have HO_13 := n1_
      have HL382_0 := n2_
      have BK383 := n3_
      have HB := n4_
      clear n0_ n1_ n2_ n3_ n4_
      replace HO_5 := dn HO_5
      replace HO_13 := dv HO_13
      replace HL382_0 := Aside0.mk (Kd.V_drew HL382_0.out)
      replace BK383 := dk BK383
      have HBo := HB
      replace HB := db HB
      refine sw (ds := []) 21 (mb 21 0) impl_IsPlan.tab7 impl_IsPlan.bits7 (h2 BK383) (fun hHeld HT_ HW_ => ?_)
      generalize w13.drew = w14 at HO_5 HO_13 HL382_0 BK383 HB hHeld ⊢
      refine pa 0 19 (mb 21 1) HT_ ?_
      refine ta2 1 20 (mb 21 3) HT_ HW_ hHeld ?_
      refine pa 2 21 (mb 21 7) HT_ ?_
      refine pa 3 22 (mb 21 15) HT_ ?_
      refine pa 4 23 (mb 21 31) HT_ ?_
      refine pu 5 24 (mb 21 63) HT_ ?_
      refine pu 6 25 (mb 21 127) HT_ ?_
      refine pu 7 26 (mb 21 255) HT_ ?_
      refine pu 8 27 (mb 21 511) HT_ ?_
      refine pu 9 28 (mb 21 1023) HT_ ?_
      refine pa 10 29 (mb 21 2047) HT_ ?_
      refine pa 11 30 (mb 21 4095) HT_ ?_
      refine pu 12 31 (mb 21 8191) HT_ ?_
      refine pu 13 32 (mb 21 16383) HT_ ?_
      refine pu 14 33 (mb 21 32767) HT_ ?_
      refine pu 15 34 (mb 21 65535) HT_ ?_
      refine pu 16 35 (mb 21 131071) HT_ ?_
      refine pu 17 36 (mb 21 262143) HT_ ?_
      refine pu 18 37 (mb 21 524287) HT_ ?_
      refine pu 19 38 (mb 21 1048575) HT_ ?_
      refine pa 20 39 (mb 21 2097151) HT_ ?_
      refine eA HT_ ?_
      try go_wp2
      go_ret
      exact ⟨rA, bG⟩
     rw [if_neg c10] at H
     have c10b0 : ((((rd_T72 l1 x15_1).f0).length : Int) == 0) = false := beq_eq_false_iff_ne.mpr c10
     have c10b1 : ((((rd_T72 l1 x15_1).f0).length : Int) != 0) = true := bne_iff_ne.mpr c10
     have c10b2 : ¬ (((rd_T72 l1 x15_1).f0) = []) := fun h_ => c10 (by rw [h_]; rfl)
     obtain ⟨t384, A15, H⟩ := bindE H
     try dsimp only at H
     by_cases c16 : t384 = true
     ·
      subst c16
      have H1 : ((impl_LeastGreen.f k1 l0 ((rd_T72 l1 x15_1).f0)).bind fun t385 => ((impl_InRange.f ((rd_T72 l1 x15_1).f1) t385 60).bind fun t386 => (if t386 = true then (if x5_1.length < 5864062014805 then (impl_IsPlan.l0 k1 l0 (x5_1 ++ [(rd_T72 l1 x15_1).f0]) l1 (l1.length : Int) (wrap64 (x15_1 + 1))) else (none)) else (some false)))) = some r := by rw [if_pos rfl] at H; exact H
      clear H
      have H := H1
      clear H1
      obtain ⟨t385, A17, H⟩ := bindE H
      try dsimp only at H
      obtain ⟨t386, A18, H⟩ := bindE H
      try dsimp only at H
      by_cases c19 : t386 = true
      ·
       subst c19
       have H1 : (if x5_1.length < 5864062014805 then (impl_IsPlan.l0 k1 l0 (x5_1 ++ [(rd_T72 l1 x15_1).f0]) l1 (l1.length : Int) (wrap64 (x15_1 + 1))) else (none)) = some r := by rw [if_pos rfl] at H; exact H
       clear H
       have H := H1
       clear H1
       have c20 : x5_1.length < 5864062014805 := ifN H
       replace H := ifT H
       have LMc20 := Aside0.mk c20
       clear c20
       obtain ⟨y387, hy387⟩ : ∃ y_ : List (List Int), y_ = (x5_1 ++ [(rd_T72 l1 x15_1).f0]) := ⟨_, rfl⟩
       replace H : (impl_IsPlan.l0 k1 l0 y387 l1 (l1.length : Int) (wrap64 (x15_1 + 1))) = some r := rH H hy387
       have Ny387 := Aside0.mk hy387
       clear hy387
       have H' := Aside0.mk H
       clear H
       obtain ⟨p382, q382⟩ : 0 ≤ (x15_1 : Int) ∧ x15_1 < (l1.length : Int) := ⟨dA, dA⟩
       obtain ⟨ad382, A382_0, c382_0, e382, hx382_0, hx382_1, hl382_0, hi382_0⟩ := at_T72 (Kd.V_reads' HO_13.out).2.2 x15_1 p382 q382
       cases e382
       obtain ⟨ce382, hce382, hMe382, hcc382⟩ := Kd.V_get HO_13.out z72 x15_1 p382 (by first | exact q382 | exact dA | (have e_ := (Kd.V_reads' HO_13.out).1; omega))
       obtain ⟨ua382_0, uc382_0, rfl, ul382_0, ge382_0⟩ := k72_openF hMe382
       have hv382_0 := hcc382 0 _ rfl
       rw [Nat.add_zero] at hv382_0
       replace hv382_0 := Option.some.inj (hv382_0.symm.trans hx382_0)
       injection hv382_0 with hva_ hvn_ hvc_
       rw [hva_] at ge382_0
       rw [hvc_] at ul382_0
       have HL382_0 := Aside0.mk (show Kd.V (Kd.int .i64) 3 _ w.heap.size _ _ ((rd_T72 l1 x15_1).f0) from Kd.V_mk ul382_0 ge382_0)
       clear hva_ hvn_ hvc_ ge382_0 ul382_0
       clear hcc382 hce382
       have HR382_0 := Aside0.mk hi382_0
       have HC382_0 := Aside0.mk hl382_0
       clear hi382_0 hl382_0
       obtain ⟨p382, q382⟩ := eT p382 q382
       try go_wp2_with (first | ((with_reducible refine gate_dst (N := 7) rfl ?_); refine bE (N := 7) (cs := #[.slice none 0 0, .int .i64 0]) (t := 72) ?_; intro gb383 hg w21 hbox hb; have n0_ := Aside0.mk (Kd.N_below (Kd.N_elderB (by (with_reducible repeat (first | apply Kd.N_alloc | apply Kd.N_drewN | apply Kd.N_drew)); exact HO_5.out) gb383 (Nat.le_of_eq hg.symm)) hb); have n1_ := Aside0.mk (Kd.V_below (Kd.V_elderB (by (with_reducible repeat (first | apply Kd.V_alloc | apply Kd.V_drewN | apply Kd.V_drew)); exact HO_13.out) gb383 (Nat.le_of_eq hg.symm)) hb); have n2_ := Aside0.mk (Kd.V_below (Kd.V_elderB (by (with_reducible repeat (first | apply Kd.V_alloc | apply Kd.V_drewN | apply Kd.V_drew)); exact HL382_0.out) gb383 (Nat.le_of_eq hg.symm)) hb); have n3_ := Aside0.mk (Kd.C_below (by repeat (first | (with_reducible exact HR382_0.out) | (with_reducible refine Kd.C_alloc ?_ _) | (with_reducible refine Kd.C_drewN ?_ _) | (with_reducible refine Kd.C_drew ?_) | exact HR382_0.out)) hb); have n4_ := bs HB hb; have n5_ := Aside0.mk (hbox); have n6_ := gw w hg; have n7_ := gw w hg; clear HO_5; clear HO_13; clear HL382_0; clear HR382_0; clear HB; have HO_5 := n0_; have HO_13 := n1_; have HL382_0 := n2_; have HR382_0 := n3_; have HB := n4_; have BK383 := n5_; have GW383 := n6_; have GE383 := n7_; clear n0_ n1_ n2_ n3_ n4_ n5_ n6_ n7_; clear hb hbox hg; obtain ⟨_, _, _, _⟩ := blkc2 BK383))
       have n0_ : Aside0 (Kd.N (Kd.slice 3 (Kd.int .i64)) 28 ((w21.setCell ⟨gb383, 0, none⟩ (.slice A382_0 ((rd_T72 l1 x15_1).f0).length c382_0)).setCell ⟨gb383, 1, none⟩ (.int .i64 ((rd_T72 l1 x15_1).f1))) w.heap.size (fun k_ => (P1_ k_ ∨ w.heap.size ≤ k_) ∧ k_ ≠ gb383) u5 x5_1) := ⟨by (with_reducible repeat (first | apply Kd.N_alloc | apply Kd.N_drewN | apply Kd.N_drew)); exact Kd.N_mono (Kd.N_far (p := ⟨gb383, 1, none⟩) (Kd.N_far (p := ⟨gb383, 0, none⟩) (Kd.N_mono HO_5.out (fun k_ hk => (⟨hk, hk.2⟩ : _ ∧ k_ ≠ gb383))) (fun _ hk => hk.2) (.slice A382_0 ((rd_T72 l1 x15_1).f0).length c382_0)) (fun _ hk => hk.2) (.int .i64 ((rd_T72 l1 x15_1).f1))) (fun _ hk => ⟨hk.1.1, hk.1.2⟩)⟩
       have n1_ : Aside0 (Kd.V k72 72 ((w21.setCell ⟨gb383, 0, none⟩ (.slice A382_0 ((rd_T72 l1 x15_1).f0).length c382_0)).setCell ⟨gb383, 1, none⟩ (.int .i64 ((rd_T72 l1 x15_1).f1))) w.heap.size (fun k_ => (P1_ k_ ∨ w.heap.size ≤ k_) ∧ some k_ ≠ (u5 : Value).ownBlock ∧ k_ ≠ gb383) (.slice (some ad382) l1.length c1) l1) := ⟨by (with_reducible repeat (first | apply Kd.V_alloc | apply Kd.V_drewN | apply Kd.V_drew)); exact Kd.V_mono (Kd.V_far (p := ⟨gb383, 1, none⟩) (Kd.V_far (p := ⟨gb383, 0, none⟩) (Kd.V_mono HO_13.out (fun k_ hk => (⟨hk, hk.2⟩ : _ ∧ k_ ≠ gb383))) (fun _ hk => hk.2) (.slice A382_0 ((rd_T72 l1 x15_1).f0).length c382_0)) (fun _ hk => hk.2) (.int .i64 ((rd_T72 l1 x15_1).f1))) (fun _ hk => ⟨hk.1.1.1, ⟨hk.1.1.2, hk.1.2⟩⟩)⟩
       have n2_ : Aside0 (Kd.V (Kd.int .i64) 3 ((w21.setCell ⟨gb383, 0, none⟩ (.slice A382_0 ((rd_T72 l1 x15_1).f0).length c382_0)).setCell ⟨gb383, 1, none⟩ (.int .i64 ((rd_T72 l1 x15_1).f1))) w.heap.size (fun k_ => (P1_ k_ ∨ w.heap.size ≤ k_) ∧ some k_ ≠ (u5 : Value).ownBlock ∧ k_ ≠ gb383) (.slice A382_0 ((rd_T72 l1 x15_1).f0).length c382_0) ((rd_T72 l1 x15_1).f0)) := ⟨by (with_reducible repeat (first | apply Kd.V_alloc | apply Kd.V_drewN | apply Kd.V_drew)); exact Kd.V_mono (Kd.V_far (p := ⟨gb383, 1, none⟩) (Kd.V_far (p := ⟨gb383, 0, none⟩) (Kd.V_mono HL382_0.out (fun k_ hk => (⟨hk, hk.2⟩ : _ ∧ k_ ≠ gb383))) (fun _ hk => hk.2) (.slice A382_0 ((rd_T72 l1 x15_1).f0).length c382_0)) (fun _ hk => hk.2) (.int .i64 ((rd_T72 l1 x15_1).f1))) (fun _ hk => ⟨hk.1.1.1, ⟨hk.1.1.2, hk.1.2⟩⟩)⟩
       have n3_ : Aside0 (((w21.setCell ⟨gb383, 0, none⟩ (.slice A382_0 ((rd_T72 l1 x15_1).f0).length c382_0)).setCell ⟨gb383, 1, none⟩ (.int .i64 ((rd_T72 l1 x15_1).f1))).heap[gb383]? = some (.cells #[.slice A382_0 ((rd_T72 l1 x15_1).f0).length c382_0, .int .i64 ((rd_T72 l1 x15_1).f1)] 72 (0, 0))) := ⟨kp BK383⟩
       have n4_ : Aside0 (Below w.heap.size w ((w21.setCell ⟨gb383, 0, none⟩ (.slice A382_0 ((rd_T72 l1 x15_1).f0).length c382_0)).setCell ⟨gb383, 1, none⟩ (.int .i64 ((rd_T72 l1 x15_1).f1)))) := ⟨bG⟩
       (try clear HO_5)
       (try clear HO_13)
       (try clear HL382_0)
       (try clear BK383)
       (try clear HB)
       generalize ((w21.setCell ⟨gb383, 0, none⟩ (.slice A382_0 ((rd_T72 l1 x15_1).f0).length c382_0)).setCell ⟨gb383, 1, none⟩ (.int .i64 ((rd_T72 l1 x15_1).f1))) = w23 at n0_ n1_ n2_ n3_ n4_ ⊢
       have HO_5 := n0_
       have HO_13 := n1_
       have HL382_0 := n2_
       have BK383 := n3_
       have HB := n4_
       clear n0_ n1_ n2_ n3_ n4_
       replace HO_5 := dn HO_5
       replace HO_13 := dv HO_13
       replace HL382_0 := Aside0.mk (Kd.V_drew HL382_0.out)
       replace BK383 := dk BK383
       have HBo := HB
       replace HB := db HB
       refine sw (ds := []) 21 (mb 21 0) impl_IsPlan.tab7 impl_IsPlan.bits7 (h2 BK383) (fun hHeld HT_ HW_ => ?_)
       generalize w23.drew = w24 at HO_5 HO_13 HL382_0 BK383 HB hHeld ⊢
       refine pa 0 19 (mb 21 1) HT_ ?_
       refine ta2 1 20 (mb 21 3) HT_ HW_ hHeld ?_
       refine pa 2 21 (mb 21 7) HT_ ?_
       refine pa 3 22 (mb 21 15) HT_ ?_
       refine pa 4 23 (mb 21 31) HT_ ?_
       refine pa 5 24 (mb 21 63) HT_ ?_
       refine pa 6 25 (mb 21 127) HT_ ?_
       refine ta2 7 26 (mb 21 255) HT_ HW_ hHeld ?_
       refine oa 8 27 (mb 21 511) HT_ (fun K hK => ?_)
       refine gA Tryz.func79 #[.slice A0 l0.length c0, .slice A382_0 ((rd_T72 l1 x15_1).f0).length c382_0] ?_
       with_reducible refine (impl_IsTogether.calls k1 _ _ l0 _ _ ((rd_T72 l1 x15_1).f0) true _ ?side1 ?side2 ?side3 ?side4 A15.out).mono ?_
       (case side1 => exact cB HR0)
       (case side2 => exact HC0.out)
       (case side3 => repeat (first | exact ((Kd.V_reads' (by (with_reducible repeat (first | apply Kd.V_alloc | apply Kd.V_drewN | apply Kd.V_drew)); exact HL382_0.out)).2.2) | (with_reducible refine Kd.C_alloc ?_ _) | (with_reducible refine Kd.C_drewN ?_ _) | (with_reducible refine Kd.C_drew ?_)))
       (case side4 => exact HC382_0.out)
       rintro e w25 ⟨rfl, hb⟩
       refine ⟨_, rfl, ?_⟩
       replace HO_5 := Aside0.mk (Kd.N_below (by (with_reducible repeat (first | apply Kd.N_alloc | apply Kd.N_drewN | apply Kd.N_drew)); exact HO_5.out) hb)
       replace HO_13 := Aside0.mk (Kd.V_below (by (with_reducible repeat (first | apply Kd.V_alloc | apply Kd.V_drewN | apply Kd.V_drew)); exact HO_13.out) hb)
       replace HL382_0 := Aside0.mk (Kd.V_below (by (with_reducible repeat (first | apply Kd.V_alloc | apply Kd.V_drewN | apply Kd.V_drew)); exact HL382_0.out) hb)
       replace BK383 := kb BK383 hb
       replace HB := bs HB hb
       (try clear hb)
       (try clear hb2)
       (try clear hk)
       (try clear hi)
       refine hK.out _ _ (cn2 BK383) (fun hHeld => ?_)
       clear hK K
       refine nB ?_
       refine pa 9 28 (mb 21 1023) HT_ ?_
       refine pa 10 29 (mb 21 2047) HT_ ?_
       refine pa 11 30 (mb 21 4095) HT_ ?_
       refine pa 12 31 (mb 21 8191) HT_ ?_
       refine pa 14 33 (mb 21 24575) HT_ ?_
       refine pa 15 34 (mb 21 57343) HT_ ?_
       refine ta2 13 32 (mb 21 65535) HT_ HW_ hHeld ?_
       refine ta2 16 35 (mb 21 131071) HT_ HW_ hHeld ?_
       refine oa 17 36 (mb 21 262143) HT_ (fun K hK => ?_)
       refine gA Tryz.func141 #[.slice A0 l0.length c0, .slice A382_0 ((rd_T72 l1 x15_1).f0).length c382_0] ?_
       with_reducible refine (impl_LeastGreen.calls k1 _ _ l0 _ _ ((rd_T72 l1 x15_1).f0) t385 _ ?side1 ?side2 ?side3 ?side4 A17.out).mono ?_
       (case side1 => exact cB HR0)
       (case side2 => exact HC0.out)
       (case side3 => repeat (first | exact ((Kd.V_reads' (by (with_reducible repeat (first | apply Kd.V_alloc | apply Kd.V_drewN | apply Kd.V_drew)); exact HL382_0.out)).2.2) | (with_reducible refine Kd.C_alloc ?_ _) | (with_reducible refine Kd.C_drewN ?_ _) | (with_reducible refine Kd.C_drew ?_)))
       (case side4 => exact HC382_0.out)
       rintro e w26 ⟨rfl, hb⟩
       refine ⟨_, rfl, ?_⟩
       replace HO_5 := Aside0.mk (Kd.N_below (by (with_reducible repeat (first | apply Kd.N_alloc | apply Kd.N_drewN | apply Kd.N_drew)); exact HO_5.out) hb)
       replace HO_13 := Aside0.mk (Kd.V_below (by (with_reducible repeat (first | apply Kd.V_alloc | apply Kd.V_drewN | apply Kd.V_drew)); exact HO_13.out) hb)
       replace HL382_0 := Aside0.mk (Kd.V_below (by (with_reducible repeat (first | apply Kd.V_alloc | apply Kd.V_drewN | apply Kd.V_drew)); exact HL382_0.out) hb)
       replace BK383 := kb BK383 hb
       replace HB := bs HB hb
       (try clear hb)
       (try clear hb2)
       (try clear hk)
       (try clear hi)
       refine hK.out _ _ (cn2 BK383) (fun hHeld => ?_)
       clear hK K
       refine nB ?_
       refine oa 18 37 (mb 21 524287) HT_ (fun K hK => ?_)
       refine gA Tryz.func80 #[.int .i64 ((rd_T72 l1 x15_1).f1), .int .i64 t385, .int .i64 60] ?_
       with_reducible refine (impl_InRange.calls ((rd_T72 l1 x15_1).f1) t385 60 true _ A18.out).mono ?_
       rintro e w' ⟨rfl, ⟨nd, rfl⟩⟩
       refine ⟨_, rfl, ?_⟩
       refine hK.out _ _ (cn2 BK383) (fun hHeld => ?_)
       clear hK K
       refine nB ?_
       refine pa 19 38 (mb 21 1048575) HT_ ?_
       refine pa 20 39 (mb 21 2097151) HT_ ?_
       refine eA HT_ ?_
       obtain ⟨_, _, _, _⟩ := blkc2 BK383
       try go_wp2_with (first | ((with_reducible refine gate_builtin (b := .append) (xs := #[.tmp 40, .tmp 43]) rfl ?_); at_builtin; refine Kd.N_append (Kd.slice 3 (Kd.int .i64)) (w0 := w) w.heap.size rfl (.tmp 40) (.tmp 43) 137 28 (.slice none 0 0) 24 rfl Tryz.underlying137 info28 rfl (by decide) (by omega) u5 x5_1 ((rd_T72 l1 x15_1).f0) [.slice A382_0 ((rd_T72 l1 x15_1).f0).length c382_0] (fun k_ => (P1_ k_ ∨ w.heap.size ≤ k_) ∧ k_ ≠ gb383) (fun k_ => ((fun k_ => (P1_ k_ ∨ w.heap.size ≤ k_) ∧ k_ ≠ gb383)) k_ ∧ some k_ ≠ (u5 : Value).ownBlock) rfl rfl ?aP (fun _ hk => hk) ?aF ?aO ?aB ?aS ?aL ?_; (case aP => first | exact (Kd.FK_slice_mk (Kd.V_reads' (Kd.V_mono (ok' := (fun k_ => ((fun k_ => (P1_ k_ ∨ w.heap.size ≤ k_) ∧ k_ ≠ gb383)) k_ ∧ some k_ ≠ (u5 : Value).ownBlock)) (HL382_0.out) (fun k_ hk => ⟨⟨hk.1, hk.2.2⟩, hk.2.1⟩))).2.1 (Kd.V_F (Kd.V_mono (ok' := (fun k_ => ((fun k_ => (P1_ k_ ∨ w.heap.size ≤ k_) ∧ k_ ≠ gb383)) k_ ∧ some k_ ≠ (u5 : Value).ownBlock)) (HL382_0.out) (fun k_ hk => ⟨⟨hk.1, hk.2.2⟩, hk.2.1⟩)))) | exact (Kd.FK_slice_mk (Kd.V_reads' (Kd.V_mono (ok' := (fun k_ => ((fun k_ => (P1_ k_ ∨ w.heap.size ≤ k_) ∧ k_ ≠ gb383)) k_ ∧ some k_ ≠ (u5 : Value).ownBlock)) (HL382_0.out) (fun k_ hk => by first | exact ⟨⟨hk.1, hk.2.2⟩, hk.2.1⟩ | exact ⟨⟨hk.1.1, hk.2⟩, hk.1.2⟩ | exact ⟨⟨hk.1.1, hk.1.2⟩, hk.2⟩ | exact ⟨hk.1.1, hk.2, hk.1.2⟩ | exact hk.1 | simp_all))).2.1 (Kd.V_F (Kd.V_mono (ok' := (fun k_ => ((fun k_ => (P1_ k_ ∨ w.heap.size ≤ k_) ∧ k_ ≠ gb383)) k_ ∧ some k_ ≠ (u5 : Value).ownBlock)) (by (with_reducible repeat (first | apply Kd.V_alloc | apply Kd.V_drewN | apply Kd.V_drew)); exact HL382_0.out) (fun k_ hk => by first | exact ⟨⟨hk.1, hk.2.2⟩, hk.2.1⟩ | exact ⟨⟨hk.1.1, hk.2⟩, hk.1.2⟩ | exact ⟨⟨hk.1.1, hk.1.2⟩, hk.2⟩ | exact ⟨hk.1.1, hk.2, hk.1.2⟩ | exact hk.1 | simp_all))))); (case aB => exact bG); (case aF => exact (fun k_ hk => ⟨(.inr (Nat.le_trans (below_size bG) hk)), Kd.freshB (g := gb383) (o := .cells #[.slice A382_0 ((rd_T72 l1 x15_1).f0).length c382_0, .int .i64 ((rd_T72 l1 x15_1).f1)] 72 (0, 0)) (bK BK383) k_ hk⟩)); (case aO => exact (by (with_reducible repeat (first | apply Kd.N_alloc | apply Kd.N_drewN | apply Kd.N_drew)); exact HO_5.out)); (case aS => exact (below_size bG)); (case aL => have := LMc20.out; omega); intro v388 w28 ho hb hg hat; rw [← Ny387.out] at ho; have n0_ := Aside0.mk (Kd.V_afterv (ok := (fun k_ => (P1_ k_ ∨ w.heap.size ≤ k_) ∧ k_ ≠ gb383)) (by (with_reducible repeat (first | apply Kd.V_alloc | apply Kd.V_drewN | apply Kd.V_drew)); exact Kd.V_mono HO_13.out (fun _ hk => ⟨⟨hk.1, hk.2.2⟩, hk.2.1⟩)) hg hat); have n1_ := Aside0.mk (Kd.V_afterv (ok := (fun k_ => (P1_ k_ ∨ w.heap.size ≤ k_) ∧ k_ ≠ gb383)) (by (with_reducible repeat (first | apply Kd.V_alloc | apply Kd.V_drewN | apply Kd.V_drew)); exact Kd.V_mono HL382_0.out (fun _ hk => ⟨⟨hk.1, hk.2.2⟩, hk.2.1⟩)) hg hat); have n2_ := Aside0.mk (blk_grown (g := gb383) (o := .cells #[.slice A382_0 ((rd_T72 l1 x15_1).f0).length c382_0, .int .i64 ((rd_T72 l1 x15_1).f1)] 72 (0, 0)) (bK BK383) hg (Kd.N_ne HO_5.out BK383.out (by decide))); have n3_ := Aside0.mk (hb); have n4_ := Aside0.mk (ho); clear HO_13; clear HL382_0; clear BK383; clear HB; clear HO_5; have HO_13 := n0_; have HL382_0 := n1_; have BK383 := n2_; have HB := n3_; have HO389 := n4_; clear n0_ n1_ n2_ n3_ n4_; clear ho hb hg hat))
       go_roundg k1
       case measure => have := HK1.out; omega
       case rel => exact ⟨(y387), (wrap64 (x15_1 + 1)), rS, H', ⟨by have := HK1.out; omega⟩, ⟨nm HO389 (fun _ hk => hk.1)⟩, ⟨by (with_reducible repeat (first | apply Kd.V_alloc | apply Kd.V_drewN | apply Kd.V_drew)); exact Kd.V_mono HO_13.out (fun _ hk => ⟨hk.1.1, hk.2⟩)⟩, ⟨bG⟩⟩
      replace c19 := Bool.eq_false_iff.mpr c19
      subst c19
      have H1 : (some false) = some r := by rw [if_neg (show ¬ (false = true) by decide)] at H; exact H
      clear H
      have H := H1
      clear H1
      obtain rfl := Option.some.inj H
      obtain ⟨p382, q382⟩ : 0 ≤ (x15_1 : Int) ∧ x15_1 < (l1.length : Int) := ⟨dA, dA⟩
      obtain ⟨ad382, A382_0, c382_0, e382, hx382_0, hx382_1, hl382_0, hi382_0⟩ := at_T72 (Kd.V_reads' HO_13.out).2.2 x15_1 p382 q382
      cases e382
      obtain ⟨ce382, hce382, hMe382, hcc382⟩ := Kd.V_get HO_13.out z72 x15_1 p382 (by first | exact q382 | exact dA | (have e_ := (Kd.V_reads' HO_13.out).1; omega))
      obtain ⟨ua382_0, uc382_0, rfl, ul382_0, ge382_0⟩ := k72_openF hMe382
      have hv382_0 := hcc382 0 _ rfl
      rw [Nat.add_zero] at hv382_0
      replace hv382_0 := Option.some.inj (hv382_0.symm.trans hx382_0)
      injection hv382_0 with hva_ hvn_ hvc_
      rw [hva_] at ge382_0
      rw [hvc_] at ul382_0
      have HL382_0 := Aside0.mk (show Kd.V (Kd.int .i64) 3 _ w.heap.size _ _ ((rd_T72 l1 x15_1).f0) from Kd.V_mk ul382_0 ge382_0)
      clear hva_ hvn_ hvc_ ge382_0 ul382_0
      clear hcc382 hce382
      have HR382_0 := Aside0.mk hi382_0
      have HC382_0 := Aside0.mk hl382_0
      clear hi382_0 hl382_0
      obtain ⟨p382, q382⟩ := eT p382 q382
      try go_wp2_with (first | ((with_reducible refine gate_dst (N := 7) rfl ?_); refine bE (N := 7) (cs := #[.slice none 0 0, .int .i64 0]) (t := 72) ?_; intro gb383 hg w29 hbox hb; have n0_ := Aside0.mk (Kd.N_below (Kd.N_elderB (by (with_reducible repeat (first | apply Kd.N_alloc | apply Kd.N_drewN | apply Kd.N_drew)); exact HO_5.out) gb383 (Nat.le_of_eq hg.symm)) hb); have n1_ := Aside0.mk (Kd.V_below (Kd.V_elderB (by (with_reducible repeat (first | apply Kd.V_alloc | apply Kd.V_drewN | apply Kd.V_drew)); exact HO_13.out) gb383 (Nat.le_of_eq hg.symm)) hb); have n2_ := Aside0.mk (Kd.V_below (Kd.V_elderB (by (with_reducible repeat (first | apply Kd.V_alloc | apply Kd.V_drewN | apply Kd.V_drew)); exact HL382_0.out) gb383 (Nat.le_of_eq hg.symm)) hb); have n3_ := Aside0.mk (Kd.C_below (by repeat (first | (with_reducible exact HR382_0.out) | (with_reducible refine Kd.C_alloc ?_ _) | (with_reducible refine Kd.C_drewN ?_ _) | (with_reducible refine Kd.C_drew ?_) | exact HR382_0.out)) hb); have n4_ := bs HB hb; have n5_ := Aside0.mk (hbox); have n6_ := gw w hg; have n7_ := gw w hg; clear HO_5; clear HO_13; clear HL382_0; clear HR382_0; clear HB; have HO_5 := n0_; have HO_13 := n1_; have HL382_0 := n2_; have HR382_0 := n3_; have HB := n4_; have BK383 := n5_; have GW383 := n6_; have GE383 := n7_; clear n0_ n1_ n2_ n3_ n4_ n5_ n6_ n7_; clear hb hbox hg; obtain ⟨_, _, _, _⟩ := blkc2 BK383))
      have n0_ : Aside0 (Kd.N (Kd.slice 3 (Kd.int .i64)) 28 ((w29.setCell ⟨gb383, 0, none⟩ (.slice A382_0 ((rd_T72 l1 x15_1).f0).length c382_0)).setCell ⟨gb383, 1, none⟩ (.int .i64 ((rd_T72 l1 x15_1).f1))) w.heap.size (fun k_ => (P1_ k_ ∨ w.heap.size ≤ k_) ∧ k_ ≠ gb383) u5 x5_1) := ⟨by (with_reducible repeat (first | apply Kd.N_alloc | apply Kd.N_drewN | apply Kd.N_drew)); exact Kd.N_mono (Kd.N_far (p := ⟨gb383, 1, none⟩) (Kd.N_far (p := ⟨gb383, 0, none⟩) (Kd.N_mono HO_5.out (fun k_ hk => (⟨hk, hk.2⟩ : _ ∧ k_ ≠ gb383))) (fun _ hk => hk.2) (.slice A382_0 ((rd_T72 l1 x15_1).f0).length c382_0)) (fun _ hk => hk.2) (.int .i64 ((rd_T72 l1 x15_1).f1))) (fun _ hk => ⟨hk.1.1, hk.1.2⟩)⟩
      have n1_ : Aside0 (Kd.V k72 72 ((w29.setCell ⟨gb383, 0, none⟩ (.slice A382_0 ((rd_T72 l1 x15_1).f0).length c382_0)).setCell ⟨gb383, 1, none⟩ (.int .i64 ((rd_T72 l1 x15_1).f1))) w.heap.size (fun k_ => (P1_ k_ ∨ w.heap.size ≤ k_) ∧ some k_ ≠ (u5 : Value).ownBlock ∧ k_ ≠ gb383) (.slice (some ad382) l1.length c1) l1) := ⟨by (with_reducible repeat (first | apply Kd.V_alloc | apply Kd.V_drewN | apply Kd.V_drew)); exact Kd.V_mono (Kd.V_far (p := ⟨gb383, 1, none⟩) (Kd.V_far (p := ⟨gb383, 0, none⟩) (Kd.V_mono HO_13.out (fun k_ hk => (⟨hk, hk.2⟩ : _ ∧ k_ ≠ gb383))) (fun _ hk => hk.2) (.slice A382_0 ((rd_T72 l1 x15_1).f0).length c382_0)) (fun _ hk => hk.2) (.int .i64 ((rd_T72 l1 x15_1).f1))) (fun _ hk => ⟨hk.1.1.1, ⟨hk.1.1.2, hk.1.2⟩⟩)⟩
      have n2_ : Aside0 (Kd.V (Kd.int .i64) 3 ((w29.setCell ⟨gb383, 0, none⟩ (.slice A382_0 ((rd_T72 l1 x15_1).f0).length c382_0)).setCell ⟨gb383, 1, none⟩ (.int .i64 ((rd_T72 l1 x15_1).f1))) w.heap.size (fun k_ => (P1_ k_ ∨ w.heap.size ≤ k_) ∧ some k_ ≠ (u5 : Value).ownBlock ∧ k_ ≠ gb383) (.slice A382_0 ((rd_T72 l1 x15_1).f0).length c382_0) ((rd_T72 l1 x15_1).f0)) := ⟨by (with_reducible repeat (first | apply Kd.V_alloc | apply Kd.V_drewN | apply Kd.V_drew)); exact Kd.V_mono (Kd.V_far (p := ⟨gb383, 1, none⟩) (Kd.V_far (p := ⟨gb383, 0, none⟩) (Kd.V_mono HL382_0.out (fun k_ hk => (⟨hk, hk.2⟩ : _ ∧ k_ ≠ gb383))) (fun _ hk => hk.2) (.slice A382_0 ((rd_T72 l1 x15_1).f0).length c382_0)) (fun _ hk => hk.2) (.int .i64 ((rd_T72 l1 x15_1).f1))) (fun _ hk => ⟨hk.1.1.1, ⟨hk.1.1.2, hk.1.2⟩⟩)⟩
      have n3_ : Aside0 (((w29.setCell ⟨gb383, 0, none⟩ (.slice A382_0 ((rd_T72 l1 x15_1).f0).length c382_0)).setCell ⟨gb383, 1, none⟩ (.int .i64 ((rd_T72 l1 x15_1).f1))).heap[gb383]? = some (.cells #[.slice A382_0 ((rd_T72 l1 x15_1).f0).length c382_0, .int .i64 ((rd_T72 l1 x15_1).f1)] 72 (0, 0))) := ⟨kp BK383⟩
      have n4_ : Aside0 (Below w.heap.size w ((w29.setCell ⟨gb383, 0, none⟩ (.slice A382_0 ((rd_T72 l1 x15_1).f0).length c382_0)).setCell ⟨gb383, 1, none⟩ (.int .i64 ((rd_T72 l1 x15_1).f1)))) := ⟨bG⟩
      (try clear HO_5)
      (try clear HO_13)
      (try clear HL382_0)
      (try clear BK383)
      (try clear HB)
      generalize ((w29.setCell ⟨gb383, 0, none⟩ (.slice A382_0 ((rd_T72 l1 x15_1).f0).length c382_0)).setCell ⟨gb383, 1, none⟩ (.int .i64 ((rd_T72 l1 x15_1).f1))) = w31 at n0_ n1_ n2_ n3_ n4_ ⊢
      have HO_5 := n0_
      have HO_13 := n1_
      have HL382_0 := n2_
      have BK383 := n3_
      have HB := n4_
      clear n0_ n1_ n2_ n3_ n4_
      replace HO_5 := dn HO_5
      replace HO_13 := dv HO_13
      replace HL382_0 := Aside0.mk (Kd.V_drew HL382_0.out)
      replace BK383 := dk BK383
      have HBo := HB
      replace HB := db HB
      refine sw (ds := []) 21 (mb 21 0) impl_IsPlan.tab7 impl_IsPlan.bits7 (h2 BK383) (fun hHeld HT_ HW_ => ?_)
      generalize w31.drew = w32 at HO_5 HO_13 HL382_0 BK383 HB hHeld ⊢
      refine pa 0 19 (mb 21 1) HT_ ?_
      refine ta2 1 20 (mb 21 3) HT_ HW_ hHeld ?_
      refine pa 2 21 (mb 21 7) HT_ ?_
      refine pa 3 22 (mb 21 15) HT_ ?_
      refine pa 4 23 (mb 21 31) HT_ ?_
      refine pa 5 24 (mb 21 63) HT_ ?_
      refine pa 6 25 (mb 21 127) HT_ ?_
      refine ta2 7 26 (mb 21 255) HT_ HW_ hHeld ?_
      refine oa 8 27 (mb 21 511) HT_ (fun K hK => ?_)
      refine gA Tryz.func79 #[.slice A0 l0.length c0, .slice A382_0 ((rd_T72 l1 x15_1).f0).length c382_0] ?_
      with_reducible refine (impl_IsTogether.calls k1 _ _ l0 _ _ ((rd_T72 l1 x15_1).f0) true _ ?side1 ?side2 ?side3 ?side4 A15.out).mono ?_
      (case side1 => exact cB HR0)
      (case side2 => exact HC0.out)
      (case side3 => repeat (first | exact ((Kd.V_reads' (by (with_reducible repeat (first | apply Kd.V_alloc | apply Kd.V_drewN | apply Kd.V_drew)); exact HL382_0.out)).2.2) | (with_reducible refine Kd.C_alloc ?_ _) | (with_reducible refine Kd.C_drewN ?_ _) | (with_reducible refine Kd.C_drew ?_)))
      (case side4 => exact HC382_0.out)
      rintro e w33 ⟨rfl, hb⟩
      refine ⟨_, rfl, ?_⟩
      replace HO_5 := Aside0.mk (Kd.N_below (by (with_reducible repeat (first | apply Kd.N_alloc | apply Kd.N_drewN | apply Kd.N_drew)); exact HO_5.out) hb)
      replace HO_13 := Aside0.mk (Kd.V_below (by (with_reducible repeat (first | apply Kd.V_alloc | apply Kd.V_drewN | apply Kd.V_drew)); exact HO_13.out) hb)
      replace HL382_0 := Aside0.mk (Kd.V_below (by (with_reducible repeat (first | apply Kd.V_alloc | apply Kd.V_drewN | apply Kd.V_drew)); exact HL382_0.out) hb)
      replace BK383 := kb BK383 hb
      replace HB := bs HB hb
      (try clear hb)
      (try clear hb2)
      (try clear hk)
      (try clear hi)
      refine hK.out _ _ (cn2 BK383) (fun hHeld => ?_)
      clear hK K
      refine nB ?_
      refine pa 9 28 (mb 21 1023) HT_ ?_
      refine pa 10 29 (mb 21 2047) HT_ ?_
      refine pa 11 30 (mb 21 4095) HT_ ?_
      refine pa 12 31 (mb 21 8191) HT_ ?_
      refine pa 14 33 (mb 21 24575) HT_ ?_
      refine pa 15 34 (mb 21 57343) HT_ ?_
      refine ta2 13 32 (mb 21 65535) HT_ HW_ hHeld ?_
      refine ta2 16 35 (mb 21 131071) HT_ HW_ hHeld ?_
      refine oa 17 36 (mb 21 262143) HT_ (fun K hK => ?_)
      refine gA Tryz.func141 #[.slice A0 l0.length c0, .slice A382_0 ((rd_T72 l1 x15_1).f0).length c382_0] ?_
      with_reducible refine (impl_LeastGreen.calls k1 _ _ l0 _ _ ((rd_T72 l1 x15_1).f0) t385 _ ?side1 ?side2 ?side3 ?side4 A17.out).mono ?_
      (case side1 => exact cB HR0)
      (case side2 => exact HC0.out)
      (case side3 => repeat (first | exact ((Kd.V_reads' (by (with_reducible repeat (first | apply Kd.V_alloc | apply Kd.V_drewN | apply Kd.V_drew)); exact HL382_0.out)).2.2) | (with_reducible refine Kd.C_alloc ?_ _) | (with_reducible refine Kd.C_drewN ?_ _) | (with_reducible refine Kd.C_drew ?_)))
      (case side4 => exact HC382_0.out)
      rintro e w34 ⟨rfl, hb⟩
      refine ⟨_, rfl, ?_⟩
      replace HO_5 := Aside0.mk (Kd.N_below (by (with_reducible repeat (first | apply Kd.N_alloc | apply Kd.N_drewN | apply Kd.N_drew)); exact HO_5.out) hb)
      replace HO_13 := Aside0.mk (Kd.V_below (by (with_reducible repeat (first | apply Kd.V_alloc | apply Kd.V_drewN | apply Kd.V_drew)); exact HO_13.out) hb)
      replace HL382_0 := Aside0.mk (Kd.V_below (by (with_reducible repeat (first | apply Kd.V_alloc | apply Kd.V_drewN | apply Kd.V_drew)); exact HL382_0.out) hb)
      replace BK383 := kb BK383 hb
      replace HB := bs HB hb
      (try clear hb)
      (try clear hb2)
      (try clear hk)
      (try clear hi)
      refine hK.out _ _ (cn2 BK383) (fun hHeld => ?_)
      clear hK K
      refine nB ?_
      refine oa 18 37 (mb 21 524287) HT_ (fun K hK => ?_)
      refine gA Tryz.func80 #[.int .i64 ((rd_T72 l1 x15_1).f1), .int .i64 t385, .int .i64 60] ?_
      with_reducible refine (impl_InRange.calls ((rd_T72 l1 x15_1).f1) t385 60 false _ A18.out).mono ?_
      rintro e w' ⟨rfl, ⟨nd, rfl⟩⟩
      refine ⟨_, rfl, ?_⟩
      refine hK.out _ _ (cn2 BK383) (fun hHeld => ?_)
      clear hK K
      refine nB ?_
      refine pa 19 38 (mb 21 1048575) HT_ ?_
      refine pa 20 39 (mb 21 2097151) HT_ ?_
      refine eA HT_ ?_
      try go_wp2
      go_ret
      exact ⟨rA, bG⟩
     replace c16 := Bool.eq_false_iff.mpr c16
     subst c16
     have H1 : (some false) = some r := by rw [if_neg (show ¬ (false = true) by decide)] at H; exact H
     clear H
     have H := H1
     clear H1
     obtain rfl := Option.some.inj H
     obtain ⟨p382, q382⟩ : 0 ≤ (x15_1 : Int) ∧ x15_1 < (l1.length : Int) := ⟨dA, dA⟩
     obtain ⟨ad382, A382_0, c382_0, e382, hx382_0, hx382_1, hl382_0, hi382_0⟩ := at_T72 (Kd.V_reads' HO_13.out).2.2 x15_1 p382 q382
     cases e382
     obtain ⟨ce382, hce382, hMe382, hcc382⟩ := Kd.V_get HO_13.out z72 x15_1 p382 (by first | exact q382 | exact dA | (have e_ := (Kd.V_reads' HO_13.out).1; omega))
     obtain ⟨ua382_0, uc382_0, rfl, ul382_0, ge382_0⟩ := k72_openF hMe382
     have hv382_0 := hcc382 0 _ rfl
     rw [Nat.add_zero] at hv382_0
     replace hv382_0 := Option.some.inj (hv382_0.symm.trans hx382_0)
     injection hv382_0 with hva_ hvn_ hvc_
     rw [hva_] at ge382_0
     rw [hvc_] at ul382_0
     have HL382_0 := Aside0.mk (show Kd.V (Kd.int .i64) 3 _ w.heap.size _ _ ((rd_T72 l1 x15_1).f0) from Kd.V_mk ul382_0 ge382_0)
     clear hva_ hvn_ hvc_ ge382_0 ul382_0
     clear hcc382 hce382
     have HR382_0 := Aside0.mk hi382_0
     have HC382_0 := Aside0.mk hl382_0
     clear hi382_0 hl382_0
     obtain ⟨p382, q382⟩ := eT p382 q382
     try go_wp2_with (first | ((with_reducible refine gate_dst (N := 7) rfl ?_); refine bE (N := 7) (cs := #[.slice none 0 0, .int .i64 0]) (t := 72) ?_; intro gb383 hg w35 hbox hb; have n0_ := Aside0.mk (Kd.N_below (Kd.N_elderB (by (with_reducible repeat (first | apply Kd.N_alloc | apply Kd.N_drewN | apply Kd.N_drew)); exact HO_5.out) gb383 (Nat.le_of_eq hg.symm)) hb); have n1_ := Aside0.mk (Kd.V_below (Kd.V_elderB (by (with_reducible repeat (first | apply Kd.V_alloc | apply Kd.V_drewN | apply Kd.V_drew)); exact HO_13.out) gb383 (Nat.le_of_eq hg.symm)) hb); have n2_ := Aside0.mk (Kd.V_below (Kd.V_elderB (by (with_reducible repeat (first | apply Kd.V_alloc | apply Kd.V_drewN | apply Kd.V_drew)); exact HL382_0.out) gb383 (Nat.le_of_eq hg.symm)) hb); have n3_ := Aside0.mk (Kd.C_below (by repeat (first | (with_reducible exact HR382_0.out) | (with_reducible refine Kd.C_alloc ?_ _) | (with_reducible refine Kd.C_drewN ?_ _) | (with_reducible refine Kd.C_drew ?_) | exact HR382_0.out)) hb); have n4_ := bs HB hb; have n5_ := Aside0.mk (hbox); have n6_ := gw w hg; have n7_ := gw w hg; clear HO_5; clear HO_13; clear HL382_0; clear HR382_0; clear HB; have HO_5 := n0_; have HO_13 := n1_; have HL382_0 := n2_; have HR382_0 := n3_; have HB := n4_; have BK383 := n5_; have GW383 := n6_; have GE383 := n7_; clear n0_ n1_ n2_ n3_ n4_ n5_ n6_ n7_; clear hb hbox hg; obtain ⟨_, _, _, _⟩ := blkc2 BK383))
     have n0_ : Aside0 (Kd.N (Kd.slice 3 (Kd.int .i64)) 28 ((w35.setCell ⟨gb383, 0, none⟩ (.slice A382_0 ((rd_T72 l1 x15_1).f0).length c382_0)).setCell ⟨gb383, 1, none⟩ (.int .i64 ((rd_T72 l1 x15_1).f1))) w.heap.size (fun k_ => (P1_ k_ ∨ w.heap.size ≤ k_) ∧ k_ ≠ gb383) u5 x5_1) := ⟨by (with_reducible repeat (first | apply Kd.N_alloc | apply Kd.N_drewN | apply Kd.N_drew)); exact Kd.N_mono (Kd.N_far (p := ⟨gb383, 1, none⟩) (Kd.N_far (p := ⟨gb383, 0, none⟩) (Kd.N_mono HO_5.out (fun k_ hk => (⟨hk, hk.2⟩ : _ ∧ k_ ≠ gb383))) (fun _ hk => hk.2) (.slice A382_0 ((rd_T72 l1 x15_1).f0).length c382_0)) (fun _ hk => hk.2) (.int .i64 ((rd_T72 l1 x15_1).f1))) (fun _ hk => ⟨hk.1.1, hk.1.2⟩)⟩
     have n1_ : Aside0 (Kd.V k72 72 ((w35.setCell ⟨gb383, 0, none⟩ (.slice A382_0 ((rd_T72 l1 x15_1).f0).length c382_0)).setCell ⟨gb383, 1, none⟩ (.int .i64 ((rd_T72 l1 x15_1).f1))) w.heap.size (fun k_ => (P1_ k_ ∨ w.heap.size ≤ k_) ∧ some k_ ≠ (u5 : Value).ownBlock ∧ k_ ≠ gb383) (.slice (some ad382) l1.length c1) l1) := ⟨by (with_reducible repeat (first | apply Kd.V_alloc | apply Kd.V_drewN | apply Kd.V_drew)); exact Kd.V_mono (Kd.V_far (p := ⟨gb383, 1, none⟩) (Kd.V_far (p := ⟨gb383, 0, none⟩) (Kd.V_mono HO_13.out (fun k_ hk => (⟨hk, hk.2⟩ : _ ∧ k_ ≠ gb383))) (fun _ hk => hk.2) (.slice A382_0 ((rd_T72 l1 x15_1).f0).length c382_0)) (fun _ hk => hk.2) (.int .i64 ((rd_T72 l1 x15_1).f1))) (fun _ hk => ⟨hk.1.1.1, ⟨hk.1.1.2, hk.1.2⟩⟩)⟩
     have n2_ : Aside0 (Kd.V (Kd.int .i64) 3 ((w35.setCell ⟨gb383, 0, none⟩ (.slice A382_0 ((rd_T72 l1 x15_1).f0).length c382_0)).setCell ⟨gb383, 1, none⟩ (.int .i64 ((rd_T72 l1 x15_1).f1))) w.heap.size (fun k_ => (P1_ k_ ∨ w.heap.size ≤ k_) ∧ some k_ ≠ (u5 : Value).ownBlock ∧ k_ ≠ gb383) (.slice A382_0 ((rd_T72 l1 x15_1).f0).length c382_0) ((rd_T72 l1 x15_1).f0)) := ⟨by (with_reducible repeat (first | apply Kd.V_alloc | apply Kd.V_drewN | apply Kd.V_drew)); exact Kd.V_mono (Kd.V_far (p := ⟨gb383, 1, none⟩) (Kd.V_far (p := ⟨gb383, 0, none⟩) (Kd.V_mono HL382_0.out (fun k_ hk => (⟨hk, hk.2⟩ : _ ∧ k_ ≠ gb383))) (fun _ hk => hk.2) (.slice A382_0 ((rd_T72 l1 x15_1).f0).length c382_0)) (fun _ hk => hk.2) (.int .i64 ((rd_T72 l1 x15_1).f1))) (fun _ hk => ⟨hk.1.1.1, ⟨hk.1.1.2, hk.1.2⟩⟩)⟩
     have n3_ : Aside0 (((w35.setCell ⟨gb383, 0, none⟩ (.slice A382_0 ((rd_T72 l1 x15_1).f0).length c382_0)).setCell ⟨gb383, 1, none⟩ (.int .i64 ((rd_T72 l1 x15_1).f1))).heap[gb383]? = some (.cells #[.slice A382_0 ((rd_T72 l1 x15_1).f0).length c382_0, .int .i64 ((rd_T72 l1 x15_1).f1)] 72 (0, 0))) := ⟨kp BK383⟩
     have n4_ : Aside0 (Below w.heap.size w ((w35.setCell ⟨gb383, 0, none⟩ (.slice A382_0 ((rd_T72 l1 x15_1).f0).length c382_0)).setCell ⟨gb383, 1, none⟩ (.int .i64 ((rd_T72 l1 x15_1).f1)))) := ⟨bG⟩
     (try clear HO_5)
     (try clear HO_13)
     (try clear HL382_0)
     (try clear BK383)
     (try clear HB)
     generalize ((w35.setCell ⟨gb383, 0, none⟩ (.slice A382_0 ((rd_T72 l1 x15_1).f0).length c382_0)).setCell ⟨gb383, 1, none⟩ (.int .i64 ((rd_T72 l1 x15_1).f1))) = w37 at n0_ n1_ n2_ n3_ n4_ ⊢
     have HO_5 := n0_
     have HO_13 := n1_
     have HL382_0 := n2_
     have BK383 := n3_
     have HB := n4_
     clear n0_ n1_ n2_ n3_ n4_
     replace HO_5 := dn HO_5
     replace HO_13 := dv HO_13
     replace HL382_0 := Aside0.mk (Kd.V_drew HL382_0.out)
     replace BK383 := dk BK383
     have HBo := HB
     replace HB := db HB
     refine sw (ds := []) 21 (mb 21 0) impl_IsPlan.tab7 impl_IsPlan.bits7 (h2 BK383) (fun hHeld HT_ HW_ => ?_)
     generalize w37.drew = w38 at HO_5 HO_13 HL382_0 BK383 HB hHeld ⊢
     refine pa 0 19 (mb 21 1) HT_ ?_
     refine ta2 1 20 (mb 21 3) HT_ HW_ hHeld ?_
     refine pa 2 21 (mb 21 7) HT_ ?_
     refine pa 3 22 (mb 21 15) HT_ ?_
     refine pa 4 23 (mb 21 31) HT_ ?_
     refine pa 5 24 (mb 21 63) HT_ ?_
     refine pa 6 25 (mb 21 127) HT_ ?_
     refine ta2 7 26 (mb 21 255) HT_ HW_ hHeld ?_
     refine oa 8 27 (mb 21 511) HT_ (fun K hK => ?_)
     refine gA Tryz.func79 #[.slice A0 l0.length c0, .slice A382_0 ((rd_T72 l1 x15_1).f0).length c382_0] ?_
     with_reducible refine (impl_IsTogether.calls k1 _ _ l0 _ _ ((rd_T72 l1 x15_1).f0) false _ ?side1 ?side2 ?side3 ?side4 A15.out).mono ?_
     (case side1 => exact cB HR0)
     (case side2 => exact HC0.out)
     (case side3 => repeat (first | exact ((Kd.V_reads' (by (with_reducible repeat (first | apply Kd.V_alloc | apply Kd.V_drewN | apply Kd.V_drew)); exact HL382_0.out)).2.2) | (with_reducible refine Kd.C_alloc ?_ _) | (with_reducible refine Kd.C_drewN ?_ _) | (with_reducible refine Kd.C_drew ?_)))
     (case side4 => exact HC382_0.out)
     rintro e w39 ⟨rfl, hb⟩
     refine ⟨_, rfl, ?_⟩
     replace HO_5 := Aside0.mk (Kd.N_below (by (with_reducible repeat (first | apply Kd.N_alloc | apply Kd.N_drewN | apply Kd.N_drew)); exact HO_5.out) hb)
     replace HO_13 := Aside0.mk (Kd.V_below (by (with_reducible repeat (first | apply Kd.V_alloc | apply Kd.V_drewN | apply Kd.V_drew)); exact HO_13.out) hb)
     replace HL382_0 := Aside0.mk (Kd.V_below (by (with_reducible repeat (first | apply Kd.V_alloc | apply Kd.V_drewN | apply Kd.V_drew)); exact HL382_0.out) hb)
     replace BK383 := kb BK383 hb
     replace HB := bs HB hb
     (try clear hb)
     (try clear hb2)
     (try clear hk)
     (try clear hi)
     refine hK.out _ _ (cn2 BK383) (fun hHeld => ?_)
     clear hK K
     refine nB ?_
     refine pa 9 28 (mb 21 1023) HT_ ?_
     refine pa 10 29 (mb 21 2047) HT_ ?_
     refine pa 11 30 (mb 21 4095) HT_ ?_
     refine pu 12 31 (mb 21 8191) HT_ ?_
     refine pu 13 32 (mb 21 16383) HT_ ?_
     refine pu 14 33 (mb 21 32767) HT_ ?_
     refine pu 15 34 (mb 21 65535) HT_ ?_
     refine pu 16 35 (mb 21 131071) HT_ ?_
     refine pu 17 36 (mb 21 262143) HT_ ?_
     refine pu 18 37 (mb 21 524287) HT_ ?_
     refine pu 19 38 (mb 21 1048575) HT_ ?_
     refine pa 20 39 (mb 21 2097151) HT_ ?_
     refine eA HT_ ?_
     try go_wp2
     go_ret
     exact ⟨rA, bG⟩
    rw [if_neg c7] at H
    have c7b0 := decide_eq_false c7
    clear c7
    obtain ⟨t381, A40, H⟩ := bindE H
    try dsimp only at H
    obtain rfl := Option.some.inj H
    obtain ⟨Ao41, co41, eo41⟩ := Kd.N_slice HO_5.out
    subst eo41
    go_wp2_with (first | ((with_reducible refine gate_callee (f := 151) rfl ?_); refine gL (some 48) Tryz.func151 #[.slice A0 l0.length c0, .slice Ao41 x5_1.length co41] ?_; (with_reducible refine (impl_Covers.calls k1 _ _ l0 _ _ x5_1 t381 _ ?_ ?_ ?_ ?_ A40.out).mono ?_); exact cB HR0; exact HC0.out; (focus repeat (first | exact (Kd.N_reads' HO_5.out).2.2 | (with_reducible refine Kd.C_alloc ?_ _) | (with_reducible refine Kd.C_drewN ?_ _) | (with_reducible refine Kd.C_drew ?_))); exact (Kd.N_reads' HO_5.out).2.1; rintro e w42 ⟨rfl, hb⟩; refine ⟨_, rfl, ?_⟩; have n0_ := Aside0.mk (Kd.N_below (by (with_reducible repeat (first | apply Kd.N_alloc | apply Kd.N_drewN | apply Kd.N_drew)); exact HO_5.out) hb); have n1_ := Aside0.mk (Kd.V_below (by (with_reducible repeat (first | apply Kd.V_alloc | apply Kd.V_drewN | apply Kd.V_drew)); exact HO_13.out) hb); have n2_ := bs HB hb; clear HO_5; clear HO_13; clear HB; have HO_5 := n0_; have HO_13 := n1_; have HB := n2_; clear n0_ n1_ n2_; (try clear hb)))
    go_ret
    exact ⟨rA, bA⟩
 replace c4 := Bool.eq_false_iff.mpr c4
 subst c4
 have H1 : (some false) = some r := by rw [if_neg (show ¬ (false = true) by decide)] at H; exact H
 clear H
 have H := H1
 clear H1
 obtain rfl := Option.some.inj H
 go_enter Tryz.func145, Tryz.ntmps145
 go_wp2_with (first | ((with_reducible refine gate_callee (f := 80) rfl ?_); refine gL (some 10) Tryz.func80 #[.int .i64 (l1.length : Int), .int .i64 1, .int .i64 6] ?_; (with_reducible refine (impl_InRange.calls (l1.length : Int) 1 6 false _ A3.out).mono ?_); rintro e w' ⟨rfl, ⟨nd, rfl⟩⟩; refine ⟨_, rfl, ?_⟩))
 go_ret
 exact ⟨rA, bA⟩

/-! ### impl_sieve: function 140 -/
def impl_sieve.l0 : Nat → List Int → Bool → List Int → List Int → Int → Int → Option (List Int)
 | 0, _, _, _, _, _, _ => none
 | k + 1, x1, x2, x7, x11, x12, x13 => if x13 < x12 then (if 0 ≤ x13 then (if x13 < (x11.length : Int) then ((slices_Contains_int_int.f k x1 (rd x11 x13)).bind fun t396 => (if (t396 == x2) = true then (if x7.length < 17592186044416 then (impl_sieve.l0 k x1 x2 (x7 ++ [rd x11 x13]) x11 x12 (wrap64 (x13 + 1))) else (none)) else (impl_sieve.l0 k x1 x2 x7 x11 x12 (wrap64 (x13 + 1))))) else (none)) else (none)) else (some x7)
def impl_sieve.f (k : Nat) (l0 : List Int) (l1 : List Int) (a2 : Bool) : Option (List Int) := impl_sieve.l0 k l1 a2 (([] : List Int)) l0 (l0.length : Int) 0
theorem impl_sieve.mono_l : ∀ k, (∀ y0 y1 y2 y3 y4 y5, LeO (impl_sieve.l0 k y0 y1 y2 y3 y4 y5) (impl_sieve.l0 (k + 1) y0 y1 y2 y3 y4 y5))
 | 0 => fun _ _ _ _ _ _ r h => by simp [impl_sieve.l0] at h
 | k + 1 => by
  have ih0 := impl_sieve.mono_l k
  ·
   intro y0 y1 y2 y3 y4 y5
   unfold impl_sieve.l0
   exact mz2 ih0 slices_Contains_int_int.mono
theorem impl_sieve.mono : ∀ a0 a1 a2 k, LeO (impl_sieve.f k a0 a1 a2) (impl_sieve.f (k + 1) a0 a1 a2) := by
 intro a0 a1 a2 k
 have ih0 := impl_sieve.mono_l k
 unfold impl_sieve.f
 exact mz2 ih0 slices_Contains_int_int.mono
set_option maxHeartbeats 8000000 in
set_option maxRecDepth 100000 in
theorem impl_sieve.calls (k : Nat) (A0 : Option Addr) (c0 : Nat) (l0 : List Int) (A1 : Option Addr) (c1 : Nat) (l1 : List Int) (a2 : Bool) (r : List Int) (w : World) (hr0 : Kd.C (Kd.int .i64) w A0 l0.length l0) (hc0 : l0.length ≤ c0) (hr1 : Kd.C (Kd.int .i64) w A1 l1.length l1) (hc1 : l1.length ≤ c1) (h : impl_sieve.f k l0 l1 a2 = some r) :
  Calls Tryz.prog 140 #[.slice A0 l0.length c0, .slice A1 l1.length c1, .bool a2] w fun e w' => ∃ v0_ : Value, e = .returned (v0_) ∧ Kd.R (Kd.int .i64) 3 w' w.heap.size (fun _ => True) v0_ r ∧ Below w.heap.size w w' := by
 have HR0 := Aside0.mk hr0
 have HC0 := Aside0.mk hc0
 clear hr0 hc0
 have HR1 := Aside0.mk hr1
 have HC1 := Aside0.mk hc1
 clear hr1 hc1
 have HB := Aside0.mk (Below.refl w.heap.size w)
 have H : (impl_sieve.l0 k l1 a2 (([] : List Int)) l0 (l0.length : Int) 0) = some r := h
 clear h
 obtain ⟨y392, hy392⟩ : ∃ y_ : List Int, y_ = (([] : List Int)) := ⟨_, rfl⟩
 replace H : (impl_sieve.l0 k l1 a2 y392 l0 (l0.length : Int) 0) = some r := rH H hy392
 have Ny392 := Aside0.mk hy392
 clear hy392
 have H' := Aside0.mk H
 clear H
 go_enter Tryz.func140, Tryz.ntmps140
 go_wp2_with (first | ((with_reducible refine gate_dst (N := 10) rfl ?_); refine Kd.R_lit (Kd.int .i64) _ 3 ?hg (N := 10) ?hd (xs := ([] : List Int)) (inner := []) (ok := fun _ => True) (okp := fun _ => True) ?hr ?hp (fun _ hk => hk) trivial (Below.refl _ _) (Nat.le_refl _) (by simp) ?_; (case hd => rfl); (case hg => rfl); (case hr => first | (go_simp; done) | (go_simp; rfl)); (case hp => exact (Reps.none _ _)); intro v393 w4 ho5 hb hg_ hnew_; clear hg_ hnew_; (first | rw [← Ny392.out] at ho5 | (simp only [Int.reduceToNat] at ho5; rw [← Ny392.out] at ho5)); have HO394 := rl w ho5; replace HB := bs HB hb; clear hb ho5))
 go_loopg [7, 13] k (fun kq v7 v13 w' => ∃ (x7_1 : List Int) (x13_1 : Int), v13 = .int .i64 x13_1 ∧ Aside0 (impl_sieve.l0 kq l1 a2 x7_1 l0 (l0.length : Int) x13_1 = some r) ∧ Aside0 (kq ≤ k) ∧ Aside0 (Kd.R (Kd.int .i64) 3 w' w.heap.size (fun _ => True) v7 x7_1) ∧ Aside0 (Below w.heap.size w w'))
 case atStart => exact ⟨(y392), (0), rS, H', ⟨Nat.le_refl _⟩, ⟨rK HO394⟩, ⟨bA⟩⟩
 case round =>
  clear H'
  obtain ⟨x7_1, x13_1, rfl, HA, HK1, HO_7, HB⟩ := hrel
  cases gk with
  | zero => exact absurd HA.out (by simp [impl_sieve.l0])
  | succ k1 =>
   have H := HA.out
   clear HA
   simp only [impl_sieve.l0] at H
   by_cases c6 : x13_1 < (l0.length : Int)
   ·
    rw [if_pos c6] at H
    have c6b0 := decide_eq_true c6
    clear c6
    have c7 : 0 ≤ x13_1 := ifN H
    replace H := ifT H
    have c7b0 := decide_eq_true c7
    clear c7
    have c8 : x13_1 < (l0.length : Int) := ifN H
    replace H := ifT H
    have c8b0 := decide_eq_true c8
    clear c8
    obtain ⟨t396, A9, H⟩ := bindE H
    try dsimp only at H
    by_cases c10 : (t396 == a2) = true
    ·
     rw [if_pos c10] at H
     have c10b0 : (t396 == a2) = true := c10
     (try (have c10b1 : decide (t396 = a2) = true := by simpa using c10))
     (try (have c10b2 : (t396 == a2) = true := by simpa using c10))
     clear c10
     have c11 : x7_1.length < 17592186044416 := ifN H
     replace H := ifT H
     have LMc11 := Aside0.mk c11
     clear c11
     obtain ⟨y397, hy397⟩ : ∃ y_ : List Int, y_ = (x7_1 ++ [rd l0 x13_1]) := ⟨_, rfl⟩
     replace H : (impl_sieve.l0 k1 l1 a2 y397 l0 (l0.length : Int) (wrap64 (x13_1 + 1))) = some r := rH H hy397
     have Ny397 := Aside0.mk hy397
     clear hy397
     have H' := Aside0.mk H
     clear H
     obtain ⟨p395, q395⟩ : 0 ≤ (x13_1 : Int) ∧ x13_1 < (l0.length : Int) := ⟨dA, dA⟩
     obtain ⟨ad395, e395, hx395_0⟩ := Kd.at_int (Kd.C_below HR0.out HB.out) x13_1 p395 q395
     cases e395
     obtain ⟨p395, q395⟩ := eT p395 q395
     go_wp2_with (first | ((with_reducible refine gate_callee (f := 120) rfl ?_); refine gL (some 19) Tryz.func120 #[.slice A1 l1.length c1, .int .i64 (rd l0 x13_1)] ?_; (with_reducible refine (slices_Contains_int_int.calls k1 _ _ l1 (rd l0 x13_1) t396 _ ?_ ?_ A9.out).mono ?_); exact cB HR1; exact HC1.out; rintro e w' ⟨rfl, ⟨nd, rfl⟩⟩; refine ⟨_, rfl, ?_⟩) | ((with_reducible refine gate_builtin (b := .append) (xs := #[.tmp 22, .tmp 24]) rfl ?_); at_builtin; refine Kd.R_append (Kd.int .i64) (w0 := w) w.heap.size rfl (.tmp 22) (.tmp 24) 28 3 (.int .i64 0) 8 rfl Tryz.underlying28 info3 rfl (by decide) (by omega) u7 x7_1 (rd l0 x13_1) [.int .i64 (rd l0 x13_1)] (fun _ => True) (fun _ => False) rfl rfl ?aP (fun _ hk => hk.elim) ?aF ?aO ?aB ?aS ?aL ?_; (case aP => exact rfl); (case aB => exact bA); (case aF => exact (fun _ _ => trivial)); (case aO => exact (rK HO_7)); (case aS => exact (below_size bA)); (case aL => have := LMc11.out; omega); intro v398 w12 ho hb hg hat; rw [← Ny397.out] at ho; have n0_ := Aside0.mk (hb); have n1_ := Aside0.mk (ho); clear HB; clear HO_7; have HB := n0_; have HO399 := n1_; clear n0_ n1_; clear ho hb hg hat))
     go_roundg k1
     case measure => have := HK1.out; omega
     case rel => exact ⟨(y397), (wrap64 (x13_1 + 1)), rS, H', ⟨by have := HK1.out; omega⟩, ⟨rK HO399⟩, ⟨bA⟩⟩
    rw [if_neg c10] at H
    have c10b0 : (t396 == a2) = false := by simpa using c10
    (try (have c10b1 : decide (t396 = a2) = false := by simpa using c10))
    (try (have c10b2 : (t396 == a2) = false := by simpa using c10))
    (try (have c10b3 : ¬ (t396 = a2) := by simpa using c10))
    clear c10
    have H' := Aside0.mk H
    clear H
    obtain ⟨p395, q395⟩ : 0 ≤ (x13_1 : Int) ∧ x13_1 < (l0.length : Int) := ⟨dA, dA⟩
    obtain ⟨ad395, e395, hx395_0⟩ := Kd.at_int (Kd.C_below HR0.out HB.out) x13_1 p395 q395
    cases e395
    obtain ⟨p395, q395⟩ := eT p395 q395
    go_wp2_with (first | ((with_reducible refine gate_callee (f := 120) rfl ?_); refine gL (some 19) Tryz.func120 #[.slice A1 l1.length c1, .int .i64 (rd l0 x13_1)] ?_; (with_reducible refine (slices_Contains_int_int.calls k1 _ _ l1 (rd l0 x13_1) t396 _ ?_ ?_ A9.out).mono ?_); exact cB HR1; exact HC1.out; rintro e w' ⟨rfl, ⟨nd, rfl⟩⟩; refine ⟨_, rfl, ?_⟩))
    go_roundg k1
    case measure => have := HK1.out; omega
    case rel => exact ⟨(x7_1), (wrap64 (x13_1 + 1)), rS, H', ⟨by have := HK1.out; omega⟩, ⟨rK HO_7⟩, ⟨bA⟩⟩
   rw [if_neg c6] at H
   have c6b0 := decide_eq_false c6
   clear c6
   obtain rfl := Option.some.inj H
   go_wp2
   go_ret
   exact ⟨_, rA, rK HO_7, bA⟩

/-! ### impl_Closes: function 112 -/
def impl_Closes.f (k : Nat) (l0 : List Int) (l1 : List Int) : Option (List Int) := (impl_sieve.f k l0 l1 false).bind fun t400 => (some t400)
theorem impl_Closes.mono : ∀ a0 a1 k, LeO (impl_Closes.f k a0 a1) (impl_Closes.f (k + 1) a0 a1) := by
 intro a0 a1 k
 unfold impl_Closes.f
 exact mz1 impl_sieve.mono
set_option maxHeartbeats 8000000 in
set_option maxRecDepth 100000 in
theorem impl_Closes.calls (k : Nat) (A0 : Option Addr) (c0 : Nat) (l0 : List Int) (A1 : Option Addr) (c1 : Nat) (l1 : List Int) (r : List Int) (w : World) (hr0 : Kd.C (Kd.int .i64) w A0 l0.length l0) (hc0 : l0.length ≤ c0) (hr1 : Kd.C (Kd.int .i64) w A1 l1.length l1) (hc1 : l1.length ≤ c1) (h : impl_Closes.f k l0 l1 = some r) :
  Calls Tryz.prog 112 #[.slice A0 l0.length c0, .slice A1 l1.length c1] w fun e w' => ∃ v0_ : Value, e = .returned (v0_) ∧ Kd.R (Kd.int .i64) 3 w' w.heap.size (fun _ => True) v0_ r ∧ Below w.heap.size w w' := by
 have HR0 := Aside0.mk hr0
 have HC0 := Aside0.mk hc0
 clear hr0 hc0
 have HR1 := Aside0.mk hr1
 have HC1 := Aside0.mk hc1
 clear hr1 hc1
 have HB := Aside0.mk (Below.refl w.heap.size w)
 have H : ((impl_sieve.f k l0 l1 false).bind fun t400 => (some t400)) = some r := h
 clear h
 obtain ⟨t400, A3, H⟩ := bindE H
 try dsimp only at H
 obtain rfl := Option.some.inj H
 go_enter Tryz.func112, Tryz.ntmps112
 go_wp2_with (first | ((with_reducible refine gate_callee (f := 140) rfl ?_); refine gL (some 7) Tryz.func140 #[.slice A0 l0.length c0, .slice A1 l1.length c1, .bool false] ?_; (with_reducible refine (impl_sieve.calls k _ _ l0 _ _ l1 false t400 _ ?_ ?_ ?_ ?_ A3.out).mono ?_); exact cO HR0; exact HC0.out; exact cO HR1; exact HC1.out; rintro e w4 ⟨v401, rfl, ho0, hb⟩; refine ⟨_, rfl, ?_⟩; have HO402 := rl w ho0; replace HB := bs HB hb; (try clear hb); (try clear ho0)))
 go_ret
 exact ⟨_, rA, rK HO402, bA⟩

/-! ### impl_ClearOf: function 113 -/
def impl_ClearOf.f (a0_0 : Int) (a0_1 : Int) (a0_2 : Int) (a0_3 : Int) : Option (Int) := (impl_IsPath.f a0_0 a0_1 a0_2 a0_3).bind fun t404 => (if t404 = true then (if a0_1 = 1 then (some 2) else (if a0_1 = 3 then (some 3) else (some 5))) else (some 0))
set_option maxHeartbeats 8000000 in
set_option maxRecDepth 100000 in
theorem impl_ClearOf.calls (a0_0 : Int) (a0_1 : Int) (a0_2 : Int) (a0_3 : Int) (r : Int) (w : World) (h : impl_ClearOf.f a0_0 a0_1 a0_2 a0_3 = some r) :
  Calls Tryz.prog 113 #[.agg #[.int .i64 a0_0, .int .i64 a0_1, .int .i64 a0_2, .int .i64 a0_3]] w fun e w' => e = .returned (.int .i64 r) ∧ Below w.heap.size w w' := by
 have hu69 := Tryz.underlying69
 have HB := Aside0.mk (Below.refl w.heap.size w)
 have H : ((impl_IsPath.f a0_0 a0_1 a0_2 a0_3).bind fun t404 => (if t404 = true then (if a0_1 = 1 then (some 2) else (if a0_1 = 3 then (some 3) else (some 5))) else (some 0))) = some r := h
 clear h
 obtain ⟨t404, A2, H⟩ := bindE H
 try dsimp only at H
 by_cases c3 : t404 = true
 ·
  subst c3
  have H1 : (if a0_1 = 1 then (some 2) else (if a0_1 = 3 then (some 3) else (some 5))) = some r := by rw [if_pos rfl] at H; exact H
  clear H
  have H := H1
  clear H1
  by_cases c4 : a0_1 = 1
  ·
   rw [if_pos c4] at H
   have c4b0 : (a0_1 == 1) = true := beq_iff_eq.mpr c4
   have c4b1 : (a0_1 != 1) = false := bne_eq_false_iff_eq.mpr c4
   clear c4
   obtain rfl := Option.some.inj H
   go_enter Tryz.func113, Tryz.ntmps113
   go_wp2_with (first | ((with_reducible refine gate_dst (N := 1) rfl ?_); refine bE (N := 1) (cs := #[.int .i64 a0_0, .int .i64 a0_1, .int .i64 a0_2, .int .i64 a0_3]) (t := 69) ?_; intro gb403 hg w5 hbox hb; have BK403 := Aside0.mk (hbox); have GW403 := gw w hg; have GE403 := gw w hg; replace HB := bs HB hb; clear hb hbox hg; obtain ⟨_, _, _, _, _, _, _, _⟩ := blkc4 BK403) | ((with_reducible refine gate_callee (f := 114) rfl ?_); refine gL (some 4) Tryz.func114 #[.agg #[.int .i64 a0_0, .int .i64 a0_1, .int .i64 a0_2, .int .i64 a0_3]] ?_; (with_reducible refine (impl_IsPath.calls a0_0 a0_1 a0_2 a0_3 true _ A2.out).mono ?_); rintro e w7 ⟨rfl, hb⟩; refine ⟨_, rfl, ?_⟩; replace BK403 := kb BK403 hb; replace HB := bs HB hb; (try clear hb); obtain ⟨_, _, _, _, _, _, _, _⟩ := blkc4 BK403))
   go_ret
   exact ⟨rA, bG⟩
  rw [if_neg c4] at H
  have c4b0 : (a0_1 == 1) = false := beq_eq_false_iff_ne.mpr c4
  have c4b1 : (a0_1 != 1) = true := bne_iff_ne.mpr c4
  by_cases c9 : a0_1 = 3
  ·
   rw [if_pos c9] at H
   have c9b0 : (a0_1 == 3) = true := beq_iff_eq.mpr c9
   have c9b1 : (a0_1 != 3) = false := bne_eq_false_iff_eq.mpr c9
   clear c9
   obtain rfl := Option.some.inj H
   go_enter Tryz.func113, Tryz.ntmps113
   go_wp2_with (first | ((with_reducible refine gate_dst (N := 1) rfl ?_); refine bE (N := 1) (cs := #[.int .i64 a0_0, .int .i64 a0_1, .int .i64 a0_2, .int .i64 a0_3]) (t := 69) ?_; intro gb403 hg w10 hbox hb; have BK403 := Aside0.mk (hbox); have GW403 := gw w hg; have GE403 := gw w hg; replace HB := bs HB hb; clear hb hbox hg; obtain ⟨_, _, _, _, _, _, _, _⟩ := blkc4 BK403) | ((with_reducible refine gate_callee (f := 114) rfl ?_); refine gL (some 4) Tryz.func114 #[.agg #[.int .i64 a0_0, .int .i64 a0_1, .int .i64 a0_2, .int .i64 a0_3]] ?_; (with_reducible refine (impl_IsPath.calls a0_0 a0_1 a0_2 a0_3 true _ A2.out).mono ?_); rintro e w12 ⟨rfl, hb⟩; refine ⟨_, rfl, ?_⟩; replace BK403 := kb BK403 hb; replace HB := bs HB hb; (try clear hb); obtain ⟨_, _, _, _, _, _, _, _⟩ := blkc4 BK403))
   go_ret
   exact ⟨rA, bG⟩
  rw [if_neg c9] at H
  have c9b0 : (a0_1 == 3) = false := beq_eq_false_iff_ne.mpr c9
  have c9b1 : (a0_1 != 3) = true := bne_iff_ne.mpr c9
  obtain rfl := Option.some.inj H
  go_enter Tryz.func113, Tryz.ntmps113
  go_wp2_with (first | ((with_reducible refine gate_dst (N := 1) rfl ?_); refine bE (N := 1) (cs := #[.int .i64 a0_0, .int .i64 a0_1, .int .i64 a0_2, .int .i64 a0_3]) (t := 69) ?_; intro gb403 hg w14 hbox hb; have BK403 := Aside0.mk (hbox); have GW403 := gw w hg; have GE403 := gw w hg; replace HB := bs HB hb; clear hb hbox hg; obtain ⟨_, _, _, _, _, _, _, _⟩ := blkc4 BK403) | ((with_reducible refine gate_callee (f := 114) rfl ?_); refine gL (some 4) Tryz.func114 #[.agg #[.int .i64 a0_0, .int .i64 a0_1, .int .i64 a0_2, .int .i64 a0_3]] ?_; (with_reducible refine (impl_IsPath.calls a0_0 a0_1 a0_2 a0_3 true _ A2.out).mono ?_); rintro e w16 ⟨rfl, hb⟩; refine ⟨_, rfl, ?_⟩; replace BK403 := kb BK403 hb; replace HB := bs HB hb; (try clear hb); obtain ⟨_, _, _, _, _, _, _, _⟩ := blkc4 BK403))
  go_ret
  exact ⟨rA, bG⟩
 replace c3 := Bool.eq_false_iff.mpr c3
 subst c3
 have H1 : (some 0) = some r := by rw [if_neg (show ¬ (false = true) by decide)] at H; exact H
 clear H
 have H := H1
 clear H1
 obtain rfl := Option.some.inj H
 go_enter Tryz.func113, Tryz.ntmps113
 go_wp2_with (first | ((with_reducible refine gate_dst (N := 1) rfl ?_); refine bE (N := 1) (cs := #[.int .i64 a0_0, .int .i64 a0_1, .int .i64 a0_2, .int .i64 a0_3]) (t := 69) ?_; intro gb403 hg w18 hbox hb; have BK403 := Aside0.mk (hbox); have GW403 := gw w hg; have GE403 := gw w hg; replace HB := bs HB hb; clear hb hbox hg; obtain ⟨_, _, _, _, _, _, _, _⟩ := blkc4 BK403) | ((with_reducible refine gate_callee (f := 114) rfl ?_); refine gL (some 4) Tryz.func114 #[.agg #[.int .i64 a0_0, .int .i64 a0_1, .int .i64 a0_2, .int .i64 a0_3]] ?_; (with_reducible refine (impl_IsPath.calls a0_0 a0_1 a0_2 a0_3 false _ A2.out).mono ?_); rintro e w20 ⟨rfl, hb⟩; refine ⟨_, rfl, ?_⟩; replace BK403 := kb BK403 hb; replace HB := bs HB hb; (try clear hb)))
 go_ret
 exact ⟨rA, bG⟩

/-! ### impl_ClearBetween: function 81 -/
mutual
def impl_ClearBetween.j0 : Nat → List (S69) → List Int → List Int → Int → Bool → Option (Int)
 | 0, _, _, _, _, _ => none
 | k + 1, x0, x1, x2, x7, x22 => if x22 = true then (some x7) else ((impl_Closes.f k x1 x2).bind fun t407 => (impl_ClearBetween.l0 k x0 x1 x2 x7 t407 (t407.length : Int) 0))
def impl_ClearBetween.l0 : Nat → List (S69) → List Int → List Int → Int → List Int → Int → Int → Option (Int)
 | 0, _, _, _, _, _, _, _ => none
 | k + 1, x0, x1, x2, x7, x26, x27, x28 => if x28 < x27 then (if 0 ≤ x28 then (if x28 < (x26.length : Int) then ((impl_Closes.f k x2 x1).bind fun t411 => (impl_ClearBetween.l1 k x0 x1 x2 x7 (rd x26 x28) x26 x27 x28 t411 (t411.length : Int) 0)) else (none)) else (none)) else (some x7)
def impl_ClearBetween.l1 : Nat → List (S69) → List Int → List Int → Int → Int → List Int → Int → Int → List Int → Int → Int → Option (Int)
 | 0, _, _, _, _, _, _, _, _, _, _, _ => none
 | k + 1, x0, x1, x2, x7, x9, x26, x27, x28, x34, x35, x36 => if x36 < x35 then (if 0 ≤ x36 then (if x36 < (x34.length : Int) then ((impl_FindPath.f x0 x9).bind fun t415 => (if 0 ≤ t415 then (if t415 < (x0.length : Int) then ((impl_FindPath.f x0 (rd x34 x36)).bind fun t418 => (if 0 ≤ t418 then (if t418 < (x0.length : Int) then ((impl_Conflict.f k ((rd_T69 x0 t415).f0) ((rd_T69 x0 t415).f1) ((rd_T69 x0 t415).f2) ((rd_T69 x0 t415).f3) ((rd_T69 x0 t418).f0) ((rd_T69 x0 t418).f1) ((rd_T69 x0 t418).f2) ((rd_T69 x0 t418).f3)).bind fun t420 => (if t420 = true then ((impl_ClearOf.f ((rd_T69 x0 t415).f0) ((rd_T69 x0 t415).f1) ((rd_T69 x0 t415).f2) ((rd_T69 x0 t415).f3)).bind fun t421 => (impl_ClearBetween.l1 k x0 x1 x2 (mx x7 t421) x9 x26 x27 x28 x34 x35 (wrap64 (x36 + 1)))) else (impl_ClearBetween.l1 k x0 x1 x2 x7 x9 x26 x27 x28 x34 x35 (wrap64 (x36 + 1))))) else (none)) else (none))) else (none)) else (none))) else (none)) else (none)) else (impl_ClearBetween.l0 k x0 x1 x2 x7 x26 x27 (wrap64 (x28 + 1)))
end
def impl_ClearBetween.f (k : Nat) (l0 : List (S69)) (l1 : List Int) (l2 : List Int) : Option (Int) := (impl_IsTogether.f k l0 l1).bind fun t405 => (if t405 = true then ((impl_IsTogether.f k l0 l2).bind fun t406 => (impl_ClearBetween.j0 k l0 l1 l2 0 (!t406))) else (impl_ClearBetween.j0 k l0 l1 l2 0 true))
theorem impl_ClearBetween.mono_l : ∀ k, (∀ y0 y1 y2 y3 y4, LeO (impl_ClearBetween.j0 k y0 y1 y2 y3 y4) (impl_ClearBetween.j0 (k + 1) y0 y1 y2 y3 y4)) ∧ (∀ y0 y1 y2 y3 y4 y5 y6, LeO (impl_ClearBetween.l0 k y0 y1 y2 y3 y4 y5 y6) (impl_ClearBetween.l0 (k + 1) y0 y1 y2 y3 y4 y5 y6)) ∧ (∀ y0 y1 y2 y3 y4 y5 y6 y7 y8 y9 y10, LeO (impl_ClearBetween.l1 k y0 y1 y2 y3 y4 y5 y6 y7 y8 y9 y10) (impl_ClearBetween.l1 (k + 1) y0 y1 y2 y3 y4 y5 y6 y7 y8 y9 y10))
 | 0 => ⟨fun _ _ _ _ _ r h => by simp [impl_ClearBetween.j0] at h, fun _ _ _ _ _ _ _ r h => by simp [impl_ClearBetween.l0] at h, fun _ _ _ _ _ _ _ _ _ _ _ r h => by simp [impl_ClearBetween.l1] at h⟩
 | k + 1 => by
  obtain ⟨ih0, ih1, ih2⟩ := impl_ClearBetween.mono_l k
  refine ⟨?_, ?_, ?_⟩
  ·
   intro y0 y1 y2 y3 y4
   unfold impl_ClearBetween.j0
   exact mz6 ih0 ih1 ih2 impl_Closes.mono impl_Conflict.mono impl_IsTogether.mono
  ·
   intro y0 y1 y2 y3 y4 y5 y6
   unfold impl_ClearBetween.l0
   exact mz6 ih0 ih1 ih2 impl_Closes.mono impl_Conflict.mono impl_IsTogether.mono
  ·
   intro y0 y1 y2 y3 y4 y5 y6 y7 y8 y9 y10
   unfold impl_ClearBetween.l1
   exact mz6 ih0 ih1 ih2 impl_Closes.mono impl_Conflict.mono impl_IsTogether.mono
theorem impl_ClearBetween.mono : ∀ a0 a1 a2 k, LeO (impl_ClearBetween.f k a0 a1 a2) (impl_ClearBetween.f (k + 1) a0 a1 a2) := by
 intro a0 a1 a2 k
 obtain ⟨ih0, ih1, ih2⟩ := impl_ClearBetween.mono_l k
 unfold impl_ClearBetween.f
 exact mz6 ih0 ih1 ih2 impl_Closes.mono impl_Conflict.mono impl_IsTogether.mono
def impl_ClearBetween.T11 : Bool × List (List Nat × List Nat) := (true, [([], []), ([], []), ([], []), ([], []), ([2, 3], [2, 3]), ([1, 4], [1, 4]), ([5], [5]), ([0, 6, 4], [0, 6])])
def impl_ClearBetween.B11 : List Nat := [0, 0, 0, 0, 12, 30, 62, 127]
theorem impl_ClearBetween.tab11 : rtab .any (opsOf Tryz.f81 11) = impl_ClearBetween.T11 := by kernel_rfl
theorem impl_ClearBetween.bits11 : waitsOk impl_ClearBetween.T11.2 impl_ClearBetween.B11 = true := by kernel_rfl
set_option maxHeartbeats 8000000 in
set_option maxRecDepth 100000 in
theorem impl_ClearBetween.calls (k : Nat) (A0 : Option Addr) (c0 : Nat) (l0 : List (S69)) (A1 : Option Addr) (c1 : Nat) (l1 : List Int) (A2 : Option Addr) (c2 : Nat) (l2 : List Int) (r : Int) (w : World) (hr0 : Kd.C k69 w A0 l0.length l0) (hc0 : l0.length ≤ c0) (hr1 : Kd.C (Kd.int .i64) w A1 l1.length l1) (hc1 : l1.length ≤ c1) (hr2 : Kd.C (Kd.int .i64) w A2 l2.length l2) (hc2 : l2.length ≤ c2) (h : impl_ClearBetween.f k l0 l1 l2 = some r) :
  Calls Tryz.prog 81 #[.slice A0 l0.length c0, .slice A1 l1.length c1, .slice A2 l2.length c2] w fun e w' => e = .returned (.int .i64 r) ∧ Below w.heap.size w w' := by
 have hu69 := Tryz.underlying69
 have HR0 := Aside0.mk hr0
 have HC0 := Aside0.mk hc0
 clear hr0 hc0
 have HR1 := Aside0.mk hr1
 have HC1 := Aside0.mk hc1
 clear hr1 hc1
 have HR2 := Aside0.mk hr2
 have HC2 := Aside0.mk hc2
 clear hr2 hc2
 have HB := Aside0.mk (Below.refl w.heap.size w)
 have H : ((impl_IsTogether.f k l0 l1).bind fun t405 => (if t405 = true then ((impl_IsTogether.f k l0 l2).bind fun t406 => (impl_ClearBetween.j0 k l0 l1 l2 0 (!t406))) else (impl_ClearBetween.j0 k l0 l1 l2 0 true))) = some r := h
 clear h
 have HC4 := Aside0.mk H
 clear H
 go_enter Tryz.func81, Tryz.ntmps81
 go_upto_region 2 with (fail)
 go_cut [22] (fun v22 wc => ∃ (kq : Nat) (x22_3 : Bool), v22 = .bool x22_3 ∧ Aside0 (impl_ClearBetween.j0 kq l0 l1 l2 0 x22_3 = some r) ∧ Aside0 (kq ≤ k) ∧ Aside0 (Below w.heap.size w wc))
 case first =>
  have H := HC4.out
  clear HC4
  obtain ⟨t405, A5, H⟩ := bindE H
  try dsimp only at H
  by_cases c6 : t405 = true
  ·
   subst c6
   have H1 : ((impl_IsTogether.f k l0 l2).bind fun t406 => (impl_ClearBetween.j0 k l0 l1 l2 0 (!t406))) = some r := by rw [if_pos rfl] at H; exact H
   clear H
   have H := H1
   clear H1
   obtain ⟨t406, A7, H⟩ := bindE H
   try dsimp only at H
   have H' := Aside0.mk H
   clear H
   go_wp2_with (first | ((with_reducible refine gate_callee (f := 79) rfl ?_); refine gL (some 15) Tryz.func79 #[.slice A0 l0.length c0, .slice A1 l1.length c1] ?_; (with_reducible refine (impl_IsTogether.calls k _ _ l0 _ _ l1 true _ ?_ ?_ ?_ ?_ A5.out).mono ?_); exact cB HR0; exact HC0.out; exact cB HR1; exact HC1.out; rintro e w8 ⟨rfl, hb⟩; refine ⟨_, rfl, ?_⟩; replace HB := bs HB hb; (try clear hb)) | (go_at_call 79; (with_reducible refine (impl_IsTogether.calls k _ _ l0 _ _ l2 t406 _ ?_ ?_ ?_ ?_ A7.out).mono ?_); exact cB HR0; exact HC0.out; exact cB HR2; exact HC2.out; rintro e w9 ⟨rfl, hb⟩; replace HB := bs HB hb; (try clear hb)))
   go_meet
   case rel => exact ⟨_, (!t406), rS, H', ⟨oL⟩, ⟨bA⟩⟩
  replace c6 := Bool.eq_false_iff.mpr c6
  subst c6
  have H1 : (impl_ClearBetween.j0 k l0 l1 l2 0 true) = some r := by rw [if_neg (show ¬ (false = true) by decide)] at H; exact H
  clear H
  have H := H1
  clear H1
  have H' := Aside0.mk H
  clear H
  go_wp2_with (first | ((with_reducible refine gate_callee (f := 79) rfl ?_); refine gL (some 15) Tryz.func79 #[.slice A0 l0.length c0, .slice A1 l1.length c1] ?_; (with_reducible refine (impl_IsTogether.calls k _ _ l0 _ _ l1 false _ ?_ ?_ ?_ ?_ A5.out).mono ?_); exact cB HR0; exact HC0.out; exact cB HR1; exact HC1.out; rintro e w10 ⟨rfl, hb⟩; refine ⟨_, rfl, ?_⟩; replace HB := bs HB hb; (try clear hb)))
  go_meet
  case rel => exact ⟨_, (true), rS, H', ⟨oL⟩, ⟨bA⟩⟩
 case rest =>
  clear HC4
  obtain ⟨kq, x22_3, rfl, HA, HJ3, HB⟩ := hcut
  cases kq with
  | zero => exact absurd HA.out (by simp [impl_ClearBetween.j0])
  | succ kj3 =>
   have H := HA.out
   clear HA
   simp only [impl_ClearBetween.j0] at H
   by_cases c11 : x22_3 = true
   ·
    subst c11
    have H1 : (some 0) = some r := by rw [if_pos rfl] at H; exact H
    clear H
    have H := H1
    clear H1
    obtain rfl := Option.some.inj H
    go_wp2
    go_ret
    exact ⟨rA, bA⟩
   replace c11 := Bool.eq_false_iff.mpr c11
   subst c11
   have H1 : ((impl_Closes.f kj3 l1 l2).bind fun t407 => (impl_ClearBetween.l0 kj3 l0 l1 l2 0 t407 (t407.length : Int) 0)) = some r := by rw [if_neg (show ¬ (false = true) by decide)] at H; exact H
   clear H
   have H := H1
   clear H1
   obtain ⟨t407, A12, H⟩ := bindE H
   try dsimp only at H
   have H' := Aside0.mk H
   clear H
   go_wp2_with (first | ((with_reducible refine gate_callee (f := 112) rfl ?_); refine gL (some 26) Tryz.func112 #[.slice A1 l1.length c1, .slice A2 l2.length c2] ?_; (with_reducible refine (impl_Closes.calls kj3 _ _ l1 _ _ l2 t407 _ ?_ ?_ ?_ ?_ A12.out).mono ?_); exact cB HR1; exact HC1.out; exact cB HR2; exact HC2.out; rintro e w13 ⟨v408, rfl, ho0, hb⟩; refine ⟨_, rfl, ?_⟩; have HO409 := rl w ho0; replace HB := bs HB hb; (try clear hb); (try clear ho0); obtain ⟨Ao14, co14, eo14⟩ := Kd.R_slice HO409.out; subst eo14))
   go_loopg [7, 28] kj3 (fun kq v7 v28 w' => ∃ (x7_2 : Int) (x28_2 : Int), v7 = .int .i64 x7_2 ∧ v28 = .int .i64 x28_2 ∧ Aside0 (impl_ClearBetween.l0 kq l0 l1 l2 x7_2 t407 (t407.length : Int) x28_2 = some r) ∧ Aside0 (kq ≤ kj3) ∧ Aside0 (Kd.R (Kd.int .i64) 3 w' w.heap.size (fun _ => True) (.slice Ao14 t407.length co14) t407) ∧ Aside0 (Below w.heap.size w w'))
   case atStart => exact ⟨(0), (0), rS, rS, H', ⟨Nat.le_refl _⟩, ⟨rK HO409⟩, ⟨bA⟩⟩
   case round =>
    clear H'
    obtain ⟨x7_2, x28_2, rfl, rfl, HA, HK2, HO_26, HB⟩ := hrel
    cases gk with
    | zero => exact absurd HA.out (by simp [impl_ClearBetween.l0])
    | succ k2 =>
     have H := HA.out
     clear HA
     simp only [impl_ClearBetween.l0] at H
     by_cases c15 : x28_2 < (t407.length : Int)
     ·
      rw [if_pos c15] at H
      have c15b0 := decide_eq_true c15
      clear c15
      have c16 : 0 ≤ x28_2 := ifN H
      replace H := ifT H
      have c16b0 := decide_eq_true c16
      clear c16
      have c17 : x28_2 < (t407.length : Int) := ifN H
      replace H := ifT H
      have c17b0 := decide_eq_true c17
      clear c17
      obtain ⟨t411, A18, H⟩ := bindE H
      try dsimp only at H
      have H' := Aside0.mk H
      clear H
      obtain ⟨p410, q410⟩ : 0 ≤ (x28_2 : Int) ∧ x28_2 < (t407.length : Int) := ⟨dA, dA⟩
      obtain ⟨ad410, e410, hx410_0⟩ := Kd.at_int (Kd.R_reads' HO_26.out).2.2 x28_2 p410 q410
      cases e410
      obtain ⟨p410, q410⟩ := eT p410 q410
      go_wp2_with (first | ((with_reducible refine gate_callee (f := 112) rfl ?_); refine gL (some 34) Tryz.func112 #[.slice A2 l2.length c2, .slice A1 l1.length c1] ?_; (with_reducible refine (impl_Closes.calls k2 _ _ l2 _ _ l1 t411 _ ?_ ?_ ?_ ?_ A18.out).mono ?_); exact cB HR2; exact HC2.out; exact cB HR1; exact HC1.out; rintro e w19 ⟨v412, rfl, ho0, hb⟩; refine ⟨_, rfl, ?_⟩; have HO413 := rl w (rn ho0 HO_26); replace HO_26 := re HO_26 ho0 hb; replace HB := bs HB hb; (try clear hb); (try clear ho0); obtain ⟨Ao20, co20, eo20⟩ := Kd.R_slice HO413.out; subst eo20))
      go_loopg [7, 36] k2 (fun kq v7 v36 w' => ∃ (x7_3 : Int) (x36_3 : Int), v7 = .int .i64 x7_3 ∧ v36 = .int .i64 x36_3 ∧ Aside0 (impl_ClearBetween.l1 kq l0 l1 l2 x7_3 (rd t407 x28_2) t407 (t407.length : Int) x28_2 t411 (t411.length : Int) x36_3 = some r) ∧ Aside0 (kq ≤ k2) ∧ Aside0 (Kd.R (Kd.int .i64) 3 w' w.heap.size (n1 (.slice Ao20 t411.length co20)) (.slice (some ad410) t407.length co14) t407) ∧ Aside0 (Kd.R (Kd.int .i64) 3 w' w.heap.size (n1 (.slice (some ad410) t407.length co14)) (.slice Ao20 t411.length co20) t411) ∧ Aside0 (Below w.heap.size w w'))
      case atStart => exact ⟨(x7_2), (0), rS, rS, H', ⟨Nat.le_refl _⟩, ⟨rm HO_26 (fun _ hk => hk.2)⟩, ⟨rm HO413 (fun _ hk => hk.2)⟩, ⟨bA⟩⟩
      case round =>
       clear H'
       obtain ⟨x7_3, x36_3, rfl, rfl, HA, HK3, HO_26, HO_34, HB⟩ := hrel
       cases gk with
       | zero => exact absurd HA.out (by simp [impl_ClearBetween.l1])
       | succ k3 =>
        have H := HA.out
        clear HA
        simp only [impl_ClearBetween.l1] at H
        by_cases c21 : x36_3 < (t411.length : Int)
        ·
         rw [if_pos c21] at H
         have c21b0 := decide_eq_true c21
         clear c21
         have c22 : 0 ≤ x36_3 := ifN H
         replace H := ifT H
         have c22b0 := decide_eq_true c22
         clear c22
         have c23 : x36_3 < (t411.length : Int) := ifN H
         replace H := ifT H
         have c23b0 := decide_eq_true c23
         clear c23
         obtain ⟨t415, A24, H⟩ := bindE H
         try dsimp only at H
         have c25 : 0 ≤ t415 := ifN H
         replace H := ifT H
         have c25b0 := decide_eq_true c25
         clear c25
         have c26 : t415 < (l0.length : Int) := ifN H
         replace H := ifT H
         have c26b0 := decide_eq_true c26
         clear c26
         obtain ⟨t418, A27, H⟩ := bindE H
         try dsimp only at H
         have c28 : 0 ≤ t418 := ifN H
         replace H := ifT H
         have c28b0 := decide_eq_true c28
         clear c28
         have c29 : t418 < (l0.length : Int) := ifN H
         replace H := ifT H
         have c29b0 := decide_eq_true c29
         clear c29
         obtain ⟨t420, A30, H⟩ := bindE H
         try dsimp only at H
         by_cases c31 : t420 = true
         ·
          subst c31
          have H1 : ((impl_ClearOf.f ((rd_T69 l0 t415).f0) ((rd_T69 l0 t415).f1) ((rd_T69 l0 t415).f2) ((rd_T69 l0 t415).f3)).bind fun t421 => (impl_ClearBetween.l1 k3 l0 l1 l2 (mx x7_3 t421) (rd t407 x28_2) t407 (t407.length : Int) x28_2 t411 (t411.length : Int) (wrap64 (x36_3 + 1)))) = some r := by rw [if_pos rfl] at H; exact H
          clear H
          have H := H1
          clear H1
          obtain ⟨t421, A32, H⟩ := bindE H
          try dsimp only at H
          obtain ⟨ji33, hji33⟩ : ∃ j_ : Int, (mx x7_3 t421) = j_ := ⟨_, rfl⟩
          replace H : (impl_ClearBetween.l1 k3 l0 l1 l2 ji33 (rd t407 x28_2) t407 (t407.length : Int) x28_2 t411 (t411.length : Int) (wrap64 (x36_3 + 1))) = some r := by first | (rw [hji33] at H; exact H) | (simp only [hji33] at H ⊢; exact H)
          (try rw [hji33] at A24)
          (try rw [hji33] at A27)
          (try rw [hji33] at A30)
          (try rw [hji33] at A32)
          have hji33_ : (if x7_3 < t421 then t421 else x7_3) = ji33 := hji33
          have H' := Aside0.mk H
          clear H
          obtain ⟨p414, q414⟩ : 0 ≤ (x36_3 : Int) ∧ x36_3 < (t411.length : Int) := ⟨dA, dA⟩
          obtain ⟨ad414, e414, hx414_0⟩ := Kd.at_int (Kd.R_reads' HO_34.out).2.2 x36_3 p414 q414
          cases e414
          obtain ⟨p414, q414⟩ := eT p414 q414
          try go_wp2_with (first | ((with_reducible refine gate_callee (f := 83) rfl ?_); refine gL (some 43) Tryz.func83 #[.slice A0 l0.length c0, .int .i64 (rd t407 x28_2)] ?_; (with_reducible refine (impl_FindPath.calls _ _ l0 (rd t407 x28_2) t415 _ ?_ ?_ A24.out).mono ?_); exact cB HR0; exact HC0.out; rintro e w34 ⟨rfl, hb⟩; refine ⟨_, rfl, ?_⟩; replace HO_26 := rb HO_26 hb; replace HO_34 := rb HO_34 hb; replace HB := bs HB hb; (try clear hb); have p416 : 0 ≤ (t415 : Int) := dA; have q416 : t415 < (l0.length : Int) := dA; obtain ⟨ad416, e416, hx416_0, hx416_1, hx416_2, hx416_3⟩ := at_T69 HR0.out t415 p416 q416; cases e416; replace hx416_0 := hC HB hx416_0; replace hx416_1 := hC HB hx416_1; replace hx416_2 := hC HB hx416_2; replace hx416_3 := hC HB hx416_3; replace p416 := eq_true p416; replace q416 := eq_true q416) | ((with_reducible refine gate_dst (N := 12) rfl ?_); refine bE (N := 12) (cs := #[.int .i64 0, .int .i64 0, .int .i64 0, .int .i64 0]) (t := 69) ?_; intro gb417 hg w35 hbox hb; replace HO_26 := rb HO_26 hb; replace HO_34 := rb HO_34 hb; have BK417 := Aside0.mk (hbox); have GW417 := gw w hg; have GE417 := gw w hg; replace HB := bs HB hb; clear hb hbox hg; obtain ⟨_, _, _, _, _, _, _, _⟩ := blkc4 BK417))
          have n0_ : Aside0 (Kd.R (Kd.int .i64) 3 ((((w35.setCell ⟨gb417, 0, none⟩ (.int .i64 ((rd_T69 l0 t415).f0))).setCell ⟨gb417, 1, none⟩ (.int .i64 ((rd_T69 l0 t415).f1))).setCell ⟨gb417, 2, none⟩ (.int .i64 ((rd_T69 l0 t415).f2))).setCell ⟨gb417, 3, none⟩ (.int .i64 ((rd_T69 l0 t415).f3))) w.heap.size (n1 (.slice (some ad414) t411.length co20)) (.slice (some ad410) t407.length co14) t407) := ⟨rf HO_26 BK417⟩
          have n1_ : Aside0 (Kd.R (Kd.int .i64) 3 ((((w35.setCell ⟨gb417, 0, none⟩ (.int .i64 ((rd_T69 l0 t415).f0))).setCell ⟨gb417, 1, none⟩ (.int .i64 ((rd_T69 l0 t415).f1))).setCell ⟨gb417, 2, none⟩ (.int .i64 ((rd_T69 l0 t415).f2))).setCell ⟨gb417, 3, none⟩ (.int .i64 ((rd_T69 l0 t415).f3))) w.heap.size (n1 (.slice (some ad410) t407.length co14)) (.slice (some ad414) t411.length co20) t411) := ⟨rf HO_34 BK417⟩
          have n2_ : Aside0 (((((w35.setCell ⟨gb417, 0, none⟩ (.int .i64 ((rd_T69 l0 t415).f0))).setCell ⟨gb417, 1, none⟩ (.int .i64 ((rd_T69 l0 t415).f1))).setCell ⟨gb417, 2, none⟩ (.int .i64 ((rd_T69 l0 t415).f2))).setCell ⟨gb417, 3, none⟩ (.int .i64 ((rd_T69 l0 t415).f3))).heap[gb417]? = some (.cells #[.int .i64 ((rd_T69 l0 t415).f0), .int .i64 ((rd_T69 l0 t415).f1), .int .i64 ((rd_T69 l0 t415).f2), .int .i64 ((rd_T69 l0 t415).f3)] 69 (0, 0))) := ⟨kp BK417⟩
          have n3_ : Aside0 (Below w.heap.size w ((((w35.setCell ⟨gb417, 0, none⟩ (.int .i64 ((rd_T69 l0 t415).f0))).setCell ⟨gb417, 1, none⟩ (.int .i64 ((rd_T69 l0 t415).f1))).setCell ⟨gb417, 2, none⟩ (.int .i64 ((rd_T69 l0 t415).f2))).setCell ⟨gb417, 3, none⟩ (.int .i64 ((rd_T69 l0 t415).f3)))) := ⟨bG⟩
          (try clear HO_26)
          (try clear HO_34)
          (try clear BK417)
          (try clear HB)
          generalize ((((w35.setCell ⟨gb417, 0, none⟩ (.int .i64 ((rd_T69 l0 t415).f0))).setCell ⟨gb417, 1, none⟩ (.int .i64 ((rd_T69 l0 t415).f1))).setCell ⟨gb417, 2, none⟩ (.int .i64 ((rd_T69 l0 t415).f2))).setCell ⟨gb417, 3, none⟩ (.int .i64 ((rd_T69 l0 t415).f3))) = w37 at n0_ n1_ n2_ n3_ ⊢
          have HO_26 := n0_
          have HO_34 := n1_
          have BK417 := n2_
          have HB := n3_
          clear n0_ n1_ n2_ n3_
          replace HO_26 := dr HO_26
          replace HO_34 := dr HO_34
          replace BK417 := dk BK417
          have HBo := HB
          replace HB := db HB
          obtain ⟨p419, q419⟩ : 0 ≤ (t418 : Int) ∧ t418 < (l0.length : Int) := ⟨dA, dA⟩
          obtain ⟨ad419, e419, hx419_0, hx419_1, hx419_2, hx419_3⟩ := at_T69 HR0.out t418 p419 q419
          have hw419_3 := hx419_3
          have hw419_2 := hx419_2
          have hw419_1 := hx419_1
          have hw419_0 := hx419_0
          obtain rfl : ad416 = ad419 := (by injection e419)
          replace hx419_0 := hC HB hx419_0
          replace hx419_1 := hC HB hx419_1
          replace hx419_2 := hC HB hx419_2
          replace hx419_3 := hC HB hx419_3
          obtain ⟨p419, q419⟩ := eT p419 q419
          refine sw (ds := []) 8 (mb 8 0) impl_ClearBetween.tab11 impl_ClearBetween.bits11 (h4c BK417 (h1c (hC HB hw419_0) (h1c (hC HB hw419_1) (h1c (hC HB hw419_2) (h1 (hC HB hw419_3)))))) (fun hHeld HT_ HW_ => ?_)
          generalize w37.drew = w38 at HO_26 HO_34 BK417 HB hx419_0 hx419_1 hx419_2 hx419_3 hHeld ⊢
          refine pa 1 47 (mb 8 2) HT_ ?_
          refine pa 2 48 (mb 8 6) HT_ ?_
          refine pa 3 49 (mb 8 14) HT_ ?_
          refine ta8 0 46 (mb 8 15) HT_ HW_ hHeld ?_
          refine oa 4 50 (mb 8 31) HT_ (fun K hK => ?_)
          refine gA Tryz.func83 #[.slice (some ad416) l0.length c0, .int .i64 (rd t411 x36_3)] ?_
          with_reducible refine (impl_FindPath.calls _ _ l0 (rd t411 x36_3) t418 _ ?side1 ?side2 A27.out).mono ?_
          (case side1 => exact cB HR0)
          (case side2 => exact HC0.out)
          rintro e w39 ⟨rfl, hb⟩
          refine ⟨_, rfl, ?_⟩
          replace HO_26 := rb HO_26 hb
          replace HO_34 := rb HO_34 hb
          replace BK417 := kb BK417 hb
          replace HB := bs HB hb
          (try clear hb)
          (try clear hb2)
          (try clear hk)
          (try clear hi)
          refine hK.out _ _ (cm4 BK417 ⟨(hC HB hw419_0), (hC HB hw419_1), (hC HB hw419_2), (hC HB hw419_3)⟩) (fun hHeld => ?_)
          clear hK K
          refine nB ?_
          refine pa 5 51 (mb 8 63) HT_ ?_
          refine ta8 6 52 (mb 8 127) HT_ HW_ hHeld ?_
          refine oa 7 53 (mb 8 255) HT_ (fun K hK => ?_)
          refine gA Tryz.func111 #[.agg #[.int .i64 ((rd_T69 l0 t415).f0), .int .i64 ((rd_T69 l0 t415).f1), .int .i64 ((rd_T69 l0 t415).f2), .int .i64 ((rd_T69 l0 t415).f3)], .agg #[.int .i64 ((rd_T69 l0 t418).f0), .int .i64 ((rd_T69 l0 t418).f1), .int .i64 ((rd_T69 l0 t418).f2), .int .i64 ((rd_T69 l0 t418).f3)]] ?_
          with_reducible refine (impl_Conflict.calls k3 ((rd_T69 l0 t415).f0) ((rd_T69 l0 t415).f1) ((rd_T69 l0 t415).f2) ((rd_T69 l0 t415).f3) ((rd_T69 l0 t418).f0) ((rd_T69 l0 t418).f1) ((rd_T69 l0 t418).f2) ((rd_T69 l0 t418).f3) true _ A30.out).mono ?_
          rintro e w40 ⟨rfl, hb⟩
          refine ⟨_, rfl, ?_⟩
          replace HO_26 := rb HO_26 hb
          replace HO_34 := rb HO_34 hb
          replace BK417 := kb BK417 hb
          replace HB := bs HB hb
          (try clear hb)
          (try clear hb2)
          (try clear hk)
          (try clear hi)
          refine hK.out _ _ (cm4 BK417 ⟨(hC HB hw419_0), (hC HB hw419_1), (hC HB hw419_2), (hC HB hw419_3)⟩) (fun hHeld => ?_)
          clear hK K
          refine nB ?_
          refine eA HT_ ?_
          obtain ⟨_, _, _, _, _, _, _, _⟩ := blkc4 BK417
          try go_wp2_with (first | ((with_reducible refine gate_callee (f := 113) rfl ?_); refine gL (some 56) Tryz.func113 #[.agg #[.int .i64 ((rd_T69 l0 t415).f0), .int .i64 ((rd_T69 l0 t415).f1), .int .i64 ((rd_T69 l0 t415).f2), .int .i64 ((rd_T69 l0 t415).f3)]] ?_; (with_reducible refine (impl_ClearOf.calls ((rd_T69 l0 t415).f0) ((rd_T69 l0 t415).f1) ((rd_T69 l0 t415).f2) ((rd_T69 l0 t415).f3) t421 _ A32.out).mono ?_); rintro e w42 ⟨rfl, hb⟩; refine ⟨_, rfl, ?_⟩; replace HO_26 := rb HO_26 hb; replace HO_34 := rb HO_34 hb; replace BK417 := kb BK417 hb; replace HB := bs HB hb; (try clear hb)))
          go_roundg k3
          case measure => have := HJ3.out; have := HK2.out; have := HK3.out; omega
          case rel => exact ⟨(ji33), (wrap64 (x36_3 + 1)), (by first | rfl | (simp; done) | (simp only [← hji33] <;> (first | rfl | simp)) | (simp [*]; done)), rS, H', ⟨by have := HJ3.out; have := HK2.out; have := HK3.out; omega⟩, ⟨rK HO_26⟩, ⟨rK HO_34⟩, ⟨bG⟩⟩
         replace c31 := Bool.eq_false_iff.mpr c31
         subst c31
         have H1 : (impl_ClearBetween.l1 k3 l0 l1 l2 x7_3 (rd t407 x28_2) t407 (t407.length : Int) x28_2 t411 (t411.length : Int) (wrap64 (x36_3 + 1))) = some r := by rw [if_neg (show ¬ (false = true) by decide)] at H; exact H
         clear H
         have H := H1
         clear H1
         have H' := Aside0.mk H
         clear H
         obtain ⟨p414, q414⟩ : 0 ≤ (x36_3 : Int) ∧ x36_3 < (t411.length : Int) := ⟨dA, dA⟩
         obtain ⟨ad414, e414, hx414_0⟩ := Kd.at_int (Kd.R_reads' HO_34.out).2.2 x36_3 p414 q414
         cases e414
         obtain ⟨p414, q414⟩ := eT p414 q414
         try go_wp2_with (first | ((with_reducible refine gate_callee (f := 83) rfl ?_); refine gL (some 43) Tryz.func83 #[.slice A0 l0.length c0, .int .i64 (rd t407 x28_2)] ?_; (with_reducible refine (impl_FindPath.calls _ _ l0 (rd t407 x28_2) t415 _ ?_ ?_ A24.out).mono ?_); exact cB HR0; exact HC0.out; rintro e w43 ⟨rfl, hb⟩; refine ⟨_, rfl, ?_⟩; replace HO_26 := rb HO_26 hb; replace HO_34 := rb HO_34 hb; replace HB := bs HB hb; (try clear hb); have p416 : 0 ≤ (t415 : Int) := dA; have q416 : t415 < (l0.length : Int) := dA; obtain ⟨ad416, e416, hx416_0, hx416_1, hx416_2, hx416_3⟩ := at_T69 HR0.out t415 p416 q416; cases e416; replace hx416_0 := hC HB hx416_0; replace hx416_1 := hC HB hx416_1; replace hx416_2 := hC HB hx416_2; replace hx416_3 := hC HB hx416_3; replace p416 := eq_true p416; replace q416 := eq_true q416) | ((with_reducible refine gate_dst (N := 12) rfl ?_); refine bE (N := 12) (cs := #[.int .i64 0, .int .i64 0, .int .i64 0, .int .i64 0]) (t := 69) ?_; intro gb417 hg w44 hbox hb; replace HO_26 := rb HO_26 hb; replace HO_34 := rb HO_34 hb; have BK417 := Aside0.mk (hbox); have GW417 := gw w hg; have GE417 := gw w hg; replace HB := bs HB hb; clear hb hbox hg; obtain ⟨_, _, _, _, _, _, _, _⟩ := blkc4 BK417))
         have n0_ : Aside0 (Kd.R (Kd.int .i64) 3 ((((w44.setCell ⟨gb417, 0, none⟩ (.int .i64 ((rd_T69 l0 t415).f0))).setCell ⟨gb417, 1, none⟩ (.int .i64 ((rd_T69 l0 t415).f1))).setCell ⟨gb417, 2, none⟩ (.int .i64 ((rd_T69 l0 t415).f2))).setCell ⟨gb417, 3, none⟩ (.int .i64 ((rd_T69 l0 t415).f3))) w.heap.size (n1 (.slice (some ad414) t411.length co20)) (.slice (some ad410) t407.length co14) t407) := ⟨rf HO_26 BK417⟩
         have n1_ : Aside0 (Kd.R (Kd.int .i64) 3 ((((w44.setCell ⟨gb417, 0, none⟩ (.int .i64 ((rd_T69 l0 t415).f0))).setCell ⟨gb417, 1, none⟩ (.int .i64 ((rd_T69 l0 t415).f1))).setCell ⟨gb417, 2, none⟩ (.int .i64 ((rd_T69 l0 t415).f2))).setCell ⟨gb417, 3, none⟩ (.int .i64 ((rd_T69 l0 t415).f3))) w.heap.size (n1 (.slice (some ad410) t407.length co14)) (.slice (some ad414) t411.length co20) t411) := ⟨rf HO_34 BK417⟩
         have n2_ : Aside0 (((((w44.setCell ⟨gb417, 0, none⟩ (.int .i64 ((rd_T69 l0 t415).f0))).setCell ⟨gb417, 1, none⟩ (.int .i64 ((rd_T69 l0 t415).f1))).setCell ⟨gb417, 2, none⟩ (.int .i64 ((rd_T69 l0 t415).f2))).setCell ⟨gb417, 3, none⟩ (.int .i64 ((rd_T69 l0 t415).f3))).heap[gb417]? = some (.cells #[.int .i64 ((rd_T69 l0 t415).f0), .int .i64 ((rd_T69 l0 t415).f1), .int .i64 ((rd_T69 l0 t415).f2), .int .i64 ((rd_T69 l0 t415).f3)] 69 (0, 0))) := ⟨kp BK417⟩
         have n3_ : Aside0 (Below w.heap.size w ((((w44.setCell ⟨gb417, 0, none⟩ (.int .i64 ((rd_T69 l0 t415).f0))).setCell ⟨gb417, 1, none⟩ (.int .i64 ((rd_T69 l0 t415).f1))).setCell ⟨gb417, 2, none⟩ (.int .i64 ((rd_T69 l0 t415).f2))).setCell ⟨gb417, 3, none⟩ (.int .i64 ((rd_T69 l0 t415).f3)))) := ⟨bG⟩
         (try clear HO_26)
         (try clear HO_34)
         (try clear BK417)
         (try clear HB)
         generalize ((((w44.setCell ⟨gb417, 0, none⟩ (.int .i64 ((rd_T69 l0 t415).f0))).setCell ⟨gb417, 1, none⟩ (.int .i64 ((rd_T69 l0 t415).f1))).setCell ⟨gb417, 2, none⟩ (.int .i64 ((rd_T69 l0 t415).f2))).setCell ⟨gb417, 3, none⟩ (.int .i64 ((rd_T69 l0 t415).f3))) = w46 at n0_ n1_ n2_ n3_ ⊢
         have HO_26 := n0_
         have HO_34 := n1_
         have BK417 := n2_
         have HB := n3_
         clear n0_ n1_ n2_ n3_
         replace HO_26 := dr HO_26
         replace HO_34 := dr HO_34
         replace BK417 := dk BK417
         have HBo := HB
         replace HB := db HB
         obtain ⟨p419, q419⟩ : 0 ≤ (t418 : Int) ∧ t418 < (l0.length : Int) := ⟨dA, dA⟩
         obtain ⟨ad419, e419, hx419_0, hx419_1, hx419_2, hx419_3⟩ := at_T69 HR0.out t418 p419 q419
         have hw419_3 := hx419_3
         have hw419_2 := hx419_2
         have hw419_1 := hx419_1
         have hw419_0 := hx419_0
         obtain rfl : ad416 = ad419 := (by injection e419)
         replace hx419_0 := hC HB hx419_0
         replace hx419_1 := hC HB hx419_1
         replace hx419_2 := hC HB hx419_2
         replace hx419_3 := hC HB hx419_3
         obtain ⟨p419, q419⟩ := eT p419 q419
         refine sw (ds := []) 8 (mb 8 0) impl_ClearBetween.tab11 impl_ClearBetween.bits11 (h4c BK417 (h1c (hC HB hw419_0) (h1c (hC HB hw419_1) (h1c (hC HB hw419_2) (h1 (hC HB hw419_3)))))) (fun hHeld HT_ HW_ => ?_)
         generalize w46.drew = w47 at HO_26 HO_34 BK417 HB hx419_0 hx419_1 hx419_2 hx419_3 hHeld ⊢
         refine pa 1 47 (mb 8 2) HT_ ?_
         refine pa 2 48 (mb 8 6) HT_ ?_
         refine pa 3 49 (mb 8 14) HT_ ?_
         refine ta8 0 46 (mb 8 15) HT_ HW_ hHeld ?_
         refine oa 4 50 (mb 8 31) HT_ (fun K hK => ?_)
         refine gA Tryz.func83 #[.slice (some ad416) l0.length c0, .int .i64 (rd t411 x36_3)] ?_
         with_reducible refine (impl_FindPath.calls _ _ l0 (rd t411 x36_3) t418 _ ?side1 ?side2 A27.out).mono ?_
         (case side1 => exact cB HR0)
         (case side2 => exact HC0.out)
         rintro e w48 ⟨rfl, hb⟩
         refine ⟨_, rfl, ?_⟩
         replace HO_26 := rb HO_26 hb
         replace HO_34 := rb HO_34 hb
         replace BK417 := kb BK417 hb
         replace HB := bs HB hb
         (try clear hb)
         (try clear hb2)
         (try clear hk)
         (try clear hi)
         refine hK.out _ _ (cm4 BK417 ⟨(hC HB hw419_0), (hC HB hw419_1), (hC HB hw419_2), (hC HB hw419_3)⟩) (fun hHeld => ?_)
         clear hK K
         refine nB ?_
         refine pa 5 51 (mb 8 63) HT_ ?_
         refine ta8 6 52 (mb 8 127) HT_ HW_ hHeld ?_
         refine oa 7 53 (mb 8 255) HT_ (fun K hK => ?_)
         refine gA Tryz.func111 #[.agg #[.int .i64 ((rd_T69 l0 t415).f0), .int .i64 ((rd_T69 l0 t415).f1), .int .i64 ((rd_T69 l0 t415).f2), .int .i64 ((rd_T69 l0 t415).f3)], .agg #[.int .i64 ((rd_T69 l0 t418).f0), .int .i64 ((rd_T69 l0 t418).f1), .int .i64 ((rd_T69 l0 t418).f2), .int .i64 ((rd_T69 l0 t418).f3)]] ?_
         with_reducible refine (impl_Conflict.calls k3 ((rd_T69 l0 t415).f0) ((rd_T69 l0 t415).f1) ((rd_T69 l0 t415).f2) ((rd_T69 l0 t415).f3) ((rd_T69 l0 t418).f0) ((rd_T69 l0 t418).f1) ((rd_T69 l0 t418).f2) ((rd_T69 l0 t418).f3) false _ A30.out).mono ?_
         rintro e w49 ⟨rfl, hb⟩
         refine ⟨_, rfl, ?_⟩
         replace HO_26 := rb HO_26 hb
         replace HO_34 := rb HO_34 hb
         replace BK417 := kb BK417 hb
         replace HB := bs HB hb
         (try clear hb)
         (try clear hb2)
         (try clear hk)
         (try clear hi)
         refine hK.out _ _ (cm4 BK417 ⟨(hC HB hw419_0), (hC HB hw419_1), (hC HB hw419_2), (hC HB hw419_3)⟩) (fun hHeld => ?_)
         clear hK K
         refine nB ?_
         refine eA HT_ ?_
         try go_wp2
         go_roundg k3
         case measure => have := HJ3.out; have := HK2.out; have := HK3.out; omega
         case rel => exact ⟨(x7_3), (wrap64 (x36_3 + 1)), rS, rS, H', ⟨by have := HJ3.out; have := HK2.out; have := HK3.out; omega⟩, ⟨rK HO_26⟩, ⟨rK HO_34⟩, ⟨bG⟩⟩
        rw [if_neg c21] at H
        have c21b0 := decide_eq_false c21
        clear c21
        have H' := Aside0.mk H
        clear H
        go_wp2
        go_roundg k3
        case measure => have := HJ3.out; have := HK2.out; have := HK3.out; omega
        case rel => exact ⟨(x7_3), (wrap64 (x28_2 + 1)), rS, rS, H', ⟨by have := HJ3.out; have := HK2.out; have := HK3.out; omega⟩, ⟨rm HO_26 (fun _ hk => trivial)⟩, ⟨bA⟩⟩
     rw [if_neg c15] at H
     have c15b0 := decide_eq_false c15
     clear c15
     obtain rfl := Option.some.inj H
     go_wp2
     go_ret
     exact ⟨rA, bA⟩

/-! ### impl_nextStage: function 152 -/
def impl_nextStage.f (l0 : List (S72)) (a1 : Int) : Option (List Int) := if (l0.length : Int) = 0 then (none) else (if 0 ≤ (Int.tmod (wrap64 (a1 + 1)) (l0.length : Int)) then (if (Int.tmod (wrap64 (a1 + 1)) (l0.length : Int)) < (l0.length : Int) then (some ((rd_T72 l0 (Int.tmod (wrap64 (a1 + 1)) (l0.length : Int))).f0)) else (none)) else (none))
set_option maxHeartbeats 8000000 in
set_option maxRecDepth 100000 in
theorem impl_nextStage.calls (P0_ : Nat → Prop) (A0 : Option Addr) (c0 : Nat) (l0 : List (S72)) (a1 : Int) (r : List Int) (w : World) (hs0 : Kd.V k72 72 w w.heap.size (fun k_ => P0_ k_) (.slice A0 l0.length c0) l0) (h : impl_nextStage.f l0 a1 = some r) :
  Calls Tryz.prog 152 #[.slice A0 l0.length c0, .int .i64 a1] w fun e w' => ∃ v0_ : Value, e = .returned (v0_) ∧ Kd.V (Kd.int .i64) 3 w' w.heap.size (fun k_ => (P0_ k_ ∨ w.heap.size ≤ k_)) v0_ r ∧ Below w.heap.size w w' := by
 have HO0 := Aside0.mk (show Kd.V k72 72 w w.heap.size (fun k_ => (P0_ k_ ∨ w.heap.size ≤ k_)) (.slice A0 l0.length c0) l0 from Kd.V_mono hs0 (fun k_ hk => .inl hk))
 have HB := Aside0.mk (Below.refl w.heap.size w)
 have H : (if (l0.length : Int) = 0 then (none) else (if 0 ≤ (Int.tmod (wrap64 (a1 + 1)) (l0.length : Int)) then (if (Int.tmod (wrap64 (a1 + 1)) (l0.length : Int)) < (l0.length : Int) then (some ((rd_T72 l0 (Int.tmod (wrap64 (a1 + 1)) (l0.length : Int))).f0)) else (none)) else (none))) = some r := h
 clear h
 have c3 : ¬ ((l0.length : Int) = 0) := ifN' H
 replace H := ifT' H
 have c3b0 : ((l0.length : Int) == 0) = false := beq_eq_false_iff_ne.mpr c3
 have c3b1 : ((l0.length : Int) != 0) = true := bne_iff_ne.mpr c3
 have c3b2 : ¬ (l0 = []) := fun h_ => c3 (by rw [h_]; rfl)
 obtain ⟨ji4, hji4⟩ : ∃ j_ : Int, (Int.tmod (wrap64 (a1 + 1)) (l0.length : Int)) = j_ := ⟨_, rfl⟩
 replace H : (if 0 ≤ (ji4) then (if (ji4) < (l0.length : Int) then (some ((rd_T72 l0 (ji4)).f0)) else (none)) else (none)) = some r := by first | (rw [hji4] at H; exact H) | (simp only [hji4] at H ⊢; exact H)
 have c5 : 0 ≤ (ji4) := ifN H
 replace H := ifT H
 have c5b0 := decide_eq_true c5
 clear c5
 have c6 : (ji4) < (l0.length : Int) := ifN H
 replace H := ifT H
 have c6b0 := decide_eq_true c6
 clear c6
 obtain rfl := Option.some.inj H
 obtain ⟨p422, q422⟩ : 0 ≤ ((ji4) : Int) ∧ (ji4) < (l0.length : Int) := ⟨dA, dA⟩
 obtain ⟨ad422, A422_0, c422_0, e422, hx422_0, hx422_1, hl422_0, hi422_0⟩ := at_T72 (Kd.V_reads' HO0.out).2.2 (ji4) p422 q422
 cases e422
 obtain ⟨ce422, hce422, hMe422, hcc422⟩ := Kd.V_get HO0.out z72 (ji4) p422 (by first | exact q422 | exact dA | (have e_ := (Kd.V_reads' HO0.out).1; omega))
 obtain ⟨ua422_0, uc422_0, rfl, ul422_0, ge422_0⟩ := k72_openF hMe422
 have hv422_0 := hcc422 0 _ rfl
 rw [Nat.add_zero] at hv422_0
 replace hv422_0 := Option.some.inj (hv422_0.symm.trans hx422_0)
 injection hv422_0 with hva_ hvn_ hvc_
 rw [hva_] at ge422_0
 rw [hvc_] at ul422_0
 have HL422_0 := Aside0.mk (show Kd.V (Kd.int .i64) 3 _ w.heap.size _ _ ((rd_T72 l0 (ji4)).f0) from Kd.V_mk ul422_0 ge422_0)
 clear hva_ hvn_ hvc_ ge422_0 ul422_0
 clear hcc422 hce422
 have HR422_0 := Aside0.mk hi422_0
 have HC422_0 := Aside0.mk hl422_0
 clear hi422_0 hl422_0
 obtain ⟨p422, q422⟩ := eT p422 q422
 go_enter Tryz.func152, Tryz.ntmps152
 go_wp2
 go_ret
 exact ⟨_, by first | rfl | (simp [errW_none, errW_some] <;> rfl) | (simp only [← hji4]; first | rfl | (simp [errW_none, errW_some] <;> rfl)) | (simp [*, errW_none, errW_some] <;> rfl), by (with_reducible repeat (first | apply Kd.V_alloc | apply Kd.V_drewN | apply Kd.V_drew)); exact HL422_0.out, bA⟩

/-! ### impl_longOf: function 146 -/
def impl_longOf.f (k : Nat) (l0 : List (S69)) (l1 : List (S72)) (a2 : Int) : Option (Int) := if 0 ≤ a2 then (if a2 < (l1.length : Int) then ((impl_nextStage.f l1 a2).bind fun t425 => ((impl_ClearBetween.f k l0 ((rd_T72 l1 a2).f0) t425).bind fun t428 => (some (wrap64 (((rd_T72 l1 a2).f1) + t428))))) else (none)) else (none)
theorem impl_longOf.mono : ∀ a0 a1 a2 k, LeO (impl_longOf.f k a0 a1 a2) (impl_longOf.f (k + 1) a0 a1 a2) := by
 intro a0 a1 a2 k
 unfold impl_longOf.f
 exact mz1 impl_ClearBetween.mono
def impl_longOf.T1 : Bool × List (List Nat × List Nat) := (true, [([], []), ([], []), ([0, 1], [0, 1]), ([2], [2]), ([3], [3]), ([], []), ([], []), ([], []), ([6, 7], [6, 7]), ([8], [8]), ([9], [9]), ([], []), ([], []), ([11, 12], [11, 12]), ([5, 10, 13, 13], [5, 10, 13]), ([4, 14], [4, 14]), ([15, 14, 0, 1, 2, 3, 4, 5, 6, 7, 8, 9, 10, 11, 12, 13, 14, 15], [15])])
def impl_longOf.B1 : List Nat := [0, 0, 3, 7, 15, 0, 0, 0, 192, 448, 960, 0, 0, 6144, 16352, 32767, 65535]
theorem impl_longOf.tab1 : rtab .any (opsOf Tryz.f146 1) = impl_longOf.T1 := by kernel_rfl
theorem impl_longOf.bits1 : waitsOk impl_longOf.T1.2 impl_longOf.B1 = true := by kernel_rfl
set_option maxHeartbeats 8000000 in
set_option maxRecDepth 100000 in
theorem impl_longOf.calls (k : Nat) (A0 : Option Addr) (c0 : Nat) (l0 : List (S69)) (A1 : Option Addr) (c1 : Nat) (l1 : List (S72)) (a2 : Int) (r : Int) (w : World) (hr0 : Kd.C k69 w A0 l0.length l0) (hc0 : l0.length ≤ c0) (hr1 : Kd.C k72 w A1 l1.length l1) (hc1 : l1.length ≤ c1) (h : impl_longOf.f k l0 l1 a2 = some r) :
  Calls Tryz.prog 146 #[.slice A0 l0.length c0, .slice A1 l1.length c1, .int .i64 a2] w fun e w' => e = .returned (.int .i64 r) ∧ Below w.heap.size w w' := by
 have HR0 := Aside0.mk hr0
 have HC0 := Aside0.mk hc0
 clear hr0 hc0
 have HR1 := Aside0.mk hr1
 have HC1 := Aside0.mk hc1
 clear hr1 hc1
 have HB := Aside0.mk (Below.refl w.heap.size w)
 have H : (if 0 ≤ a2 then (if a2 < (l1.length : Int) then ((impl_nextStage.f l1 a2).bind fun t425 => ((impl_ClearBetween.f k l0 ((rd_T72 l1 a2).f0) t425).bind fun t428 => (some (wrap64 (((rd_T72 l1 a2).f1) + t428))))) else (none)) else (none)) = some r := h
 clear h
 have c4 : 0 ≤ a2 := ifN H
 replace H := ifT H
 have c4b0 := decide_eq_true c4
 clear c4
 have c5 : a2 < (l1.length : Int) := ifN H
 replace H := ifT H
 have c5b0 := decide_eq_true c5
 clear c5
 obtain ⟨t425, A6, H⟩ := bindE H
 try dsimp only at H
 obtain ⟨t428, A7, H⟩ := bindE H
 try dsimp only at H
 obtain rfl := Option.some.inj H
 go_enter Tryz.func146, Tryz.ntmps146
 try go_wp2
 have HBo := HB
 replace HB := db HB
 obtain ⟨p423, q423⟩ : 0 ≤ (a2 : Int) ∧ a2 < (l1.length : Int) := ⟨dA, dA⟩
 obtain ⟨ad423, A423_0, c423_0, e423, hx423_0, hx423_1, hl423_0, hi423_0⟩ := at_T72 HR1.out a2 p423 q423
 have hw423_1 := hx423_1
 have hw423_0 := hx423_0
 cases e423
 replace hx423_0 := hC HB hx423_0
 replace hx423_1 := hC HB hx423_1
 have HR423_0 := Aside0.mk hi423_0
 have HC423_0 := Aside0.mk hl423_0
 clear hi423_0 hl423_0
 obtain ⟨p423, q423⟩ := eT p423 q423
 obtain ⟨p424, q424⟩ : 0 ≤ (a2 : Int) ∧ a2 < (l1.length : Int) := ⟨dA, dA⟩
 obtain ⟨ad424, A424_0, c424_0, e424, hx424_0, hx424_1, hl424_0, hi424_0⟩ := at_T72 HR1.out a2 p424 q424
 have hw424_1 := hx424_1
 have hw424_0 := hx424_0
 obtain rfl : ad423 = ad424 := (by injection e424)
 replace hx424_0 := hC HB hx424_0
 replace hx424_1 := hC HB hx424_1
 have HR424_0 := Aside0.mk hi424_0
 have HC424_0 := Aside0.mk hl424_0
 clear hi424_0 hl424_0
 obtain ⟨p424, q424⟩ := eT p424 q424
 have ea_ := Option.some.inj (hx423_0.symm.trans hx424_0)
 injection ea_ with ea_ en_ ec_
 subst ea_
 subst ec_
 clear en_
 refine sw (ds := []) 17 (mb 17 0) impl_longOf.tab1 impl_longOf.bits1 (h1c (hC HB hw423_0) (h1c (hC HB hw423_1) (h1c (hC HB hw424_0) (h1 (hC HB hw424_1))))) (fun hHeld HT_ HW_ => ?_)
 generalize w.drew = w8 at HB HR423_0 HR424_0 hx423_0 hx423_1 hx424_0 hx424_1 hHeld ⊢
 refine pa 0 7 (mb 17 1) HT_ ?_
 refine pa 1 8 (mb 17 3) HT_ ?_
 refine pa 2 9 (mb 17 7) HT_ ?_
 refine pa 3 10 (mb 17 15) HT_ ?_
 refine pa 5 12 (mb 17 47) HT_ ?_
 refine pa 6 13 (mb 17 111) HT_ ?_
 refine pa 7 14 (mb 17 239) HT_ ?_
 refine pa 8 15 (mb 17 495) HT_ ?_
 refine pa 9 16 (mb 17 1007) HT_ ?_
 refine pa 11 18 (mb 17 3055) HT_ ?_
 refine pa 12 19 (mb 17 7151) HT_ ?_
 refine ta4 4 11 (mb 17 7167) HT_ HW_ hHeld ?_
 refine ta4 10 17 (mb 17 8191) HT_ HW_ hHeld ?_
 refine oa 13 20 (mb 17 16383) HT_ (fun K hK => ?_)
 refine gA Tryz.func152 #[.slice (some ad423) l1.length c1, .int .i64 a2] ?_
 with_reducible refine (impl_nextStage.calls (fun k_ => k_ < w.heap.size) _ _ l1 a2 t425 _ ?side1 A6.out).mono ?_
 (case side1 => exact Kd.V_mk HC1.out (Kd.F_below (Kd.C_F k72_heap HR1.out) bA))
 rintro e w9 ⟨v426, rfl, ho0, hb⟩
 refine ⟨_, rfl, ?_⟩
 have HO427 := Aside0.mk (Kd.V_lower (Kd.V_mono (ok' := fun k_ => True) ho0 (fun k_ hk_ => trivial)) (below_size bA))
 replace HB := bs HB hb
 (try clear hb)
 (try clear hb2)
 (try clear hk)
 (try clear hi)
 (try clear ho0)
 obtain ⟨Ao10, co10, eo10⟩ := Kd.V_slice HO427.out
 (first | subst eo10 | (injection eo10 with f1_ f2_ f3_; have f4_ := f1_.symm; have f5_ := f3_.symm; clear f1_ f2_ f3_; subst f4_; subst f5_))
 refine hK.out _ _ ⟨(hC HB hw423_0), (hC HB hw423_1), (hC HB hw424_0), (hC HB hw424_1)⟩ (fun hHeld => ?_)
 clear hK K
 refine nB ?_
 refine oa 14 21 (mb 17 32767) HT_ (fun K hK => ?_)
 refine gA Tryz.func81 #[.slice A0 l0.length c0, .slice A423_0 ((rd_T72 l1 a2).f0).length c423_0, .slice Ao10 t425.length co10] ?_
 with_reducible refine (impl_ClearBetween.calls k _ _ l0 _ _ ((rd_T72 l1 a2).f0) _ _ t425 t428 _ ?side1 ?side2 ?side3 ?side4 ?side5 ?side6 A7.out).mono ?_
 (case side1 => exact cB HR0)
 (case side2 => exact HC0.out)
 (case side3 => exact cB HR424_0)
 (case side4 => exact HC424_0.out)
 (case side5 => repeat (first | exact (Kd.V_reads' HO427.out).2.2 | (with_reducible refine Kd.C_alloc ?_ _) | (with_reducible refine Kd.C_drewN ?_ _) | (with_reducible refine Kd.C_drew ?_)))
 (case side6 => exact (Kd.V_reads' HO427.out).2.1)
 rintro e w11 ⟨rfl, hb⟩
 refine ⟨_, rfl, ?_⟩
 replace HO427 := Aside0.mk (Kd.V_below (by (with_reducible repeat (first | apply Kd.V_alloc | apply Kd.V_drewN | apply Kd.V_drew)); exact HO427.out) hb)
 replace HB := bs HB hb
 (try clear hb)
 (try clear hb2)
 (try clear hk)
 (try clear hi)
 refine hK.out _ _ ⟨(hC HB hw423_0), (hC HB hw423_1), (hC HB hw424_0), (hC HB hw424_1)⟩ (fun hHeld => ?_)
 clear hK K
 refine nB ?_
 refine pa 15 22 (mb 17 65535) HT_ ?_
 refine pa 16 6 (mb 17 131071) HT_ ?_
 refine eA HT_ ?_
 try go_wp2
 go_ret
 exact ⟨rA, bA⟩

/-! ### impl_Cycle: function 126 -/
def impl_Cycle.l0 : Nat → List (S69) → List (S72) → Int → Int → Int → Option (Int)
 | 0, _, _, _, _, _ => none
 | k + 1, x0, x1, x5, x12, x13 => if x13 < x12 then ((impl_longOf.f k x0 x1 x13).bind fun t430 => (impl_Cycle.l0 k x0 x1 (wrap64 (x5 + t430)) x12 (wrap64 (x13 + 1)))) else (some x5)
def impl_Cycle.f (k : Nat) (l0 : List (S69)) (l1 : List (S72)) : Option (Int) := (impl_IsPlan.f k l0 l1).bind fun t429 => (if t429 = true then (impl_Cycle.l0 k l0 l1 0 (l1.length : Int) 0) else (some 0))
theorem impl_Cycle.mono_l : ∀ k, (∀ y0 y1 y2 y3 y4, LeO (impl_Cycle.l0 k y0 y1 y2 y3 y4) (impl_Cycle.l0 (k + 1) y0 y1 y2 y3 y4))
 | 0 => fun _ _ _ _ _ r h => by simp [impl_Cycle.l0] at h
 | k + 1 => by
  have ih0 := impl_Cycle.mono_l k
  ·
   intro y0 y1 y2 y3 y4
   unfold impl_Cycle.l0
   exact mz3 ih0 impl_IsPlan.mono impl_longOf.mono
theorem impl_Cycle.mono : ∀ a0 a1 k, LeO (impl_Cycle.f k a0 a1) (impl_Cycle.f (k + 1) a0 a1) := by
 intro a0 a1 k
 have ih0 := impl_Cycle.mono_l k
 unfold impl_Cycle.f
 exact mz3 ih0 impl_IsPlan.mono impl_longOf.mono
set_option maxHeartbeats 8000000 in
set_option maxRecDepth 100000 in
theorem impl_Cycle.calls (k : Nat) (A0 : Option Addr) (c0 : Nat) (l0 : List (S69)) (A1 : Option Addr) (c1 : Nat) (l1 : List (S72)) (r : Int) (w : World) (hr0 : Kd.C k69 w A0 l0.length l0) (hc0 : l0.length ≤ c0) (hr1 : Kd.C k72 w A1 l1.length l1) (hc1 : l1.length ≤ c1) (h : impl_Cycle.f k l0 l1 = some r) :
  Calls Tryz.prog 126 #[.slice A0 l0.length c0, .slice A1 l1.length c1] w fun e w' => e = .returned (.int .i64 r) ∧ Below w.heap.size w w' := by
 have HR0 := Aside0.mk hr0
 have HC0 := Aside0.mk hc0
 clear hr0 hc0
 have HR1 := Aside0.mk hr1
 have HC1 := Aside0.mk hc1
 clear hr1 hc1
 have HB := Aside0.mk (Below.refl w.heap.size w)
 have H : ((impl_IsPlan.f k l0 l1).bind fun t429 => (if t429 = true then (impl_Cycle.l0 k l0 l1 0 (l1.length : Int) 0) else (some 0))) = some r := h
 clear h
 obtain ⟨t429, A3, H⟩ := bindE H
 try dsimp only at H
 by_cases c4 : t429 = true
 ·
  subst c4
  have H1 : (impl_Cycle.l0 k l0 l1 0 (l1.length : Int) 0) = some r := by rw [if_pos rfl] at H; exact H
  clear H
  have H := H1
  clear H1
  have H' := Aside0.mk H
  clear H
  go_enter Tryz.func126, Tryz.ntmps126
  go_wp2_with (first | ((with_reducible refine gate_callee (f := 145) rfl ?_); refine gL (some 9) Tryz.func145 #[.slice A0 l0.length c0, .slice A1 l1.length c1] ?_; (with_reducible refine (impl_IsPlan.calls k _ _ l0 (fun k_ => k_ < w.heap.size) _ _ l1 true _ ?_ ?_ ?_ A3.out).mono ?_); exact cO HR0; exact HC0.out; exact Kd.V_mk HC1.out (Kd.F_below (Kd.C_F k72_heap HR1.out) bA); rintro e w5 ⟨rfl, hb⟩; refine ⟨_, rfl, ?_⟩; replace HB := bs HB hb; (try clear hb)))
  go_loopg [5, 13] k (fun kq v5 v13 w' => ∃ (x5_1 : Int) (x13_1 : Int), v5 = .int .i64 x5_1 ∧ v13 = .int .i64 x13_1 ∧ Aside0 (impl_Cycle.l0 kq l0 l1 x5_1 (l1.length : Int) x13_1 = some r) ∧ Aside0 (kq ≤ k) ∧ Aside0 (Below w.heap.size w w'))
  case atStart => exact ⟨(0), (0), rS, rS, H', ⟨Nat.le_refl _⟩, ⟨bA⟩⟩
  case round =>
   clear H'
   obtain ⟨x5_1, x13_1, rfl, rfl, HA, HK1, HB⟩ := hrel
   cases gk with
   | zero => exact absurd HA.out (by simp [impl_Cycle.l0])
   | succ k1 =>
    have H := HA.out
    clear HA
    simp only [impl_Cycle.l0] at H
    by_cases c6 : x13_1 < (l1.length : Int)
    ·
     rw [if_pos c6] at H
     have c6b0 := decide_eq_true c6
     clear c6
     obtain ⟨t430, A7, H⟩ := bindE H
     try dsimp only at H
     have H' := Aside0.mk H
     clear H
     go_wp2_with (first | ((with_reducible refine gate_callee (f := 146) rfl ?_); refine gL (some 20) Tryz.func146 #[.slice A0 l0.length c0, .slice A1 l1.length c1, .int .i64 x13_1] ?_; (with_reducible refine (impl_longOf.calls k1 _ _ l0 _ _ l1 x13_1 t430 _ ?_ ?_ ?_ ?_ A7.out).mono ?_); exact cB HR0; exact HC0.out; exact cB HR1; exact HC1.out; rintro e w8 ⟨rfl, hb⟩; refine ⟨_, rfl, ?_⟩; replace HB := bs HB hb; (try clear hb)))
     go_roundg k1
     case measure => have := HK1.out; omega
     case rel => exact ⟨(wrap64 (x5_1 + t430)), (wrap64 (x13_1 + 1)), rS, rS, H', ⟨by have := HK1.out; omega⟩, ⟨bA⟩⟩
    rw [if_neg c6] at H
    have c6b0 := decide_eq_false c6
    clear c6
    obtain rfl := Option.some.inj H
    go_wp2
    go_ret
    exact ⟨rA, bA⟩
 replace c4 := Bool.eq_false_iff.mpr c4
 subst c4
 have H1 : (some 0) = some r := by rw [if_neg (show ¬ (false = true) by decide)] at H; exact H
 clear H
 have H := H1
 clear H1
 obtain rfl := Option.some.inj H
 go_enter Tryz.func126, Tryz.ntmps126
 go_wp2_with (first | ((with_reducible refine gate_callee (f := 145) rfl ?_); refine gL (some 9) Tryz.func145 #[.slice A0 l0.length c0, .slice A1 l1.length c1] ?_; (with_reducible refine (impl_IsPlan.calls k _ _ l0 (fun k_ => k_ < w.heap.size) _ _ l1 false _ ?_ ?_ ?_ A3.out).mono ?_); exact cO HR0; exact HC0.out; exact Kd.V_mk HC1.out (Kd.F_below (Kd.C_F k72_heap HR1.out) bA); rintro e w9 ⟨rfl, hb⟩; refine ⟨_, rfl, ?_⟩; replace HB := bs HB hb; (try clear hb)))
 go_ret
 exact ⟨rA, bA⟩

/-! ### impl_PartAt: function 153 -/
mutual
def impl_PartAt.j0 : Nat → List (S69) → List (S72) → Int → Int → Bool → Option (Int × Int)
 | 0, _, _, _, _, _ => none
 | k + 1, x0, x1, x2, x8, x20 => if x20 = true then (some ((-1), 0)) else (if x8 = 0 then (none) else (impl_PartAt.l0 k x0 x1 (Int.tmod x2 x8) 0))
def impl_PartAt.l0 : Nat → List (S69) → List (S72) → Int → Int → Option (Int × Int)
 | 0, _, _, _, _ => none
 | k + 1, x0, x1, x9, x10 => (impl_longOf.f k x0 x1 x10).bind fun t433 => (if x9 ≥ t433 then ((impl_longOf.f k x0 x1 x10).bind fun t434 => (impl_PartAt.l0 k x0 x1 (wrap64 (x9 - t434)) (wrap64 (x10 + 1)))) else (some (x10, x9)))
end
def impl_PartAt.f (k : Nat) (l0 : List (S69)) (l1 : List (S72)) (a2 : Int) : Option (Int × Int) := (impl_Cycle.f k l0 l1).bind fun t431 => (if t431 = 0 then (impl_PartAt.j0 k l0 l1 a2 t431 true) else ((impl_InRange.f a2 0 1000000).bind fun t432 => (impl_PartAt.j0 k l0 l1 a2 t431 (!t432))))
theorem impl_PartAt.mono_l : ∀ k, (∀ y0 y1 y2 y3 y4, LeO (impl_PartAt.j0 k y0 y1 y2 y3 y4) (impl_PartAt.j0 (k + 1) y0 y1 y2 y3 y4)) ∧ (∀ y0 y1 y2 y3, LeO (impl_PartAt.l0 k y0 y1 y2 y3) (impl_PartAt.l0 (k + 1) y0 y1 y2 y3))
 | 0 => ⟨fun _ _ _ _ _ r h => by simp [impl_PartAt.j0] at h, fun _ _ _ _ r h => by simp [impl_PartAt.l0] at h⟩
 | k + 1 => by
  obtain ⟨ih0, ih1⟩ := impl_PartAt.mono_l k
  refine ⟨?_, ?_⟩
  ·
   intro y0 y1 y2 y3 y4
   unfold impl_PartAt.j0
   exact mz4 ih0 ih1 impl_Cycle.mono impl_longOf.mono
  ·
   intro y0 y1 y2 y3
   unfold impl_PartAt.l0
   exact mz4 ih0 ih1 impl_Cycle.mono impl_longOf.mono
theorem impl_PartAt.mono : ∀ a0 a1 a2 k, LeO (impl_PartAt.f k a0 a1 a2) (impl_PartAt.f (k + 1) a0 a1 a2) := by
 intro a0 a1 a2 k
 obtain ⟨ih0, ih1⟩ := impl_PartAt.mono_l k
 unfold impl_PartAt.f
 exact mz4 ih0 ih1 impl_Cycle.mono impl_longOf.mono
set_option maxHeartbeats 8000000 in
set_option maxRecDepth 100000 in
theorem impl_PartAt.calls (k : Nat) (A0 : Option Addr) (c0 : Nat) (l0 : List (S69)) (A1 : Option Addr) (c1 : Nat) (l1 : List (S72)) (a2 : Int) (r1 : Int) (r2 : Int) (w : World) (hr0 : Kd.C k69 w A0 l0.length l0) (hc0 : l0.length ≤ c0) (hr1 : Kd.C k72 w A1 l1.length l1) (hc1 : l1.length ≤ c1) (h : impl_PartAt.f k l0 l1 a2 = some (r1, r2)) :
  Calls Tryz.prog 153 #[.slice A0 l0.length c0, .slice A1 l1.length c1, .int .i64 a2] w fun e w' => e = .returned (.tuple #[.int .i64 r1, .int .i64 r2]) ∧ Below w.heap.size w w' := by
 have HR0 := Aside0.mk hr0
 have HC0 := Aside0.mk hc0
 clear hr0 hc0
 have HR1 := Aside0.mk hr1
 have HC1 := Aside0.mk hc1
 clear hr1 hc1
 have HB := Aside0.mk (Below.refl w.heap.size w)
 have H : ((impl_Cycle.f k l0 l1).bind fun t431 => (if t431 = 0 then (impl_PartAt.j0 k l0 l1 a2 t431 true) else ((impl_InRange.f a2 0 1000000).bind fun t432 => (impl_PartAt.j0 k l0 l1 a2 t431 (!t432))))) = some (r1, r2) := h
 clear h
 obtain ⟨t431, A4, H⟩ := bindE H
 try dsimp only at H
 have HC5 := Aside0.mk H
 clear H
 go_enter Tryz.func153, Tryz.ntmps153
 go_upto_region 2 with (first | ((with_reducible refine gate_callee (f := 126) rfl ?_); refine gL (some 13) Tryz.func126 #[.slice A0 l0.length c0, .slice A1 l1.length c1] ?_; (with_reducible refine (impl_Cycle.calls k _ _ l0 _ _ l1 t431 _ ?_ ?_ ?_ ?_ A4.out).mono ?_); exact cO HR0; exact HC0.out; exact cO HR1; exact HC1.out; rintro e w6 ⟨rfl, hb⟩; refine ⟨_, rfl, ?_⟩; replace HB := bs HB hb; (try clear hb)))
 (try simp only [Act.put, List.setIfInBounds_toArray, List.set_cons_zero, List.set_cons_succ])
 go_cut [20] (fun v20 wc => ∃ (kq : Nat) (x20_4 : Bool), v20 = .bool x20_4 ∧ Aside0 (impl_PartAt.j0 kq l0 l1 a2 t431 x20_4 = some (r1, r2)) ∧ Aside0 (kq ≤ k) ∧ Aside0 (Below w.heap.size w wc))
 case first =>
  have H := HC5.out
  clear HC5
  by_cases c7 : t431 = 0
  ·
   rw [if_pos c7] at H
   have c7b0 : (t431 == 0) = true := beq_iff_eq.mpr c7
   have c7b1 : (t431 != 0) = false := bne_eq_false_iff_eq.mpr c7
   clear c7
   (first | rw [c7b0] | (simp only [i64_w, i32_w]; rw [c7b0]) | skip)
   have H' := Aside0.mk H
   clear H
   go_wp2
   go_meet
   case rel => exact ⟨_, (true), rS, H', ⟨oL⟩, ⟨bA⟩⟩
  rw [if_neg c7] at H
  have c7b0 : (t431 == 0) = false := beq_eq_false_iff_ne.mpr c7
  have c7b1 : (t431 != 0) = true := bne_iff_ne.mpr c7
  (first | rw [c7b0] | (simp only [i64_w, i32_w]; rw [c7b0]) | skip)
  obtain ⟨t432, A8, H⟩ := bindE H
  try dsimp only at H
  have H' := Aside0.mk H
  clear H
  go_wp2_with (first | (go_at_call 80; (with_reducible refine (impl_InRange.calls a2 0 1000000 t432 _ A8.out).mono ?_); rintro e w' ⟨rfl, ⟨nd, rfl⟩⟩))
  go_meet
  case rel => exact ⟨_, (!t432), rS, H', ⟨oL⟩, ⟨bA⟩⟩
 case rest =>
  clear HC5
  obtain ⟨kq, x20_4, rfl, HA, HJ4, HB⟩ := hcut
  cases kq with
  | zero => exact absurd HA.out (by simp [impl_PartAt.j0])
  | succ kj4 =>
   have H := HA.out
   clear HA
   simp only [impl_PartAt.j0] at H
   by_cases c9 : x20_4 = true
   ·
    subst c9
    have H1 : (some ((-1), 0)) = some (r1, r2) := by rw [if_pos rfl] at H; exact H
    clear H
    have H := H1
    clear H1
    simp only [Option.some.injEq, Prod.mk.injEq] at H
    obtain ⟨rfl, rfl⟩ := H
    go_wp2
    go_ret2
    exact ⟨rA, bA⟩
   replace c9 := Bool.eq_false_iff.mpr c9
   subst c9
   have H1 : (if t431 = 0 then (none) else (impl_PartAt.l0 kj4 l0 l1 (Int.tmod a2 t431) 0)) = some (r1, r2) := by rw [if_neg (show ¬ (false = true) by decide)] at H; exact H
   clear H
   have H := H1
   clear H1
   have c10 : ¬ (t431 = 0) := ifN' H
   replace H := ifT' H
   have c10b0 : (t431 == 0) = false := beq_eq_false_iff_ne.mpr c10
   have c10b1 : (t431 != 0) = true := bne_iff_ne.mpr c10
   have H' := Aside0.mk H
   clear H
   go_wp2
   go_loopg [9, 10] kj4 (fun kq v9 v10 w' => ∃ (x9_2 : Int) (x10_2 : Int), v9 = .int .i64 x9_2 ∧ v10 = .int .i64 x10_2 ∧ Aside0 (impl_PartAt.l0 kq l0 l1 x9_2 x10_2 = some (r1, r2)) ∧ Aside0 (kq ≤ kj4) ∧ Aside0 (Below w.heap.size w w'))
   case atStart => exact ⟨(Int.tmod a2 t431), (0), rS, rS, H', ⟨Nat.le_refl _⟩, ⟨bA⟩⟩
   case round =>
    clear H'
    obtain ⟨x9_2, x10_2, rfl, rfl, HA, HK2, HB⟩ := hrel
    cases gk with
    | zero => exact absurd HA.out (by simp [impl_PartAt.l0])
    | succ k2 =>
     have H := HA.out
     clear HA
     simp only [impl_PartAt.l0] at H
     obtain ⟨t433, A11, H⟩ := bindE H
     try dsimp only at H
     by_cases c12 : x9_2 ≥ t433
     ·
      rw [if_pos c12] at H
      have c12b0 := decide_eq_true c12
      clear c12
      obtain ⟨t434, A13, H⟩ := bindE H
      try dsimp only at H
      have H' := Aside0.mk H
      clear H
      go_wp2_with (first | ((with_reducible refine gate_callee (f := 146) rfl ?_); refine gL (some 28) Tryz.func146 #[.slice A0 l0.length c0, .slice A1 l1.length c1, .int .i64 x10_2] ?_; (with_reducible refine (impl_longOf.calls k2 _ _ l0 _ _ l1 x10_2 t433 _ ?_ ?_ ?_ ?_ A11.out).mono ?_); exact cB HR0; exact HC0.out; exact cB HR1; exact HC1.out; rintro e w14 ⟨rfl, hb⟩; refine ⟨_, rfl, ?_⟩; replace HB := bs HB hb; (try clear hb)) | ((with_reducible refine gate_callee (f := 146) rfl ?_); refine gL (some 34) Tryz.func146 #[.slice A0 l0.length c0, .slice A1 l1.length c1, .int .i64 x10_2] ?_; (with_reducible refine (impl_longOf.calls k2 _ _ l0 _ _ l1 x10_2 t434 _ ?_ ?_ ?_ ?_ A13.out).mono ?_); exact cB HR0; exact HC0.out; exact cB HR1; exact HC1.out; rintro e w15 ⟨rfl, hb⟩; refine ⟨_, rfl, ?_⟩; replace HB := bs HB hb; (try clear hb)))
      go_roundg k2
      case measure => have := HJ4.out; have := HK2.out; omega
      case rel => exact ⟨(wrap64 (x9_2 - t434)), (wrap64 (x10_2 + 1)), rS, rS, H', ⟨by have := HJ4.out; have := HK2.out; omega⟩, ⟨bA⟩⟩
     rw [if_neg c12] at H
     have c12b0 := decide_eq_false c12
     clear c12
     simp only [Option.some.injEq, Prod.mk.injEq] at H
     obtain ⟨rfl, rfl⟩ := H
     go_wp2_with (first | ((with_reducible refine gate_callee (f := 146) rfl ?_); refine gL (some 28) Tryz.func146 #[.slice A0 l0.length c0, .slice A1 l1.length c1, .int .i64 x10_2] ?_; (with_reducible refine (impl_longOf.calls k2 _ _ l0 _ _ l1 x10_2 t433 _ ?_ ?_ ?_ ?_ A11.out).mono ?_); exact cB HR0; exact HC0.out; exact cB HR1; exact HC1.out; rintro e w16 ⟨rfl, hb⟩; refine ⟨_, rfl, ?_⟩; replace HB := bs HB hb; (try clear hb)))
     go_ret2
     exact ⟨rA, bA⟩

/-! ### impl_shown: function 147 -/
mutual
def impl_shown.j0 : Nat → List (S72) → Int → Int → Bool → Int → Int → Int → Int → Option (Int)
 | 0, _, _, _, _, _, _, _, _ => none
 | k + 1, x1, x9, x10, x30, x436000, x436001, x436002, x436003 => if x30 = true then (some 0) else (if 0 ≤ x9 then (if x9 < (x1.length : Int) then (if x10 < ((rd_T72 x1 x9).f1) then (impl_shown.j1 k x1 x9 x10 true x436000 x436001 x436002 x436003) else ((impl_nextStage.f x1 x9).bind fun t441 => ((slices_Contains_int_int.f k t441 x436000).bind fun t444 => (impl_shown.j1 k x1 x9 x10 t444 x436000 x436001 x436002 x436003)))) else (none)) else (none))
def impl_shown.j1 : Nat → List (S72) → Int → Int → Bool → Int → Int → Int → Int → Option (Int)
 | 0, _, _, _, _, _, _, _, _ => none
 | k + 1, x1, x9, x10, x31, x436000, x436001, x436002, x436003 => if x31 = true then (some 1) else (if 0 ≤ x9 then (if x9 < (x1.length : Int) then ((impl_ClearOf.f x436000 x436001 x436002 x436003).bind fun t446 => (if x10 < (wrap64 (((rd_T72 x1 x9).f1) + t446)) then (some 2) else (some 0))) else (none)) else (none))
end
def impl_shown.f (k : Nat) (l0 : List (S69)) (l1 : List (S72)) (a2 : Int) (a3_0 : Int) (a3_1 : Int) (a3_2 : Int) (a3_3 : Int) : Option (Int) := (impl_PartAt.f k l0 l1 a2).bind fun bt436 => (if bt436.1 < 0 then (impl_shown.j0 k l1 bt436.1 bt436.2 true a3_0 a3_1 a3_2 a3_3) else (if 0 ≤ bt436.1 then (if bt436.1 < (l1.length : Int) then ((slices_Contains_int_int.f k ((rd_T72 l1 bt436.1).f0) a3_0).bind fun t439 => (impl_shown.j0 k l1 bt436.1 bt436.2 (!t439) a3_0 a3_1 a3_2 a3_3)) else (none)) else (none)))
theorem impl_shown.mono_l : ∀ k, (∀ y0 y1 y2 y3 y4 y5 y6 y7, LeO (impl_shown.j0 k y0 y1 y2 y3 y4 y5 y6 y7) (impl_shown.j0 (k + 1) y0 y1 y2 y3 y4 y5 y6 y7)) ∧ (∀ y0 y1 y2 y3 y4 y5 y6 y7, LeO (impl_shown.j1 k y0 y1 y2 y3 y4 y5 y6 y7) (impl_shown.j1 (k + 1) y0 y1 y2 y3 y4 y5 y6 y7))
 | 0 => ⟨fun _ _ _ _ _ _ _ _ r h => by simp [impl_shown.j0] at h, fun _ _ _ _ _ _ _ _ r h => by simp [impl_shown.j1] at h⟩
 | k + 1 => by
  obtain ⟨ih0, ih1⟩ := impl_shown.mono_l k
  refine ⟨?_, ?_⟩
  ·
   intro y0 y1 y2 y3 y4 y5 y6 y7
   unfold impl_shown.j0
   exact mz4 ih0 ih1 impl_PartAt.mono slices_Contains_int_int.mono
  ·
   intro y0 y1 y2 y3 y4 y5 y6 y7
   unfold impl_shown.j1
   exact mz4 ih0 ih1 impl_PartAt.mono slices_Contains_int_int.mono
theorem impl_shown.mono : ∀ a0 a1 a2 a3 a4 a5 a6 k, LeO (impl_shown.f k a0 a1 a2 a3 a4 a5 a6) (impl_shown.f (k + 1) a0 a1 a2 a3 a4 a5 a6) := by
 intro a0 a1 a2 a3 a4 a5 a6 k
 obtain ⟨ih0, ih1⟩ := impl_shown.mono_l k
 unfold impl_shown.f
 exact mz4 ih0 ih1 impl_PartAt.mono slices_Contains_int_int.mono
def impl_shown.T2 : Bool × List (List Nat × List Nat) := (true, [([], []), ([0], [0]), ([1], [1]), ([2], [2]), ([2], [2]), ([3, 4, 2], [2, 3, 4]), ([5, 2], [2, 5]), ([6, 2], [2, 6]), ([2], [2]), ([8, 2], [2, 8]), ([7, 9, 2, 2], [2, 7, 9]), ([10, 2], [2, 10]), ([2, 11], [2, 11])])
def impl_shown.B2 : List Nat := [0, 1, 3, 7, 7, 31, 63, 127, 7, 263, 1023, 2047, 4095]
theorem impl_shown.tab2 : rtab .any (opsOf Tryz.f147 2) = impl_shown.T2 := by kernel_rfl
theorem impl_shown.bits2 : waitsOk impl_shown.T2.2 impl_shown.B2 = true := by kernel_rfl
def impl_shown.T4 : Bool × List (List Nat × List Nat) := (true, [([], []), ([], []), ([], []), ([1, 2], [1, 2]), ([3], [3]), ([4], [4]), ([0, 5], [0, 5]), ([6], [6]), ([7], [7]), ([7], [7]), ([8, 9, 7, 7], [7, 8, 9]), ([7], [7]), ([11, 7], [7, 11]), ([10, 12, 10, 7], [7, 10, 12]), ([7, 13], [7, 13]), ([14, 13], [14])])
def impl_shown.B4 : List Nat := [0, 0, 0, 6, 14, 30, 63, 127, 255, 255, 1023, 255, 2303, 8191, 16383, 32767]
theorem impl_shown.tab4 : rtab .any (opsOf Tryz.f147 4) = impl_shown.T4 := by kernel_rfl
theorem impl_shown.bits4 : waitsOk impl_shown.T4.2 impl_shown.B4 = true := by kernel_rfl
def impl_shown.T6 : Bool × List (List Nat × List Nat) := (true, [([], []), ([], []), ([], []), ([1, 2], [1, 2]), ([3], [3]), ([4], [4]), ([], []), ([6], [6]), ([5, 7], [5, 7]), ([0, 8], [0, 8]), ([9, 7], [9])])
def impl_shown.B6 : List Nat := [0, 0, 0, 6, 14, 30, 0, 64, 254, 511, 1023]
theorem impl_shown.tab6 : rtab .any (opsOf Tryz.f147 6) = impl_shown.T6 := by kernel_rfl
theorem impl_shown.bits6 : waitsOk impl_shown.T6.2 impl_shown.B6 = true := by kernel_rfl
set_option maxHeartbeats 8000000 in
set_option maxRecDepth 100000 in
theorem impl_shown.calls (k : Nat) (A0 : Option Addr) (c0 : Nat) (l0 : List (S69)) (A1 : Option Addr) (c1 : Nat) (l1 : List (S72)) (a2 : Int) (a3_0 : Int) (a3_1 : Int) (a3_2 : Int) (a3_3 : Int) (r : Int) (w : World) (hr0 : Kd.C k69 w A0 l0.length l0) (hc0 : l0.length ≤ c0) (hr1 : Kd.C k72 w A1 l1.length l1) (hc1 : l1.length ≤ c1) (h : impl_shown.f k l0 l1 a2 a3_0 a3_1 a3_2 a3_3 = some r) :
  Calls Tryz.prog 147 #[.slice A0 l0.length c0, .slice A1 l1.length c1, .int .i64 a2, .agg #[.int .i64 a3_0, .int .i64 a3_1, .int .i64 a3_2, .int .i64 a3_3]] w fun e w' => e = .returned (.int .i64 r) ∧ Below w.heap.size w w' := by
 have hu69 := Tryz.underlying69
 have HR0 := Aside0.mk hr0
 have HC0 := Aside0.mk hc0
 clear hr0 hc0
 have HR1 := Aside0.mk hr1
 have HC1 := Aside0.mk hc1
 clear hr1 hc1
 have HB := Aside0.mk (Below.refl w.heap.size w)
 have H : ((impl_PartAt.f k l0 l1 a2).bind fun bt436 => (if bt436.1 < 0 then (impl_shown.j0 k l1 bt436.1 bt436.2 true a3_0 a3_1 a3_2 a3_3) else (if 0 ≤ bt436.1 then (if bt436.1 < (l1.length : Int) then ((slices_Contains_int_int.f k ((rd_T72 l1 bt436.1).f0) a3_0).bind fun t439 => (impl_shown.j0 k l1 bt436.1 bt436.2 (!t439) a3_0 a3_1 a3_2 a3_3)) else (none)) else (none)))) = some r := h
 clear h
 obtain ⟨⟨t436, t437⟩, A5, H⟩ := bindE H
 try dsimp only at H
 have HC6 := Aside0.mk H
 clear H
 go_enter Tryz.func147, Tryz.ntmps147
 go_upto_region 2 with (first | ((with_reducible refine gate_dst (N := 7) rfl ?_); refine bE (N := 7) (cs := #[.int .i64 a3_0, .int .i64 a3_1, .int .i64 a3_2, .int .i64 a3_3]) (t := 69) ?_; intro gb435 hg w7 hbox hb; have BK435 := Aside0.mk (hbox); have GW435 := gw w hg; have GE435 := gw w hg; replace HB := bs HB hb; clear hb hbox hg) | ((with_reducible refine gate_callee (f := 153) rfl ?_); refine gL (some 15) Tryz.func153 #[.slice A0 l0.length c0, .slice A1 l1.length c1, .int .i64 a2] ?_; (with_reducible refine (impl_PartAt.calls k _ _ l0 _ _ l1 a2 t436 t437 _ ?_ ?_ ?_ ?_ A5.out).mono ?_); exact cB HR0; exact HC0.out; exact cB HR1; exact HC1.out; rintro e w8 ⟨rfl, hb⟩; refine ⟨_, rfl, ?_⟩; replace BK435 := kb BK435 hb; replace HB := bs HB hb; (try clear hb)))
 (try simp only [Act.put, List.setIfInBounds_toArray, List.set_cons_zero, List.set_cons_succ])
 go_cut [30] (fun v30 wc => ∃ (kq : Nat) (x30_5 : Bool), v30 = .bool x30_5 ∧ Aside0 (impl_shown.j0 kq l1 t436 t437 x30_5 a3_0 a3_1 a3_2 a3_3 = some r) ∧ Aside0 (kq ≤ k) ∧ Aside0 (wc.heap[gb435]? = some (.cells #[.int .i64 a3_0, .int .i64 a3_1, .int .i64 a3_2, .int .i64 a3_3] 69 (0, 0))) ∧ Aside0 (Below w.heap.size w wc))
 case first =>
  have H := HC6.out
  clear HC6
  by_cases c9 : t436 < 0
  ·
   rw [if_pos c9] at H
   have c9b0 := decide_eq_true c9
   clear c9
   (first | rw [c9b0] | (simp only [i64_w, i32_w]; rw [c9b0]) | skip)
   have H' := Aside0.mk H
   clear H
   try go_wp2
   replace BK435 := dk BK435
   have HBo := HB
   replace HB := db HB
   refine sw (ds := []) 13 (mb 13 0) impl_shown.tab2 impl_shown.bits2 h0 (fun hHeld HT_ HW_ => ?_)
   generalize w8.drew = w10 at BK435 HB hHeld ⊢
   refine pa 0 18 (mb 13 1) HT_ ?_
   refine pa 1 19 (mb 13 3) HT_ ?_
   refine pa 2 20 (mb 13 7) HT_ ?_
   refine pu 3 21 (mb 13 15) HT_ ?_
   refine pu 4 22 (mb 13 31) HT_ ?_
   refine pu 5 23 (mb 13 63) HT_ ?_
   refine pu 6 24 (mb 13 127) HT_ ?_
   refine pu 7 25 (mb 13 255) HT_ ?_
   refine pu 8 26 (mb 13 511) HT_ ?_
   refine pu 9 27 (mb 13 1023) HT_ ?_
   refine pu 10 28 (mb 13 2047) HT_ ?_
   refine pu 11 29 (mb 13 4095) HT_ ?_
   refine pa 12 30 (mb 13 8191) HT_ ?_
   refine eA HT_ ?_
   try go_wp2
   go_meet
   case rel => exact ⟨_, (true), rS, H', ⟨oL⟩, ⟨bK BK435⟩, ⟨bG⟩⟩
  rw [if_neg c9] at H
  have c9b0 := decide_eq_false c9
  clear c9
  (first | rw [c9b0] | (simp only [i64_w, i32_w]; rw [c9b0]) | skip)
  have c11 : 0 ≤ t436 := ifN H
  replace H := ifT H
  have c11b0 := decide_eq_true c11
  clear c11
  have c12 : t436 < (l1.length : Int) := ifN H
  replace H := ifT H
  have c12b0 := decide_eq_true c12
  clear c12
  obtain ⟨t439, A13, H⟩ := bindE H
  try dsimp only at H
  have H' := Aside0.mk H
  clear H
  try go_wp2
  replace BK435 := dk BK435
  have HBo := HB
  replace HB := db HB
  obtain ⟨p438, q438⟩ : 0 ≤ (t436 : Int) ∧ t436 < (l1.length : Int) := ⟨dA, dA⟩
  obtain ⟨ad438, A438_0, c438_0, e438, hx438_0, hx438_1, hl438_0, hi438_0⟩ := at_T72 HR1.out t436 p438 q438
  have hw438_1 := hx438_1
  have hw438_0 := hx438_0
  cases e438
  replace hx438_0 := hC HB hx438_0
  replace hx438_1 := hC HB hx438_1
  have HR438_0 := Aside0.mk hi438_0
  have HC438_0 := Aside0.mk hl438_0
  clear hi438_0 hl438_0
  obtain ⟨p438, q438⟩ := eT p438 q438
  refine sw (ds := []) 13 (mb 13 0) impl_shown.tab2 impl_shown.bits2 (h4c BK435 (h1c (hC HB hw438_0) (h1 (hC HB hw438_1)))) (fun hHeld HT_ HW_ => ?_)
  generalize w8.drew = w14 at BK435 HB HR438_0 hx438_0 hx438_1 hHeld ⊢
  refine pa 0 18 (mb 13 1) HT_ ?_
  refine pa 1 19 (mb 13 3) HT_ ?_
  refine pa 2 20 (mb 13 7) HT_ ?_
  refine pa 3 21 (mb 13 15) HT_ ?_
  refine pa 4 22 (mb 13 31) HT_ ?_
  refine pa 5 23 (mb 13 63) HT_ ?_
  refine pa 6 24 (mb 13 127) HT_ ?_
  refine pa 8 26 (mb 13 383) HT_ ?_
  refine ta6 7 25 (mb 13 511) HT_ HW_ hHeld ?_
  refine ta6 9 27 (mb 13 1023) HT_ HW_ hHeld ?_
  refine oa 10 28 (mb 13 2047) HT_ (fun K hK => ?_)
  refine gA Tryz.func120 #[.slice A438_0 ((rd_T72 l1 t436).f0).length c438_0, .int .i64 a3_0] ?_
  with_reducible refine (slices_Contains_int_int.calls k _ _ ((rd_T72 l1 t436).f0) a3_0 t439 _ ?side1 ?side2 A13.out).mono ?_
  (case side1 => exact cB HR438_0)
  (case side2 => exact HC438_0.out)
  rintro e w' ⟨rfl, ⟨nd, rfl⟩⟩
  refine ⟨_, rfl, ?_⟩
  refine hK.out _ _ (cm4 BK435 ⟨(hC HB hw438_0), (hC HB hw438_1)⟩) (fun hHeld => ?_)
  clear hK K
  refine nB ?_
  refine pa 11 29 (mb 13 4095) HT_ ?_
  refine pa 12 30 (mb 13 8191) HT_ ?_
  refine eA HT_ ?_
  try go_wp2
  go_meet
  case rel => exact ⟨_, (!t439), rS, H', ⟨oL⟩, ⟨bK BK435⟩, ⟨bG⟩⟩
 case rest =>
  clear HC6
  obtain ⟨kq, x30_5, rfl, HA, HJ5, BK435, HB⟩ := hcut
  cases kq with
  | zero => exact absurd HA.out (by simp [impl_shown.j0])
  | succ kj5 =>
   have H := HA.out
   clear HA
   simp only [impl_shown.j0] at H
   by_cases c15 : x30_5 = true
   ·
    subst c15
    have H1 : (some 0) = some r := by rw [if_pos rfl] at H; exact H
    clear H
    have H := H1
    clear H1
    obtain rfl := Option.some.inj H
    go_wp2
    go_ret
    exact ⟨rA, bG⟩
   replace c15 := Bool.eq_false_iff.mpr c15
   subst c15
   have H1 : (if 0 ≤ t436 then (if t436 < (l1.length : Int) then (if t437 < ((rd_T72 l1 t436).f1) then (impl_shown.j1 kj5 l1 t436 t437 true a3_0 a3_1 a3_2 a3_3) else ((impl_nextStage.f l1 t436).bind fun t441 => ((slices_Contains_int_int.f kj5 t441 a3_0).bind fun t444 => (impl_shown.j1 kj5 l1 t436 t437 t444 a3_0 a3_1 a3_2 a3_3)))) else (none)) else (none)) = some r := by rw [if_neg (show ¬ (false = true) by decide)] at H; exact H
   clear H
   have H := H1
   clear H1
   have HC16 := Aside0.mk H
   clear H
   go_upto_region 4 with (fail)
   go_cut [31] (fun v31 wc => ∃ (kq : Nat) (x31_15 : Bool), v31 = .bool x31_15 ∧ Aside0 (impl_shown.j1 kq l1 t436 t437 x31_15 a3_0 a3_1 a3_2 a3_3 = some r) ∧ Aside0 (kq ≤ kj5) ∧ Aside0 (wc.heap[gb435]? = some (.cells #[.int .i64 a3_0, .int .i64 a3_1, .int .i64 a3_2, .int .i64 a3_3] 69 (0, 0))) ∧ Aside0 (Below w.heap.size w wc))
   case first =>
    have H := HC16.out
    clear HC16
    have c17 : 0 ≤ t436 := ifN H
    replace H := ifT H
    have c17b0 := decide_eq_true c17
    clear c17
    (first | rw [c17b0] | (simp only [i64_w, i32_w]; rw [c17b0]) | skip)
    have c18 : t436 < (l1.length : Int) := ifN H
    replace H := ifT H
    have c18b0 := decide_eq_true c18
    clear c18
    by_cases c19 : t437 < ((rd_T72 l1 t436).f1)
    ·
     rw [if_pos c19] at H
     have c19b0 := decide_eq_true c19
     clear c19
     have H' := Aside0.mk H
     clear H
     try go_wp2
     replace BK435 := dk BK435
     have HBo := HB
     replace HB := db HB
     obtain ⟨p440, q440⟩ : 0 ≤ (t436 : Int) ∧ t436 < (l1.length : Int) := ⟨dA, dA⟩
     obtain ⟨ad440, A440_0, c440_0, e440, hx440_0, hx440_1, hl440_0, hi440_0⟩ := at_T72 HR1.out t436 p440 q440
     have hw440_1 := hx440_1
     have hw440_0 := hx440_0
     cases e440
     replace hx440_0 := hC HB hx440_0
     replace hx440_1 := hC HB hx440_1
     have HR440_0 := Aside0.mk hi440_0
     have HC440_0 := Aside0.mk hl440_0
     clear hi440_0 hl440_0
     obtain ⟨p440, q440⟩ := eT p440 q440
     refine sw (ds := []) 16 (mb 16 0) impl_shown.tab4 impl_shown.bits4 (h1c (hC HB hw440_0) (h1 (hC HB hw440_1))) (fun hHeld HT_ HW_ => ?_)
     generalize wc.drew = w20 at BK435 HB HR440_0 hx440_0 hx440_1 hHeld ⊢
     refine pa 0 32 (mb 16 1) HT_ ?_
     refine pa 1 33 (mb 16 3) HT_ ?_
     refine pa 2 34 (mb 16 7) HT_ ?_
     refine pa 3 35 (mb 16 15) HT_ ?_
     refine pa 4 36 (mb 16 31) HT_ ?_
     refine ta2 5 37 (mb 16 63) HT_ HW_ hHeld ?_
     refine pa 6 38 (mb 16 127) HT_ ?_
     refine pa 7 39 (mb 16 255) HT_ ?_
     refine pu 8 40 (mb 16 511) HT_ ?_
     refine pu 9 41 (mb 16 1023) HT_ ?_
     refine pu 10 42 (mb 16 2047) HT_ ?_
     refine pu 11 43 (mb 16 4095) HT_ ?_
     refine pu 12 44 (mb 16 8191) HT_ ?_
     refine pu 13 45 (mb 16 16383) HT_ ?_
     refine pa 14 46 (mb 16 32767) HT_ ?_
     refine pa 15 31 (mb 16 65535) HT_ ?_
     refine eA HT_ ?_
     try go_wp2
     go_meet
     case rel => exact ⟨_, (true), rS, H', ⟨by have := HJ5.out; first | omega | exact Nat.le_refl _⟩, ⟨bK BK435⟩, ⟨bG⟩⟩
    rw [if_neg c19] at H
    have c19b0 := decide_eq_false c19
    clear c19
    obtain ⟨t441, A21, H⟩ := bindE H
    try dsimp only at H
    obtain ⟨t444, A22, H⟩ := bindE H
    try dsimp only at H
    have H' := Aside0.mk H
    clear H
    try go_wp2
    replace BK435 := dk BK435
    have HBo := HB
    replace HB := db HB
    obtain ⟨p440, q440⟩ : 0 ≤ (t436 : Int) ∧ t436 < (l1.length : Int) := ⟨dA, dA⟩
    obtain ⟨ad440, A440_0, c440_0, e440, hx440_0, hx440_1, hl440_0, hi440_0⟩ := at_T72 HR1.out t436 p440 q440
    have hw440_1 := hx440_1
    have hw440_0 := hx440_0
    cases e440
    replace hx440_0 := hC HB hx440_0
    replace hx440_1 := hC HB hx440_1
    have HR440_0 := Aside0.mk hi440_0
    have HC440_0 := Aside0.mk hl440_0
    clear hi440_0 hl440_0
    obtain ⟨p440, q440⟩ := eT p440 q440
    refine sw (ds := []) 16 (mb 16 0) impl_shown.tab4 impl_shown.bits4 (h4c BK435 (h1c (hC HB hw440_0) (h1 (hC HB hw440_1)))) (fun hHeld HT_ HW_ => ?_)
    generalize wc.drew = w23 at BK435 HB HR440_0 hx440_0 hx440_1 hHeld ⊢
    refine pa 0 32 (mb 16 1) HT_ ?_
    refine pa 1 33 (mb 16 3) HT_ ?_
    refine pa 2 34 (mb 16 7) HT_ ?_
    refine pa 3 35 (mb 16 15) HT_ ?_
    refine pa 4 36 (mb 16 31) HT_ ?_
    refine ta6 5 37 (mb 16 63) HT_ HW_ hHeld ?_
    refine pa 6 38 (mb 16 127) HT_ ?_
    refine pa 7 39 (mb 16 255) HT_ ?_
    refine pa 8 40 (mb 16 511) HT_ ?_
    refine pa 9 41 (mb 16 1023) HT_ ?_
    refine pa 11 43 (mb 16 3071) HT_ ?_
    refine ta6 12 44 (mb 16 7167) HT_ HW_ hHeld ?_
    refine oa 10 42 (mb 16 8191) HT_ (fun K hK => ?_)
    refine gA Tryz.func152 #[.slice (some ad440) l1.length c1, .int .i64 t436] ?_
    with_reducible refine (impl_nextStage.calls (fun k_ => k_ < w.heap.size) _ _ l1 t436 t441 _ ?side1 A21.out).mono ?_
    (case side1 => exact Kd.V_mk HC1.out (Kd.F_below (Kd.C_F k72_heap HR1.out) bG))
    rintro e w24 ⟨v442, rfl, ho0, hb⟩
    refine ⟨_, rfl, ?_⟩
    have HO443 := Aside0.mk (Kd.V_lower (Kd.V_mono (ok' := fun k_ => k_ ≠ gb435) ho0 (fun k_ hk_ => Or.elim hk_ (fun hs_ => fun e_ => Nat.not_le.2 hs_ (by rw [e_]; exact GW435.out)) (fun hn_ => (Kd.freshB (g := gb435) (o := .cells #[.int .i64 a3_0, .int .i64 a3_1, .int .i64 a3_2, .int .i64 a3_3] 69 (0, 0)) (bK BK435) k_ hn_)))) (below_size bG))
    replace BK435 := kb BK435 hb
    replace HB := bs HB hb
    (try clear hb)
    (try clear hb2)
    (try clear hk)
    (try clear hi)
    (try clear ho0)
    obtain ⟨Ao25, co25, eo25⟩ := Kd.V_slice HO443.out
    (first | subst eo25 | (injection eo25 with f1_ f2_ f3_; have f4_ := f1_.symm; have f5_ := f3_.symm; clear f1_ f2_ f3_; subst f4_; subst f5_))
    refine hK.out _ _ (cm4 BK435 ⟨(hC HB hw440_0), (hC HB hw440_1)⟩) (fun hHeld => ?_)
    clear hK K
    refine nB ?_
    refine oa 13 45 (mb 16 16383) HT_ (fun K hK => ?_)
    refine gA Tryz.func120 #[.slice Ao25 t441.length co25, .int .i64 a3_0] ?_
    with_reducible refine (slices_Contains_int_int.calls kj5 _ _ t441 a3_0 t444 _ ?side1 ?side2 A22.out).mono ?_
    (case side1 => repeat (first | exact (Kd.V_reads' HO443.out).2.2 | (with_reducible refine Kd.C_alloc ?_ _) | (with_reducible refine Kd.C_drewN ?_ _) | (with_reducible refine Kd.C_drew ?_)))
    (case side2 => exact (Kd.V_reads' HO443.out).2.1)
    rintro e w' ⟨rfl, ⟨nd, rfl⟩⟩
    refine ⟨_, rfl, ?_⟩
    refine hK.out _ _ (cm4 BK435 ⟨(hC HB hw440_0), (hC HB hw440_1)⟩) (fun hHeld => ?_)
    clear hK K
    refine nB ?_
    refine pa 14 46 (mb 16 32767) HT_ ?_
    refine pa 15 31 (mb 16 65535) HT_ ?_
    refine eA HT_ ?_
    try go_wp2
    go_meet
    case rel => exact ⟨_, (t444), rS, H', ⟨by have := HJ5.out; first | omega | exact Nat.le_refl _⟩, ⟨bK BK435⟩, ⟨bG⟩⟩
   case rest =>
    clear HC16
    obtain ⟨kq, x31_15, rfl, HA, HJ15, BK435, HB⟩ := hcut
    cases kq with
    | zero => exact absurd HA.out (by simp [impl_shown.j1])
    | succ kj15 =>
     have H := HA.out
     clear HA
     simp only [impl_shown.j1] at H
     by_cases c26 : x31_15 = true
     ·
      subst c26
      have H1 : (some 1) = some r := by rw [if_pos rfl] at H; exact H
      clear H
      have H := H1
      clear H1
      obtain rfl := Option.some.inj H
      go_wp2
      go_ret
      exact ⟨rA, bG⟩
     replace c26 := Bool.eq_false_iff.mpr c26
     subst c26
     have H1 : (if 0 ≤ t436 then (if t436 < (l1.length : Int) then ((impl_ClearOf.f a3_0 a3_1 a3_2 a3_3).bind fun t446 => (if t437 < (wrap64 (((rd_T72 l1 t436).f1) + t446)) then (some 2) else (some 0))) else (none)) else (none)) = some r := by rw [if_neg (show ¬ (false = true) by decide)] at H; exact H
     clear H
     have H := H1
     clear H1
     have c27 : 0 ≤ t436 := ifN H
     replace H := ifT H
     have c27b0 := decide_eq_true c27
     clear c27
     have c28 : t436 < (l1.length : Int) := ifN H
     replace H := ifT H
     have c28b0 := decide_eq_true c28
     clear c28
     obtain ⟨t446, A29, H⟩ := bindE H
     try dsimp only at H
     by_cases c30 : t437 < (wrap64 (((rd_T72 l1 t436).f1) + t446))
     ·
      rw [if_pos c30] at H
      have c30b0 := decide_eq_true c30
      clear c30
      obtain rfl := Option.some.inj H
      try go_wp2
      replace BK435 := dk BK435
      have HBo := HB
      replace HB := db HB
      obtain ⟨p445, q445⟩ : 0 ≤ (t436 : Int) ∧ t436 < (l1.length : Int) := ⟨dA, dA⟩
      obtain ⟨ad445, A445_0, c445_0, e445, hx445_0, hx445_1, hl445_0, hi445_0⟩ := at_T72 HR1.out t436 p445 q445
      have hw445_1 := hx445_1
      have hw445_0 := hx445_0
      cases e445
      replace hx445_0 := hC HB hx445_0
      replace hx445_1 := hC HB hx445_1
      have HR445_0 := Aside0.mk hi445_0
      have HC445_0 := Aside0.mk hl445_0
      clear hi445_0 hl445_0
      obtain ⟨p445, q445⟩ := eT p445 q445
      refine sw (ds := []) 11 (mb 11 0) impl_shown.tab6 impl_shown.bits6 (h4c BK435 (h1c (hC HB hw445_0) (h1 (hC HB hw445_1)))) (fun hHeld HT_ HW_ => ?_)
      generalize wc.drew = w31 at BK435 HB HR445_0 hx445_0 hx445_1 hHeld ⊢
      refine pa 0 48 (mb 11 1) HT_ ?_
      refine pa 1 49 (mb 11 3) HT_ ?_
      refine pa 2 50 (mb 11 7) HT_ ?_
      refine pa 3 51 (mb 11 15) HT_ ?_
      refine pa 4 52 (mb 11 31) HT_ ?_
      refine ta6 5 53 (mb 11 63) HT_ HW_ hHeld ?_
      refine ta6 6 54 (mb 11 127) HT_ HW_ hHeld ?_
      refine oa 7 55 (mb 11 255) HT_ (fun K hK => ?_)
      refine gA Tryz.func113 #[.agg #[.int .i64 a3_0, .int .i64 a3_1, .int .i64 a3_2, .int .i64 a3_3]] ?_
      with_reducible refine (impl_ClearOf.calls a3_0 a3_1 a3_2 a3_3 t446 _ A29.out).mono ?_
      rintro e w32 ⟨rfl, hb⟩
      refine ⟨_, rfl, ?_⟩
      replace BK435 := kb BK435 hb
      replace HB := bs HB hb
      (try clear hb)
      (try clear hb2)
      (try clear hk)
      (try clear hi)
      refine hK.out _ _ (cm4 BK435 ⟨(hC HB hw445_0), (hC HB hw445_1)⟩) (fun hHeld => ?_)
      clear hK K
      refine nB ?_
      refine pa 8 56 (mb 11 511) HT_ ?_
      refine pa 9 57 (mb 11 1023) HT_ ?_
      refine pa 10 47 (mb 11 2047) HT_ ?_
      refine eA HT_ ?_
      try go_wp2
      go_ret
      exact ⟨rA, bG⟩
     rw [if_neg c30] at H
     have c30b0 := decide_eq_false c30
     clear c30
     obtain rfl := Option.some.inj H
     try go_wp2
     replace BK435 := dk BK435
     have HBo := HB
     replace HB := db HB
     obtain ⟨p445, q445⟩ : 0 ≤ (t436 : Int) ∧ t436 < (l1.length : Int) := ⟨dA, dA⟩
     obtain ⟨ad445, A445_0, c445_0, e445, hx445_0, hx445_1, hl445_0, hi445_0⟩ := at_T72 HR1.out t436 p445 q445
     have hw445_1 := hx445_1
     have hw445_0 := hx445_0
     cases e445
     replace hx445_0 := hC HB hx445_0
     replace hx445_1 := hC HB hx445_1
     have HR445_0 := Aside0.mk hi445_0
     have HC445_0 := Aside0.mk hl445_0
     clear hi445_0 hl445_0
     obtain ⟨p445, q445⟩ := eT p445 q445
     refine sw (ds := []) 11 (mb 11 0) impl_shown.tab6 impl_shown.bits6 (h4c BK435 (h1c (hC HB hw445_0) (h1 (hC HB hw445_1)))) (fun hHeld HT_ HW_ => ?_)
     generalize wc.drew = w33 at BK435 HB HR445_0 hx445_0 hx445_1 hHeld ⊢
     refine pa 0 48 (mb 11 1) HT_ ?_
     refine pa 1 49 (mb 11 3) HT_ ?_
     refine pa 2 50 (mb 11 7) HT_ ?_
     refine pa 3 51 (mb 11 15) HT_ ?_
     refine pa 4 52 (mb 11 31) HT_ ?_
     refine ta6 5 53 (mb 11 63) HT_ HW_ hHeld ?_
     refine ta6 6 54 (mb 11 127) HT_ HW_ hHeld ?_
     refine oa 7 55 (mb 11 255) HT_ (fun K hK => ?_)
     refine gA Tryz.func113 #[.agg #[.int .i64 a3_0, .int .i64 a3_1, .int .i64 a3_2, .int .i64 a3_3]] ?_
     with_reducible refine (impl_ClearOf.calls a3_0 a3_1 a3_2 a3_3 t446 _ A29.out).mono ?_
     rintro e w34 ⟨rfl, hb⟩
     refine ⟨_, rfl, ?_⟩
     replace BK435 := kb BK435 hb
     replace HB := bs HB hb
     (try clear hb)
     (try clear hb2)
     (try clear hk)
     (try clear hi)
     refine hK.out _ _ (cm4 BK435 ⟨(hC HB hw445_0), (hC HB hw445_1)⟩) (fun hHeld => ?_)
     clear hK K
     refine nB ?_
     refine pa 8 56 (mb 11 511) HT_ ?_
     refine pa 9 57 (mb 11 1023) HT_ ?_
     refine pa 10 47 (mb 11 2047) HT_ ?_
     refine eA HT_ ?_
     try go_wp2
     go_ret
     exact ⟨rA, bG⟩

/-! ### impl_LightAt: function 127 -/
def impl_LightAt.f (k : Nat) (l0 : List (S69)) (l1 : List (S72)) (a2 : Int) (a3 : Int) : Option (Int) := (impl_FindPath.f l0 a3).bind fun t447 => (if t447 < 0 then (some 0) else (if 0 ≤ t447 then (if t447 < (l0.length : Int) then ((impl_shown.f k l0 l1 a2 ((rd_T69 l0 t447).f0) ((rd_T69 l0 t447).f1) ((rd_T69 l0 t447).f2) ((rd_T69 l0 t447).f3)).bind fun t449 => (some t449)) else (none)) else (none)))
theorem impl_LightAt.mono : ∀ a0 a1 a2 a3 k, LeO (impl_LightAt.f k a0 a1 a2 a3) (impl_LightAt.f (k + 1) a0 a1 a2 a3) := by
 intro a0 a1 a2 a3 k
 unfold impl_LightAt.f
 exact mz1 impl_shown.mono
set_option maxHeartbeats 8000000 in
set_option maxRecDepth 100000 in
theorem impl_LightAt.calls (k : Nat) (A0 : Option Addr) (c0 : Nat) (l0 : List (S69)) (A1 : Option Addr) (c1 : Nat) (l1 : List (S72)) (a2 : Int) (a3 : Int) (r : Int) (w : World) (hr0 : Kd.C k69 w A0 l0.length l0) (hc0 : l0.length ≤ c0) (hr1 : Kd.C k72 w A1 l1.length l1) (hc1 : l1.length ≤ c1) (h : impl_LightAt.f k l0 l1 a2 a3 = some r) :
  Calls Tryz.prog 127 #[.slice A0 l0.length c0, .slice A1 l1.length c1, .int .i64 a2, .int .i64 a3] w fun e w' => e = .returned (.int .i64 r) ∧ Below w.heap.size w w' := by
 have hu69 := Tryz.underlying69
 have HR0 := Aside0.mk hr0
 have HC0 := Aside0.mk hc0
 clear hr0 hc0
 have HR1 := Aside0.mk hr1
 have HC1 := Aside0.mk hc1
 clear hr1 hc1
 have HB := Aside0.mk (Below.refl w.heap.size w)
 have H : ((impl_FindPath.f l0 a3).bind fun t447 => (if t447 < 0 then (some 0) else (if 0 ≤ t447 then (if t447 < (l0.length : Int) then ((impl_shown.f k l0 l1 a2 ((rd_T69 l0 t447).f0) ((rd_T69 l0 t447).f1) ((rd_T69 l0 t447).f2) ((rd_T69 l0 t447).f3)).bind fun t449 => (some t449)) else (none)) else (none)))) = some r := h
 clear h
 obtain ⟨t447, A5, H⟩ := bindE H
 try dsimp only at H
 by_cases c6 : t447 < 0
 ·
  rw [if_pos c6] at H
  have c6b0 := decide_eq_true c6
  clear c6
  obtain rfl := Option.some.inj H
  go_enter Tryz.func127, Tryz.ntmps127
  go_wp2_with (first | ((with_reducible refine gate_callee (f := 83) rfl ?_); refine gL (some 12) Tryz.func83 #[.slice A0 l0.length c0, .int .i64 a3] ?_; (with_reducible refine (impl_FindPath.calls _ _ l0 a3 t447 _ ?_ ?_ A5.out).mono ?_); exact cO HR0; exact HC0.out; rintro e w7 ⟨rfl, hb⟩; refine ⟨_, rfl, ?_⟩; replace HB := bs HB hb; (try clear hb)))
  go_ret
  exact ⟨rA, bA⟩
 rw [if_neg c6] at H
 have c6b0 := decide_eq_false c6
 clear c6
 have c8 : 0 ≤ t447 := ifN H
 replace H := ifT H
 have c8b0 := decide_eq_true c8
 clear c8
 have c9 : t447 < (l0.length : Int) := ifN H
 replace H := ifT H
 have c9b0 := decide_eq_true c9
 clear c9
 obtain ⟨t449, A10, H⟩ := bindE H
 try dsimp only at H
 obtain rfl := Option.some.inj H
 go_enter Tryz.func127, Tryz.ntmps127
 go_wp2_with (first | ((with_reducible refine gate_callee (f := 83) rfl ?_); refine gL (some 12) Tryz.func83 #[.slice A0 l0.length c0, .int .i64 a3] ?_; (with_reducible refine (impl_FindPath.calls _ _ l0 a3 t447 _ ?_ ?_ A5.out).mono ?_); exact cO HR0; exact HC0.out; rintro e w11 ⟨rfl, hb⟩; refine ⟨_, rfl, ?_⟩; replace HB := bs HB hb; (try clear hb); have p448 : 0 ≤ (t447 : Int) := dA; have q448 : t447 < (l0.length : Int) := dA; obtain ⟨ad448, e448, hx448_0, hx448_1, hx448_2, hx448_3⟩ := at_T69 HR0.out t447 p448 q448; cases e448; replace hx448_0 := hC HB hx448_0; replace hx448_1 := hC HB hx448_1; replace hx448_2 := hC HB hx448_2; replace hx448_3 := hC HB hx448_3; replace p448 := eq_true p448; replace q448 := eq_true q448) | ((with_reducible refine gate_callee (f := 147) rfl ?_); refine gL (some 22) Tryz.func147 #[.slice (some ad448) l0.length c0, .slice A1 l1.length c1, .int .i64 a2, .agg #[.int .i64 ((rd_T69 l0 t447).f0), .int .i64 ((rd_T69 l0 t447).f1), .int .i64 ((rd_T69 l0 t447).f2), .int .i64 ((rd_T69 l0 t447).f3)]] ?_; (with_reducible refine (impl_shown.calls k _ _ l0 _ _ l1 a2 ((rd_T69 l0 t447).f0) ((rd_T69 l0 t447).f1) ((rd_T69 l0 t447).f2) ((rd_T69 l0 t447).f3) t449 _ ?_ ?_ ?_ ?_ A10.out).mono ?_); exact cB HR0; exact HC0.out; exact cB HR1; exact HC1.out; rintro e w12 ⟨rfl, hb⟩; refine ⟨_, rfl, ?_⟩; replace HB := bs HB hb; (try clear hb)))
 go_ret
 exact ⟨rA, bA⟩

/-! ### impl_greens: function 93 -/
def impl_greens.l0 : Nat → List (S69) → List (S72) → Int → List Bool → Int → Int → Option (List Bool)
 | 0, _, _, _, _, _, _ => none
 | k + 1, x0, x1, x2, x7, x18, x19 => if x19 < x18 then ((impl_LightAt.f k x0 x1 x19 x2).bind fun t455 => (if 0 ≤ x19 then (if x19 < (x7.length : Int) then (impl_greens.l0 k x0 x1 x2 (x7.set (x19 : Int).toNat (t455 == 1)) x18 (wrap64 (x19 + 1))) else (none)) else (none))) else (some x7)
def impl_greens.f (k : Nat) (l0 : List (S69)) (l1 : List (S72)) (a2 : Int) : Option (List Bool) := (impl_FindPath.f l0 a2).bind fun t450 => (if t450 < 0 then (some ([] : List Bool)) else ((impl_Cycle.f k l0 l1).bind fun t451 => (if 0 ≤ t451 then (if (t451 : Int).toNat ≤ 281474976710656 then ((some (List.replicate (t451 : Int).toNat false : List Bool)).bind fun y452 => (impl_greens.l0 k l0 l1 a2 y452 (y452.length : Int) 0)) else (none)) else (none))))
theorem impl_greens.mono_l : ∀ k, (∀ y0 y1 y2 y3 y4 y5, LeO (impl_greens.l0 k y0 y1 y2 y3 y4 y5) (impl_greens.l0 (k + 1) y0 y1 y2 y3 y4 y5))
 | 0 => fun _ _ _ _ _ _ r h => by simp [impl_greens.l0] at h
 | k + 1 => by
  have ih0 := impl_greens.mono_l k
  ·
   intro y0 y1 y2 y3 y4 y5
   unfold impl_greens.l0
   exact mz3 ih0 impl_Cycle.mono impl_LightAt.mono
theorem impl_greens.mono : ∀ a0 a1 a2 k, LeO (impl_greens.f k a0 a1 a2) (impl_greens.f (k + 1) a0 a1 a2) := by
 intro a0 a1 a2 k
 have ih0 := impl_greens.mono_l k
 unfold impl_greens.f
 exact mz3 ih0 impl_Cycle.mono impl_LightAt.mono
set_option maxHeartbeats 8000000 in
set_option maxRecDepth 100000 in
theorem impl_greens.calls (k : Nat) (A0 : Option Addr) (c0 : Nat) (l0 : List (S69)) (A1 : Option Addr) (c1 : Nat) (l1 : List (S72)) (a2 : Int) (r : List Bool) (w : World) (hr0 : Kd.C k69 w A0 l0.length l0) (hc0 : l0.length ≤ c0) (hr1 : Kd.C k72 w A1 l1.length l1) (hc1 : l1.length ≤ c1) (h : impl_greens.f k l0 l1 a2 = some r) :
  Calls Tryz.prog 93 #[.slice A0 l0.length c0, .slice A1 l1.length c1, .int .i64 a2] w fun e w' => ∃ v0_ : Value, e = .returned (v0_) ∧ Kd.R Kd.bool 4 w' w.heap.size (fun _ => True) v0_ r ∧ Below w.heap.size w w' := by
 have HR0 := Aside0.mk hr0
 have HC0 := Aside0.mk hc0
 clear hr0 hc0
 have HR1 := Aside0.mk hr1
 have HC1 := Aside0.mk hc1
 clear hr1 hc1
 have HB := Aside0.mk (Below.refl w.heap.size w)
 have H : ((impl_FindPath.f l0 a2).bind fun t450 => (if t450 < 0 then (some ([] : List Bool)) else ((impl_Cycle.f k l0 l1).bind fun t451 => (if 0 ≤ t451 then (if (t451 : Int).toNat ≤ 281474976710656 then ((some (List.replicate (t451 : Int).toNat false : List Bool)).bind fun y452 => (impl_greens.l0 k l0 l1 a2 y452 (y452.length : Int) 0)) else (none)) else (none))))) = some r := h
 clear h
 obtain ⟨t450, A4, H⟩ := bindE H
 try dsimp only at H
 by_cases c5 : t450 < 0
 ·
  rw [if_pos c5] at H
  have c5b0 := decide_eq_true c5
  clear c5
  obtain rfl := Option.some.inj H
  go_enter Tryz.func93, Tryz.ntmps93
  go_wp2_with (first | ((with_reducible refine gate_callee (f := 83) rfl ?_); refine gL (some 11) Tryz.func83 #[.slice A0 l0.length c0, .int .i64 a2] ?_; (with_reducible refine (impl_FindPath.calls _ _ l0 a2 t450 _ ?_ ?_ A4.out).mono ?_); exact cO HR0; exact HC0.out; rintro e w6 ⟨rfl, hb⟩; refine ⟨_, rfl, ?_⟩; replace HB := bs HB hb; (try clear hb)))
  go_ret
  exact ⟨_, rA, by first | exact Kd.R_nil _ _ _ _ _ | exact Kd.N_nil _ _ _ _ _ | exact Kd.V_nil _ _ _ _ _ | exact Kd.Q_nil _ _ _ _ _ | exact Kd.S_nil _ _ _ _ _, bA⟩
 rw [if_neg c5] at H
 have c5b0 := decide_eq_false c5
 clear c5
 obtain ⟨t451, A7, H⟩ := bindE H
 try dsimp only at H
 have c8 : 0 ≤ t451 := ifN H
 replace H := ifT H
 have c8b0 := eq_true c8
 have c8b1 := decide_eq_true c8
 clear c8
 have c9 : (t451 : Int).toNat ≤ 281474976710656 := ifN H
 replace H := ifT H
 have c9b0 := eq_true c9
 have c9b1 := decide_eq_true c9
 clear c9
 obtain ⟨y452, hy452⟩ : ∃ y_ : List Bool, y_ = (List.replicate (t451 : Int).toNat false) := ⟨_, rfl⟩
 replace H : (impl_greens.l0 k l0 l1 a2 y452 (y452.length : Int) 0) = some r := rH H hy452
 have Ny452 := Aside0.mk hy452
 clear hy452
 have H' := Aside0.mk H
 clear H
 go_enter Tryz.func93, Tryz.ntmps93
 go_wp2_with (first | ((with_reducible refine gate_callee (f := 83) rfl ?_); refine gL (some 11) Tryz.func83 #[.slice A0 l0.length c0, .int .i64 a2] ?_; (with_reducible refine (impl_FindPath.calls _ _ l0 a2 t450 _ ?_ ?_ A4.out).mono ?_); exact cO HR0; exact HC0.out; rintro e w10 ⟨rfl, hb⟩; refine ⟨_, rfl, ?_⟩; replace HB := bs HB hb; (try clear hb)) | ((with_reducible refine gate_callee (f := 126) rfl ?_); refine gL (some 15) Tryz.func126 #[.slice A0 l0.length c0, .slice A1 l1.length c1] ?_; (with_reducible refine (impl_Cycle.calls k _ _ l0 _ _ l1 t451 _ ?_ ?_ ?_ ?_ A7.out).mono ?_); exact cB HR0; exact HC0.out; exact cB HR1; exact HC1.out; rintro e w11 ⟨rfl, hb⟩; refine ⟨_, rfl, ?_⟩; replace HB := bs HB hb; (try clear hb)) | ((with_reducible refine gate_dst (N := 16) rfl ?_); refine Kd.R_make Kd.bool _ 4 rfl (N := 16) rfl 114 _ _ rfl t451 rfl rfl Tryz.underlying114 (.bool false) 1 info4 rfl (by decide) (by omega) false (ok := fun _ => True) (okp := fun _ => True) rfl (fun _ hk => hk) trivial (dA) (Nat.le_trans (Nat.mul_le_mul_right _ (dA : t451.toNat ≤ 281474976710656)) (by omega)) (Below.refl _ _) (Nat.le_refl _) ?_; intro v453 w12 ho13 hb hg_ hnew_; clear hg_ hnew_; (first | rw [← Ny452.out] at ho13 | (simp only [Int.reduceToNat] at ho13; rw [← Ny452.out] at ho13)); have HO454 := rl w ho13; replace HB := bs HB hb; clear hb ho13; obtain ⟨Ao14, co14, eo14⟩ := Kd.R_slice HO454.out; subst eo14))
 go_loopg [19] k (fun kq v19 w' => ∃ (x7_1 : List Bool) (x19_1 : Int), v19 = .int .i64 x19_1 ∧ Aside0 (impl_greens.l0 kq l0 l1 a2 x7_1 (y452.length : Int) x19_1 = some r) ∧ Aside0 (kq ≤ k) ∧ Aside0 (Kd.R Kd.bool 4 w' w.heap.size (fun _ => True) (.slice Ao14 y452.length co14) x7_1) ∧ Aside0 (Below w.heap.size w w'))
 case atStart => exact ⟨(y452), (0), rS, H', ⟨Nat.le_refl _⟩, ⟨rK HO454⟩, ⟨bA⟩⟩
 case round =>
  clear H'
  obtain ⟨x7_1, x19_1, rfl, HA, HK1, HO_7, HB⟩ := hrel
  have hl7_1 := (Kd.R_reads' HO_7.out).1
  rw [hl7_1] at HO_7
  (try simp only [hl7_1])
  cases gk with
  | zero => exact absurd HA.out (by simp [impl_greens.l0])
  | succ k1 =>
   have H := HA.out
   clear HA
   simp only [impl_greens.l0] at H
   by_cases c15 : x19_1 < (y452.length : Int)
   ·
    rw [if_pos c15] at H
    have c15b0 := decide_eq_true c15
    (try have c15b0x : decide (x19_1 < (x7_1.length : Int)) = true := (by rw [← hl7_1]; exact c15b0))
    clear c15
    obtain ⟨t455, A16, H⟩ := bindE H
    try dsimp only at H
    have c17 : 0 ≤ x19_1 := ifN H
    replace H := ifT H
    have c17b0 := decide_eq_true c17
    clear c17
    have c18 : x19_1 < (x7_1.length : Int) := ifN H
    replace H := ifT H
    have c18b0 := decide_eq_true c18
    clear c18
    obtain ⟨y456, hy456⟩ : ∃ y_ : List Bool, y_ = (x7_1.set (x19_1 : Int).toNat (t455 == 1)) := ⟨_, rfl⟩
    replace H : (impl_greens.l0 k1 l0 l1 a2 y456 (y452.length : Int) (wrap64 (x19_1 + 1))) = some r := rH H hy456
    have Ny456 := Aside0.mk hy456
    clear hy456
    have H' := Aside0.mk H
    clear H
    go_wp2_with (first | ((with_reducible refine gate_callee (f := 127) rfl ?_); refine gL (some 28) Tryz.func127 #[.slice A0 l0.length c0, .slice A1 l1.length c1, .int .i64 x19_1, .int .i64 a2] ?_; (with_reducible refine (impl_LightAt.calls k1 _ _ l0 _ _ l1 x19_1 a2 t455 _ ?_ ?_ ?_ ?_ A16.out).mono ?_); exact cB HR0; exact HC0.out; exact cB HR1; exact HC1.out; rintro e w20 ⟨rfl, hb⟩; refine ⟨_, rfl, ?_⟩; replace HO_7 := rb HO_7 hb; replace HB := bs HB hb; (try clear hb); have p19 : 0 ≤ (x19_1 : Int) := dA; have q19 : (x19_1 : Int) < ((x7_1.length : Int) : Int) := dA; obtain ⟨go19, co19, eo19, gb19, gl19, cl19, HG19⟩ := Kd.R_form HO_7.out (by omega); (first | cases eo19 | (injection eo19 with ea_ en_ ec_; (first | subst ea_ | (injection ea_ with ea_; subst ea_)); subst ec_; clear en_)); have GB19 := Aside0.mk gb19; have GG19 := Aside0.mk HG19; clear gb19 gl19 HG19; obtain ⟨hx19_0, hf19_0⟩ := Kd.R_celln false HO_7.out (x19_1 : Int) p19 q19; replace p19 := eq_true p19; replace q19 := eq_true q19; obtain ⟨hy21_, hz21_⟩ := Kd.R_celln false HO_7.out (x19_1 : Int) (dA) (dA); have HP21 := Kd.R_putg HO_7.out (x19_1 : Int) (t455 == 1)) | ((with_reducible refine gate_store (t := 4) (p := 30) rfl ?_); refine store_event (t := 4) (p := 30) (v := ?vo_w22) (w1 := (w20.setCell ⟨go19, (x19_1 : Int).toNat, none⟩ (.bool (t455 == 1)))) ?hg ?ho ?hn ?hr ?_; (case ho => rfl); (case hg => rfl); (case hn => rfl); (case hr => first | (go_simp; done) | (go_simp; rfl)); intro w22 hw; have hg : w20.grownBy w22 (some go19) := (by rw [hw]; exact HP21.2); have hp_ : Kd.R Kd.bool 4 w22 w.heap.size (fun _ => True) (.slice (some ⟨go19, 0, none⟩) x7_1.length co14) y456 := (by rw [hw, Ny456.out]; exact HP21.1); clear HP21; have n0_ := Aside0.mk (hp_); have n1_ := Aside0.mk ((by rw [hw]; exact below_set (HB.out) GB19.out : Below w.heap.size w w22)); clear HO_7; clear HB; have HO_7 := n0_; have HB := n1_; clear n0_ n1_; clear hg hw hp_))
    (try simp only [← hl7_1])
    go_roundg k1
    case measure => have := HK1.out; omega
    case rel => exact ⟨(y456), (wrap64 (x19_1 + 1)), rS, H', ⟨by have := HK1.out; omega⟩, ⟨by (try simp only [hl7_1]); (with_reducible repeat (first | apply Kd.R_alloc | apply Kd.R_drewN | apply Kd.R_drew)); exact HO_7.out⟩, ⟨bA⟩⟩
   rw [if_neg c15] at H
   have c15b0 := decide_eq_false c15
   (try have c15b0x : decide (x19_1 < (x7_1.length : Int)) = false := (by rw [← hl7_1]; exact c15b0))
   clear c15
   obtain rfl := Option.some.inj H
   go_wp2
   go_ret
   exact ⟨_, rA, rK HO_7, bA⟩

/-! ### impl_NextGreen: function 68 -/
def impl_NextGreen.l0 : Nat → Int → List Bool → Int → Int → Option (Int)
 | 0, _, _, _, _ => none
 | k + 1, x3, x9, x19, x20 => if x20 < x19 then (if (x9.length : Int) = 0 then (none) else (if 0 ≤ (Int.tmod (wrap64 (x3 + x20)) (x9.length : Int)) then (if (Int.tmod (wrap64 (x3 + x20)) (x9.length : Int)) < (x9.length : Int) then (if rdOf false x9 (Int.tmod (wrap64 (x3 + x20)) (x9.length : Int)) = true then (some (wrap64 (x3 + x20))) else (impl_NextGreen.l0 k x3 x9 x19 (wrap64 (x20 + 1)))) else (none)) else (none))) else (some (-1))
def impl_NextGreen.f (k : Nat) (l0 : List (S69)) (l1 : List (S72)) (a2 : Int) (a3 : Int) : Option (Int) := (impl_greens.f k l0 l1 a2).bind fun t457 => ((impl_InRange.f a3 0 100000).bind fun t460 => (if t460 = true then (impl_NextGreen.l0 k a3 t457 (t457.length : Int) 0) else (some (-1))))
theorem impl_NextGreen.mono_l : ∀ k, (∀ y0 y1 y2 y3, LeO (impl_NextGreen.l0 k y0 y1 y2 y3) (impl_NextGreen.l0 (k + 1) y0 y1 y2 y3))
 | 0 => fun _ _ _ _ r h => by simp [impl_NextGreen.l0] at h
 | k + 1 => by
  have ih0 := impl_NextGreen.mono_l k
  ·
   intro y0 y1 y2 y3
   unfold impl_NextGreen.l0
   exact mz2 ih0 impl_greens.mono
theorem impl_NextGreen.mono : ∀ a0 a1 a2 a3 k, LeO (impl_NextGreen.f k a0 a1 a2 a3) (impl_NextGreen.f (k + 1) a0 a1 a2 a3) := by
 intro a0 a1 a2 a3 k
 have ih0 := impl_NextGreen.mono_l k
 unfold impl_NextGreen.f
 exact mz2 ih0 impl_greens.mono
set_option maxHeartbeats 8000000 in
set_option maxRecDepth 100000 in
theorem impl_NextGreen.calls (k : Nat) (A0 : Option Addr) (c0 : Nat) (l0 : List (S69)) (A1 : Option Addr) (c1 : Nat) (l1 : List (S72)) (a2 : Int) (a3 : Int) (r : Int) (w : World) (hr0 : Kd.C k69 w A0 l0.length l0) (hc0 : l0.length ≤ c0) (hr1 : Kd.C k72 w A1 l1.length l1) (hc1 : l1.length ≤ c1) (h : impl_NextGreen.f k l0 l1 a2 a3 = some r) :
  Calls Tryz.prog 68 #[.slice A0 l0.length c0, .slice A1 l1.length c1, .int .i64 a2, .int .i64 a3] w fun e w' => e = .returned (.int .i64 r) ∧ Below w.heap.size w w' := by
 have HR0 := Aside0.mk hr0
 have HC0 := Aside0.mk hc0
 clear hr0 hc0
 have HR1 := Aside0.mk hr1
 have HC1 := Aside0.mk hc1
 clear hr1 hc1
 have HB := Aside0.mk (Below.refl w.heap.size w)
 have H : ((impl_greens.f k l0 l1 a2).bind fun t457 => ((impl_InRange.f a3 0 100000).bind fun t460 => (if t460 = true then (impl_NextGreen.l0 k a3 t457 (t457.length : Int) 0) else (some (-1))))) = some r := h
 clear h
 obtain ⟨t457, A5, H⟩ := bindE H
 try dsimp only at H
 obtain ⟨t460, A6, H⟩ := bindE H
 try dsimp only at H
 by_cases c7 : t460 = true
 ·
  subst c7
  have H1 : (impl_NextGreen.l0 k a3 t457 (t457.length : Int) 0) = some r := by rw [if_pos rfl] at H; exact H
  clear H
  have H := H1
  clear H1
  have H' := Aside0.mk H
  clear H
  go_enter Tryz.func68, Tryz.ntmps68
  go_wp2_with (first | ((with_reducible refine gate_callee (f := 93) rfl ?_); refine gL (some 14) Tryz.func93 #[.slice A0 l0.length c0, .slice A1 l1.length c1, .int .i64 a2] ?_; (with_reducible refine (impl_greens.calls k _ _ l0 _ _ l1 a2 t457 _ ?_ ?_ ?_ ?_ A5.out).mono ?_); exact cO HR0; exact HC0.out; exact cO HR1; exact HC1.out; rintro e w8 ⟨v458, rfl, ho0, hb⟩; refine ⟨_, rfl, ?_⟩; have HO459 := rl w ho0; replace HB := bs HB hb; (try clear hb); (try clear ho0)) | ((with_reducible refine gate_callee (f := 80) rfl ?_); refine gL (some 16) Tryz.func80 #[.int .i64 a3, .int .i64 0, .int .i64 100000] ?_; (with_reducible refine (impl_InRange.calls a3 0 100000 true _ A6.out).mono ?_); rintro e w' ⟨rfl, ⟨nd, rfl⟩⟩; refine ⟨_, rfl, ?_⟩; obtain ⟨Ao9, co9, eo9⟩ := Kd.R_slice HO459.out; subst eo9))
  go_loopg [20] k (fun kq v20 w' => ∃ (x20_1 : Int), v20 = .int .i64 x20_1 ∧ Aside0 (impl_NextGreen.l0 kq a3 t457 (t457.length : Int) x20_1 = some r) ∧ Aside0 (kq ≤ k) ∧ Aside0 (Kd.R Kd.bool 4 w' w.heap.size (fun _ => True) (.slice Ao9 t457.length co9) t457) ∧ Aside0 (Below w.heap.size w w'))
  case atStart => exact ⟨(0), rS, H', ⟨Nat.le_refl _⟩, ⟨rK HO459⟩, ⟨bA⟩⟩
  case round =>
   clear H'
   obtain ⟨x20_1, rfl, HA, HK1, HO_9, HB⟩ := hrel
   cases gk with
   | zero => exact absurd HA.out (by simp [impl_NextGreen.l0])
   | succ k1 =>
    have H := HA.out
    clear HA
    simp only [impl_NextGreen.l0] at H
    by_cases c10 : x20_1 < (t457.length : Int)
    ·
     rw [if_pos c10] at H
     have c10b0 := decide_eq_true c10
     clear c10
     have c11 : ¬ ((t457.length : Int) = 0) := ifN' H
     replace H := ifT' H
     have c11b0 : ((t457.length : Int) == 0) = false := beq_eq_false_iff_ne.mpr c11
     have c11b1 : ((t457.length : Int) != 0) = true := bne_iff_ne.mpr c11
     have c11b2 : ¬ (t457 = []) := fun h_ => c11 (by rw [h_]; rfl)
     obtain ⟨ji12, hji12⟩ : ∃ j_ : Int, (Int.tmod (wrap64 (a3 + x20_1)) (t457.length : Int)) = j_ := ⟨_, rfl⟩
     replace H : (if 0 ≤ (ji12) then (if (ji12) < (t457.length : Int) then (if rdOf false t457 (ji12) = true then (some (wrap64 (a3 + x20_1))) else (impl_NextGreen.l0 k1 a3 t457 (t457.length : Int) (wrap64 (x20_1 + 1)))) else (none)) else (none)) = some r := by first | (rw [hji12] at H; exact H) | (simp only [hji12] at H ⊢; exact H)
     have c13 : 0 ≤ (ji12) := ifN H
     replace H := ifT H
     have c13b0 := decide_eq_true c13
     clear c13
     have c14 : (ji12) < (t457.length : Int) := ifN H
     replace H := ifT H
     have c14b0 := decide_eq_true c14
     clear c14
     obtain ⟨bq15, hbq15⟩ : ∃ b_ : Bool, b_ = (rdOf false t457 (ji12)) := ⟨_, rfl⟩
     replace H : (if bq15 = true then (some (wrap64 (a3 + x20_1))) else (impl_NextGreen.l0 k1 a3 t457 (t457.length : Int) (wrap64 (x20_1 + 1)))) = some r := by rw [← hbq15] at H; exact H
     have Nbq15 := Aside0.mk hbq15
     clear hbq15
     by_cases c16 : bq15 = true
     ·
      subst c16
      have H1 : (some (wrap64 (a3 + x20_1))) = some r := by rw [if_pos rfl] at H; exact H
      clear H
      have H := H1
      clear H1
      obtain rfl := Option.some.inj H
      obtain ⟨p461, q461⟩ : 0 ≤ ((ji12) : Int) ∧ (ji12) < (t457.length : Int) := ⟨dA, dA⟩
      obtain ⟨ad461, e461, hx461_0⟩ := Kd.at_bool (Kd.R_reads' HO_9.out).2.2 (ji12) p461 q461
      (try rw [← Nbq15.out] at hx461_0)
      cases e461
      obtain ⟨p461, q461⟩ := eT p461 q461
      go_wp2
      go_ret
      exact ⟨by first | rfl | (simp [errW_none, errW_some] <;> rfl) | (simp only [← hji12]; first | rfl | (simp [errW_none, errW_some] <;> rfl)) | (simp [*, errW_none, errW_some] <;> rfl), bA⟩
     replace c16 := Bool.eq_false_iff.mpr c16
     subst c16
     have H1 : (impl_NextGreen.l0 k1 a3 t457 (t457.length : Int) (wrap64 (x20_1 + 1))) = some r := by rw [if_neg (show ¬ (false = true) by decide)] at H; exact H
     clear H
     have H := H1
     clear H1
     have H' := Aside0.mk H
     clear H
     obtain ⟨p461, q461⟩ : 0 ≤ ((ji12) : Int) ∧ (ji12) < (t457.length : Int) := ⟨dA, dA⟩
     obtain ⟨ad461, e461, hx461_0⟩ := Kd.at_bool (Kd.R_reads' HO_9.out).2.2 (ji12) p461 q461
     (try rw [← Nbq15.out] at hx461_0)
     cases e461
     obtain ⟨p461, q461⟩ := eT p461 q461
     go_wp2
     go_roundg k1
     case measure => have := HK1.out; omega
     case rel => exact ⟨(wrap64 (x20_1 + 1)), rS, H', ⟨by have := HK1.out; omega⟩, ⟨rK HO_9⟩, ⟨bA⟩⟩
    rw [if_neg c10] at H
    have c10b0 := decide_eq_false c10
    clear c10
    obtain rfl := Option.some.inj H
    go_wp2
    go_ret
    exact ⟨rA, bA⟩
 replace c7 := Bool.eq_false_iff.mpr c7
 subst c7
 have H1 : (some (-1)) = some r := by rw [if_neg (show ¬ (false = true) by decide)] at H; exact H
 clear H
 have H := H1
 clear H1
 obtain rfl := Option.some.inj H
 go_enter Tryz.func68, Tryz.ntmps68
 go_wp2_with (first | ((with_reducible refine gate_callee (f := 93) rfl ?_); refine gL (some 14) Tryz.func93 #[.slice A0 l0.length c0, .slice A1 l1.length c1, .int .i64 a2] ?_; (with_reducible refine (impl_greens.calls k _ _ l0 _ _ l1 a2 t457 _ ?_ ?_ ?_ ?_ A5.out).mono ?_); exact cO HR0; exact HC0.out; exact cO HR1; exact HC1.out; rintro e w17 ⟨v458, rfl, ho0, hb⟩; refine ⟨_, rfl, ?_⟩; have HO459 := rl w ho0; replace HB := bs HB hb; (try clear hb); (try clear ho0)) | ((with_reducible refine gate_callee (f := 80) rfl ?_); refine gL (some 16) Tryz.func80 #[.int .i64 a3, .int .i64 0, .int .i64 100000] ?_; (with_reducible refine (impl_InRange.calls a3 0 100000 false _ A6.out).mono ?_); rintro e w' ⟨rfl, ⟨nd, rfl⟩⟩; refine ⟨_, rfl, ?_⟩))
 go_ret
 exact ⟨rA, bA⟩

/-! ### impl_ServedAt: function 40 -/
def impl_ServedAt.l0 : Nat → List (S69) → List (S72) → List Int → List (S65) → Int → Int → Option (List Int)
 | 0, _, _, _, _, _, _ => none
 | k + 1, x0, x1, x7, x11, x12, x13 => if x13 < x12 then (if 0 ≤ x13 then (if x13 < (x11.length : Int) then ((impl_NextGreen.f k x0 x1 ((rd_T65 x11 x13).f0) ((rd_T65 x11 x13).f1)).bind fun t467 => (if x7.length < 17592186044416 then (impl_ServedAt.l0 k x0 x1 (x7 ++ [t467]) x11 x12 (wrap64 (x13 + 1))) else (none))) else (none)) else (none)) else (some x7)
def impl_ServedAt.f (k : Nat) (l0 : List (S69)) (l1 : List (S72)) (l2 : List (S65)) : Option (List Int) := impl_ServedAt.l0 k l0 l1 (([] : List Int)) l2 (l2.length : Int) 0
theorem impl_ServedAt.mono_l : ∀ k, (∀ y0 y1 y2 y3 y4 y5, LeO (impl_ServedAt.l0 k y0 y1 y2 y3 y4 y5) (impl_ServedAt.l0 (k + 1) y0 y1 y2 y3 y4 y5))
 | 0 => fun _ _ _ _ _ _ r h => by simp [impl_ServedAt.l0] at h
 | k + 1 => by
  have ih0 := impl_ServedAt.mono_l k
  ·
   intro y0 y1 y2 y3 y4 y5
   unfold impl_ServedAt.l0
   exact mz2 ih0 impl_NextGreen.mono
theorem impl_ServedAt.mono : ∀ a0 a1 a2 k, LeO (impl_ServedAt.f k a0 a1 a2) (impl_ServedAt.f (k + 1) a0 a1 a2) := by
 intro a0 a1 a2 k
 have ih0 := impl_ServedAt.mono_l k
 unfold impl_ServedAt.f
 exact mz2 ih0 impl_NextGreen.mono
set_option maxHeartbeats 8000000 in
set_option maxRecDepth 100000 in
theorem impl_ServedAt.calls (k : Nat) (A0 : Option Addr) (c0 : Nat) (l0 : List (S69)) (A1 : Option Addr) (c1 : Nat) (l1 : List (S72)) (A2 : Option Addr) (c2 : Nat) (l2 : List (S65)) (r : List Int) (w : World) (hr0 : Kd.C k69 w A0 l0.length l0) (hc0 : l0.length ≤ c0) (hr1 : Kd.C k72 w A1 l1.length l1) (hc1 : l1.length ≤ c1) (hr2 : Kd.C k65 w A2 l2.length l2) (hc2 : l2.length ≤ c2) (h : impl_ServedAt.f k l0 l1 l2 = some r) :
  Calls Tryz.prog 40 #[.slice A0 l0.length c0, .slice A1 l1.length c1, .slice A2 l2.length c2] w fun e w' => ∃ v0_ : Value, e = .returned (v0_) ∧ Kd.R (Kd.int .i64) 3 w' w.heap.size (fun _ => True) v0_ r ∧ Below w.heap.size w w' := by
 have hu65 := Tryz.underlying65
 have HR0 := Aside0.mk hr0
 have HC0 := Aside0.mk hc0
 clear hr0 hc0
 have HR1 := Aside0.mk hr1
 have HC1 := Aside0.mk hc1
 clear hr1 hc1
 have HR2 := Aside0.mk hr2
 have HC2 := Aside0.mk hc2
 clear hr2 hc2
 have HB := Aside0.mk (Below.refl w.heap.size w)
 have H : (impl_ServedAt.l0 k l0 l1 (([] : List Int)) l2 (l2.length : Int) 0) = some r := h
 clear h
 obtain ⟨y462, hy462⟩ : ∃ y_ : List Int, y_ = (([] : List Int)) := ⟨_, rfl⟩
 replace H : (impl_ServedAt.l0 k l0 l1 y462 l2 (l2.length : Int) 0) = some r := rH H hy462
 have Ny462 := Aside0.mk hy462
 clear hy462
 have H' := Aside0.mk H
 clear H
 go_enter Tryz.func40, Tryz.ntmps40
 go_wp2_with (first | ((with_reducible refine gate_dst (N := 10) rfl ?_); refine Kd.R_lit (Kd.int .i64) _ 3 ?hg (N := 10) ?hd (xs := ([] : List Int)) (inner := []) (ok := fun _ => True) (okp := fun _ => True) ?hr ?hp (fun _ hk => hk) trivial (Below.refl _ _) (Nat.le_refl _) (by simp) ?_; (case hd => rfl); (case hg => rfl); (case hr => first | (go_simp; done) | (go_simp; rfl)); (case hp => exact (Reps.none _ _)); intro v463 w4 ho5 hb hg_ hnew_; clear hg_ hnew_; (first | rw [← Ny462.out] at ho5 | (simp only [Int.reduceToNat] at ho5; rw [← Ny462.out] at ho5)); have HO464 := rl w ho5; replace HB := bs HB hb; clear hb ho5))
 go_loopg [7, 13] k (fun kq v7 v13 w' => ∃ (x7_1 : List Int) (x13_1 : Int), v13 = .int .i64 x13_1 ∧ Aside0 (impl_ServedAt.l0 kq l0 l1 x7_1 l2 (l2.length : Int) x13_1 = some r) ∧ Aside0 (kq ≤ k) ∧ Aside0 (Kd.R (Kd.int .i64) 3 w' w.heap.size (fun _ => True) v7 x7_1) ∧ Aside0 (Below w.heap.size w w'))
 case atStart => exact ⟨(y462), (0), rS, H', ⟨Nat.le_refl _⟩, ⟨rK HO464⟩, ⟨bA⟩⟩
 case round =>
  clear H'
  obtain ⟨x7_1, x13_1, rfl, HA, HK1, HO_7, HB⟩ := hrel
  cases gk with
  | zero => exact absurd HA.out (by simp [impl_ServedAt.l0])
  | succ k1 =>
   have H := HA.out
   clear HA
   simp only [impl_ServedAt.l0] at H
   by_cases c6 : x13_1 < (l2.length : Int)
   ·
    rw [if_pos c6] at H
    have c6b0 := decide_eq_true c6
    clear c6
    have c7 : 0 ≤ x13_1 := ifN H
    replace H := ifT H
    have c7b0 := decide_eq_true c7
    clear c7
    have c8 : x13_1 < (l2.length : Int) := ifN H
    replace H := ifT H
    have c8b0 := decide_eq_true c8
    clear c8
    obtain ⟨t467, A9, H⟩ := bindE H
    try dsimp only at H
    have c10 : x7_1.length < 17592186044416 := ifN H
    replace H := ifT H
    have LMc10 := Aside0.mk c10
    clear c10
    obtain ⟨y468, hy468⟩ : ∃ y_ : List Int, y_ = (x7_1 ++ [t467]) := ⟨_, rfl⟩
    replace H : (impl_ServedAt.l0 k1 l0 l1 y468 l2 (l2.length : Int) (wrap64 (x13_1 + 1))) = some r := rH H hy468
    have Ny468 := Aside0.mk hy468
    clear hy468
    have H' := Aside0.mk H
    clear H
    obtain ⟨p465, q465⟩ : 0 ≤ (x13_1 : Int) ∧ x13_1 < (l2.length : Int) := ⟨dA, dA⟩
    obtain ⟨ad465, e465, hx465_0, hx465_1⟩ := at_T65 (Kd.C_below HR2.out HB.out) x13_1 p465 q465
    cases e465
    obtain ⟨p465, q465⟩ := eT p465 q465
    go_wp2_with (first | ((with_reducible refine gate_dst (N := 9) rfl ?_); refine bE (N := 9) (cs := #[.int .i64 0, .int .i64 0]) (t := 65) ?_; intro gb466 hg w11 hbox hb; replace HO_7 := rb HO_7 hb; have BK466 := Aside0.mk (hbox); have GW466 := gw w hg; have GE466 := gw w hg; replace HB := bs HB hb; clear hb hbox hg; obtain ⟨_, _, _, _⟩ := blkc2 BK466) | ((with_reducible refine gate_callee (f := 68) rfl ?_); refine gL (some 24) Tryz.func68 #[.slice A0 l0.length c0, .slice A1 l1.length c1, .int .i64 ((rd_T65 l2 x13_1).f0), .int .i64 ((rd_T65 l2 x13_1).f1)] ?_; (with_reducible refine (impl_NextGreen.calls k1 _ _ l0 _ _ l1 ((rd_T65 l2 x13_1).f0) ((rd_T65 l2 x13_1).f1) t467 _ ?_ ?_ ?_ ?_ A9.out).mono ?_); exact Kd.C_below HR0.out bG; exact HC0.out; exact Kd.C_below HR1.out bG; exact HC1.out; rintro e w13 ⟨rfl, hb⟩; refine ⟨_, rfl, ?_⟩; replace HO_7 := Aside0.mk (Kd.R_below (rf HO_7 BK466) hb); replace BK466 := kc (o := .cells #[.int .i64 ((rd_T65 l2 x13_1).f0), .int .i64 ((rd_T65 l2 x13_1).f1)] 65 (0, 0)) (kp BK466) hb; replace HB := bs HB hb; (try clear hb)) | ((with_reducible refine gate_builtin (b := .append) (xs := #[.tmp 17, .tmp 25]) rfl ?_); at_builtin; refine Kd.R_append (Kd.int .i64) (w0 := w) w.heap.size rfl (.tmp 17) (.tmp 25) 28 3 (.int .i64 0) 8 rfl Tryz.underlying28 info3 rfl (by decide) (by omega) u7 x7_1 t467 [.int .i64 t467] (fun _ => True) (fun _ => False) rfl rfl ?aP (fun _ hk => hk.elim) ?aF ?aO ?aB ?aS ?aL ?_; (case aP => exact rfl); (case aB => exact bG); (case aF => exact (fun _ _ => trivial)); (case aO => exact (rK HO_7)); (case aS => exact (below_size bG)); (case aL => have := LMc10.out; omega); intro v469 w14 ho hb hg hat; rw [← Ny468.out] at ho; have n0_ := Aside0.mk (blk_grown (g := gb466) (o := .cells #[.int .i64 ((rd_T65 l2 x13_1).f0), .int .i64 ((rd_T65 l2 x13_1).f1)] 65 (0, 0)) (bK BK466) hg (Kd.R_ne HO_7.out BK466.out (by decide))); have n1_ := Aside0.mk (hb); have n2_ := Aside0.mk (ho); clear BK466; clear HB; clear HO_7; have BK466 := n0_; have HB := n1_; have HO470 := n2_; clear n0_ n1_ n2_; clear ho hb hg hat))
    go_roundg k1
    case measure => have := HK1.out; omega
    case rel => exact ⟨(y468), (wrap64 (x13_1 + 1)), rS, H', ⟨by have := HK1.out; omega⟩, ⟨rK HO470⟩, ⟨bG⟩⟩
   rw [if_neg c6] at H
   have c6b0 := decide_eq_false c6
   clear c6
   obtain rfl := Option.some.inj H
   go_wp2
   go_ret
   exact ⟨_, rA, rK HO_7, bA⟩

/-! ### slices_Sort_int_int: function 41 -/
def slices_Sort_int_int.f (l0 : List Int) : Option (List Int) := if l0.length < 4611686018427387904 then some (l0.mergeSort fun x y => decide (x ≤ y)) else none
theorem slices_Sort_int_int.calls (P0_ : Nat → Prop) (u9000_ : Value) (l0 : List Int) (r1 : List Int) (w0 w : World) (hB : Below w0.heap.size w0 w) (ho0 : Kd.R (Kd.int .i64) 3 w w0.heap.size P0_ u9000_ l0) (h : slices_Sort_int_int.f l0 = some r1) :
  Calls Tryz.prog 41 #[u9000_] w fun e w' => e = .returned (.tuple #[]) ∧ Kd.R (Kd.int .i64) 3 w' w0.heap.size (fun k_ => (P0_ k_ ∨ w.heap.size ≤ k_)) u9000_ r1 ∧ Below w0.heap.size w0 w' ∧ Kept w w' (fun k_ => P0_ k_) := by
 unfold slices_Sort_int_int.f at h
 by_cases hl : l0.length < 4611686018427387904
 ·
  rw [if_pos hl] at h
  obtain rfl := Option.some.inj h
  have own := Kd.own_of_R ho0
  have hok := ho0.1
  rcases own.2 with ⟨rfl, hn⟩ | ⟨g, cap, cur, rfl, hb, hg, hn, hm, hs, ht⟩
  ·
   have e0 : l0 = [] := List.eq_nil_of_length_eq_zero hn
   subst e0
   refine (Go.Proofs.Any.slices_Sort_int_none shelfSort none 0 w).mono ?_
   rintro e w' ⟨he, rfl⟩
   refine ⟨he, ?_, hB, Kept.refl _ _⟩
   rw [show (([] : List Int).mergeSort fun x y => decide (x ≤ y)) = [] by simp]
   exact Kd.R_mono ho0 (fun k hk => Or.inl hk)
  ·
   have hlt := blk_lt hg
   have H : Go.Sort.Holds (Value.int .i64) w g 0 l0.toArray := holds_of_blockI hg (by rw [Nat.mul_one] at ht; exact ht)
   refine (Go.Proofs.Any.slices_Sort_int shelfSort g 0 cap l0 w H hlt hl).mono ?_
   rintro e w' ⟨he, n, os, rfl⟩
   have hlen : (l0.mergeSort fun x y => decide (x ≤ y)).length = l0.length := List.length_mergeSort _
   have gb := grownBy_sortedI (w := w) (g := g) (n := n) (os := os) (l0.mergeSort fun x y => decide (x ≤ y)).toArray
   have hP := hok g rfl
   refine ⟨he, Kd.R_of_own ?_ (fun k hk => Or.inl (hok k hk)), hB.grown gb hB.size (fun k hk => by cases hk; exact hb), gb.size, fun k hk hS => gb.block k hk (fun e => hS (by cases e; exact hP))⟩
   rw [hlen]
   exact ownsRow_sortedI hlen hb hg hn hm hs
 ·
  rw [if_neg hl] at h
  cases h

/-! ### slices_Compact_int_int: function 42 -/
def slices_Compact_int_int.f (l0 : List Int) : Option (List Int) := some (Go.Lib.compact l0)
theorem slices_Compact_int_int.len (l0 : List Int) : (Go.Lib.compact l0).length ≤ l0.length := by
 unfold Go.Lib.compact Go.Lib.compactUpTo
 rw [List.length_map]
 exact Nat.le_trans (List.length_filter_le _ _) (by simp)
theorem slices_Compact_int_int.calls (P0_ : Nat → Prop) (u9000_ : Value) (l0 : List Int) (r : List Int) (w0 w : World) (hB : Below w0.heap.size w0 w) (ho0 : Kd.R (Kd.int .i64) 3 w w0.heap.size P0_ u9000_ l0) (h : slices_Compact_int_int.f l0 = some r) :
  Calls Tryz.prog 42 #[u9000_] w fun e w' => ∃ v0_ : Value, e = .returned v0_ ∧ Kd.R (Kd.int .i64) 3 w' w0.heap.size (fun k_ => (P0_ k_ ∨ w.heap.size ≤ k_)) v0_ r ∧ Below w0.heap.size w0 w' ∧ Kept w w' (fun k_ => P0_ k_) := by
 obtain rfl := Option.some.inj h
 have own := Kd.own_of_R ho0
 have hok := ho0.1
 rcases own.2 with ⟨rfl, hn⟩ | ⟨g, cap, cur, rfl, hb, hg, hn, hm, hs, ht⟩
 ·
  have e0 : l0 = [] := List.eq_nil_of_length_eq_zero hn
  subst e0
  refine (Go.Proofs.Any.slices_Compact_int_empty shelfCompact none 0 w).mono ?_
  rintro e w' ⟨rfl, rfl⟩
  exact ⟨_, rfl, Kd.R_mono ho0 (fun k hk => Or.inl hk), hB, Kept.refl _ _⟩
 ·
  have hlt := blk_lt hg
  have hc := slices_Compact_int_int.len l0
  have H : Go.Sort.Holds (Value.int .i64) w g 0 l0.toArray := holds_of_blockI hg (by rw [Nat.mul_one] at ht; exact ht)
  refine (Go.Proofs.Any.slices_Compact_int shelfCompact g 0 cap l0 w H (Nat.le_trans hn hm) hn).mono ?_
  rintro e w' ⟨rfl, q, rfl⟩
  have hP := hok g rfl
  have o2 := Go.Lib.ownsRow_putRow (q := q) (k := (Go.Lib.compact l0).length) (ys := Go.Lib.compact l0 ++ List.replicate (l0.length - (Go.Lib.compact l0).length) 0) own (by rw [List.length_append, List.length_replicate]; omega) hc
  rw [List.take_left] at o2
  refine ⟨_, rfl, Kd.R_of_own o2 (fun k hk => Or.inl (hok k hk)), Go.Lib.below_putRow hB hb, ?_, fun k hk hS => ?_⟩
  ·
   simp [Go.Sort.putRow, Go.Sort.mapBlock, Go.Sort.ahead]
  ·
   have hne : g ≠ k := fun e => hS (by subst e; exact hP)
   simp [Go.Sort.putRow, Go.Sort.mapBlock, Go.Sort.ahead, Array.getElem?_modify, hne]

end Go.Proofs.YtdkmmefmhfbgkaaGreat.P
