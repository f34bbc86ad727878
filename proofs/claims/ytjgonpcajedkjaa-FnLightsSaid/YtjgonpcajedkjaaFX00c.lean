/- Printed by myprint.py (wip/tools) over the kit's print: what Go's functions compute, and that they do. Lean checks it. -/
import Derived.Test.YtjgonpcajedkjaaF0
import Derived.Test.YtjgonpcajedkjaaFX00b
namespace Go.Proofs.Ytjgonpcajedkjaa.P
open Go.RowKit Go.Proofs.YtjgonpcajedkjaaW.PrintWords Go.Proofs.YtjgonpcajedkjaaW.PrintLast Go.Proofs.YtjgonpcajedkjaaW.PrintMore Go.Proofs.Ytjgonpcajedkjaa.Sq
attribute [local go_sem] max2_int min2_int max_two min_two max_three min_three max_four min_four
set_option linter.unusedVariables false
set_option linter.unusedSimpArgs false

/-! ### spec_IsTogether: function 112 -/
mutual
def spec_IsTogether.l0 : Nat → List (S50) → List Int → Int → Option (Bool)
 | 0, _, _, _ => none
 | k + 1, x0, x1, x5 => if x5 < (x1.length : Int) then (if 0 ≤ x5 then ((spec_FindPath.f k x0 (rd x1 x5)).bind fun t326 => (if t326 < 0 then (spec_IsTogether.j1 k x0 x1 x5 t326 true) else (if x5 > 0 then (if 0 ≤ (wrap64 (x5 - 1)) then (if (wrap64 (x5 - 1)) < (x1.length : Int) then (spec_IsTogether.j1 k x0 x1 x5 t326 (decide ((rd x1 (wrap64 (x5 - 1))) ≥ (rd x1 x5)))) else (none)) else (none)) else (spec_IsTogether.j1 k x0 x1 x5 t326 false)))) else (none)) else ((spec_ArePaths.f k x0).bind fun t324 => (some t324))
def spec_IsTogether.j1 : Nat → List (S50) → List Int → Int → Int → Bool → Option (Bool)
 | 0, _, _, _, _, _ => none
 | k + 1, x0, x1, x5, x6, x37 => if x37 = true then (some false) else (spec_IsTogether.l1 k x0 x1 x5 x6 0)
def spec_IsTogether.l1 : Nat → List (S50) → List Int → Int → Int → Int → Option (Bool)
 | 0, _, _, _, _, _ => none
 | k + 1, x0, x1, x5, x6, x7 => if x7 < x5 then (if 0 ≤ x6 then (if x6 < (x0.length : Int) then (if 0 ≤ x7 then (if x7 < (x1.length : Int) then ((spec_FindPath.f k x0 (rd x1 x7)).bind fun t331 => (if 0 ≤ t331 then (if t331 < (x0.length : Int) then ((spec_Conflict.f k ((rd_T50 x0 x6).f0) ((rd_T50 x0 x6).f1) ((rd_T50 x0 x6).f2) ((rd_T50 x0 x6).f3) ((rd_T50 x0 t331).f0) ((rd_T50 x0 t331).f1) ((rd_T50 x0 t331).f2) ((rd_T50 x0 t331).f3)).bind fun t333 => (if t333 = true then (some false) else (spec_IsTogether.l1 k x0 x1 x5 x6 (wrap64 (x7 + 1))))) else (none)) else (none))) else (none)) else (none)) else (none)) else (none)) else (spec_IsTogether.l0 k x0 x1 (wrap64 (x5 + 1)))
end
def spec_IsTogether.f (k : Nat) (l0 : List (S50)) (l1 : List Int) : Option (Bool) := spec_IsTogether.l0 k l0 l1 0
theorem spec_IsTogether.mono_l : ∀ k, (∀ y0 y1 y2, LeO (spec_IsTogether.l0 k y0 y1 y2) (spec_IsTogether.l0 (k + 1) y0 y1 y2)) ∧ (∀ y0 y1 y2 y3 y4, LeO (spec_IsTogether.j1 k y0 y1 y2 y3 y4) (spec_IsTogether.j1 (k + 1) y0 y1 y2 y3 y4)) ∧ (∀ y0 y1 y2 y3 y4, LeO (spec_IsTogether.l1 k y0 y1 y2 y3 y4) (spec_IsTogether.l1 (k + 1) y0 y1 y2 y3 y4))
 | 0 => ⟨fun _ _ _ r h => by simp [spec_IsTogether.l0] at h, fun _ _ _ _ _ r h => by simp [spec_IsTogether.j1] at h, fun _ _ _ _ _ r h => by simp [spec_IsTogether.l1] at h⟩
 | k + 1 => by
  obtain ⟨ih0, ih1, ih2⟩ := spec_IsTogether.mono_l k
  refine ⟨?_, ?_, ?_⟩
  ·
   intro y0 y1 y2
   unfold spec_IsTogether.l0
   exact mz6 ih0 ih1 ih2 spec_ArePaths.mono spec_Conflict.mono spec_FindPath.mono
  ·
   intro y0 y1 y2 y3 y4
   unfold spec_IsTogether.j1
   exact mz6 ih0 ih1 ih2 spec_ArePaths.mono spec_Conflict.mono spec_FindPath.mono
  ·
   intro y0 y1 y2 y3 y4
   unfold spec_IsTogether.l1
   exact mz6 ih0 ih1 ih2 spec_ArePaths.mono spec_Conflict.mono spec_FindPath.mono
theorem spec_IsTogether.mono : ∀ a0 a1 k, LeO (spec_IsTogether.f k a0 a1) (spec_IsTogether.f (k + 1) a0 a1) := by
 intro a0 a1 k
 obtain ⟨ih0, ih1, ih2⟩ := spec_IsTogether.mono_l k
 unfold spec_IsTogether.f
 exact mz6 ih0 ih1 ih2 spec_ArePaths.mono spec_Conflict.mono spec_FindPath.mono
def spec_IsTogether.T5 : Bool × List (List Nat × List Nat) := (true, [([], []), ([0], [0]), ([1], [1]), ([2], [2]), ([3, 2], [2, 3]), ([4, 2, 2], [2, 4]), ([5], [5]), ([5], [5]), ([7, 5], [5, 7]), ([6, 8, 5], [5, 6, 8]), ([9, 5], [5, 9]), ([5], [5]), ([5], [5]), ([11, 12, 5], [5, 11, 12]), ([13, 5], [5, 13]), ([10, 14, 5], [5, 10, 14]), ([5, 15, 2], [2, 5, 15]), ([2, 16], [2, 16])])
def spec_IsTogether.B5 : List Nat := [0, 1, 3, 7, 15, 31, 63, 63, 191, 511, 1023, 63, 63, 6207, 14399, 32767, 65535, 131071]
theorem spec_IsTogether.tab5 : rtab .any (opsOf Try.f112 5) = spec_IsTogether.T5 := by kernel_rfl
theorem spec_IsTogether.bits5 : waitsOk spec_IsTogether.T5.2 spec_IsTogether.B5 = true := by kernel_rfl
def spec_IsTogether.T10 : Bool × List (List Nat × List Nat) := (true, [([], []), ([], []), ([0, 1], [0, 1]), ([2], [2]), ([], []), ([], []), ([], []), ([], []), ([6, 7], [6, 7]), ([8], [8]), ([5, 9], [5, 9]), ([4, 10], [4, 10]), ([11], [11]), ([3, 12, 10], [3, 12])])
def spec_IsTogether.B10 : List Nat := [0, 0, 3, 7, 0, 0, 0, 0, 192, 448, 992, 2032, 4080, 8191]
theorem spec_IsTogether.tab10 : rtab .any (opsOf Try.f112 10) = spec_IsTogether.T10 := by kernel_rfl
theorem spec_IsTogether.bits10 : waitsOk spec_IsTogether.T10.2 spec_IsTogether.B10 = true := by kernel_rfl
set_option maxHeartbeats 8000000 in
set_option maxRecDepth 100000 in
theorem spec_IsTogether.calls (k : Nat) (A0 : Option Addr) (c0 : Nat) (l0 : List (S50)) (A1 : Option Addr) (c1 : Nat) (l1 : List Int) (r : Bool) (w : World) (hr0 : Kd.C k50 w A0 l0.length l0) (hc0 : l0.length ≤ c0) (hr1 : Kd.C (Kd.int .i64) w A1 l1.length l1) (hc1 : l1.length ≤ c1) (h : spec_IsTogether.f k l0 l1 = some r) :
  Calls Try.prog 112 #[.slice A0 l0.length c0, .slice A1 l1.length c1] w fun e w' => e = .returned (.bool r) ∧ Below w.heap.size w w' := by
 have hu50 := Try.underlying50
 have HR0 := Aside0.mk hr0
 have HC0 := Aside0.mk hc0
 clear hr0 hc0
 have HR1 := Aside0.mk hr1
 have HC1 := Aside0.mk hc1
 clear hr1 hc1
 have HB := Aside0.mk (Below.refl w.heap.size w)
 have H : (spec_IsTogether.l0 k l0 l1 0) = some r := h
 clear h
 have H' := Aside0.mk H
 clear H
 go_enter Try.func112, Try.ntmps112
 go_wp2
 go_loopg [5] k (fun kq v5 w' => ∃ (x5_1 : Int), v5 = .int .i64 x5_1 ∧ Aside0 (spec_IsTogether.l0 kq l0 l1 x5_1 = some r) ∧ Aside0 (kq ≤ k) ∧ Aside0 (Below w.heap.size w w'))
 case atStart => exact ⟨(0), rS, H', ⟨Nat.le_refl _⟩, ⟨bA⟩⟩
 case round =>
  clear H'
  obtain ⟨x5_1, rfl, HA, HK1, HB⟩ := hrel
  cases gk with
  | zero => exact absurd HA.out (by simp [spec_IsTogether.l0])
  | succ k1 =>
   have H := HA.out
   clear HA
   simp only [spec_IsTogether.l0] at H
   by_cases c3 : x5_1 < (l1.length : Int)
   ·
    rw [if_pos c3] at H
    have c3b0 := decide_eq_true c3
    clear c3
    have c4 : 0 ≤ x5_1 := ifN H
    replace H := ifT H
    have c4b0 := decide_eq_true c4
    clear c4
    obtain ⟨t326, A5, H⟩ := bindE H
    try dsimp only at H
    have HC6 := Aside0.mk H
    clear H
    obtain ⟨p325, q325⟩ : 0 ≤ (x5_1 : Int) ∧ x5_1 < (l1.length : Int) := ⟨dA, dA⟩
    obtain ⟨ad325, e325, hx325_0⟩ := Kd.at_int (Kd.C_below HR1.out HB.out) x5_1 p325 q325
    cases e325
    obtain ⟨p325, q325⟩ := eT p325 q325
    go_upto_region 5 with (first | ((with_reducible refine gate_callee (f := 144) rfl ?_); refine gL (some 19) Try.func144 #[.slice A0 l0.length c0, .int .i64 (rd l1 x5_1)] ?_; (with_reducible refine (spec_FindPath.calls k1 _ _ l0 (rd l1 x5_1) t326 _ ?_ ?_ A5.out).mono ?_); exact cB HR0; exact HC0.out; rintro e w' ⟨rfl, ⟨nd, rfl⟩⟩; refine ⟨_, rfl, ?_⟩))
    (try simp only [Act.put, List.setIfInBounds_toArray, List.set_cons_zero, List.set_cons_succ])
    go_cut [37] (fun v37 wc => ∃ (kq : Nat) (x37_5 : Bool), v37 = .bool x37_5 ∧ Aside0 (spec_IsTogether.j1 kq l0 l1 x5_1 t326 x37_5 = some r) ∧ Aside0 (kq ≤ k1) ∧ Aside0 (Below w.heap.size w wc))
    case first =>
     have H := HC6.out
     clear HC6
     by_cases c7 : t326 < 0
     ·
      rw [if_pos c7] at H
      have c7b0 := decide_eq_true c7
      clear c7
      (first | rw [c7b0] | (simp only [i64_w, i32_w]; rw [c7b0]) | skip)
      have H' := Aside0.mk H
      clear H
      try go_wp2
      have HBo := HB
      replace HB := db HB
      refine sw (ds := []) 18 (mb 18 0) spec_IsTogether.tab5 spec_IsTogether.bits5 h0 (fun hHeld HT_ HW_ => ?_)
      generalize wr.drew = w8 at HB hHeld ⊢
      refine pa 0 20 (mb 18 1) HT_ ?_
      refine pa 1 21 (mb 18 3) HT_ ?_
      refine pa 2 22 (mb 18 7) HT_ ?_
      refine pu 3 23 (mb 18 15) HT_ ?_
      refine pu 4 24 (mb 18 31) HT_ ?_
      refine pu 5 25 (mb 18 63) HT_ ?_
      refine pu 6 26 (mb 18 127) HT_ ?_
      refine pu 7 27 (mb 18 255) HT_ ?_
      refine pu 8 28 (mb 18 511) HT_ ?_
      refine pu 9 29 (mb 18 1023) HT_ ?_
      refine pu 10 30 (mb 18 2047) HT_ ?_
      refine pu 11 31 (mb 18 4095) HT_ ?_
      refine pu 12 32 (mb 18 8191) HT_ ?_
      refine pu 13 33 (mb 18 16383) HT_ ?_
      refine pu 14 34 (mb 18 32767) HT_ ?_
      refine pu 15 35 (mb 18 65535) HT_ ?_
      refine pu 16 36 (mb 18 131071) HT_ ?_
      refine pa 17 37 (mb 18 262143) HT_ ?_
      refine eA HT_ ?_
      try go_wp2
      go_meet
      case rel => exact ⟨_, (true), rS, H', ⟨by have := HK1.out; first | omega | exact Nat.le_refl _⟩, ⟨bA⟩⟩
     rw [if_neg c7] at H
     have c7b0 := decide_eq_false c7
     clear c7
     (first | rw [c7b0] | (simp only [i64_w, i32_w]; rw [c7b0]) | skip)
     by_cases c9 : x5_1 > 0
     ·
      rw [if_pos c9] at H
      have c9b0 := decide_eq_true c9
      clear c9
      obtain ⟨ji10, hji10⟩ : ∃ j_ : Int, (wrap64 (x5_1 - 1)) = j_ := ⟨_, rfl⟩
      replace H : (if 0 ≤ (ji10) then (if (ji10) < (l1.length : Int) then (spec_IsTogether.j1 k1 l0 l1 x5_1 t326 (decide ((rd l1 (ji10)) ≥ (rd l1 x5_1)))) else (none)) else (none)) = some r := by first | (rw [hji10] at H; exact H) | (simp only [hji10] at H ⊢; exact H)
      have hji10w : (IntKind.i64.wrap (x5_1 - 1)) = ji10 := (i64_w _).trans hji10
      have c11 : 0 ≤ (ji10) := ifN H
      replace H := ifT H
      have c11b0 := decide_eq_true c11
      clear c11
      have c12 : (ji10) < (l1.length : Int) := ifN H
      replace H := ifT H
      have c12b0 := decide_eq_true c12
      clear c12
      have H' := Aside0.mk H
      clear H
      try go_wp2
      have HBo := HB
      replace HB := db HB
      obtain ⟨p327, q327⟩ : 0 ≤ ((ji10) : Int) ∧ (ji10) < (l1.length : Int) := ⟨dA, dA⟩
      obtain ⟨ad327, e327, hx327_0⟩ := Kd.at_int HR1.out (ji10) p327 q327
      have hw327_0 := hx327_0
      obtain rfl : ad325 = ad327 := (by injection e327)
      replace hx327_0 := hC HB hx327_0
      obtain ⟨p327, q327⟩ := eT p327 q327
      obtain ⟨p328, q328⟩ : 0 ≤ (x5_1 : Int) ∧ x5_1 < (l1.length : Int) := ⟨dA, dA⟩
      obtain ⟨ad328, e328, hx328_0⟩ := Kd.at_int HR1.out x5_1 p328 q328
      have hw328_0 := hx328_0
      obtain rfl : ad325 = ad328 := (by injection e328)
      replace hx328_0 := hC HB hx328_0
      obtain ⟨p328, q328⟩ := eT p328 q328
      refine sw (ds := []) 18 (mb 18 0) spec_IsTogether.tab5 spec_IsTogether.bits5 (h1c (hC HB hw327_0) (h1 (hC HB hw328_0))) (fun hHeld HT_ HW_ => ?_)
      generalize wr.drew = w13 at HB hx327_0 hx328_0 hHeld ⊢
      refine pa 0 20 (mb 18 1) HT_ ?_
      refine pa 1 21 (mb 18 3) HT_ ?_
      refine pa 2 22 (mb 18 7) HT_ ?_
      refine pa 3 23 (mb 18 15) HT_ ?_
      refine pa 4 24 (mb 18 31) HT_ ?_
      refine pa 5 25 (mb 18 63) HT_ ?_
      refine pa 6 26 (mb 18 127) HT_ ?_
      refine pa 7 27 (mb 18 255) HT_ ?_
      refine pa 8 28 (mb 18 511) HT_ ?_
      refine pa 9 29 (mb 18 1023) HT_ ?_
      refine pa 11 31 (mb 18 3071) HT_ ?_
      refine pa 12 32 (mb 18 7167) HT_ ?_
      refine pa 13 33 (mb 18 15359) HT_ ?_
      refine ta2 10 30 (mb 18 16383) HT_ HW_ hHeld ?_
      refine ta2 14 34 (mb 18 32767) HT_ HW_ hHeld ?_
      refine pa 15 35 (mb 18 65535) HT_ ?_
      refine pa 16 36 (mb 18 131071) HT_ ?_
      refine pa 17 37 (mb 18 262143) HT_ ?_
      refine eA HT_ ?_
      try go_wp2
      go_meet
      case rel => exact ⟨_, (decide ((rd l1 (ji10)) ≥ (rd l1 x5_1))), (by first | rfl | (simp; done) | (simp only [← hji10] <;> (first | rfl | simp)) | (simp [*]; done)), H', ⟨by have := HK1.out; first | omega | exact Nat.le_refl _⟩, ⟨bA⟩⟩
     rw [if_neg c9] at H
     have c9b0 := decide_eq_false c9
     clear c9
     have H' := Aside0.mk H
     clear H
     try go_wp2
     have HBo := HB
     replace HB := db HB
     refine sw (ds := []) 18 (mb 18 0) spec_IsTogether.tab5 spec_IsTogether.bits5 h0 (fun hHeld HT_ HW_ => ?_)
     generalize wr.drew = w14 at HB hHeld ⊢
     refine pa 0 20 (mb 18 1) HT_ ?_
     refine pa 1 21 (mb 18 3) HT_ ?_
     refine pa 2 22 (mb 18 7) HT_ ?_
     refine pa 3 23 (mb 18 15) HT_ ?_
     refine pa 4 24 (mb 18 31) HT_ ?_
     refine pa 5 25 (mb 18 63) HT_ ?_
     refine pu 6 26 (mb 18 127) HT_ ?_
     refine pu 7 27 (mb 18 255) HT_ ?_
     refine pu 8 28 (mb 18 511) HT_ ?_
     refine pu 9 29 (mb 18 1023) HT_ ?_
     refine pu 10 30 (mb 18 2047) HT_ ?_
     refine pu 11 31 (mb 18 4095) HT_ ?_
     refine pu 12 32 (mb 18 8191) HT_ ?_
     refine pu 13 33 (mb 18 16383) HT_ ?_
     refine pu 14 34 (mb 18 32767) HT_ ?_
     refine pu 15 35 (mb 18 65535) HT_ ?_
     refine pa 16 36 (mb 18 131071) HT_ ?_
     refine pa 17 37 (mb 18 262143) HT_ ?_
     refine eA HT_ ?_
     try go_wp2
     go_meet
     case rel => exact ⟨_, (false), rS, H', ⟨by have := HK1.out; first | omega | exact Nat.le_refl _⟩, ⟨bA⟩⟩
    case rest =>
     clear HC6
     obtain ⟨kq, x37_5, rfl, HA, HJ5, HB⟩ := hcut
     cases kq with
     | zero => exact absurd HA.out (by simp [spec_IsTogether.j1])
     | succ kj5 =>
      have H := HA.out
      clear HA
      simp only [spec_IsTogether.j1] at H
      by_cases c15 : x37_5 = true
      ·
       subst c15
       have H1 : (some false) = some r := by rw [if_pos rfl] at H; exact H
       clear H
       have H := H1
       clear H1
       obtain rfl := Option.some.inj H
       go_wp2
       go_ret
       exact ⟨rA, bA⟩
      replace c15 := Bool.eq_false_iff.mpr c15
      subst c15
      have H1 : (spec_IsTogether.l1 kj5 l0 l1 x5_1 t326 0) = some r := by rw [if_neg (show ¬ (false = true) by decide)] at H; exact H
      clear H
      have H := H1
      clear H1
      have H' := Aside0.mk H
      clear H
      go_wp2
      go_loopg [7] kj5 (fun kq v7 w' => ∃ (x7_3 : Int), v7 = .int .i64 x7_3 ∧ Aside0 (spec_IsTogether.l1 kq l0 l1 x5_1 t326 x7_3 = some r) ∧ Aside0 (kq ≤ kj5) ∧ Aside0 (Below w.heap.size w w'))
      case atStart => exact ⟨(0), rS, H', ⟨Nat.le_refl _⟩, ⟨bA⟩⟩
      case round =>
       clear H'
       obtain ⟨x7_3, rfl, HA, HK3, HB⟩ := hrel
       cases gk with
       | zero => exact absurd HA.out (by simp [spec_IsTogether.l1])
       | succ k3 =>
        have H := HA.out
        clear HA
        simp only [spec_IsTogether.l1] at H
        by_cases c16 : x7_3 < x5_1
        ·
         rw [if_pos c16] at H
         have c16b0 := decide_eq_true c16
         clear c16
         have c17 : 0 ≤ t326 := ifN H
         replace H := ifT H
         have c17b0 := decide_eq_true c17
         clear c17
         have c18 : t326 < (l0.length : Int) := ifN H
         replace H := ifT H
         have c18b0 := decide_eq_true c18
         clear c18
         have c19 : 0 ≤ x7_3 := ifN H
         replace H := ifT H
         have c19b0 := decide_eq_true c19
         clear c19
         have c20 : x7_3 < (l1.length : Int) := ifN H
         replace H := ifT H
         have c20b0 := decide_eq_true c20
         clear c20
         obtain ⟨t331, A21, H⟩ := bindE H
         try dsimp only at H
         have c22 : 0 ≤ t331 := ifN H
         replace H := ifT H
         have c22b0 := decide_eq_true c22
         clear c22
         have c23 : t331 < (l0.length : Int) := ifN H
         replace H := ifT H
         have c23b0 := decide_eq_true c23
         clear c23
         obtain ⟨t333, A24, H⟩ := bindE H
         try dsimp only at H
         by_cases c25 : t333 = true
         ·
          subst c25
          have H1 : (some false) = some r := by rw [if_pos rfl] at H; exact H
          clear H
          have H := H1
          clear H1
          obtain rfl := Option.some.inj H
          try go_wp2
          have HBo := HB
          replace HB := db HB
          obtain ⟨p329, q329⟩ : 0 ≤ (t326 : Int) ∧ t326 < (l0.length : Int) := ⟨dA, dA⟩
          obtain ⟨ad329, e329, hx329_0, hx329_1, hx329_2, hx329_3⟩ := at_T50 HR0.out t326 p329 q329
          have hw329_3 := hx329_3
          have hw329_2 := hx329_2
          have hw329_1 := hx329_1
          have hw329_0 := hx329_0
          cases e329
          replace hx329_0 := hC HB hx329_0
          replace hx329_1 := hC HB hx329_1
          replace hx329_2 := hC HB hx329_2
          replace hx329_3 := hC HB hx329_3
          obtain ⟨p329, q329⟩ := eT p329 q329
          obtain ⟨p330, q330⟩ : 0 ≤ (x7_3 : Int) ∧ x7_3 < (l1.length : Int) := ⟨dA, dA⟩
          obtain ⟨ad330, e330, hx330_0⟩ := Kd.at_int HR1.out x7_3 p330 q330
          have hw330_0 := hx330_0
          obtain rfl : ad325 = ad330 := (by injection e330)
          replace hx330_0 := hC HB hx330_0
          obtain ⟨p330, q330⟩ := eT p330 q330
          obtain ⟨p332, q332⟩ : 0 ≤ (t331 : Int) ∧ t331 < (l0.length : Int) := ⟨dA, dA⟩
          obtain ⟨ad332, e332, hx332_0, hx332_1, hx332_2, hx332_3⟩ := at_T50 HR0.out t331 p332 q332
          have hw332_3 := hx332_3
          have hw332_2 := hx332_2
          have hw332_1 := hx332_1
          have hw332_0 := hx332_0
          obtain rfl : ad329 = ad332 := (by injection e332)
          replace hx332_0 := hC HB hx332_0
          replace hx332_1 := hC HB hx332_1
          replace hx332_2 := hC HB hx332_2
          replace hx332_3 := hC HB hx332_3
          obtain ⟨p332, q332⟩ := eT p332 q332
          refine sw (ds := []) 14 (mb 14 0) spec_IsTogether.tab10 spec_IsTogether.bits10 (h1c (hC HB hw329_0) (h1c (hC HB hw329_1) (h1c (hC HB hw329_2) (h1c (hC HB hw329_3) (h1c (hC HB hw330_0) (h1c (hC HB hw332_0) (h1c (hC HB hw332_1) (h1c (hC HB hw332_2) (h1 (hC HB hw332_3)))))))))) (fun hHeld HT_ HW_ => ?_)
          generalize wr.drew = w26 at HB hx329_0 hx329_1 hx329_2 hx329_3 hx330_0 hx332_0 hx332_1 hx332_2 hx332_3 hHeld ⊢
          refine pa 0 43 (mb 14 1) HT_ ?_
          refine pa 1 44 (mb 14 3) HT_ ?_
          refine pa 2 45 (mb 14 7) HT_ ?_
          refine pa 4 47 (mb 14 23) HT_ ?_
          refine pa 5 48 (mb 14 55) HT_ ?_
          refine pa 6 49 (mb 14 119) HT_ ?_
          refine pa 7 50 (mb 14 247) HT_ ?_
          refine pa 8 51 (mb 14 503) HT_ ?_
          refine ta9 3 46 (mb 14 511) HT_ HW_ hHeld ?_
          refine ta9 9 52 (mb 14 1023) HT_ HW_ hHeld ?_
          refine oa 10 53 (mb 14 2047) HT_ (fun K hK => ?_)
          refine gA Try.func144 #[.slice (some ad329) l0.length c0, .int .i64 (rd l1 x7_3)] ?_
          with_reducible refine (spec_FindPath.calls k3 _ _ l0 (rd l1 x7_3) t331 _ ?side1 ?side2 A21.out).mono ?_
          (case side1 => exact cB HR0)
          (case side2 => exact HC0.out)
          rintro e w' ⟨rfl, ⟨nd, rfl⟩⟩
          refine ⟨_, rfl, ?_⟩
          refine hK.out _ _ ⟨(hC HB hw329_0), (hC HB hw329_1), (hC HB hw329_2), (hC HB hw329_3), (hC HB hw330_0), (hC HB hw332_0), (hC HB hw332_1), (hC HB hw332_2), (hC HB hw332_3)⟩ (fun hHeld => ?_)
          clear hK K
          refine nB ?_
          refine pa 11 54 (mb 14 4095) HT_ ?_
          refine ta9 12 55 (mb 14 8191) HT_ HW_ hHeld ?_
          refine oa 13 56 (mb 14 16383) HT_ (fun K hK => ?_)
          refine gA Try.func145 #[.agg #[.int .i64 ((rd_T50 l0 t326).f0), .int .i64 ((rd_T50 l0 t326).f1), .int .i64 ((rd_T50 l0 t326).f2), .int .i64 ((rd_T50 l0 t326).f3)], .agg #[.int .i64 ((rd_T50 l0 t331).f0), .int .i64 ((rd_T50 l0 t331).f1), .int .i64 ((rd_T50 l0 t331).f2), .int .i64 ((rd_T50 l0 t331).f3)]] ?_
          with_reducible refine (spec_Conflict.calls k3 ((rd_T50 l0 t326).f0) ((rd_T50 l0 t326).f1) ((rd_T50 l0 t326).f2) ((rd_T50 l0 t326).f3) ((rd_T50 l0 t331).f0) ((rd_T50 l0 t331).f1) ((rd_T50 l0 t331).f2) ((rd_T50 l0 t331).f3) true _ A24.out).mono ?_
          rintro e w27 ⟨rfl, hb⟩
          refine ⟨_, rfl, ?_⟩
          replace HB := bs HB hb
          (try clear hb)
          (try clear hb2)
          (try clear hk)
          (try clear hi)
          refine hK.out _ _ ⟨(hC HB hw329_0), (hC HB hw329_1), (hC HB hw329_2), (hC HB hw329_3), (hC HB hw330_0), (hC HB hw332_0), (hC HB hw332_1), (hC HB hw332_2), (hC HB hw332_3)⟩ (fun hHeld => ?_)
          clear hK K
          refine nB ?_
          refine eA HT_ ?_
          try go_wp2
          go_ret
          exact ⟨rA, bA⟩
         replace c25 := Bool.eq_false_iff.mpr c25
         subst c25
         have H1 : (spec_IsTogether.l1 k3 l0 l1 x5_1 t326 (wrap64 (x7_3 + 1))) = some r := by rw [if_neg (show ¬ (false = true) by decide)] at H; exact H
         clear H
         have H := H1
         clear H1
         have H' := Aside0.mk H
         clear H
         try go_wp2
         have HBo := HB
         replace HB := db HB
         obtain ⟨p329, q329⟩ : 0 ≤ (t326 : Int) ∧ t326 < (l0.length : Int) := ⟨dA, dA⟩
         obtain ⟨ad329, e329, hx329_0, hx329_1, hx329_2, hx329_3⟩ := at_T50 HR0.out t326 p329 q329
         have hw329_3 := hx329_3
         have hw329_2 := hx329_2
         have hw329_1 := hx329_1
         have hw329_0 := hx329_0
         cases e329
         replace hx329_0 := hC HB hx329_0
         replace hx329_1 := hC HB hx329_1
         replace hx329_2 := hC HB hx329_2
         replace hx329_3 := hC HB hx329_3
         obtain ⟨p329, q329⟩ := eT p329 q329
         obtain ⟨p330, q330⟩ : 0 ≤ (x7_3 : Int) ∧ x7_3 < (l1.length : Int) := ⟨dA, dA⟩
         obtain ⟨ad330, e330, hx330_0⟩ := Kd.at_int HR1.out x7_3 p330 q330
         have hw330_0 := hx330_0
         obtain rfl : ad325 = ad330 := (by injection e330)
         replace hx330_0 := hC HB hx330_0
         obtain ⟨p330, q330⟩ := eT p330 q330
         obtain ⟨p332, q332⟩ : 0 ≤ (t331 : Int) ∧ t331 < (l0.length : Int) := ⟨dA, dA⟩
         obtain ⟨ad332, e332, hx332_0, hx332_1, hx332_2, hx332_3⟩ := at_T50 HR0.out t331 p332 q332
         have hw332_3 := hx332_3
         have hw332_2 := hx332_2
         have hw332_1 := hx332_1
         have hw332_0 := hx332_0
         obtain rfl : ad329 = ad332 := (by injection e332)
         replace hx332_0 := hC HB hx332_0
         replace hx332_1 := hC HB hx332_1
         replace hx332_2 := hC HB hx332_2
         replace hx332_3 := hC HB hx332_3
         obtain ⟨p332, q332⟩ := eT p332 q332
         refine sw (ds := []) 14 (mb 14 0) spec_IsTogether.tab10 spec_IsTogether.bits10 (h1c (hC HB hw329_0) (h1c (hC HB hw329_1) (h1c (hC HB hw329_2) (h1c (hC HB hw329_3) (h1c (hC HB hw330_0) (h1c (hC HB hw332_0) (h1c (hC HB hw332_1) (h1c (hC HB hw332_2) (h1 (hC HB hw332_3)))))))))) (fun hHeld HT_ HW_ => ?_)
         generalize wr.drew = w28 at HB hx329_0 hx329_1 hx329_2 hx329_3 hx330_0 hx332_0 hx332_1 hx332_2 hx332_3 hHeld ⊢
         refine pa 0 43 (mb 14 1) HT_ ?_
         refine pa 1 44 (mb 14 3) HT_ ?_
         refine pa 2 45 (mb 14 7) HT_ ?_
         refine pa 4 47 (mb 14 23) HT_ ?_
         refine pa 5 48 (mb 14 55) HT_ ?_
         refine pa 6 49 (mb 14 119) HT_ ?_
         refine pa 7 50 (mb 14 247) HT_ ?_
         refine pa 8 51 (mb 14 503) HT_ ?_
         refine ta9 3 46 (mb 14 511) HT_ HW_ hHeld ?_
         refine ta9 9 52 (mb 14 1023) HT_ HW_ hHeld ?_
         refine oa 10 53 (mb 14 2047) HT_ (fun K hK => ?_)
         refine gA Try.func144 #[.slice (some ad329) l0.length c0, .int .i64 (rd l1 x7_3)] ?_
         with_reducible refine (spec_FindPath.calls k3 _ _ l0 (rd l1 x7_3) t331 _ ?side1 ?side2 A21.out).mono ?_
         (case side1 => exact cB HR0)
         (case side2 => exact HC0.out)
         rintro e w' ⟨rfl, ⟨nd, rfl⟩⟩
         refine ⟨_, rfl, ?_⟩
         refine hK.out _ _ ⟨(hC HB hw329_0), (hC HB hw329_1), (hC HB hw329_2), (hC HB hw329_3), (hC HB hw330_0), (hC HB hw332_0), (hC HB hw332_1), (hC HB hw332_2), (hC HB hw332_3)⟩ (fun hHeld => ?_)
         clear hK K
         refine nB ?_
         refine pa 11 54 (mb 14 4095) HT_ ?_
         refine ta9 12 55 (mb 14 8191) HT_ HW_ hHeld ?_
         refine oa 13 56 (mb 14 16383) HT_ (fun K hK => ?_)
         refine gA Try.func145 #[.agg #[.int .i64 ((rd_T50 l0 t326).f0), .int .i64 ((rd_T50 l0 t326).f1), .int .i64 ((rd_T50 l0 t326).f2), .int .i64 ((rd_T50 l0 t326).f3)], .agg #[.int .i64 ((rd_T50 l0 t331).f0), .int .i64 ((rd_T50 l0 t331).f1), .int .i64 ((rd_T50 l0 t331).f2), .int .i64 ((rd_T50 l0 t331).f3)]] ?_
         with_reducible refine (spec_Conflict.calls k3 ((rd_T50 l0 t326).f0) ((rd_T50 l0 t326).f1) ((rd_T50 l0 t326).f2) ((rd_T50 l0 t326).f3) ((rd_T50 l0 t331).f0) ((rd_T50 l0 t331).f1) ((rd_T50 l0 t331).f2) ((rd_T50 l0 t331).f3) false _ A24.out).mono ?_
         rintro e w29 ⟨rfl, hb⟩
         refine ⟨_, rfl, ?_⟩
         replace HB := bs HB hb
         (try clear hb)
         (try clear hb2)
         (try clear hk)
         (try clear hi)
         refine hK.out _ _ ⟨(hC HB hw329_0), (hC HB hw329_1), (hC HB hw329_2), (hC HB hw329_3), (hC HB hw330_0), (hC HB hw332_0), (hC HB hw332_1), (hC HB hw332_2), (hC HB hw332_3)⟩ (fun hHeld => ?_)
         clear hK K
         refine nB ?_
         refine eA HT_ ?_
         try go_wp2
         go_roundg k3
         case measure => have := HK1.out; have := HJ5.out; have := HK3.out; omega
         case rel => exact ⟨(wrap64 (x7_3 + 1)), rS, H', ⟨by have := HK1.out; have := HJ5.out; have := HK3.out; omega⟩, ⟨bA⟩⟩
        rw [if_neg c16] at H
        have c16b0 := decide_eq_false c16
        clear c16
        have H' := Aside0.mk H
        clear H
        go_wp2
        go_roundg k3
        case measure => have := HK1.out; have := HJ5.out; have := HK3.out; omega
        case rel => exact ⟨(wrap64 (x5_1 + 1)), rS, H', ⟨by have := HK1.out; have := HJ5.out; have := HK3.out; omega⟩, ⟨bA⟩⟩
   rw [if_neg c3] at H
   have c3b0 := decide_eq_false c3
   clear c3
   obtain ⟨t324, A30, H⟩ := bindE H
   try dsimp only at H
   obtain rfl := Option.some.inj H
   go_wp2_with (first | ((with_reducible refine gate_callee (f := 33) rfl ?_); refine gL (some 58) Try.func33 #[.slice A0 l0.length c0] ?_; (with_reducible refine (spec_ArePaths.calls k1 _ _ l0 t324 _ ?_ ?_ A30.out).mono ?_); exact cB HR0; exact HC0.out; rintro e w31 ⟨rfl, hb⟩; refine ⟨_, rfl, ?_⟩; replace HB := bs HB hb; (try clear hb)))
   go_ret
   exact ⟨rA, bA⟩

/-! ### spec_LeastGreen: function 113 -/
def spec_LeastGreen.l0 : Nat → List (S50) → List Int → Int → Option (Int)
 | 0, _, _, _ => none
 | k + 1, x0, x1, x5 => if x5 < (x1.length : Int) then (if 0 ≤ x5 then ((spec_FindPath.f k x0 (rd x1 x5)).bind fun t335 => (if t335 ≥ 0 then (if 0 ≤ t335 then (if t335 < (x0.length : Int) then (if ((rd_T50 x0 t335).f1) = 2 then (some 7) else (spec_LeastGreen.l0 k x0 x1 (wrap64 (x5 + 1)))) else (none)) else (none)) else (spec_LeastGreen.l0 k x0 x1 (wrap64 (x5 + 1))))) else (none)) else (some 5)
def spec_LeastGreen.f (k : Nat) (l0 : List (S50)) (l1 : List Int) : Option (Int) := spec_LeastGreen.l0 k l0 l1 0
theorem spec_LeastGreen.mono_l : ∀ k, (∀ y0 y1 y2, LeO (spec_LeastGreen.l0 k y0 y1 y2) (spec_LeastGreen.l0 (k + 1) y0 y1 y2))
 | 0 => fun _ _ _ r h => by simp [spec_LeastGreen.l0] at h
 | k + 1 => by
  have ih0 := spec_LeastGreen.mono_l k
  ·
   intro y0 y1 y2
   unfold spec_LeastGreen.l0
   exact mz2 ih0 spec_FindPath.mono
theorem spec_LeastGreen.mono : ∀ a0 a1 k, LeO (spec_LeastGreen.f k a0 a1) (spec_LeastGreen.f (k + 1) a0 a1) := by
 intro a0 a1 k
 have ih0 := spec_LeastGreen.mono_l k
 unfold spec_LeastGreen.f
 exact mz2 ih0 spec_FindPath.mono
set_option maxHeartbeats 8000000 in
set_option maxRecDepth 100000 in
theorem spec_LeastGreen.calls (k : Nat) (A0 : Option Addr) (c0 : Nat) (l0 : List (S50)) (A1 : Option Addr) (c1 : Nat) (l1 : List Int) (r : Int) (w : World) (hr0 : Kd.C k50 w A0 l0.length l0) (hc0 : l0.length ≤ c0) (hr1 : Kd.C (Kd.int .i64) w A1 l1.length l1) (hc1 : l1.length ≤ c1) (h : spec_LeastGreen.f k l0 l1 = some r) :
  Calls Try.prog 113 #[.slice A0 l0.length c0, .slice A1 l1.length c1] w fun e w' => e = .returned (.int .i64 r) ∧ Drawn0 w w' := by
 have HR0 := Aside0.mk hr0
 have HC0 := Aside0.mk hc0
 clear hr0 hc0
 have HR1 := Aside0.mk hr1
 have HC1 := Aside0.mk hc1
 clear hr1 hc1
 have H : (spec_LeastGreen.l0 k l0 l1 0) = some r := h
 clear h
 have H' := Aside0.mk H
 clear H
 go_enter Try.func113, Try.ntmps113
 go_wp2
 go_loopg [5] k (fun kq v5 w' => ∃ (x5_1 : Int), v5 = .int .i64 x5_1 ∧ Aside0 (spec_LeastGreen.l0 kq l0 l1 x5_1 = some r) ∧ Aside0 (kq ≤ k) ∧ Drawn0 w w')
 case atStart => exact ⟨(0), rS, H', ⟨Nat.le_refl _⟩, by repeat (first | exact Drawn0.refl _ | apply Drawn0.step)⟩
 case round =>
  clear H'
  obtain ⟨x5_1, rfl, HA, HK1, ⟨m1, rfl⟩⟩ := hrel
  cases gk with
  | zero => exact absurd HA.out (by simp [spec_LeastGreen.l0])
  | succ k1 =>
   have H := HA.out
   clear HA
   simp only [spec_LeastGreen.l0] at H
   by_cases c3 : x5_1 < (l1.length : Int)
   ·
    rw [if_pos c3] at H
    have c3b0 := decide_eq_true c3
    clear c3
    have c4 : 0 ≤ x5_1 := ifN H
    replace H := ifT H
    have c4b0 := decide_eq_true c4
    clear c4
    obtain ⟨t335, A5, H⟩ := bindE H
    try dsimp only at H
    by_cases c6 : t335 ≥ 0
    ·
     rw [if_pos c6] at H
     have c6b0 := decide_eq_true c6
     clear c6
     have c7 : 0 ≤ t335 := ifN H
     replace H := ifT H
     have c7b0 := decide_eq_true c7
     clear c7
     have c8 : t335 < (l0.length : Int) := ifN H
     replace H := ifT H
     have c8b0 := decide_eq_true c8
     clear c8
     by_cases c9 : ((rd_T50 l0 t335).f1) = 2
     ·
      rw [if_pos c9] at H
      have c9b0 : (((rd_T50 l0 t335).f1) == 2) = true := beq_iff_eq.mpr c9
      have c9b1 : (((rd_T50 l0 t335).f1) != 2) = false := bne_eq_false_iff_eq.mpr c9
      clear c9
      obtain rfl := Option.some.inj H
      obtain ⟨p334, q334⟩ : 0 ≤ (x5_1 : Int) ∧ x5_1 < (l1.length : Int) := ⟨dA, dA⟩
      obtain ⟨ad334, e334, hx334_0⟩ := Kd.at_int HR1.out x5_1 p334 q334
      cases e334
      obtain ⟨p334, q334⟩ := eT p334 q334
      go_wp2_with (first | ((with_reducible refine gate_callee (f := 144) rfl ?_); refine gL (some 18) Try.func144 #[.slice A0 l0.length c0, .int .i64 (rd l1 x5_1)] ?_; (with_reducible refine (spec_FindPath.calls k1 _ _ l0 (rd l1 x5_1) t335 _ ?_ ?_ A5.out).mono ?_); exact cO HR0; exact HC0.out; rintro e w' ⟨rfl, ⟨nd, rfl⟩⟩; refine ⟨_, rfl, ?_⟩; have p336 : 0 ≤ (t335 : Int) := dA; have q336 : t335 < (l0.length : Int) := dA; obtain ⟨ad336, e336, hx336_0, hx336_1, hx336_2, hx336_3⟩ := at_T50 HR0.out t335 p336 q336; cases e336; replace p336 := eq_true p336; replace q336 := eq_true q336))
      go_ret
      exact ⟨rS, dD⟩
     rw [if_neg c9] at H
     have c9b0 : (((rd_T50 l0 t335).f1) == 2) = false := beq_eq_false_iff_ne.mpr c9
     have c9b1 : (((rd_T50 l0 t335).f1) != 2) = true := bne_iff_ne.mpr c9
     have H' := Aside0.mk H
     clear H
     obtain ⟨p334, q334⟩ : 0 ≤ (x5_1 : Int) ∧ x5_1 < (l1.length : Int) := ⟨dA, dA⟩
     obtain ⟨ad334, e334, hx334_0⟩ := Kd.at_int HR1.out x5_1 p334 q334
     cases e334
     obtain ⟨p334, q334⟩ := eT p334 q334
     go_wp2_with (first | ((with_reducible refine gate_callee (f := 144) rfl ?_); refine gL (some 18) Try.func144 #[.slice A0 l0.length c0, .int .i64 (rd l1 x5_1)] ?_; (with_reducible refine (spec_FindPath.calls k1 _ _ l0 (rd l1 x5_1) t335 _ ?_ ?_ A5.out).mono ?_); exact cO HR0; exact HC0.out; rintro e w' ⟨rfl, ⟨nd, rfl⟩⟩; refine ⟨_, rfl, ?_⟩; have p336 : 0 ≤ (t335 : Int) := dA; have q336 : t335 < (l0.length : Int) := dA; obtain ⟨ad336, e336, hx336_0, hx336_1, hx336_2, hx336_3⟩ := at_T50 HR0.out t335 p336 q336; cases e336; replace p336 := eq_true p336; replace q336 := eq_true q336))
     go_roundg k1
     case measure => have := HK1.out; omega
     case rel => exact ⟨(wrap64 (x5_1 + 1)), rS, H', ⟨by have := HK1.out; omega⟩, by repeat (first | exact Drawn0.refl _ | apply Drawn0.step)⟩
    rw [if_neg c6] at H
    have c6b0 := decide_eq_false c6
    clear c6
    have H' := Aside0.mk H
    clear H
    obtain ⟨p334, q334⟩ : 0 ≤ (x5_1 : Int) ∧ x5_1 < (l1.length : Int) := ⟨dA, dA⟩
    obtain ⟨ad334, e334, hx334_0⟩ := Kd.at_int HR1.out x5_1 p334 q334
    cases e334
    obtain ⟨p334, q334⟩ := eT p334 q334
    go_wp2_with (first | ((with_reducible refine gate_callee (f := 144) rfl ?_); refine gL (some 18) Try.func144 #[.slice A0 l0.length c0, .int .i64 (rd l1 x5_1)] ?_; (with_reducible refine (spec_FindPath.calls k1 _ _ l0 (rd l1 x5_1) t335 _ ?_ ?_ A5.out).mono ?_); exact cO HR0; exact HC0.out; rintro e w' ⟨rfl, ⟨nd, rfl⟩⟩; refine ⟨_, rfl, ?_⟩))
    go_roundg k1
    case measure => have := HK1.out; omega
    case rel => exact ⟨(wrap64 (x5_1 + 1)), rS, H', ⟨by have := HK1.out; omega⟩, by repeat (first | exact Drawn0.refl _ | apply Drawn0.step)⟩
   rw [if_neg c3] at H
   have c3b0 := decide_eq_false c3
   clear c3
   obtain rfl := Option.some.inj H
   go_wp2
   go_ret
   exact ⟨rS, dD⟩

/-! ### spec_l6Has: function 133 -/
def spec_l6Has.l0 : Nat → List Int → Int → Int → Option (Bool)
 | 0, _, _, _ => none
 | k + 1, x0, x1, x5 => if x5 < (x0.length : Int) then (if 0 ≤ x5 then (if (rd x0 x5) = x1 then (some true) else (spec_l6Has.l0 k x0 x1 (wrap64 (x5 + 1)))) else (none)) else (some false)
def spec_l6Has.f (k : Nat) (l0 : List Int) (a1 : Int) : Option (Bool) := spec_l6Has.l0 k l0 a1 0
theorem spec_l6Has.mono_l : ∀ k, (∀ y0 y1 y2, LeO (spec_l6Has.l0 k y0 y1 y2) (spec_l6Has.l0 (k + 1) y0 y1 y2))
 | 0 => fun _ _ _ r h => by simp [spec_l6Has.l0] at h
 | k + 1 => by
  have ih0 := spec_l6Has.mono_l k
  ·
   intro y0 y1 y2
   unfold spec_l6Has.l0
   exact mz1 ih0
theorem spec_l6Has.mono : ∀ a0 a1 k, LeO (spec_l6Has.f k a0 a1) (spec_l6Has.f (k + 1) a0 a1) := by
 intro a0 a1 k
 have ih0 := spec_l6Has.mono_l k
 unfold spec_l6Has.f
 exact mz1 ih0
set_option maxHeartbeats 8000000 in
set_option maxRecDepth 100000 in
theorem spec_l6Has.calls (k : Nat) (A0 : Option Addr) (c0 : Nat) (l0 : List Int) (a1 : Int) (r : Bool) (w : World) (hr0 : Kd.C (Kd.int .i64) w A0 l0.length l0) (hc0 : l0.length ≤ c0) (h : spec_l6Has.f k l0 a1 = some r) :
  Calls Try.prog 133 #[.slice A0 l0.length c0, .int .i64 a1] w fun e w' => e = .returned (.bool r) ∧ Drawn0 w w' := by
 have HR0 := Aside0.mk hr0
 have HC0 := Aside0.mk hc0
 clear hr0 hc0
 have H : (spec_l6Has.l0 k l0 a1 0) = some r := h
 clear h
 have H' := Aside0.mk H
 clear H
 go_enter Try.func133, Try.ntmps133
 go_wp2
 go_loopg [5] k (fun kq v5 w' => ∃ (x5_1 : Int), v5 = .int .i64 x5_1 ∧ Aside0 (spec_l6Has.l0 kq l0 a1 x5_1 = some r) ∧ Aside0 (kq ≤ k) ∧ Drawn0 w w')
 case atStart => exact ⟨(0), rS, H', ⟨Nat.le_refl _⟩, by repeat (first | exact Drawn0.refl _ | apply Drawn0.step)⟩
 case round =>
  clear H'
  obtain ⟨x5_1, rfl, HA, HK1, ⟨m1, rfl⟩⟩ := hrel
  cases gk with
  | zero => exact absurd HA.out (by simp [spec_l6Has.l0])
  | succ k1 =>
   have H := HA.out
   clear HA
   simp only [spec_l6Has.l0] at H
   by_cases c3 : x5_1 < (l0.length : Int)
   ·
    rw [if_pos c3] at H
    have c3b0 := decide_eq_true c3
    clear c3
    have c4 : 0 ≤ x5_1 := ifN H
    replace H := ifT H
    have c4b0 := decide_eq_true c4
    clear c4
    by_cases c5 : (rd l0 x5_1) = a1
    ·
     rw [if_pos c5] at H
     have c5b0 : ((rd l0 x5_1) == a1) = true := beq_iff_eq.mpr c5
     have c5b1 : ((rd l0 x5_1) != a1) = false := bne_eq_false_iff_eq.mpr c5
     clear c5
     obtain rfl := Option.some.inj H
     obtain ⟨p337, q337⟩ : 0 ≤ (x5_1 : Int) ∧ x5_1 < (l0.length : Int) := ⟨dA, dA⟩
     obtain ⟨ad337, e337, hx337_0⟩ := Kd.at_int HR0.out x5_1 p337 q337
     cases e337
     obtain ⟨p337, q337⟩ := eT p337 q337
     go_wp2
     go_ret
     exact ⟨rS, dD⟩
    rw [if_neg c5] at H
    have c5b0 : ((rd l0 x5_1) == a1) = false := beq_eq_false_iff_ne.mpr c5
    have c5b1 : ((rd l0 x5_1) != a1) = true := bne_iff_ne.mpr c5
    have H' := Aside0.mk H
    clear H
    obtain ⟨p337, q337⟩ : 0 ≤ (x5_1 : Int) ∧ x5_1 < (l0.length : Int) := ⟨dA, dA⟩
    obtain ⟨ad337, e337, hx337_0⟩ := Kd.at_int HR0.out x5_1 p337 q337
    cases e337
    obtain ⟨p337, q337⟩ := eT p337 q337
    go_wp2
    go_roundg k1
    case measure => have := HK1.out; omega
    case rel => exact ⟨(wrap64 (x5_1 + 1)), rS, H', ⟨by have := HK1.out; omega⟩, by repeat (first | exact Drawn0.refl _ | apply Drawn0.step)⟩
   rw [if_neg c3] at H
   have c3b0 := decide_eq_false c3
   clear c3
   obtain rfl := Option.some.inj H
   go_wp2
   go_ret
   exact ⟨rS, dD⟩

/-! ### spec_Covers: function 114 -/
mutual
def spec_Covers.l0 : Nat → List (S50) → List (List Int) → Int → Option (Bool)
 | 0, _, _, _ => none
 | k + 1, x0, x1, x5 => if x5 < (x1.length : Int) then (if 0 ≤ x5 then ((spec_IsTogether.f k x0 (rd_L4 x1 x5)).bind fun t339 => (if t339 = true then (spec_Covers.l0 k x0 x1 (wrap64 (x5 + 1))) else (some false))) else (none)) else (spec_Covers.l1 k x0 x1 0)
def spec_Covers.l1 : Nat → List (S50) → List (List Int) → Int → Option (Bool)
 | 0, _, _, _ => none
 | k + 1, x0, x1, x6 => if x6 < (x0.length : Int) then (spec_Covers.l2 k x0 x1 x6 false 0) else ((spec_ArePaths.f k x0).bind fun t340 => (some t340))
def spec_Covers.l2 : Nat → List (S50) → List (List Int) → Int → Bool → Int → Option (Bool)
 | 0, _, _, _, _, _ => none
 | k + 1, x0, x1, x6, x7, x8 => if x8 < (x1.length : Int) then (if x7 = true then (spec_Covers.l2 k x0 x1 x6 true (wrap64 (x8 + 1))) else (if 0 ≤ x8 then (if 0 ≤ x6 then (if x6 < (x0.length : Int) then ((spec_l6Has.f k (rd_L4 x1 x8) ((rd_T50 x0 x6).f0)).bind fun t343 => (spec_Covers.l2 k x0 x1 x6 t343 (wrap64 (x8 + 1)))) else (none)) else (none)) else (none))) else (if x7 = true then (spec_Covers.l1 k x0 x1 (wrap64 (x6 + 1))) else (some false))
end
def spec_Covers.f (k : Nat) (l0 : List (S50)) (l1 : List (List Int)) : Option (Bool) := spec_Covers.l0 k l0 l1 0
theorem spec_Covers.mono_l : ∀ k, (∀ y0 y1 y2, LeO (spec_Covers.l0 k y0 y1 y2) (spec_Covers.l0 (k + 1) y0 y1 y2)) ∧ (∀ y0 y1 y2, LeO (spec_Covers.l1 k y0 y1 y2) (spec_Covers.l1 (k + 1) y0 y1 y2)) ∧ (∀ y0 y1 y2 y3 y4, LeO (spec_Covers.l2 k y0 y1 y2 y3 y4) (spec_Covers.l2 (k + 1) y0 y1 y2 y3 y4))
 | 0 => ⟨fun _ _ _ r h => by simp [spec_Covers.l0] at h, fun _ _ _ r h => by simp [spec_Covers.l1] at h, fun _ _ _ _ _ r h => by simp [spec_Covers.l2] at h⟩
 | k + 1 => by
  obtain ⟨ih0, ih1, ih2⟩ := spec_Covers.mono_l k
  refine ⟨?_, ?_, ?_⟩
  ·
   intro y0 y1 y2
   unfold spec_Covers.l0
   exact mz6 ih0 ih1 ih2 spec_ArePaths.mono spec_IsTogether.mono spec_l6Has.mono
  ·
   intro y0 y1 y2
   unfold spec_Covers.l1
   exact mz6 ih0 ih1 ih2 spec_ArePaths.mono spec_IsTogether.mono spec_l6Has.mono
  ·
   intro y0 y1 y2 y3 y4
   unfold spec_Covers.l2
   exact mz6 ih0 ih1 ih2 spec_ArePaths.mono spec_IsTogether.mono spec_l6Has.mono
theorem spec_Covers.mono : ∀ a0 a1 k, LeO (spec_Covers.f k a0 a1) (spec_Covers.f (k + 1) a0 a1) := by
 intro a0 a1 k
 obtain ⟨ih0, ih1, ih2⟩ := spec_Covers.mono_l k
 unfold spec_Covers.f
 exact mz6 ih0 ih1 ih2 spec_ArePaths.mono spec_IsTogether.mono spec_l6Has.mono
set_option maxHeartbeats 8000000 in
set_option maxRecDepth 100000 in
theorem spec_Covers.calls (k : Nat) (A0 : Option Addr) (c0 : Nat) (l0 : List (S50)) (A1 : Option Addr) (c1 : Nat) (l1 : List (List Int)) (r : Bool) (w : World) (hr0 : Kd.C k50 w A0 l0.length l0) (hc0 : l0.length ≤ c0) (hr1 : Kd.C (Kd.slice 3 (Kd.int .i64)) w A1 l1.length l1) (hc1 : l1.length ≤ c1) (h : spec_Covers.f k l0 l1 = some r) :
  Calls Try.prog 114 #[.slice A0 l0.length c0, .slice A1 l1.length c1] w fun e w' => e = .returned (.bool r) ∧ Below w.heap.size w w' := by
 have HR0 := Aside0.mk hr0
 have HC0 := Aside0.mk hc0
 clear hr0 hc0
 have HR1 := Aside0.mk hr1
 have HC1 := Aside0.mk hc1
 clear hr1 hc1
 have HB := Aside0.mk (Below.refl w.heap.size w)
 have H : (spec_Covers.l0 k l0 l1 0) = some r := h
 clear h
 have H' := Aside0.mk H
 clear H
 go_enter Try.func114, Try.ntmps114
 go_wp2
 repeat (go_quiet (fail); try go_wp2)
 go_loopg [5] k (fun kq v5 w' => ∃ (x5_1 : Int), v5 = .int .i64 x5_1 ∧ Aside0 (spec_Covers.l0 kq l0 l1 x5_1 = some r) ∧ Aside0 (kq ≤ k) ∧ Aside0 (Below w.heap.size w w'))
 case atStart => exact ⟨(0), rS, H', ⟨Nat.le_refl _⟩, ⟨bA⟩⟩
 case round =>
  clear H'
  obtain ⟨x5_1, rfl, HA, HK1, HB⟩ := hrel
  cases gk with
  | zero => exact absurd HA.out (by simp [spec_Covers.l0])
  | succ k1 =>
   have H := HA.out
   clear HA
   simp only [spec_Covers.l0] at H
   by_cases c3 : x5_1 < (l1.length : Int)
   ·
    rw [if_pos c3] at H
    have c3b0 := decide_eq_true c3
    clear c3
    have c4 : 0 ≤ x5_1 := ifN H
    replace H := ifT H
    have c4b0 := decide_eq_true c4
    clear c4
    obtain ⟨t339, A5, H⟩ := bindE H
    try dsimp only at H
    by_cases c6 : t339 = true
    ·
     subst c6
     have H1 : (spec_Covers.l0 k1 l0 l1 (wrap64 (x5_1 + 1))) = some r := by rw [if_pos rfl] at H; exact H
     clear H
     have H := H1
     clear H1
     have H' := Aside0.mk H
     clear H
     obtain ⟨p338, q338⟩ : 0 ≤ (x5_1 : Int) ∧ x5_1 < (l1.length : Int) := ⟨dA, dA⟩
     obtain ⟨ad338, A338_0, c338_0, e338, hx338_0, hl338_0, hi338_0⟩ := at_L4 HR1.out x5_1 p338 q338
     cases e338
     replace hx338_0 := hC HB hx338_0
     have HR338_0 := Aside0.mk hi338_0
     have HC338_0 := Aside0.mk hl338_0
     clear hi338_0 hl338_0
     obtain ⟨p338, q338⟩ := eT p338 q338
     go_wp2_with (first | (go_at_call 112; (with_reducible refine (spec_IsTogether.calls k1 _ _ l0 _ _ (rd_L4 l1 x5_1) true _ ?_ ?_ ?_ ?_ A5.out).mono ?_); exact cB HR0; exact HC0.out; exact cB HR338_0; exact HC338_0.out; rintro e w7 ⟨rfl, hb⟩; replace HB := bs HB hb; (try clear hb)))
     repeat (go_quiet (first | (go_at_call 112; (with_reducible refine (spec_IsTogether.calls k1 _ _ l0 _ _ (rd_L4 l1 x5_1) true _ ?_ ?_ ?_ ?_ A5.out).mono ?_); exact cB HR0; exact HC0.out; exact cB HR338_0; exact HC338_0.out; rintro e w7 ⟨rfl, hb⟩; replace HB := bs HB hb; (try clear hb))); try go_wp2_with (first | (go_at_call 112; (with_reducible refine (spec_IsTogether.calls k1 _ _ l0 _ _ (rd_L4 l1 x5_1) true _ ?_ ?_ ?_ ?_ A5.out).mono ?_); exact cB HR0; exact HC0.out; exact cB HR338_0; exact HC338_0.out; rintro e w7 ⟨rfl, hb⟩; replace HB := bs HB hb; (try clear hb))))
     go_roundg k1
     case measure => have := HK1.out; omega
     case rel => exact ⟨(wrap64 (x5_1 + 1)), rS, H', ⟨by have := HK1.out; omega⟩, ⟨bA⟩⟩
    replace c6 := Bool.eq_false_iff.mpr c6
    subst c6
    have H1 : (some false) = some r := by rw [if_neg (show ¬ (false = true) by decide)] at H; exact H
    clear H
    have H := H1
    clear H1
    obtain rfl := Option.some.inj H
    obtain ⟨p338, q338⟩ : 0 ≤ (x5_1 : Int) ∧ x5_1 < (l1.length : Int) := ⟨dA, dA⟩
    obtain ⟨ad338, A338_0, c338_0, e338, hx338_0, hl338_0, hi338_0⟩ := at_L4 HR1.out x5_1 p338 q338
    cases e338
    replace hx338_0 := hC HB hx338_0
    have HR338_0 := Aside0.mk hi338_0
    have HC338_0 := Aside0.mk hl338_0
    clear hi338_0 hl338_0
    obtain ⟨p338, q338⟩ := eT p338 q338
    go_wp2_with (first | (go_at_call 112; (with_reducible refine (spec_IsTogether.calls k1 _ _ l0 _ _ (rd_L4 l1 x5_1) false _ ?_ ?_ ?_ ?_ A5.out).mono ?_); exact cB HR0; exact HC0.out; exact cB HR338_0; exact HC338_0.out; rintro e w8 ⟨rfl, hb⟩; replace HB := bs HB hb; (try clear hb)))
    repeat (go_quiet (first | (go_at_call 112; (with_reducible refine (spec_IsTogether.calls k1 _ _ l0 _ _ (rd_L4 l1 x5_1) false _ ?_ ?_ ?_ ?_ A5.out).mono ?_); exact cB HR0; exact HC0.out; exact cB HR338_0; exact HC338_0.out; rintro e w8 ⟨rfl, hb⟩; replace HB := bs HB hb; (try clear hb))); try go_wp2_with (first | (go_at_call 112; (with_reducible refine (spec_IsTogether.calls k1 _ _ l0 _ _ (rd_L4 l1 x5_1) false _ ?_ ?_ ?_ ?_ A5.out).mono ?_); exact cB HR0; exact HC0.out; exact cB HR338_0; exact HC338_0.out; rintro e w8 ⟨rfl, hb⟩; replace HB := bs HB hb; (try clear hb))))
    go_ret
    exact ⟨rA, bA⟩
   rw [if_neg c3] at H
   have c3b0 := decide_eq_false c3
   clear c3
   have H' := Aside0.mk H
   clear H
   go_wp2
   repeat (go_quiet (fail); try go_wp2)
   go_loopg [6] k1 (fun kq v6 w' => ∃ (x6_2 : Int), v6 = .int .i64 x6_2 ∧ Aside0 (spec_Covers.l1 kq l0 l1 x6_2 = some r) ∧ Aside0 (kq ≤ k1) ∧ Aside0 (Below w.heap.size w w'))
   case atStart => exact ⟨(0), rS, H', ⟨Nat.le_refl _⟩, ⟨bA⟩⟩
   case round =>
    clear H'
    obtain ⟨x6_2, rfl, HA, HK2, HB⟩ := hrel
    cases gk with
    | zero => exact absurd HA.out (by simp [spec_Covers.l1])
    | succ k2 =>
     have H := HA.out
     clear HA
     simp only [spec_Covers.l1] at H
     by_cases c9 : x6_2 < (l0.length : Int)
     ·
      rw [if_pos c9] at H
      have c9b0 := decide_eq_true c9
      clear c9
      have H' := Aside0.mk H
      clear H
      go_wp2
      repeat (go_quiet (fail); try go_wp2)
      go_loopg [7, 8] k2 (fun kq v7 v8 w' => ∃ (x7_3 : Bool) (x8_3 : Int), v7 = .bool x7_3 ∧ v8 = .int .i64 x8_3 ∧ Aside0 (spec_Covers.l2 kq l0 l1 x6_2 x7_3 x8_3 = some r) ∧ Aside0 (kq ≤ k2) ∧ Aside0 (Below w.heap.size w w'))
      case atStart => exact ⟨(false), (0), rS, rS, H', ⟨Nat.le_refl _⟩, ⟨bA⟩⟩
      case round =>
       clear H'
       obtain ⟨x7_3, x8_3, rfl, rfl, HA, HK3, HB⟩ := hrel
       cases gk with
       | zero => exact absurd HA.out (by simp [spec_Covers.l2])
       | succ k3 =>
        have H := HA.out
        clear HA
        simp only [spec_Covers.l2] at H
        by_cases c10 : x8_3 < (l1.length : Int)
        ·
         rw [if_pos c10] at H
         have c10b0 := decide_eq_true c10
         clear c10
         by_cases c11 : x7_3 = true
         ·
          subst c11
          have H1 : (spec_Covers.l2 k3 l0 l1 x6_2 true (wrap64 (x8_3 + 1))) = some r := by rw [if_pos rfl] at H; exact H
          clear H
          have H := H1
          clear H1
          have H' := Aside0.mk H
          clear H
          go_wp2
          repeat (go_quiet (fail); try go_wp2)
          go_roundg k3
          case measure => have := HK1.out; have := HK2.out; have := HK3.out; omega
          case rel => exact ⟨(true), (wrap64 (x8_3 + 1)), rS, rS, H', ⟨by have := HK1.out; have := HK2.out; have := HK3.out; omega⟩, ⟨bA⟩⟩
         replace c11 := Bool.eq_false_iff.mpr c11
         subst c11
         have H1 : (if 0 ≤ x8_3 then (if 0 ≤ x6_2 then (if x6_2 < (l0.length : Int) then ((spec_l6Has.f k3 (rd_L4 l1 x8_3) ((rd_T50 l0 x6_2).f0)).bind fun t343 => (spec_Covers.l2 k3 l0 l1 x6_2 t343 (wrap64 (x8_3 + 1)))) else (none)) else (none)) else (none)) = some r := by rw [if_neg (show ¬ (false = true) by decide)] at H; exact H
         clear H
         have H := H1
         clear H1
         have c12 : 0 ≤ x8_3 := ifN H
         replace H := ifT H
         have c12b0 := decide_eq_true c12
         clear c12
         have c13 : 0 ≤ x6_2 := ifN H
         replace H := ifT H
         have c13b0 := decide_eq_true c13
         clear c13
         have c14 : x6_2 < (l0.length : Int) := ifN H
         replace H := ifT H
         have c14b0 := decide_eq_true c14
         clear c14
         obtain ⟨t343, A15, H⟩ := bindE H
         try dsimp only at H
         have H' := Aside0.mk H
         clear H
         obtain ⟨p341, q341⟩ : 0 ≤ (x8_3 : Int) ∧ x8_3 < (l1.length : Int) := ⟨dA, dA⟩
         obtain ⟨ad341, A341_0, c341_0, e341, hx341_0, hl341_0, hi341_0⟩ := at_L4 HR1.out x8_3 p341 q341
         cases e341
         replace hx341_0 := hC HB hx341_0
         have HR341_0 := Aside0.mk hi341_0
         have HC341_0 := Aside0.mk hl341_0
         clear hi341_0 hl341_0
         obtain ⟨p341, q341⟩ := eT p341 q341
         obtain ⟨p342, q342⟩ : 0 ≤ (x6_2 : Int) ∧ x6_2 < (l0.length : Int) := ⟨dA, dA⟩
         obtain ⟨ad342, e342, hx342_0, hx342_1, hx342_2, hx342_3⟩ := at_T50 (Kd.C_below HR0.out HB.out) x6_2 p342 q342
         cases e342
         obtain ⟨p342, q342⟩ := eT p342 q342
         go_wp2_with (first | (go_at_call 133; (with_reducible refine (spec_l6Has.calls k3 _ _ (rd_L4 l1 x8_3) ((rd_T50 l0 x6_2).f0) t343 _ ?_ ?_ A15.out).mono ?_); exact cB HR341_0; exact HC341_0.out; rintro e w' ⟨rfl, ⟨nd, rfl⟩⟩; (try first | exact ⟨rfl, _, World.drewN_drewN _ _ _⟩ | exact ⟨rfl, _, Eq.trans (World.drewN_drewN _ _ _) (congrArg (World.drewN _) (Nat.add_assoc _ _ _))⟩)))
         repeat (go_quiet (first | (go_at_call 133; (with_reducible refine (spec_l6Has.calls k3 _ _ (rd_L4 l1 x8_3) ((rd_T50 l0 x6_2).f0) t343 _ ?_ ?_ A15.out).mono ?_); exact cB HR341_0; exact HC341_0.out; rintro e w' ⟨rfl, ⟨nd, rfl⟩⟩; (try first | exact ⟨rfl, _, World.drewN_drewN _ _ _⟩ | exact ⟨rfl, _, Eq.trans (World.drewN_drewN _ _ _) (congrArg (World.drewN _) (Nat.add_assoc _ _ _))⟩))); try go_wp2_with (first | (go_at_call 133; (with_reducible refine (spec_l6Has.calls k3 _ _ (rd_L4 l1 x8_3) ((rd_T50 l0 x6_2).f0) t343 _ ?_ ?_ A15.out).mono ?_); exact cB HR341_0; exact HC341_0.out; rintro e w' ⟨rfl, ⟨nd, rfl⟩⟩; (try first | exact ⟨rfl, _, World.drewN_drewN _ _ _⟩ | exact ⟨rfl, _, Eq.trans (World.drewN_drewN _ _ _) (congrArg (World.drewN _) (Nat.add_assoc _ _ _))⟩))))
         go_roundg k3
         case measure => have := HK1.out; have := HK2.out; have := HK3.out; omega
         case rel => exact ⟨(t343), (wrap64 (x8_3 + 1)), rS, rS, H', ⟨by have := HK1.out; have := HK2.out; have := HK3.out; omega⟩, ⟨bA⟩⟩
        rw [if_neg c10] at H
        have c10b0 := decide_eq_false c10
        clear c10
        by_cases c16 : x7_3 = true
        ·
         subst c16
         have H1 : (spec_Covers.l1 k3 l0 l1 (wrap64 (x6_2 + 1))) = some r := by rw [if_pos rfl] at H; exact H
         clear H
         have H := H1
         clear H1
         have H' := Aside0.mk H
         clear H
         go_wp2
         repeat (go_quiet (fail); try go_wp2)
         go_roundg k3
         case measure => have := HK1.out; have := HK2.out; have := HK3.out; omega
         case rel => exact ⟨(wrap64 (x6_2 + 1)), rS, H', ⟨by have := HK1.out; have := HK2.out; have := HK3.out; omega⟩, ⟨bA⟩⟩
        replace c16 := Bool.eq_false_iff.mpr c16
        subst c16
        have H1 : (some false) = some r := by rw [if_neg (show ¬ (false = true) by decide)] at H; exact H
        clear H
        have H := H1
        clear H1
        obtain rfl := Option.some.inj H
        go_wp2
        repeat (go_quiet (fail); try go_wp2)
        go_ret
        exact ⟨rA, bA⟩
     rw [if_neg c9] at H
     have c9b0 := decide_eq_false c9
     clear c9
     obtain ⟨t340, A17, H⟩ := bindE H
     try dsimp only at H
     obtain rfl := Option.some.inj H
     go_wp2_with (first | (go_at_call 33; (with_reducible refine (spec_ArePaths.calls k2 _ _ l0 t340 _ ?_ ?_ A17.out).mono ?_); exact cB HR0; exact HC0.out; rintro e w18 ⟨rfl, hb⟩; replace HB := bs HB hb; (try clear hb)))
     repeat (go_quiet (first | (go_at_call 33; (with_reducible refine (spec_ArePaths.calls k2 _ _ l0 t340 _ ?_ ?_ A17.out).mono ?_); exact cB HR0; exact HC0.out; rintro e w18 ⟨rfl, hb⟩; replace HB := bs HB hb; (try clear hb))); try go_wp2_with (first | (go_at_call 33; (with_reducible refine (spec_ArePaths.calls k2 _ _ l0 t340 _ ?_ ?_ A17.out).mono ?_); exact cB HR0; exact HC0.out; rintro e w18 ⟨rfl, hb⟩; replace HB := bs HB hb; (try clear hb))))
     go_ret
     exact ⟨rA, bA⟩

/-! ### spec_l8Stages: function 115 -/
def spec_l8Stages.l0 : Nat → List (S85) → List (List Int) → Int → Option ((List (List Int)))
 | 0, _, _, _ => none
 | k + 1, x0, x3, x4 => if x4 < (x0.length : Int) then (if 0 ≤ x4 then (if x3.length < 5864062014805 then (spec_l8Stages.l0 k x0 (x3 ++ [(rd_T85 x0 x4).f0]) (wrap64 (x4 + 1))) else (none)) else (none)) else (some x3)
def spec_l8Stages.f (k : Nat) (l0 : List (S85)) : Option ((List (List Int))) := spec_l8Stages.l0 k l0 (([] : List (List Int))) 0
theorem spec_l8Stages.mono_l : ∀ k, (∀ y0 y1 y2, LeO (spec_l8Stages.l0 k y0 y1 y2) (spec_l8Stages.l0 (k + 1) y0 y1 y2))
 | 0 => fun _ _ _ r h => by simp [spec_l8Stages.l0] at h
 | k + 1 => by
  have ih0 := spec_l8Stages.mono_l k
  ·
   intro y0 y1 y2
   unfold spec_l8Stages.l0
   exact mz1 ih0
theorem spec_l8Stages.mono : ∀ a0 k, LeO (spec_l8Stages.f k a0) (spec_l8Stages.f (k + 1) a0) := by
 intro a0 k
 have ih0 := spec_l8Stages.mono_l k
 unfold spec_l8Stages.f
 exact mz1 ih0
set_option maxHeartbeats 8000000 in
set_option maxRecDepth 100000 in
theorem spec_l8Stages.calls (k : Nat) (P0_ : Nat → Prop) (A0 : Option Addr) (c0 : Nat) (l0 : List (S85)) (r : List (List Int)) (w : World) (hs0 : Kd.V k85 85 w w.heap.size (fun k_ => P0_ k_) (.slice A0 l0.length c0) l0) (h : spec_l8Stages.f k l0 = some r) :
  Calls Try.prog 115 #[.slice A0 l0.length c0] w fun e w' => ∃ v0_ : Value, e = .returned (v0_) ∧ Kd.N (Kd.slice 3 (Kd.int .i64)) 35 w' w.heap.size (fun k_ => (P0_ k_ ∨ w.heap.size ≤ k_)) v0_ r ∧ Below w.heap.size w w' := by
 have HO0 := Aside0.mk (show Kd.V k85 85 w w.heap.size (fun k_ => (P0_ k_ ∨ w.heap.size ≤ k_)) (.slice A0 l0.length c0) l0 from Kd.V_mono hs0 (fun k_ hk => .inl hk))
 have HB := Aside0.mk (Below.refl w.heap.size w)
 have H : (spec_l8Stages.l0 k l0 (([] : List (List Int))) 0) = some r := h
 clear h
 obtain ⟨y344, hy344⟩ : ∃ y_ : List (List Int), y_ = (([] : List (List Int))) := ⟨_, rfl⟩
 replace H : (spec_l8Stages.l0 k l0 y344 0) = some r := rH H hy344
 have Ny344 := Aside0.mk hy344
 clear hy344
 have H' := Aside0.mk H
 clear H
 go_enter Try.func115, Try.ntmps115
 go_wp2_with (first | ((with_reducible refine gate_dst (N := 5) rfl ?_); refine Kd.N_lit (Kd.slice 3 (Kd.int .i64)) _ 35 ?hg (N' := 5) ?hd (xs := ([] : List (List Int))) (inner := []) (ok := (fun k_ => (P0_ k_ ∨ w.heap.size ≤ k_))) (okp := (fun k_ => (P0_ k_ ∨ w.heap.size ≤ k_))) ?hr ?hp (fun _ hk => hk) ((show ∀ k_, w.heap.size ≤ k_ → (fun k_ => (P0_ k_ ∨ w.heap.size ≤ k_)) k_ from fun k_ hk => (.inr (Nat.le_trans (below_size bA) hk))) _ (Nat.le_refl _)) (Below.refl _ _) (Nat.le_refl _) (by simp) ?_; (case hd => rfl); (case hg => rfl); (case hr => first | (go_simp; done) | (go_simp; rfl)); (case hp => exact (Reps.none _ _)); intro v345 w2 ho3 hb hg_ hnew_; clear hg_ hnew_; (first | rw [← Ny344.out] at ho3 | (simp only [Int.reduceToNat] at ho3; rw [← Ny344.out] at ho3)); have n0_ := Aside0.mk (Kd.V_elder' (by (with_reducible repeat (first | apply Kd.V_alloc | apply Kd.V_drewN | apply Kd.V_drew)); exact HO0.out) (by first | exact Kd.N_base ho3 | exact Kd.N_base (Kd.S_N ho3)) hb); have n1_ := Aside0.mk (Kd.N_lower ho3 (below_size bA)); have n2_ := bs HB hb; clear HO0; clear HB; have HO0 := n0_; have HO346 := n1_; have HB := n2_; clear n0_ n1_ n2_; clear hb ho3))
 go_loopg [3, 4] k (fun kq v3 v4 w' => ∃ (x3_1 : List (List Int)) (x4_1 : Int), v4 = .int .i64 x4_1 ∧ Aside0 (spec_l8Stages.l0 kq l0 x3_1 x4_1 = some r) ∧ Aside0 (kq ≤ k) ∧ Aside0 (Kd.V k85 85 w' w.heap.size (fun k_ => (P0_ k_ ∨ w.heap.size ≤ k_) ∧ some k_ ≠ (v3 : Value).ownBlock) (.slice A0 l0.length c0) l0) ∧ Aside0 (Kd.N (Kd.slice 3 (Kd.int .i64)) 35 w' w.heap.size (fun k_ => (P0_ k_ ∨ w.heap.size ≤ k_)) v3 x3_1) ∧ Aside0 (Below w.heap.size w w'))
 case atStart => exact ⟨(y344), (0), rS, H', ⟨Nat.le_refl _⟩, ⟨by (with_reducible repeat (first | apply Kd.V_alloc | apply Kd.V_drewN | apply Kd.V_drew)); exact HO0.out⟩, ⟨by (with_reducible repeat (first | apply Kd.N_alloc | apply Kd.N_drewN | apply Kd.N_drew)); exact HO346.out⟩, ⟨bA⟩⟩
 case round =>
  clear H'
  obtain ⟨x3_1, x4_1, rfl, HA, HK1, HO_0, HO_3, HB⟩ := hrel
  cases gk with
  | zero => exact absurd HA.out (by simp [spec_l8Stages.l0])
  | succ k1 =>
   have H := HA.out
   clear HA
   simp only [spec_l8Stages.l0] at H
   by_cases c4 : x4_1 < (l0.length : Int)
   ·
    rw [if_pos c4] at H
    have c4b0 := decide_eq_true c4
    clear c4
    have c5 : 0 ≤ x4_1 := ifN H
    replace H := ifT H
    have c5b0 := decide_eq_true c5
    clear c5
    have c6 : x3_1.length < 5864062014805 := ifN H
    replace H := ifT H
    have LMc6 := Aside0.mk c6
    clear c6
    obtain ⟨y348, hy348⟩ : ∃ y_ : List (List Int), y_ = (x3_1 ++ [(rd_T85 l0 x4_1).f0]) := ⟨_, rfl⟩
    replace H : (spec_l8Stages.l0 k1 l0 y348 (wrap64 (x4_1 + 1))) = some r := rH H hy348
    have Ny348 := Aside0.mk hy348
    clear hy348
    have H' := Aside0.mk H
    clear H
    obtain ⟨p347, q347⟩ : 0 ≤ (x4_1 : Int) ∧ x4_1 < (l0.length : Int) := ⟨dA, dA⟩
    obtain ⟨ad347, A347_0, c347_0, e347, hx347_0, hx347_1, hl347_0, hi347_0⟩ := at_T85 (Kd.V_reads' HO_0.out).2.2 x4_1 p347 q347
    cases e347
    obtain ⟨ce347, hce347, hMe347, hcc347⟩ := Kd.V_get HO_0.out z85 x4_1 p347 (by first | exact q347 | exact dA | (have e_ := (Kd.V_reads' HO_0.out).1; omega))
    obtain ⟨ua347_0, uc347_0, rfl, ul347_0, ge347_0⟩ := k85_openF hMe347
    have hv347_0 := hcc347 0 _ rfl
    rw [Nat.add_zero] at hv347_0
    replace hv347_0 := Option.some.inj (hv347_0.symm.trans hx347_0)
    injection hv347_0 with hva_ hvn_ hvc_
    rw [hva_] at ge347_0
    rw [hvc_] at ul347_0
    have HL347_0 := Aside0.mk (show Kd.V (Kd.int .i64) 3 _ w.heap.size _ _ ((rd_T85 l0 x4_1).f0) from Kd.V_mk ul347_0 ge347_0)
    clear hva_ hvn_ hvc_ ge347_0 ul347_0
    clear hcc347 hce347
    have HR347_0 := Aside0.mk hi347_0
    have HC347_0 := Aside0.mk hl347_0
    clear hi347_0 hl347_0
    obtain ⟨p347, q347⟩ := eT p347 q347
    go_wp2_with (first | ((with_reducible refine gate_builtin (b := .append) (xs := #[.tmp 12, .tmp 18]) rfl ?_); at_builtin; refine Kd.N_append (Kd.slice 3 (Kd.int .i64)) (w0 := w) w.heap.size rfl (.tmp 12) (.tmp 18) 103 35 (.slice none 0 0) 24 rfl Try.underlying103 info35 rfl (by decide) (by omega) u3 x3_1 ((rd_T85 l0 x4_1).f0) [.slice A347_0 ((rd_T85 l0 x4_1).f0).length c347_0] (fun k_ => (P0_ k_ ∨ w.heap.size ≤ k_)) (fun k_ => ((fun k_ => (P0_ k_ ∨ w.heap.size ≤ k_))) k_ ∧ some k_ ≠ (u3 : Value).ownBlock) rfl rfl ?aP (fun _ hk => hk) ?aF ?aO ?aB ?aS ?aL ?_; (case aP => exact (Kd.FK_slice_mk (Kd.V_reads' (Kd.V_mono (ok' := (fun k_ => ((fun k_ => (P0_ k_ ∨ w.heap.size ≤ k_))) k_ ∧ some k_ ≠ (u3 : Value).ownBlock)) (HL347_0.out) (fun k_ hk => ⟨hk.1, hk.2⟩))).2.1 (Kd.V_F (Kd.V_mono (ok' := (fun k_ => ((fun k_ => (P0_ k_ ∨ w.heap.size ≤ k_))) k_ ∧ some k_ ≠ (u3 : Value).ownBlock)) (HL347_0.out) (fun k_ hk => ⟨hk.1, hk.2⟩))))); (case aB => exact bA); (case aF => exact (fun k_ hk => (.inr (Nat.le_trans (below_size bA) hk)))); (case aO => exact (by (with_reducible repeat (first | apply Kd.N_alloc | apply Kd.N_drewN | apply Kd.N_drew)); exact HO_3.out)); (case aS => exact (below_size bA)); (case aL => have := LMc6.out; omega); intro v349 w7 ho hb hg hat; rw [← Ny348.out] at ho; have n0_ := Aside0.mk (Kd.V_afterv (ok := (fun k_ => (P0_ k_ ∨ w.heap.size ≤ k_))) (by (with_reducible repeat (first | apply Kd.V_alloc | apply Kd.V_drewN | apply Kd.V_drew)); exact HO_0.out) hg hat); have n1_ := Aside0.mk (Kd.V_afterv (ok := (fun k_ => (P0_ k_ ∨ w.heap.size ≤ k_))) (by (with_reducible repeat (first | apply Kd.V_alloc | apply Kd.V_drewN | apply Kd.V_drew)); exact HL347_0.out) hg hat); have n2_ := Aside0.mk (hb); have n3_ := Aside0.mk (ho); clear HO_0; clear HL347_0; clear HB; clear HO_3; have HO_0 := n0_; have HL347_0 := n1_; have HB := n2_; have HO350 := n3_; clear n0_ n1_ n2_ n3_; clear ho hb hg hat))
    go_roundg k1
    case measure => have := HK1.out; omega
    case rel => exact ⟨(y348), (wrap64 (x4_1 + 1)), rS, H', ⟨by have := HK1.out; omega⟩, ⟨by (with_reducible repeat (first | apply Kd.V_alloc | apply Kd.V_drewN | apply Kd.V_drew)); exact HO_0.out⟩, ⟨by (with_reducible repeat (first | apply Kd.N_alloc | apply Kd.N_drewN | apply Kd.N_drew)); exact HO350.out⟩, ⟨bA⟩⟩
   rw [if_neg c4] at H
   have c4b0 := decide_eq_false c4
   clear c4
   obtain rfl := Option.some.inj H
   go_wp2
   go_ret
   exact ⟨_, rA, by (with_reducible repeat (first | apply Kd.N_alloc | apply Kd.N_drewN | apply Kd.N_drew)); exact HO_3.out, bA⟩

/-! ### spec_IsPlan: function 61 -/
def spec_IsPlan.l0 : Nat → List (S50) → List (S85) → Int → Option (Bool)
 | 0, _, _, _ => none
 | k + 1, x0, x1, x5 => if x5 < (x1.length : Int) then (if 0 ≤ x5 then (if (((rd_T85 x1 x5).f0).length : Int) = 0 then (some false) else ((spec_IsTogether.f k x0 ((rd_T85 x1 x5).f0)).bind fun t358 => (if t358 = true then ((spec_LeastGreen.f k x0 ((rd_T85 x1 x5).f0)).bind fun t361 => ((spec_l1In.f ((rd_T85 x1 x5).f1) t361 60).bind fun t362 => (if t362 = true then (spec_IsPlan.l0 k x0 x1 (wrap64 (x5 + 1))) else (some false)))) else (some false)))) else (none)) else ((spec_l8Stages.f k x1).bind fun t352 => ((spec_Covers.f k x0 t352).bind fun t355 => (some t355)))
def spec_IsPlan.f (k : Nat) (l0 : List (S50)) (l1 : List (S85)) : Option (Bool) := (spec_l1In.f (l1.length : Int) 1 6).bind fun t351 => (if t351 = true then (spec_IsPlan.l0 k l0 l1 0) else (some false))
theorem spec_IsPlan.mono_l : ∀ k, (∀ y0 y1 y2, LeO (spec_IsPlan.l0 k y0 y1 y2) (spec_IsPlan.l0 (k + 1) y0 y1 y2))
 | 0 => fun _ _ _ r h => by simp [spec_IsPlan.l0] at h
 | k + 1 => by
  have ih0 := spec_IsPlan.mono_l k
  ·
   intro y0 y1 y2
   unfold spec_IsPlan.l0
   exact mz5 ih0 spec_Covers.mono spec_IsTogether.mono spec_LeastGreen.mono spec_l8Stages.mono
theorem spec_IsPlan.mono : ∀ a0 a1 k, LeO (spec_IsPlan.f k a0 a1) (spec_IsPlan.f (k + 1) a0 a1) := by
 intro a0 a1 k
 have ih0 := spec_IsPlan.mono_l k
 unfold spec_IsPlan.f
 exact mz5 ih0 spec_Covers.mono spec_IsTogether.mono spec_LeastGreen.mono spec_l8Stages.mono
def spec_IsPlan.T6 : Bool × List (List Nat × List Nat) := (true, [([], []), ([], []), ([0, 1], [0, 1]), ([2], [2]), ([3], [3]), ([4], [4]), ([5], [5]), ([6], [6]), ([7], [7]), ([7], [7]), ([7], [7]), ([9, 10, 7], [7, 9, 10]), ([11, 7], [7, 11]), ([12, 7], [7, 12]), ([8, 13, 7, 7], [7, 8, 13]), ([14, 7], [7, 14]), ([7, 15], [7, 15]), ([16, 14], [16]), ([17], [17]), ([17], [17]), ([18, 19, 17], [17, 18, 19]), ([20, 17], [17, 20]), ([21, 17], [17, 21]), ([17], [17]), ([17], [17]), ([17], [17]), ([24, 25, 17], [17, 24, 25]), ([26, 17], [17, 26]), ([27, 17], [17, 27]), ([23, 28, 17, 17], [17, 23, 28]), ([22, 29, 29, 17], [17, 22, 29]), ([30, 17], [17, 30]), ([17, 31], [17, 31])])
def spec_IsPlan.B6 : List Nat := [0, 0, 3, 7, 15, 31, 63, 127, 255, 255, 255, 1791, 3839, 7935, 16383, 32767, 65535, 131071, 262143, 262143, 1048575, 2097151, 4194303, 262143, 262143, 262143, 50593791, 117702655, 251920383, 528744447, 1073741823, 2147483647, 4294967295]
theorem spec_IsPlan.tab6 : rtab .any (opsOf Try.f61 6) = spec_IsPlan.T6 := by kernel_rfl
theorem spec_IsPlan.bits6 : waitsOk spec_IsPlan.T6.2 spec_IsPlan.B6 = true := by kernel_rfl
set_option maxHeartbeats 8000000 in
set_option maxRecDepth 100000 in
theorem spec_IsPlan.calls (k : Nat) (A0 : Option Addr) (c0 : Nat) (l0 : List (S50)) (A1 : Option Addr) (c1 : Nat) (l1 : List (S85)) (r : Bool) (w : World) (hr0 : Kd.C k50 w A0 l0.length l0) (hc0 : l0.length ≤ c0) (hr1 : Kd.C k85 w A1 l1.length l1) (hc1 : l1.length ≤ c1) (h : spec_IsPlan.f k l0 l1 = some r) :
  Calls Try.prog 61 #[.slice A0 l0.length c0, .slice A1 l1.length c1] w fun e w' => e = .returned (.bool r) ∧ Below w.heap.size w w' := by
 have HR0 := Aside0.mk hr0
 have HC0 := Aside0.mk hc0
 clear hr0 hc0
 have HR1 := Aside0.mk hr1
 have HC1 := Aside0.mk hc1
 clear hr1 hc1
 have HB := Aside0.mk (Below.refl w.heap.size w)
 have H : ((spec_l1In.f (l1.length : Int) 1 6).bind fun t351 => (if t351 = true then (spec_IsPlan.l0 k l0 l1 0) else (some false))) = some r := h
 clear h
 obtain ⟨t351, A3, H⟩ := bindE H
 try dsimp only at H
 by_cases c4 : t351 = true
 ·
  subst c4
  have H1 : (spec_IsPlan.l0 k l0 l1 0) = some r := by rw [if_pos rfl] at H; exact H
  clear H
  have H := H1
  clear H1
  have H' := Aside0.mk H
  clear H
  go_enter Try.func61, Try.ntmps61
  go_wp2_with (first | ((with_reducible refine gate_callee (f := 111) rfl ?_); refine gL (some 8) Try.func111 #[.int .i64 (l1.length : Int), .int .i64 1, .int .i64 6] ?_; (with_reducible refine (spec_l1In.calls (l1.length : Int) 1 6 true _ A3.out).mono ?_); rintro e w' ⟨rfl, ⟨nd, rfl⟩⟩; refine ⟨_, rfl, ?_⟩))
  go_loopg [5] k (fun kq v5 w' => ∃ (x5_1 : Int), v5 = .int .i64 x5_1 ∧ Aside0 (spec_IsPlan.l0 kq l0 l1 x5_1 = some r) ∧ Aside0 (kq ≤ k) ∧ Aside0 (Below w.heap.size w w'))
  case atStart => exact ⟨(0), rS, H', ⟨Nat.le_refl _⟩, ⟨bA⟩⟩
  case round =>
   clear H'
   obtain ⟨x5_1, rfl, HA, HK1, HB⟩ := hrel
   cases gk with
   | zero => exact absurd HA.out (by simp [spec_IsPlan.l0])
   | succ k1 =>
    have H := HA.out
    clear HA
    simp only [spec_IsPlan.l0] at H
    by_cases c5 : x5_1 < (l1.length : Int)
    ·
     rw [if_pos c5] at H
     have c5b0 := decide_eq_true c5
     clear c5
     have c6 : 0 ≤ x5_1 := ifN H
     replace H := ifT H
     have c6b0 := decide_eq_true c6
     clear c6
     by_cases c7 : (((rd_T85 l1 x5_1).f0).length : Int) = 0
     ·
      rw [if_pos c7] at H
      have c7b0 : ((((rd_T85 l1 x5_1).f0).length : Int) == 0) = true := beq_iff_eq.mpr c7
      have c7b1 : ((((rd_T85 l1 x5_1).f0).length : Int) != 0) = false := bne_eq_false_iff_eq.mpr c7
      clear c7
      obtain rfl := Option.some.inj H
      try go_wp2
      have HBo := HB
      replace HB := db HB
      obtain ⟨p356, q356⟩ : 0 ≤ (x5_1 : Int) ∧ x5_1 < (l1.length : Int) := ⟨dA, dA⟩
      obtain ⟨ad356, A356_0, c356_0, e356, hx356_0, hx356_1, hl356_0, hi356_0⟩ := at_T85 HR1.out x5_1 p356 q356
      have hw356_1 := hx356_1
      have hw356_0 := hx356_0
      cases e356
      replace hx356_0 := hC HB hx356_0
      replace hx356_1 := hC HB hx356_1
      have HR356_0 := Aside0.mk hi356_0
      have HC356_0 := Aside0.mk hl356_0
      clear hi356_0 hl356_0
      obtain ⟨p356, q356⟩ := eT p356 q356
      refine sw (ds := []) 33 (mb 33 0) spec_IsPlan.tab6 spec_IsPlan.bits6 (h1c (hC HB hw356_0) (h1 (hC HB hw356_1))) (fun hHeld HT_ HW_ => ?_)
      generalize wr.drew = w8 at HB HR356_0 hx356_0 hx356_1 hHeld ⊢
      refine pa 0 16 (mb 33 1) HT_ ?_
      refine pa 1 17 (mb 33 3) HT_ ?_
      refine pa 2 18 (mb 33 7) HT_ ?_
      refine pa 3 19 (mb 33 15) HT_ ?_
      refine ta2 4 20 (mb 33 31) HT_ HW_ hHeld ?_
      refine pa 5 21 (mb 33 63) HT_ ?_
      refine pa 6 22 (mb 33 127) HT_ ?_
      refine pa 7 23 (mb 33 255) HT_ ?_
      refine pu 8 24 (mb 33 511) HT_ ?_
      refine pu 9 25 (mb 33 1023) HT_ ?_
      refine pu 10 26 (mb 33 2047) HT_ ?_
      refine pu 11 27 (mb 33 4095) HT_ ?_
      refine pu 12 28 (mb 33 8191) HT_ ?_
      refine pu 13 29 (mb 33 16383) HT_ ?_
      refine pu 14 30 (mb 33 32767) HT_ ?_
      refine pu 15 31 (mb 33 65535) HT_ ?_
      refine pa 16 32 (mb 33 131071) HT_ ?_
      refine pa 17 33 (mb 33 262143) HT_ ?_
      refine pu 18 34 (mb 33 524287) HT_ ?_
      refine pu 19 35 (mb 33 1048575) HT_ ?_
      refine pu 20 36 (mb 33 2097151) HT_ ?_
      refine pu 21 37 (mb 33 4194303) HT_ ?_
      refine pu 22 38 (mb 33 8388607) HT_ ?_
      refine pu 23 39 (mb 33 16777215) HT_ ?_
      refine pu 24 40 (mb 33 33554431) HT_ ?_
      refine pu 25 41 (mb 33 67108863) HT_ ?_
      refine pu 26 42 (mb 33 134217727) HT_ ?_
      refine pu 27 43 (mb 33 268435455) HT_ ?_
      refine pu 28 44 (mb 33 536870911) HT_ ?_
      refine pu 29 45 (mb 33 1073741823) HT_ ?_
      refine pu 30 46 (mb 33 2147483647) HT_ ?_
      refine pu 31 47 (mb 33 4294967295) HT_ ?_
      refine pa 32 48 (mb 33 8589934591) HT_ ?_
      refine eA HT_ ?_
      try go_wp2
      go_ret
      exact ⟨rA, bA⟩
     rw [if_neg c7] at H
     have c7b0 : ((((rd_T85 l1 x5_1).f0).length : Int) == 0) = false := beq_eq_false_iff_ne.mpr c7
     have c7b1 : ((((rd_T85 l1 x5_1).f0).length : Int) != 0) = true := bne_iff_ne.mpr c7
     have c7b2 : ¬ (((rd_T85 l1 x5_1).f0) = []) := fun h_ => c7 (by rw [h_]; rfl)
     obtain ⟨t358, A9, H⟩ := bindE H
     try dsimp only at H
     by_cases c10 : t358 = true
     ·
      subst c10
      have H1 : ((spec_LeastGreen.f k1 l0 ((rd_T85 l1 x5_1).f0)).bind fun t361 => ((spec_l1In.f ((rd_T85 l1 x5_1).f1) t361 60).bind fun t362 => (if t362 = true then (spec_IsPlan.l0 k1 l0 l1 (wrap64 (x5_1 + 1))) else (some false)))) = some r := by rw [if_pos rfl] at H; exact H
      clear H
      have H := H1
      clear H1
      obtain ⟨t361, A11, H⟩ := bindE H
      try dsimp only at H
      obtain ⟨t362, A12, H⟩ := bindE H
      try dsimp only at H
      by_cases c13 : t362 = true
      ·
       subst c13
       have H1 : (spec_IsPlan.l0 k1 l0 l1 (wrap64 (x5_1 + 1))) = some r := by rw [if_pos rfl] at H; exact H
       clear H
       have H := H1
       clear H1
       have H' := Aside0.mk H
       clear H
       try go_wp2
       have HBo := HB
       replace HB := db HB
       obtain ⟨p356, q356⟩ : 0 ≤ (x5_1 : Int) ∧ x5_1 < (l1.length : Int) := ⟨dA, dA⟩
       obtain ⟨ad356, A356_0, c356_0, e356, hx356_0, hx356_1, hl356_0, hi356_0⟩ := at_T85 HR1.out x5_1 p356 q356
       have hw356_1 := hx356_1
       have hw356_0 := hx356_0
       cases e356
       replace hx356_0 := hC HB hx356_0
       replace hx356_1 := hC HB hx356_1
       have HR356_0 := Aside0.mk hi356_0
       have HC356_0 := Aside0.mk hl356_0
       clear hi356_0 hl356_0
       obtain ⟨p356, q356⟩ := eT p356 q356
       obtain ⟨p357, q357⟩ : 0 ≤ (x5_1 : Int) ∧ x5_1 < (l1.length : Int) := ⟨dA, dA⟩
       obtain ⟨ad357, A357_0, c357_0, e357, hx357_0, hx357_1, hl357_0, hi357_0⟩ := at_T85 HR1.out x5_1 p357 q357
       have hw357_1 := hx357_1
       have hw357_0 := hx357_0
       obtain rfl : ad356 = ad357 := (by injection e357)
       replace hx357_0 := hC HB hx357_0
       replace hx357_1 := hC HB hx357_1
       have HR357_0 := Aside0.mk hi357_0
       have HC357_0 := Aside0.mk hl357_0
       clear hi357_0 hl357_0
       obtain ⟨p357, q357⟩ := eT p357 q357
       have ea_ := Option.some.inj (hx356_0.symm.trans hx357_0)
       injection ea_ with ea_ en_ ec_
       subst ea_
       subst ec_
       clear en_
       obtain ⟨p359, q359⟩ : 0 ≤ (x5_1 : Int) ∧ x5_1 < (l1.length : Int) := ⟨dA, dA⟩
       obtain ⟨ad359, A359_0, c359_0, e359, hx359_0, hx359_1, hl359_0, hi359_0⟩ := at_T85 HR1.out x5_1 p359 q359
       have hw359_1 := hx359_1
       have hw359_0 := hx359_0
       obtain rfl : ad356 = ad359 := (by injection e359)
       replace hx359_0 := hC HB hx359_0
       replace hx359_1 := hC HB hx359_1
       have HR359_0 := Aside0.mk hi359_0
       have HC359_0 := Aside0.mk hl359_0
       clear hi359_0 hl359_0
       obtain ⟨p359, q359⟩ := eT p359 q359
       first | have ea_ := Option.some.inj (hw356_0.symm.trans hw359_0) | have ea_ := Option.some.inj (hx356_0.symm.trans hx359_0)
       injection ea_ with ea_ en_ ec_
       subst ea_
       subst ec_
       clear en_
       obtain ⟨p360, q360⟩ : 0 ≤ (x5_1 : Int) ∧ x5_1 < (l1.length : Int) := ⟨dA, dA⟩
       obtain ⟨ad360, A360_0, c360_0, e360, hx360_0, hx360_1, hl360_0, hi360_0⟩ := at_T85 HR1.out x5_1 p360 q360
       have hw360_1 := hx360_1
       have hw360_0 := hx360_0
       obtain rfl : ad356 = ad360 := (by injection e360)
       replace hx360_0 := hC HB hx360_0
       replace hx360_1 := hC HB hx360_1
       have HR360_0 := Aside0.mk hi360_0
       have HC360_0 := Aside0.mk hl360_0
       clear hi360_0 hl360_0
       obtain ⟨p360, q360⟩ := eT p360 q360
       first | have ea_ := Option.some.inj (hw356_0.symm.trans hw360_0) | have ea_ := Option.some.inj (hx356_0.symm.trans hx360_0)
       injection ea_ with ea_ en_ ec_
       subst ea_
       subst ec_
       clear en_
       refine sw (ds := []) 33 (mb 33 0) spec_IsPlan.tab6 spec_IsPlan.bits6 (h1c (hC HB hw356_0) (h1c (hC HB hw356_1) (h1c (hC HB hw357_0) (h1c (hC HB hw357_1) (h1c (hC HB hw359_0) (h1c (hC HB hw359_1) (h1c (hC HB hw360_0) (h1 (hC HB hw360_1))))))))) (fun hHeld HT_ HW_ => ?_)
       generalize wr.drew = w14 at HB HR356_0 HR357_0 HR359_0 HR360_0 hx356_0 hx356_1 hx357_0 hx357_1 hx359_0 hx359_1 hx360_0 hx360_1 hHeld ⊢
       refine pa 0 16 (mb 33 1) HT_ ?_
       refine pa 1 17 (mb 33 3) HT_ ?_
       refine pa 2 18 (mb 33 7) HT_ ?_
       refine pa 3 19 (mb 33 15) HT_ ?_
       refine ta8 4 20 (mb 33 31) HT_ HW_ hHeld ?_
       refine pa 5 21 (mb 33 63) HT_ ?_
       refine pa 6 22 (mb 33 127) HT_ ?_
       refine pa 7 23 (mb 33 255) HT_ ?_
       refine pa 8 24 (mb 33 511) HT_ ?_
       refine pa 9 25 (mb 33 1023) HT_ ?_
       refine pa 10 26 (mb 33 2047) HT_ ?_
       refine pa 11 27 (mb 33 4095) HT_ ?_
       refine pa 12 28 (mb 33 8191) HT_ ?_
       refine ta8 13 29 (mb 33 16383) HT_ HW_ hHeld ?_
       refine oa 14 30 (mb 33 32767) HT_ (fun K hK => ?_)
       refine gA Try.func112 #[.slice A0 l0.length c0, .slice A356_0 ((rd_T85 l1 x5_1).f0).length c356_0] ?_
       with_reducible refine (spec_IsTogether.calls k1 _ _ l0 _ _ ((rd_T85 l1 x5_1).f0) true _ ?side1 ?side2 ?side3 ?side4 A9.out).mono ?_
       (case side1 => exact cB HR0)
       (case side2 => exact HC0.out)
       (case side3 => exact cB HR357_0)
       (case side4 => exact HC357_0.out)
       rintro e w15 ⟨rfl, hb⟩
       refine ⟨_, rfl, ?_⟩
       replace HB := bs HB hb
       (try clear hb)
       (try clear hb2)
       (try clear hk)
       (try clear hi)
       refine hK.out _ _ ⟨(hC HB hw356_0), (hC HB hw356_1), (hC HB hw357_0), (hC HB hw357_1), (hC HB hw359_0), (hC HB hw359_1), (hC HB hw360_0), (hC HB hw360_1)⟩ (fun hHeld => ?_)
       clear hK K
       refine nB ?_
       refine pa 15 31 (mb 33 65535) HT_ ?_
       refine pa 16 32 (mb 33 131071) HT_ ?_
       refine pa 17 33 (mb 33 262143) HT_ ?_
       refine pa 18 34 (mb 33 524287) HT_ ?_
       refine pa 19 35 (mb 33 1048575) HT_ ?_
       refine pa 20 36 (mb 33 2097151) HT_ ?_
       refine pa 21 37 (mb 33 4194303) HT_ ?_
       refine pa 23 39 (mb 33 12582911) HT_ ?_
       refine pa 24 40 (mb 33 29360127) HT_ ?_
       refine pa 25 41 (mb 33 62914559) HT_ ?_
       refine pa 26 42 (mb 33 130023423) HT_ ?_
       refine pa 27 43 (mb 33 264241151) HT_ ?_
       refine ta8 22 38 (mb 33 268435455) HT_ HW_ hHeld ?_
       refine ta8 28 44 (mb 33 536870911) HT_ HW_ hHeld ?_
       refine oa 29 45 (mb 33 1073741823) HT_ (fun K hK => ?_)
       refine gA Try.func113 #[.slice A0 l0.length c0, .slice A356_0 ((rd_T85 l1 x5_1).f0).length c356_0] ?_
       with_reducible refine (spec_LeastGreen.calls k1 _ _ l0 _ _ ((rd_T85 l1 x5_1).f0) t361 _ ?side1 ?side2 ?side3 ?side4 A11.out).mono ?_
       (case side1 => exact cB HR0)
       (case side2 => exact HC0.out)
       (case side3 => exact cB HR360_0)
       (case side4 => exact HC360_0.out)
       rintro e w' ⟨rfl, ⟨nd, rfl⟩⟩
       refine ⟨_, rfl, ?_⟩
       refine hK.out _ _ ⟨(hC HB hw356_0), (hC HB hw356_1), (hC HB hw357_0), (hC HB hw357_1), (hC HB hw359_0), (hC HB hw359_1), (hC HB hw360_0), (hC HB hw360_1)⟩ (fun hHeld => ?_)
       clear hK K
       refine nB ?_
       refine oa 30 46 (mb 33 2147483647) HT_ (fun K hK => ?_)
       refine gA Try.func111 #[.int .i64 ((rd_T85 l1 x5_1).f1), .int .i64 t361, .int .i64 60] ?_
       with_reducible refine (spec_l1In.calls ((rd_T85 l1 x5_1).f1) t361 60 true _ A12.out).mono ?_
       rintro e w' ⟨rfl, ⟨nd, rfl⟩⟩
       refine ⟨_, rfl, ?_⟩
       refine hK.out _ _ ⟨(hC HB hw356_0), (hC HB hw356_1), (hC HB hw357_0), (hC HB hw357_1), (hC HB hw359_0), (hC HB hw359_1), (hC HB hw360_0), (hC HB hw360_1)⟩ (fun hHeld => ?_)
       clear hK K
       refine nB ?_
       refine pa 31 47 (mb 33 4294967295) HT_ ?_
       refine pa 32 48 (mb 33 8589934591) HT_ ?_
       refine eA HT_ ?_
       try go_wp2
       go_roundg k1
       case measure => have := HK1.out; omega
       case rel => exact ⟨(wrap64 (x5_1 + 1)), rS, H', ⟨by have := HK1.out; omega⟩, ⟨bA⟩⟩
      replace c13 := Bool.eq_false_iff.mpr c13
      subst c13
      have H1 : (some false) = some r := by rw [if_neg (show ¬ (false = true) by decide)] at H; exact H
      clear H
      have H := H1
      clear H1
      obtain rfl := Option.some.inj H
      try go_wp2
      have HBo := HB
      replace HB := db HB
      obtain ⟨p356, q356⟩ : 0 ≤ (x5_1 : Int) ∧ x5_1 < (l1.length : Int) := ⟨dA, dA⟩
      obtain ⟨ad356, A356_0, c356_0, e356, hx356_0, hx356_1, hl356_0, hi356_0⟩ := at_T85 HR1.out x5_1 p356 q356
      have hw356_1 := hx356_1
      have hw356_0 := hx356_0
      cases e356
      replace hx356_0 := hC HB hx356_0
      replace hx356_1 := hC HB hx356_1
      have HR356_0 := Aside0.mk hi356_0
      have HC356_0 := Aside0.mk hl356_0
      clear hi356_0 hl356_0
      obtain ⟨p356, q356⟩ := eT p356 q356
      obtain ⟨p357, q357⟩ : 0 ≤ (x5_1 : Int) ∧ x5_1 < (l1.length : Int) := ⟨dA, dA⟩
      obtain ⟨ad357, A357_0, c357_0, e357, hx357_0, hx357_1, hl357_0, hi357_0⟩ := at_T85 HR1.out x5_1 p357 q357
      have hw357_1 := hx357_1
      have hw357_0 := hx357_0
      obtain rfl : ad356 = ad357 := (by injection e357)
      replace hx357_0 := hC HB hx357_0
      replace hx357_1 := hC HB hx357_1
      have HR357_0 := Aside0.mk hi357_0
      have HC357_0 := Aside0.mk hl357_0
      clear hi357_0 hl357_0
      obtain ⟨p357, q357⟩ := eT p357 q357
      have ea_ := Option.some.inj (hx356_0.symm.trans hx357_0)
      injection ea_ with ea_ en_ ec_
      subst ea_
      subst ec_
      clear en_
      obtain ⟨p359, q359⟩ : 0 ≤ (x5_1 : Int) ∧ x5_1 < (l1.length : Int) := ⟨dA, dA⟩
      obtain ⟨ad359, A359_0, c359_0, e359, hx359_0, hx359_1, hl359_0, hi359_0⟩ := at_T85 HR1.out x5_1 p359 q359
      have hw359_1 := hx359_1
      have hw359_0 := hx359_0
      obtain rfl : ad356 = ad359 := (by injection e359)
      replace hx359_0 := hC HB hx359_0
      replace hx359_1 := hC HB hx359_1
      have HR359_0 := Aside0.mk hi359_0
      have HC359_0 := Aside0.mk hl359_0
      clear hi359_0 hl359_0
      obtain ⟨p359, q359⟩ := eT p359 q359
      first | have ea_ := Option.some.inj (hw356_0.symm.trans hw359_0) | have ea_ := Option.some.inj (hx356_0.symm.trans hx359_0)
      injection ea_ with ea_ en_ ec_
      subst ea_
      subst ec_
      clear en_
      obtain ⟨p360, q360⟩ : 0 ≤ (x5_1 : Int) ∧ x5_1 < (l1.length : Int) := ⟨dA, dA⟩
      obtain ⟨ad360, A360_0, c360_0, e360, hx360_0, hx360_1, hl360_0, hi360_0⟩ := at_T85 HR1.out x5_1 p360 q360
      have hw360_1 := hx360_1
      have hw360_0 := hx360_0
      obtain rfl : ad356 = ad360 := (by injection e360)
      replace hx360_0 := hC HB hx360_0
      replace hx360_1 := hC HB hx360_1
      have HR360_0 := Aside0.mk hi360_0
      have HC360_0 := Aside0.mk hl360_0
      clear hi360_0 hl360_0
      obtain ⟨p360, q360⟩ := eT p360 q360
      first | have ea_ := Option.some.inj (hw356_0.symm.trans hw360_0) | have ea_ := Option.some.inj (hx356_0.symm.trans hx360_0)
      injection ea_ with ea_ en_ ec_
      subst ea_
      subst ec_
      clear en_
      refine sw (ds := []) 33 (mb 33 0) spec_IsPlan.tab6 spec_IsPlan.bits6 (h1c (hC HB hw356_0) (h1c (hC HB hw356_1) (h1c (hC HB hw357_0) (h1c (hC HB hw357_1) (h1c (hC HB hw359_0) (h1c (hC HB hw359_1) (h1c (hC HB hw360_0) (h1 (hC HB hw360_1))))))))) (fun hHeld HT_ HW_ => ?_)
      generalize wr.drew = w16 at HB HR356_0 HR357_0 HR359_0 HR360_0 hx356_0 hx356_1 hx357_0 hx357_1 hx359_0 hx359_1 hx360_0 hx360_1 hHeld ⊢
      refine pa 0 16 (mb 33 1) HT_ ?_
      refine pa 1 17 (mb 33 3) HT_ ?_
      refine pa 2 18 (mb 33 7) HT_ ?_
      refine pa 3 19 (mb 33 15) HT_ ?_
      refine ta8 4 20 (mb 33 31) HT_ HW_ hHeld ?_
      refine pa 5 21 (mb 33 63) HT_ ?_
      refine pa 6 22 (mb 33 127) HT_ ?_
      refine pa 7 23 (mb 33 255) HT_ ?_
      refine pa 8 24 (mb 33 511) HT_ ?_
      refine pa 9 25 (mb 33 1023) HT_ ?_
      refine pa 10 26 (mb 33 2047) HT_ ?_
      refine pa 11 27 (mb 33 4095) HT_ ?_
      refine pa 12 28 (mb 33 8191) HT_ ?_
      refine ta8 13 29 (mb 33 16383) HT_ HW_ hHeld ?_
      refine oa 14 30 (mb 33 32767) HT_ (fun K hK => ?_)
      refine gA Try.func112 #[.slice A0 l0.length c0, .slice A356_0 ((rd_T85 l1 x5_1).f0).length c356_0] ?_
      with_reducible refine (spec_IsTogether.calls k1 _ _ l0 _ _ ((rd_T85 l1 x5_1).f0) true _ ?side1 ?side2 ?side3 ?side4 A9.out).mono ?_
      (case side1 => exact cB HR0)
      (case side2 => exact HC0.out)
      (case side3 => exact cB HR357_0)
      (case side4 => exact HC357_0.out)
      rintro e w17 ⟨rfl, hb⟩
      refine ⟨_, rfl, ?_⟩
      replace HB := bs HB hb
      (try clear hb)
      (try clear hb2)
      (try clear hk)
      (try clear hi)
      refine hK.out _ _ ⟨(hC HB hw356_0), (hC HB hw356_1), (hC HB hw357_0), (hC HB hw357_1), (hC HB hw359_0), (hC HB hw359_1), (hC HB hw360_0), (hC HB hw360_1)⟩ (fun hHeld => ?_)
      clear hK K
      refine nB ?_
      refine pa 15 31 (mb 33 65535) HT_ ?_
      refine pa 16 32 (mb 33 131071) HT_ ?_
      refine pa 17 33 (mb 33 262143) HT_ ?_
      refine pa 18 34 (mb 33 524287) HT_ ?_
      refine pa 19 35 (mb 33 1048575) HT_ ?_
      refine pa 20 36 (mb 33 2097151) HT_ ?_
      refine pa 21 37 (mb 33 4194303) HT_ ?_
      refine pa 23 39 (mb 33 12582911) HT_ ?_
      refine pa 24 40 (mb 33 29360127) HT_ ?_
      refine pa 25 41 (mb 33 62914559) HT_ ?_
      refine pa 26 42 (mb 33 130023423) HT_ ?_
      refine pa 27 43 (mb 33 264241151) HT_ ?_
      refine ta8 22 38 (mb 33 268435455) HT_ HW_ hHeld ?_
      refine ta8 28 44 (mb 33 536870911) HT_ HW_ hHeld ?_
      refine oa 29 45 (mb 33 1073741823) HT_ (fun K hK => ?_)
      refine gA Try.func113 #[.slice A0 l0.length c0, .slice A356_0 ((rd_T85 l1 x5_1).f0).length c356_0] ?_
      with_reducible refine (spec_LeastGreen.calls k1 _ _ l0 _ _ ((rd_T85 l1 x5_1).f0) t361 _ ?side1 ?side2 ?side3 ?side4 A11.out).mono ?_
      (case side1 => exact cB HR0)
      (case side2 => exact HC0.out)
      (case side3 => exact cB HR360_0)
      (case side4 => exact HC360_0.out)
      rintro e w' ⟨rfl, ⟨nd, rfl⟩⟩
      refine ⟨_, rfl, ?_⟩
      refine hK.out _ _ ⟨(hC HB hw356_0), (hC HB hw356_1), (hC HB hw357_0), (hC HB hw357_1), (hC HB hw359_0), (hC HB hw359_1), (hC HB hw360_0), (hC HB hw360_1)⟩ (fun hHeld => ?_)
      clear hK K
      refine nB ?_
      refine oa 30 46 (mb 33 2147483647) HT_ (fun K hK => ?_)
      refine gA Try.func111 #[.int .i64 ((rd_T85 l1 x5_1).f1), .int .i64 t361, .int .i64 60] ?_
      with_reducible refine (spec_l1In.calls ((rd_T85 l1 x5_1).f1) t361 60 false _ A12.out).mono ?_
      rintro e w' ⟨rfl, ⟨nd, rfl⟩⟩
      refine ⟨_, rfl, ?_⟩
      refine hK.out _ _ ⟨(hC HB hw356_0), (hC HB hw356_1), (hC HB hw357_0), (hC HB hw357_1), (hC HB hw359_0), (hC HB hw359_1), (hC HB hw360_0), (hC HB hw360_1)⟩ (fun hHeld => ?_)
      clear hK K
      refine nB ?_
      refine pa 31 47 (mb 33 4294967295) HT_ ?_
      refine pa 32 48 (mb 33 8589934591) HT_ ?_
      refine eA HT_ ?_
      try go_wp2
      go_ret
      exact ⟨rA, bA⟩
     replace c10 := Bool.eq_false_iff.mpr c10
     subst c10
     have H1 : (some false) = some r := by rw [if_neg (show ¬ (false = true) by decide)] at H; exact H
     clear H
     have H := H1
     clear H1
     obtain rfl := Option.some.inj H
     try go_wp2
     have HBo := HB
     replace HB := db HB
     obtain ⟨p356, q356⟩ : 0 ≤ (x5_1 : Int) ∧ x5_1 < (l1.length : Int) := ⟨dA, dA⟩
     obtain ⟨ad356, A356_0, c356_0, e356, hx356_0, hx356_1, hl356_0, hi356_0⟩ := at_T85 HR1.out x5_1 p356 q356
     have hw356_1 := hx356_1
     have hw356_0 := hx356_0
     cases e356
     replace hx356_0 := hC HB hx356_0
     replace hx356_1 := hC HB hx356_1
     have HR356_0 := Aside0.mk hi356_0
     have HC356_0 := Aside0.mk hl356_0
     clear hi356_0 hl356_0
     obtain ⟨p356, q356⟩ := eT p356 q356
     obtain ⟨p357, q357⟩ : 0 ≤ (x5_1 : Int) ∧ x5_1 < (l1.length : Int) := ⟨dA, dA⟩
     obtain ⟨ad357, A357_0, c357_0, e357, hx357_0, hx357_1, hl357_0, hi357_0⟩ := at_T85 HR1.out x5_1 p357 q357
     have hw357_1 := hx357_1
     have hw357_0 := hx357_0
     obtain rfl : ad356 = ad357 := (by injection e357)
     replace hx357_0 := hC HB hx357_0
     replace hx357_1 := hC HB hx357_1
     have HR357_0 := Aside0.mk hi357_0
     have HC357_0 := Aside0.mk hl357_0
     clear hi357_0 hl357_0
     obtain ⟨p357, q357⟩ := eT p357 q357
     have ea_ := Option.some.inj (hx356_0.symm.trans hx357_0)
     injection ea_ with ea_ en_ ec_
     subst ea_
     subst ec_
     clear en_
     refine sw (ds := []) 33 (mb 33 0) spec_IsPlan.tab6 spec_IsPlan.bits6 (h1c (hC HB hw356_0) (h1c (hC HB hw356_1) (h1c (hC HB hw357_0) (h1 (hC HB hw357_1))))) (fun hHeld HT_ HW_ => ?_)
     generalize wr.drew = w18 at HB HR356_0 HR357_0 hx356_0 hx356_1 hx357_0 hx357_1 hHeld ⊢
     refine pa 0 16 (mb 33 1) HT_ ?_
     refine pa 1 17 (mb 33 3) HT_ ?_
     refine pa 2 18 (mb 33 7) HT_ ?_
     refine pa 3 19 (mb 33 15) HT_ ?_
     refine ta4 4 20 (mb 33 31) HT_ HW_ hHeld ?_
     refine pa 5 21 (mb 33 63) HT_ ?_
     refine pa 6 22 (mb 33 127) HT_ ?_
     refine pa 7 23 (mb 33 255) HT_ ?_
     refine pa 8 24 (mb 33 511) HT_ ?_
     refine pa 9 25 (mb 33 1023) HT_ ?_
     refine pa 10 26 (mb 33 2047) HT_ ?_
     refine pa 11 27 (mb 33 4095) HT_ ?_
     refine pa 12 28 (mb 33 8191) HT_ ?_
     refine ta4 13 29 (mb 33 16383) HT_ HW_ hHeld ?_
     refine oa 14 30 (mb 33 32767) HT_ (fun K hK => ?_)
     refine gA Try.func112 #[.slice A0 l0.length c0, .slice A356_0 ((rd_T85 l1 x5_1).f0).length c356_0] ?_
     with_reducible refine (spec_IsTogether.calls k1 _ _ l0 _ _ ((rd_T85 l1 x5_1).f0) false _ ?side1 ?side2 ?side3 ?side4 A9.out).mono ?_
     (case side1 => exact cB HR0)
     (case side2 => exact HC0.out)
     (case side3 => exact cB HR357_0)
     (case side4 => exact HC357_0.out)
     rintro e w19 ⟨rfl, hb⟩
     refine ⟨_, rfl, ?_⟩
     replace HB := bs HB hb
     (try clear hb)
     (try clear hb2)
     (try clear hk)
     (try clear hi)
     refine hK.out _ _ ⟨(hC HB hw356_0), (hC HB hw356_1), (hC HB hw357_0), (hC HB hw357_1)⟩ (fun hHeld => ?_)
     clear hK K
     refine nB ?_
     refine pa 15 31 (mb 33 65535) HT_ ?_
     refine pa 16 32 (mb 33 131071) HT_ ?_
     refine pa 17 33 (mb 33 262143) HT_ ?_
     refine pu 18 34 (mb 33 524287) HT_ ?_
     refine pu 19 35 (mb 33 1048575) HT_ ?_
     refine pu 20 36 (mb 33 2097151) HT_ ?_
     refine pu 21 37 (mb 33 4194303) HT_ ?_
     refine pu 22 38 (mb 33 8388607) HT_ ?_
     refine pu 23 39 (mb 33 16777215) HT_ ?_
     refine pu 24 40 (mb 33 33554431) HT_ ?_
     refine pu 25 41 (mb 33 67108863) HT_ ?_
     refine pu 26 42 (mb 33 134217727) HT_ ?_
     refine pu 27 43 (mb 33 268435455) HT_ ?_
     refine pu 28 44 (mb 33 536870911) HT_ ?_
     refine pu 29 45 (mb 33 1073741823) HT_ ?_
     refine pu 30 46 (mb 33 2147483647) HT_ ?_
     refine pu 31 47 (mb 33 4294967295) HT_ ?_
     refine pa 32 48 (mb 33 8589934591) HT_ ?_
     refine eA HT_ ?_
     try go_wp2
     go_ret
     exact ⟨rA, bA⟩
    rw [if_neg c5] at H
    have c5b0 := decide_eq_false c5
    clear c5
    obtain ⟨t352, A20, H⟩ := bindE H
    try dsimp only at H
    obtain ⟨t355, A21, H⟩ := bindE H
    try dsimp only at H
    obtain rfl := Option.some.inj H
    go_wp2_with (first | ((with_reducible refine gate_callee (f := 115) rfl ?_); refine gL (some 51) Try.func115 #[.slice A1 l1.length c1] ?_; (with_reducible refine (spec_l8Stages.calls k1 (fun k_ => k_ < w.heap.size) _ _ l1 t352 _ ?_ A20.out).mono ?_); exact Kd.V_mk HC1.out (Kd.F_below (Kd.C_F k85_heap HR1.out) bA); rintro e w22 ⟨v353, rfl, ho0, hb⟩; refine ⟨_, rfl, ?_⟩; have HO354 := Aside0.mk (Kd.N_lower (Kd.N_mono (ok' := fun k_ => True) ho0 (fun k_ hk_ => trivial)) (below_size bA)); replace HB := bs HB hb; (try clear hb); (try clear ho0); obtain ⟨Ao23, co23, eo23⟩ := Kd.N_slice HO354.out; subst eo23) | ((with_reducible refine gate_callee (f := 114) rfl ?_); refine gL (some 52) Try.func114 #[.slice A0 l0.length c0, .slice Ao23 t352.length co23] ?_; (with_reducible refine (spec_Covers.calls k1 _ _ l0 _ _ t352 t355 _ ?_ ?_ ?_ ?_ A21.out).mono ?_); exact cB HR0; exact HC0.out; (focus repeat (first | exact (Kd.N_reads' HO354.out).2.2 | (with_reducible refine Kd.C_alloc ?_ _) | (with_reducible refine Kd.C_drewN ?_ _) | (with_reducible refine Kd.C_drew ?_))); exact (Kd.N_reads' HO354.out).2.1; rintro e w24 ⟨rfl, hb⟩; refine ⟨_, rfl, ?_⟩; have n0_ := Aside0.mk (Kd.N_below (by (with_reducible repeat (first | apply Kd.N_alloc | apply Kd.N_drewN | apply Kd.N_drew)); exact HO354.out) hb); have n1_ := bs HB hb; clear HO354; clear HB; have HO354 := n0_; have HB := n1_; clear n0_ n1_; (try clear hb)))
    go_ret
    exact ⟨rA, bA⟩
 replace c4 := Bool.eq_false_iff.mpr c4
 subst c4
 have H1 : (some false) = some r := by rw [if_neg (show ¬ (false = true) by decide)] at H; exact H
 clear H
 have H := H1
 clear H1
 obtain rfl := Option.some.inj H
 go_enter Try.func61, Try.ntmps61
 go_wp2_with (first | ((with_reducible refine gate_callee (f := 111) rfl ?_); refine gL (some 8) Try.func111 #[.int .i64 (l1.length : Int), .int .i64 1, .int .i64 6] ?_; (with_reducible refine (spec_l1In.calls (l1.length : Int) 1 6 false _ A3.out).mono ?_); rintro e w' ⟨rfl, ⟨nd, rfl⟩⟩; refine ⟨_, rfl, ?_⟩))
 go_ret
 exact ⟨rA, bA⟩

/-! ### spec_l6Put: function 135 -/
def spec_l6Put.l0 : Nat → List Int → Int → Int → Option (List Int)
 | 0, _, _, _ => none
 | k + 1, x0, x1, x5 => if x5 < (x0.length : Int) then (if 0 ≤ x5 then (if (rd x0 x5) < x1 then (spec_l6Put.l0 k x0 x1 (wrap64 (x5 + 1))) else (if (rd x0 x5) = x1 then ((some (([] : List Int) : List Int)).bind fun y365 => (if y365.length + x0.length < 17592186044416 then (some (y365 ++ x0)) else (none))) else ((some (([] : List Int) : List Int)).bind fun y371 => (if x5 ≤ (x0.length : Int) then (if y371.length + (x0.take (x5 : Int).toNat).length < 17592186044416 then ((some (y371 ++ (x0.take (x5 : Int).toNat) : List Int)).bind fun y375 => ((some (([x1] : List Int) : List Int)).bind fun y378 => (if y375.length + y378.length < 17592186044416 then ((some (y375 ++ y378 : List Int)).bind fun y381 => (if y381.length + (x0.drop (x5 : Int).toNat).length < 17592186044416 then (some (y381 ++ (x0.drop (x5 : Int).toNat))) else (none))) else (none)))) else (none)) else (none))))) else (none)) else ((some (([] : List Int) : List Int)).bind fun y388 => (if 0 ≤ x5 then (if x5 ≤ (x0.length : Int) then (if y388.length + (x0.take (x5 : Int).toNat).length < 17592186044416 then ((some (y388 ++ (x0.take (x5 : Int).toNat) : List Int)).bind fun y392 => ((some (([x1] : List Int) : List Int)).bind fun y395 => (if y392.length + y395.length < 17592186044416 then ((some (y392 ++ y395 : List Int)).bind fun y398 => (if y398.length + (x0.drop (x5 : Int).toNat).length < 17592186044416 then (some (y398 ++ (x0.drop (x5 : Int).toNat))) else (none))) else (none)))) else (none)) else (none)) else (none)))
def spec_l6Put.f (k : Nat) (l0 : List Int) (a1 : Int) : Option (List Int) := spec_l6Put.l0 k l0 a1 0
theorem spec_l6Put.mono_l : ∀ k, (∀ y0 y1 y2, LeO (spec_l6Put.l0 k y0 y1 y2) (spec_l6Put.l0 (k + 1) y0 y1 y2))
 | 0 => fun _ _ _ r h => by simp [spec_l6Put.l0] at h
 | k + 1 => by
  have ih0 := spec_l6Put.mono_l k
  ·
   intro y0 y1 y2
   unfold spec_l6Put.l0
   exact mz1 ih0
theorem spec_l6Put.mono : ∀ a0 a1 k, LeO (spec_l6Put.f k a0 a1) (spec_l6Put.f (k + 1) a0 a1) := by
 intro a0 a1 k
 have ih0 := spec_l6Put.mono_l k
 unfold spec_l6Put.f
 exact mz1 ih0
def spec_l6Put.T6 : Bool × List (List Nat × List Nat) := (true, [([], []), ([], []), ([], []), ([1, 2], [1, 2]), ([0, 3], [0, 3]), ([], []), ([5], [5]), ([4, 6, 4], [4, 6]), ([], []), ([], []), ([8, 9], [8, 9]), ([7, 10, 7], [7, 10]), ([11, 11, 0, 1, 2, 3, 4, 5, 6, 7, 8, 9, 10, 11], [11])])
def spec_l6Put.B6 : List Nat := [0, 0, 0, 6, 15, 0, 32, 127, 0, 0, 768, 2047, 4095]
theorem spec_l6Put.tab6 : rtab .any (opsOf Try.f135 6) = spec_l6Put.T6 := by kernel_rfl
theorem spec_l6Put.bits6 : waitsOk spec_l6Put.T6.2 spec_l6Put.B6 = true := by kernel_rfl
set_option maxHeartbeats 8000000 in
set_option maxRecDepth 100000 in
theorem spec_l6Put.calls (k : Nat) (A0 : Option Addr) (c0 : Nat) (l0 : List Int) (a1 : Int) (r : List Int) (w : World) (hr0 : Kd.C (Kd.int .i64) w A0 l0.length l0) (hc0 : l0.length ≤ c0) (h : spec_l6Put.f k l0 a1 = some r) :
  Calls Try.prog 135 #[.slice A0 l0.length c0, .int .i64 a1] w fun e w' => ∃ v0_ : Value, e = .returned (v0_) ∧ Kd.R (Kd.int .i64) 3 w' w.heap.size (fun _ => True) v0_ r ∧ Below w.heap.size w w' := by
 have HR0 := Aside0.mk hr0
 have HC0 := Aside0.mk hc0
 clear hr0 hc0
 have HB := Aside0.mk (Below.refl w.heap.size w)
 have H : (spec_l6Put.l0 k l0 a1 0) = some r := h
 clear h
 have H' := Aside0.mk H
 clear H
 go_enter Try.func135, Try.ntmps135
 go_wp2
 go_loopg [5] k (fun kq v5 w' => ∃ (x5_1 : Int), v5 = .int .i64 x5_1 ∧ Aside0 (spec_l6Put.l0 kq l0 a1 x5_1 = some r) ∧ Aside0 (kq ≤ k) ∧ Aside0 (Below w.heap.size w w'))
 case atStart => exact ⟨(0), rS, H', ⟨Nat.le_refl _⟩, ⟨bA⟩⟩
 case round =>
  clear H'
  obtain ⟨x5_1, rfl, HA, HK1, HB⟩ := hrel
  cases gk with
  | zero => exact absurd HA.out (by simp [spec_l6Put.l0])
  | succ k1 =>
   have H := HA.out
   clear HA
   simp only [spec_l6Put.l0] at H
   by_cases c3 : x5_1 < (l0.length : Int)
   ·
    rw [if_pos c3] at H
    have c3b0 := decide_eq_true c3
    clear c3
    have c4 : 0 ≤ x5_1 := ifN H
    replace H := ifT H
    have c4b0 := decide_eq_true c4
    clear c4
    by_cases c5 : (rd l0 x5_1) < a1
    ·
     rw [if_pos c5] at H
     have c5b0 := decide_eq_true c5
     clear c5
     have H' := Aside0.mk H
     clear H
     obtain ⟨p363, q363⟩ : 0 ≤ (x5_1 : Int) ∧ x5_1 < (l0.length : Int) := ⟨dA, dA⟩
     obtain ⟨ad363, e363, hx363_0⟩ := Kd.at_int (Kd.C_below HR0.out HB.out) x5_1 p363 q363
     cases e363
     obtain ⟨p363, q363⟩ := eT p363 q363
     go_wp2
     go_roundg k1
     case measure => have := HK1.out; omega
     case rel => exact ⟨(wrap64 (x5_1 + 1)), rS, H', ⟨by have := HK1.out; omega⟩, ⟨bA⟩⟩
    rw [if_neg c5] at H
    have c5b0 := decide_eq_false c5
    clear c5
    by_cases c6 : (rd l0 x5_1) = a1
    ·
     rw [if_pos c6] at H
     have c6b0 : ((rd l0 x5_1) == a1) = true := beq_iff_eq.mpr c6
     have c6b1 : ((rd l0 x5_1) != a1) = false := bne_eq_false_iff_eq.mpr c6
     clear c6
     obtain ⟨y365, hy365⟩ : ∃ y_ : List Int, y_ = (([] : List Int)) := ⟨_, rfl⟩
     replace H : (if y365.length + l0.length < 17592186044416 then (some (y365 ++ l0)) else (none)) = some r := rH H hy365
     have Ny365 := Aside0.mk hy365
     clear hy365
     have c7 : y365.length + l0.length < 17592186044416 := ifN H
     replace H := ifT H
     have LMc7 := Aside0.mk c7
     clear c7
     obtain ⟨y368, hy368⟩ : ∃ y_ : List Int, y_ = (y365 ++ l0) := ⟨_, rfl⟩
     replace H : (some y368) = some r := rH H hy368
     have Ny368 := Aside0.mk hy368
     clear hy368
     obtain rfl := Option.some.inj H
     obtain ⟨p363, q363⟩ : 0 ≤ (x5_1 : Int) ∧ x5_1 < (l0.length : Int) := ⟨dA, dA⟩
     obtain ⟨ad363, e363, hx363_0⟩ := Kd.at_int (Kd.C_below HR0.out HB.out) x5_1 p363 q363
     cases e363
     obtain ⟨p363, q363⟩ := eT p363 q363
     obtain ⟨p364, q364⟩ : 0 ≤ (x5_1 : Int) ∧ x5_1 < (l0.length : Int) := ⟨dA, dA⟩
     obtain ⟨ad364, e364, hx364_0⟩ := Kd.at_int (Kd.C_below HR0.out HB.out) x5_1 p364 q364
     obtain rfl : ad363 = ad364 := (by injection e364)
     obtain ⟨p364, q364⟩ := eT p364 q364
     go_wp2_with (first | ((with_reducible refine gate_dst (N := 32) rfl ?_); refine Kd.R_lit (Kd.int .i64) _ 3 ?hg (N := 32) ?hd (xs := ([] : List Int)) (inner := []) (ok := fun _ => True) (okp := fun _ => True) ?hr ?hp (fun _ hk => hk) trivial (Below.refl _ _) (Nat.le_refl _) (by simp) ?_; (case hd => rfl); (case hg => rfl); (case hr => first | (go_simp; done) | (go_simp; rfl)); (case hp => exact (Reps.none _ _)); intro v366 w8 ho9 hb hg_ hnew_; clear hg_ hnew_; (first | rw [← Ny365.out] at ho9 | (simp only [Int.reduceToNat] at ho9; rw [← Ny365.out] at ho9)); have HO367 := rl w ho9; replace HB := bs HB hb; clear hb ho9) | ((with_reducible refine gate_builtin (b := .append) (xs := #[.tmp 32, .tmp 33]) rfl ?_); at_builtin; refine Kd.R_append_rows (Kd.int .i64) (w0 := w) w.heap.size rfl (.tmp 32) (.tmp 33) 35 3 (.int .i64 0) 8 rfl Try.underlying35 info3 rfl (by decide) (by omega) v366 y365 l0 _ _ _ (fun _ => True) (fun _ => False) rfl rfl ?aO ?aR (fun _ _ h => h) (fun _ h => h.elim) ?aF ?aB ?aS ?aL ?_; (case aR => repeat (first | exact (Kd.C_below HR0.out HB.out) | (with_reducible refine Kd.C_alloc ?_ _) | (with_reducible refine Kd.C_drewN ?_ _) | (with_reducible refine Kd.C_drew ?_))); (case aB => exact bA); (case aF => exact (fun _ _ => trivial)); (case aO => exact (rK HO367)); (case aS => exact (below_size bA)); (case aL => have := LMc7.out; omega); intro v369 w10 ho hb hg hat; rw [← Ny368.out] at ho; have n0_ := Aside0.mk (hb); have n1_ := Aside0.mk (ho); clear HB; clear HO367; have HB := n0_; have HO370 := n1_; clear n0_ n1_; clear ho hb hg hat))
     go_ret
     exact ⟨_, rA, rK HO370, bA⟩
    rw [if_neg c6] at H
    have c6b0 : ((rd l0 x5_1) == a1) = false := beq_eq_false_iff_ne.mpr c6
    have c6b1 : ((rd l0 x5_1) != a1) = true := bne_iff_ne.mpr c6
    obtain ⟨y371, hy371⟩ : ∃ y_ : List Int, y_ = (([] : List Int)) := ⟨_, rfl⟩
    replace H : (if x5_1 ≤ (l0.length : Int) then (if y371.length + (l0.take (x5_1 : Int).toNat).length < 17592186044416 then ((some (y371 ++ (l0.take (x5_1 : Int).toNat) : List Int)).bind fun y375 => ((some (([a1] : List Int) : List Int)).bind fun y378 => (if y375.length + y378.length < 17592186044416 then ((some (y375 ++ y378 : List Int)).bind fun y381 => (if y381.length + (l0.drop (x5_1 : Int).toNat).length < 17592186044416 then (some (y381 ++ (l0.drop (x5_1 : Int).toNat))) else (none))) else (none)))) else (none)) else (none)) = some r := rH H hy371
    have Ny371 := Aside0.mk hy371
    clear hy371
    have c11b0 := eq_true (dA : 0 ≤ x5_1)
    have c12 : x5_1 ≤ (l0.length : Int) := ifN H
    replace H := ifT H
    have c12b0 := eq_true c12
    have c12b1 := decide_eq_true c12
    clear c12
    have c13 : y371.length + (l0.take (x5_1 : Int).toNat).length < 17592186044416 := ifN H
    replace H := ifT H
    have LMc13 := Aside0.mk c13
    clear c13
    obtain ⟨y375, hy375⟩ : ∃ y_ : List Int, y_ = (y371 ++ (l0.take (x5_1 : Int).toNat)) := ⟨_, rfl⟩
    replace H : ((some (([a1] : List Int) : List Int)).bind fun y378 => (if y375.length + y378.length < 17592186044416 then ((some (y375 ++ y378 : List Int)).bind fun y381 => (if y381.length + (l0.drop (x5_1 : Int).toNat).length < 17592186044416 then (some (y381 ++ (l0.drop (x5_1 : Int).toNat))) else (none))) else (none))) = some r := rH H hy375
    have Ny375 := Aside0.mk hy375
    clear hy375
    obtain ⟨y378, hy378⟩ : ∃ y_ : List Int, y_ = (([a1] : List Int)) := ⟨_, rfl⟩
    replace H : (if y375.length + y378.length < 17592186044416 then ((some (y375 ++ y378 : List Int)).bind fun y381 => (if y381.length + (l0.drop (x5_1 : Int).toNat).length < 17592186044416 then (some (y381 ++ (l0.drop (x5_1 : Int).toNat))) else (none))) else (none)) = some r := rH H hy378
    have Ny378 := Aside0.mk hy378
    clear hy378
    have c14 : y375.length + y378.length < 17592186044416 := ifN H
    replace H := ifT H
    have LMc14 := Aside0.mk c14
    clear c14
    obtain ⟨y381, hy381⟩ : ∃ y_ : List Int, y_ = (y375 ++ y378) := ⟨_, rfl⟩
    replace H : (if y381.length + (l0.drop (x5_1 : Int).toNat).length < 17592186044416 then (some (y381 ++ (l0.drop (x5_1 : Int).toNat))) else (none)) = some r := rH H hy381
    have Ny381 := Aside0.mk hy381
    clear hy381
    have c15b0 := eq_true (dA : 0 ≤ x5_1)
    have c16b0 := eq_true (dA : x5_1 ≤ (l0.length : Int))
    have c17 : y381.length + (l0.drop (x5_1 : Int).toNat).length < 17592186044416 := ifN H
    replace H := ifT H
    have LMc17 := Aside0.mk c17
    clear c17
    obtain ⟨y385, hy385⟩ : ∃ y_ : List Int, y_ = (y381 ++ (l0.drop (x5_1 : Int).toNat)) := ⟨_, rfl⟩
    replace H : (some y385) = some r := rH H hy385
    have Ny385 := Aside0.mk hy385
    clear hy385
    obtain rfl := Option.some.inj H
    obtain ⟨p363, q363⟩ : 0 ≤ (x5_1 : Int) ∧ x5_1 < (l0.length : Int) := ⟨dA, dA⟩
    obtain ⟨ad363, e363, hx363_0⟩ := Kd.at_int (Kd.C_below HR0.out HB.out) x5_1 p363 q363
    cases e363
    obtain ⟨p363, q363⟩ := eT p363 q363
    obtain ⟨p364, q364⟩ : 0 ≤ (x5_1 : Int) ∧ x5_1 < (l0.length : Int) := ⟨dA, dA⟩
    obtain ⟨ad364, e364, hx364_0⟩ := Kd.at_int (Kd.C_below HR0.out HB.out) x5_1 p364 q364
    obtain rfl : ad363 = ad364 := (by injection e364)
    obtain ⟨p364, q364⟩ := eT p364 q364
    try go_wp2
    have HBo := HB
    replace HB := db HB
    obtain ⟨i019, hi019, _, hsz19, _⟩ := info_parts info3
    obtain ⟨hcut19, hA19, hC19⟩ := print_take_of (P := Try.prog) (Value.int .i64) 0 35 3 .i64 Try.underlying35 hi019 hsz19 (some ad363) c0 l0 x5_1 (dA) (dA) HC0.out
    have HR374 := Aside0.mk (Kd.C_of_reads (h1 := fun _ => rfl) (hA19 _ (Kd.reads_of_C HR0.out)))
    have HC374 := Aside0.mk hC19
    clear hA19 hC19 hi019 hsz19
    have HL374 := Aside0.mk (show (x5_1 : Int) ≤ (l0.length : Int) from (dA))
    obtain ⟨i020, hi020, _, hsz20, _⟩ := info_parts info3
    obtain ⟨A20, hcut20, hA20, hC20⟩ := print_drop_of (P := Try.prog) (Value.int .i64) 0 35 3 .i64 Try.underlying35 hi020 hsz20 (some ad363) c0 l0 x5_1 (dA) (dA) HC0.out
    have HR384 := Aside0.mk (Kd.C_of_reads (h1 := fun _ => rfl) (hA20 _ (Kd.reads_of_C HR0.out)))
    have HC384 := Aside0.mk hC20
    clear hA20 hC20 hi020 hsz20
    refine sw (ds := []) 13 (mb 13 0) spec_l6Put.tab6 spec_l6Put.bits6 h0 (fun hHeld HT_ HW_ => ?_)
    generalize wr.drew = w18 at HB HR374 HR384 hHeld ⊢
    refine pa 1 36 (mb 13 2) HT_ ?_
    refine pa 2 37 (mb 13 6) HT_ ?_
    refine pa 3 38 (mb 13 14) HT_ ?_
    refine pa 5 40 (mb 13 46) HT_ ?_
    refine pa 8 43 (mb 13 302) HT_ ?_
    refine pa 9 44 (mb 13 814) HT_ ?_
    refine pa 10 45 (mb 13 1838) HT_ ?_
    refine join_ (σ := Value × Value × Value) 3 (mb 13 1919) (fun s_ => [(35, s_.1), (39, s_.2.1), (41, s_.2.2)]) (fun s_ w' => (Kd.R (Kd.int .i64) 3 w' w.heap.size (n1 s_.2.2) s_.2.1 y375) ∧ (Kd.R (Kd.int .i64) 3 w' w.heap.size (n1 s_.2.1) s_.2.2 y378) ∧ (Below w.heap.size w w')) ?_ ?_
    rotate_left
    ·
     intro hCont
     refine two_ (i := 0) (j := 6) (Ni := some 35) (Nj := some 41) (mb 13 1839) (mb 13 1902) rfl rfl rfl rfl (two_of HT_.out (by kernel_rfl)) (by decide) (by decide) (fun K hK => ?_) (fun K hK => ?_)
     ·
      skip
      refine Kd.R_lit_step (Kd.int .i64) _ 3 ?hg (N := 35) ?hd (xs := ([] : List Int)) (inner := []) (ok := fun _ => True) (okp := fun _ => True) ?hr ?hp (fun _ hk => hk) trivial (Below.refl _ _) (Nat.le_refl _) (by simp) ?_; (case hd => rfl); (case hg => rfl); (case hr => first | (go_simp; done) | (go_simp; rfl)); (case hp => exact (Reps.none _ _))
      intro v372 w21 ho22 hb hg_ hnew_
      clear hg_ hnew_
      (first | rw [← Ny371.out] at ho22 | (simp only [Int.reduceToNat] at ho22; rw [← Ny371.out] at ho22))
      have HO373 := rl w ho22
      replace HB := bs HB hb
      clear hb ho22
      refine hK.out _ _ trivial (fun hHeld => ?_)
      clear hK K
      refine nB ?_
      refine two_ (i := 4) (j := 6) (Ni := some 39) (Nj := some 41) (mb 13 1855) (mb 13 1903) rfl rfl rfl rfl (two_of HT_.out (by kernel_rfl)) (by decide) (by decide) (fun K hK => ?_) (fun K hK => ?_)
      ·
       skip
       refine Kd.R_append_rows_step (Kd.int .i64) (w0 := w) w.heap.size (by rfl) (.tmp 35) (.tmp 38) 35 3 (.int .i64 0) 8 rfl Try.underlying35 info3 rfl (by decide) (by omega) v372 y371 (l0.take (x5_1 : Int).toNat) _ _ _ (fun _ => True) (fun _ => False) rfl rfl ?aO ?aR (fun _ _ h => h) (fun _ h => h.elim) ?aF ?aB ?aS ?aL ?_
       (case aR => (have hr_ := HR374.out; rw [show (l0.take (x5_1 : Int).toNat).length = x5_1.toNat from (by rw [List.length_take]; have h_ : (x5_1 : Int) ≤ (l0.length : Int) := dA; omega)] at hr_; (repeat (first | exact (Kd.C_below hr_ HB.out) | (with_reducible refine Kd.C_alloc ?_ _) | (with_reducible refine Kd.C_drewN ?_ _) | (with_reducible refine Kd.C_drew ?_))); done))
       (case aB => exact bA)
       (case aF => exact (fun _ _ => trivial))
       (case aO => exact (rK HO373))
       (case aS => exact (below_size bA))
       (case aL => have := LMc13.out; have hlx_ := (show (l0.take (x5_1 : Int).toNat).length = x5_1.toNat from (by rw [List.length_take]; have h_ : (x5_1 : Int) ≤ (l0.length : Int) := dA; omega)); omega)
       intro v376 w23 ho hb hg hat
       rw [← Ny375.out] at ho
       have n0_ := Aside0.mk (hb)
       have n1_ := Aside0.mk (ho)
       clear HB
       clear HO373
       have HB := n0_
       have HO377 := n1_
       clear n0_ n1_
       clear ho hb hg hat
       refine hK.out _ _ trivial (fun hHeld => ?_)
       clear hK K
       refine nB ?_
       refine oa 6 41 (mb 13 1919) HT_ (fun K hK => ?_)
       refine Kd.R_lit_step (Kd.int .i64) _ 3 ?hg (N := 41) ?hd (xs := ([a1] : List Int)) (inner := [.int .i64 a1]) (ok := fun _ => True) (okp := fun _ => True) ?hr ?hp (fun _ hk => hk) trivial (Below.refl _ _) (Nat.le_refl _) (by simp) ?_; (case hd => rfl); (case hg => rfl); (case hr => first | (go_simp; done) | (go_simp; rfl)); (case hp => exact (Reps.one (show Kd.M (Kd.int .i64) _ _ _ a1 [.int .i64 a1] from rfl) (Reps.none _ _)))
       intro v379 w24 ho25 hb hg_ hnew_
       clear hg_ hnew_
       (first | rw [← Ny378.out] at ho25 | (simp only [Int.reduceToNat] at ho25; rw [← Ny378.out] at ho25))
       have HO380 := rl w (rn ho25 HO377)
       replace HO377 := re HO377 ho25 hb
       replace HB := bs HB hb
       clear hb ho25
       refine hK.out _ _ trivial (fun hHeld => ?_)
       clear hK K
       refine nB ?_
       exact mB (hCont (v372, v376, v379) _ ⟨(rm HO377 (fun _ hk => hk.2)), (rm HO380 (fun _ hk => hk.2)), bA⟩)
      ·
       skip
       refine Kd.R_lit_step (Kd.int .i64) _ 3 ?hg (N := 41) ?hd (xs := ([a1] : List Int)) (inner := [.int .i64 a1]) (ok := fun _ => True) (okp := fun _ => True) ?hr ?hp (fun _ hk => hk) trivial (Below.refl _ _) (Nat.le_refl _) (by simp) ?_; (case hd => rfl); (case hg => rfl); (case hr => first | (go_simp; done) | (go_simp; rfl)); (case hp => exact (Reps.one (show Kd.M (Kd.int .i64) _ _ _ a1 [.int .i64 a1] from rfl) (Reps.none _ _)))
       intro v379 w23 ho24 hb hg_ hnew_
       clear hg_ hnew_
       (first | rw [← Ny378.out] at ho24 | (simp only [Int.reduceToNat] at ho24; rw [← Ny378.out] at ho24))
       have HO380 := rl w (rn ho24 HO373)
       replace HO373 := re HO373 ho24 hb
       replace HB := bs HB hb
       clear hb ho24
       refine hK.out _ _ trivial (fun hHeld => ?_)
       clear hK K
       refine nB ?_
       refine oa 4 39 (mb 13 1919) HT_ (fun K hK => ?_)
       refine Kd.R_append_rows_step (Kd.int .i64) (w0 := w) w.heap.size (by rfl) (.tmp 35) (.tmp 38) 35 3 (.int .i64 0) 8 rfl Try.underlying35 info3 rfl (by decide) (by omega) v372 y371 (l0.take (x5_1 : Int).toNat) _ _ _ (n1 v379) (fun _ => False) rfl rfl ?aO ?aR (fun _ _ h => h) (fun _ h => h.elim) ?aF ?aB ?aS ?aL ?_
       (case aR => (have hr_ := HR374.out; rw [show (l0.take (x5_1 : Int).toNat).length = x5_1.toNat from (by rw [List.length_take]; have h_ : (x5_1 : Int) ≤ (l0.length : Int) := dA; omega)] at hr_; (repeat (first | exact (Kd.C_below hr_ HB.out) | (with_reducible refine Kd.C_alloc ?_ _) | (with_reducible refine Kd.C_drewN ?_ _) | (with_reducible refine Kd.C_drew ?_))); done))
       (case aB => exact bA)
       (case aF => exact (fun k_ hk => Kd.fresh' (Kd.R_lt (rK HO380)) k_ hk))
       (case aO => exact (rm HO373 (fun _ hk => hk.2)))
       (case aS => exact (below_size bA))
       (case aL => have := LMc13.out; have hlx_ := (show (l0.take (x5_1 : Int).toNat).length = x5_1.toNat from (by rw [List.length_take]; have h_ : (x5_1 : Int) ≤ (l0.length : Int) := dA; omega)); omega)
       intro v376 w25 ho hb hg hat
       rw [← Ny375.out] at ho
       have n0_ := Aside0.mk (Kd.R_after (ok := (fun _ => True)) (rK HO380) hg hat)
       have n1_ := Aside0.mk (hb)
       have n2_ := Aside0.mk (ho)
       clear HO380
       clear HB
       clear HO373
       have HO380 := n0_
       have HB := n1_
       have HO377 := n2_
       clear n0_ n1_ n2_
       clear ho hb hg hat
       refine hK.out _ _ trivial (fun hHeld => ?_)
       clear hK K
       refine nB ?_
       exact mB (hCont (v372, v376, v379) _ ⟨(rK HO377), (rm HO380 (fun _ hk => hk.2)), bA⟩)
     ·
      skip
      refine Kd.R_lit_step (Kd.int .i64) _ 3 ?hg (N := 41) ?hd (xs := ([a1] : List Int)) (inner := [.int .i64 a1]) (ok := fun _ => True) (okp := fun _ => True) ?hr ?hp (fun _ hk => hk) trivial (Below.refl _ _) (Nat.le_refl _) (by simp) ?_; (case hd => rfl); (case hg => rfl); (case hr => first | (go_simp; done) | (go_simp; rfl)); (case hp => exact (Reps.one (show Kd.M (Kd.int .i64) _ _ _ a1 [.int .i64 a1] from rfl) (Reps.none _ _)))
      intro v379 w21 ho22 hb hg_ hnew_
      clear hg_ hnew_
      (first | rw [← Ny378.out] at ho22 | (simp only [Int.reduceToNat] at ho22; rw [← Ny378.out] at ho22))
      have HO380 := rl w ho22
      replace HB := bs HB hb
      clear hb ho22
      refine hK.out _ _ trivial (fun hHeld => ?_)
      clear hK K
      refine nB ?_
      refine oa 0 35 (mb 13 1903) HT_ (fun K hK => ?_)
      refine Kd.R_lit_step (Kd.int .i64) _ 3 ?hg (N := 35) ?hd (xs := ([] : List Int)) (inner := []) (ok := fun _ => True) (okp := fun _ => True) ?hr ?hp (fun _ hk => hk) trivial (Below.refl _ _) (Nat.le_refl _) (by simp) ?_; (case hd => rfl); (case hg => rfl); (case hr => first | (go_simp; done) | (go_simp; rfl)); (case hp => exact (Reps.none _ _))
      intro v372 w23 ho24 hb hg_ hnew_
      clear hg_ hnew_
      (first | rw [← Ny371.out] at ho24 | (simp only [Int.reduceToNat] at ho24; rw [← Ny371.out] at ho24))
      have HO373 := rl w (rn ho24 HO380)
      replace HO380 := re HO380 ho24 hb
      replace HB := bs HB hb
      clear hb ho24
      refine hK.out _ _ trivial (fun hHeld => ?_)
      clear hK K
      refine nB ?_
      refine oa 4 39 (mb 13 1919) HT_ (fun K hK => ?_)
      refine Kd.R_append_rows_step (Kd.int .i64) (w0 := w) w.heap.size (by rfl) (.tmp 35) (.tmp 38) 35 3 (.int .i64 0) 8 rfl Try.underlying35 info3 rfl (by decide) (by omega) v372 y371 (l0.take (x5_1 : Int).toNat) _ _ _ (n1 v379) (fun _ => False) rfl rfl ?aO ?aR (fun _ _ h => h) (fun _ h => h.elim) ?aF ?aB ?aS ?aL ?_
      (case aR => (have hr_ := HR374.out; rw [show (l0.take (x5_1 : Int).toNat).length = x5_1.toNat from (by rw [List.length_take]; have h_ : (x5_1 : Int) ≤ (l0.length : Int) := dA; omega)] at hr_; (repeat (first | exact (Kd.C_below hr_ HB.out) | (with_reducible refine Kd.C_alloc ?_ _) | (with_reducible refine Kd.C_drewN ?_ _) | (with_reducible refine Kd.C_drew ?_))); done))
      (case aB => exact bA)
      (case aF => exact (fun k_ hk => Kd.fresh' (Kd.R_lt (rK HO380)) k_ hk))
      (case aO => exact (rm HO373 (fun _ hk => hk.2)))
      (case aS => exact (below_size bA))
      (case aL => have := LMc13.out; have hlx_ := (show (l0.take (x5_1 : Int).toNat).length = x5_1.toNat from (by rw [List.length_take]; have h_ : (x5_1 : Int) ≤ (l0.length : Int) := dA; omega)); omega)
      intro v376 w25 ho hb hg hat
      rw [← Ny375.out] at ho
      have n0_ := Aside0.mk (Kd.R_after (ok := (fun _ => True)) (rK HO380) hg hat)
      have n1_ := Aside0.mk (hb)
      have n2_ := Aside0.mk (ho)
      clear HO380
      clear HB
      clear HO373
      have HO380 := n0_
      have HB := n1_
      have HO377 := n2_
      clear n0_ n1_ n2_
      clear ho hb hg hat
      refine hK.out _ _ trivial (fun hHeld => ?_)
      clear hK K
      refine nB ?_
      exact mB (hCont (v372, v376, v379) _ ⟨(rK HO377), (rm HO380 (fun _ hk => hk.2)), bA⟩)
    rintro ⟨v372, v376, v379⟩ w26 ⟨h0_, h1_, h2_⟩
    have n0_ : Aside0 (Kd.R (Kd.int .i64) 3 w26 w.heap.size (n1 v379) v376 y375) := ⟨h0_⟩
    have n1_ : Aside0 (Kd.R (Kd.int .i64) 3 w26 w.heap.size (n1 v376) v379 y378) := ⟨h1_⟩
    have n2_ : Aside0 (Below w.heap.size w w26) := ⟨h2_⟩
    clear HB
    clear h0_ h1_ h2_
    have HO377 := n0_
    have HO380 := n1_
    have HB := n2_
    clear n0_ n1_ n2_
    have hHeld := trivial
    obtain ⟨Ao28, co28, eo28⟩ := Kd.R_slice HO380.out
    (first | subst eo28 | (injection eo28 with f1_ f2_ f3_; have f4_ := f1_.symm; have f5_ := f3_.symm; clear f1_ f2_ f3_; subst f4_; subst f5_))
    refine norm_ (a' := ?_) ?_ ?_
    rotate_left
    ·
     simp only [putAll, Act.put, List.setIfInBounds_toArray, List.set_cons_zero, List.set_cons_succ]
     rfl
    refine oa 7 42 (mb 13 2047) HT_ (fun K hK => ?_)
    refine Kd.R_append_rows_step (Kd.int .i64) (w0 := w) w.heap.size (by rfl) (.tmp 39) (.tmp 41) 35 3 (.int .i64 0) 8 rfl Try.underlying35 info3 rfl (by decide) (by omega) v376 y375 y378 _ _ _ (n1 (.slice Ao28 y378.length co28)) (fun _ => False) rfl rfl ?aO ?aR (fun _ _ h => h) (fun _ h => h.elim) ?aF ?aB ?aS ?aL ?_
    (case aR => repeat (first | exact (Kd.R_reads' HO380.out).2.2 | (with_reducible refine Kd.C_alloc ?_ _) | (with_reducible refine Kd.C_drewN ?_ _) | (with_reducible refine Kd.C_drew ?_)))
    (case aB => exact bA)
    (case aF => exact (fun k_ hk => Kd.fresh' (Kd.R_lt (rK HO380)) k_ hk))
    (case aO => exact (rK HO377))
    (case aS => exact (below_size bA))
    (case aL => have := LMc14.out; omega)
    intro v382 w27 ho hb hg hat
    rw [← Ny381.out] at ho
    have n0_ := Aside0.mk (Kd.R_after (ok := (fun _ => True)) (rm HO380 (fun _ hk => ⟨trivial, hk⟩)) hg hat)
    have n1_ := Aside0.mk (hb)
    have n2_ := Aside0.mk (ho)
    clear HO380
    clear HB
    clear HO377
    have HO380 := n0_
    have HB := n1_
    have HO383 := n2_
    clear n0_ n1_ n2_
    clear ho hb hg hat
    refine hK.out _ _ trivial (fun hHeld => ?_)
    clear hK K
    refine nB ?_
    refine oa 11 46 (mb 13 4095) HT_ (fun K hK => ?_)
    refine Kd.R_append_rows_step (Kd.int .i64) (w0 := w) w.heap.size (by rfl) (.tmp 42) (.tmp 45) 35 3 (.int .i64 0) 8 rfl Try.underlying35 info3 rfl (by decide) (by omega) v382 y381 (l0.drop (x5_1 : Int).toNat) _ _ _ (n1 (.slice Ao28 y378.length co28)) (fun _ => False) rfl rfl ?aO ?aR (fun _ _ h => h) (fun _ h => h.elim) ?aF ?aB ?aS ?aL ?_
    (case aR => (have hr_ := HR384.out; rw [show (l0.drop (x5_1 : Int).toNat).length = (l0.length - x5_1.toNat) from List.length_drop] at hr_; (repeat (first | exact (Kd.C_below hr_ HB.out) | (with_reducible refine Kd.C_alloc ?_ _) | (with_reducible refine Kd.C_drewN ?_ _) | (with_reducible refine Kd.C_drew ?_))); done))
    (case aB => exact bA)
    (case aF => exact (fun k_ hk => Kd.fresh' (Kd.R_lt (rK HO380)) k_ hk))
    (case aO => exact (rK HO383))
    (case aS => exact (below_size bA))
    (case aL => have := LMc17.out; have hlx_ := (show (l0.drop (x5_1 : Int).toNat).length = (l0.length - x5_1.toNat) from List.length_drop); omega)
    intro v386 w29 ho hb hg hat
    rw [← Ny385.out] at ho
    have n0_ := Aside0.mk (Kd.R_after (ok := (fun _ => True)) (rK HO380) hg hat)
    have n1_ := Aside0.mk (hb)
    have n2_ := Aside0.mk (ho)
    clear HO380
    clear HB
    clear HO383
    have HO380 := n0_
    have HB := n1_
    have HO387 := n2_
    clear n0_ n1_ n2_
    clear ho hb hg hat
    refine hK.out _ _ trivial (fun hHeld => ?_)
    clear hK K
    refine nB ?_
    refine pa 12 4 (mb 13 8191) HT_ ?_
    refine eA HT_ ?_
    try go_wp2
    go_ret
    exact ⟨_, rA, rm HO387 (fun _ hk => trivial), bA⟩
   rw [if_neg c3] at H
   have c3b0 := decide_eq_false c3
   clear c3
   obtain ⟨y388, hy388⟩ : ∃ y_ : List Int, y_ = (([] : List Int)) := ⟨_, rfl⟩
   replace H : (if 0 ≤ x5_1 then (if x5_1 ≤ (l0.length : Int) then (if y388.length + (l0.take (x5_1 : Int).toNat).length < 17592186044416 then ((some (y388 ++ (l0.take (x5_1 : Int).toNat) : List Int)).bind fun y392 => ((some (([a1] : List Int) : List Int)).bind fun y395 => (if y392.length + y395.length < 17592186044416 then ((some (y392 ++ y395 : List Int)).bind fun y398 => (if y398.length + (l0.drop (x5_1 : Int).toNat).length < 17592186044416 then (some (y398 ++ (l0.drop (x5_1 : Int).toNat))) else (none))) else (none)))) else (none)) else (none)) else (none)) = some r := rH H hy388
   have Ny388 := Aside0.mk hy388
   clear hy388
   have c30 : 0 ≤ x5_1 := ifN H
   replace H := ifT H
   have c30b0 := eq_true c30
   have c30b1 := decide_eq_true c30
   clear c30
   have c31 : x5_1 ≤ (l0.length : Int) := ifN H
   replace H := ifT H
   have c31b0 := eq_true c31
   have c31b1 := decide_eq_true c31
   clear c31
   have c32 : y388.length + (l0.take (x5_1 : Int).toNat).length < 17592186044416 := ifN H
   replace H := ifT H
   have LMc32 := Aside0.mk c32
   clear c32
   obtain ⟨y392, hy392⟩ : ∃ y_ : List Int, y_ = (y388 ++ (l0.take (x5_1 : Int).toNat)) := ⟨_, rfl⟩
   replace H : ((some (([a1] : List Int) : List Int)).bind fun y395 => (if y392.length + y395.length < 17592186044416 then ((some (y392 ++ y395 : List Int)).bind fun y398 => (if y398.length + (l0.drop (x5_1 : Int).toNat).length < 17592186044416 then (some (y398 ++ (l0.drop (x5_1 : Int).toNat))) else (none))) else (none))) = some r := rH H hy392
   have Ny392 := Aside0.mk hy392
   clear hy392
   obtain ⟨y395, hy395⟩ : ∃ y_ : List Int, y_ = (([a1] : List Int)) := ⟨_, rfl⟩
   replace H : (if y392.length + y395.length < 17592186044416 then ((some (y392 ++ y395 : List Int)).bind fun y398 => (if y398.length + (l0.drop (x5_1 : Int).toNat).length < 17592186044416 then (some (y398 ++ (l0.drop (x5_1 : Int).toNat))) else (none))) else (none)) = some r := rH H hy395
   have Ny395 := Aside0.mk hy395
   clear hy395
   have c33 : y392.length + y395.length < 17592186044416 := ifN H
   replace H := ifT H
   have LMc33 := Aside0.mk c33
   clear c33
   obtain ⟨y398, hy398⟩ : ∃ y_ : List Int, y_ = (y392 ++ y395) := ⟨_, rfl⟩
   replace H : (if y398.length + (l0.drop (x5_1 : Int).toNat).length < 17592186044416 then (some (y398 ++ (l0.drop (x5_1 : Int).toNat))) else (none)) = some r := rH H hy398
   have Ny398 := Aside0.mk hy398
   clear hy398
   have c34b0 := eq_true (dA : 0 ≤ x5_1)
   have c35b0 := eq_true (dA : x5_1 ≤ (l0.length : Int))
   have c36 : y398.length + (l0.drop (x5_1 : Int).toNat).length < 17592186044416 := ifN H
   replace H := ifT H
   have LMc36 := Aside0.mk c36
   clear c36
   obtain ⟨y402, hy402⟩ : ∃ y_ : List Int, y_ = (y398 ++ (l0.drop (x5_1 : Int).toNat)) := ⟨_, rfl⟩
   replace H : (some y402) = some r := rH H hy402
   have Ny402 := Aside0.mk hy402
   clear hy402
   obtain rfl := Option.some.inj H
   try go_wp2
   have HBo := HB
   replace HB := db HB
   obtain ⟨i038, hi038, _, hsz38, _⟩ := info_parts info3
   obtain ⟨hcut38, hA38, hC38⟩ := print_take_of (P := Try.prog) (Value.int .i64) 0 35 3 .i64 Try.underlying35 hi038 hsz38 A0 c0 l0 x5_1 (dA) (dA) HC0.out
   have HR391 := Aside0.mk (Kd.C_of_reads (h1 := fun _ => rfl) (hA38 _ (Kd.reads_of_C HR0.out)))
   have HC391 := Aside0.mk hC38
   clear hA38 hC38 hi038 hsz38
   have HL391 := Aside0.mk (show (x5_1 : Int) ≤ (l0.length : Int) from (dA))
   obtain ⟨i039, hi039, _, hsz39, _⟩ := info_parts info3
   obtain ⟨A39, hcut39, hA39, hC39⟩ := print_drop_of (P := Try.prog) (Value.int .i64) 0 35 3 .i64 Try.underlying35 hi039 hsz39 A0 c0 l0 x5_1 (dA) (dA) HC0.out
   have HR401 := Aside0.mk (Kd.C_of_reads (h1 := fun _ => rfl) (hA39 _ (Kd.reads_of_C HR0.out)))
   have HC401 := Aside0.mk hC39
   clear hA39 hC39 hi039 hsz39
   refine sw (ds := []) 13 (mb 13 0) spec_l6Put.tab6 spec_l6Put.bits6 h0 (fun hHeld HT_ HW_ => ?_)
   generalize wr.drew = w37 at HB HR391 HR401 hHeld ⊢
   refine pa 1 36 (mb 13 2) HT_ ?_
   refine pa 2 37 (mb 13 6) HT_ ?_
   refine pa 3 38 (mb 13 14) HT_ ?_
   refine pa 5 40 (mb 13 46) HT_ ?_
   refine pa 8 43 (mb 13 302) HT_ ?_
   refine pa 9 44 (mb 13 814) HT_ ?_
   refine pa 10 45 (mb 13 1838) HT_ ?_
   refine join_ (σ := Value × Value × Value) 3 (mb 13 1919) (fun s_ => [(35, s_.1), (39, s_.2.1), (41, s_.2.2)]) (fun s_ w' => (Kd.R (Kd.int .i64) 3 w' w.heap.size (n1 s_.2.2) s_.2.1 y392) ∧ (Kd.R (Kd.int .i64) 3 w' w.heap.size (n1 s_.2.1) s_.2.2 y395) ∧ (Below w.heap.size w w')) ?_ ?_
   rotate_left
   ·
    intro hCont
    refine two_ (i := 0) (j := 6) (Ni := some 35) (Nj := some 41) (mb 13 1839) (mb 13 1902) rfl rfl rfl rfl (two_of HT_.out (by kernel_rfl)) (by decide) (by decide) (fun K hK => ?_) (fun K hK => ?_)
    ·
     skip
     refine Kd.R_lit_step (Kd.int .i64) _ 3 ?hg (N := 35) ?hd (xs := ([] : List Int)) (inner := []) (ok := fun _ => True) (okp := fun _ => True) ?hr ?hp (fun _ hk => hk) trivial (Below.refl _ _) (Nat.le_refl _) (by simp) ?_; (case hd => rfl); (case hg => rfl); (case hr => first | (go_simp; done) | (go_simp; rfl)); (case hp => exact (Reps.none _ _))
     intro v389 w40 ho41 hb hg_ hnew_
     clear hg_ hnew_
     (first | rw [← Ny388.out] at ho41 | (simp only [Int.reduceToNat] at ho41; rw [← Ny388.out] at ho41))
     have HO390 := rl w ho41
     replace HB := bs HB hb
     clear hb ho41
     refine hK.out _ _ trivial (fun hHeld => ?_)
     clear hK K
     refine nB ?_
     refine two_ (i := 4) (j := 6) (Ni := some 39) (Nj := some 41) (mb 13 1855) (mb 13 1903) rfl rfl rfl rfl (two_of HT_.out (by kernel_rfl)) (by decide) (by decide) (fun K hK => ?_) (fun K hK => ?_)
     ·
      skip
      refine Kd.R_append_rows_step (Kd.int .i64) (w0 := w) w.heap.size (by rfl) (.tmp 35) (.tmp 38) 35 3 (.int .i64 0) 8 rfl Try.underlying35 info3 rfl (by decide) (by omega) v389 y388 (l0.take (x5_1 : Int).toNat) _ _ _ (fun _ => True) (fun _ => False) rfl rfl ?aO ?aR (fun _ _ h => h) (fun _ h => h.elim) ?aF ?aB ?aS ?aL ?_
      (case aR => (have hr_ := HR391.out; rw [show (l0.take (x5_1 : Int).toNat).length = x5_1.toNat from (by rw [List.length_take]; have h_ : (x5_1 : Int) ≤ (l0.length : Int) := dA; omega)] at hr_; (repeat (first | exact (Kd.C_below hr_ HB.out) | (with_reducible refine Kd.C_alloc ?_ _) | (with_reducible refine Kd.C_drewN ?_ _) | (with_reducible refine Kd.C_drew ?_))); done))
      (case aB => exact bA)
      (case aF => exact (fun _ _ => trivial))
      (case aO => exact (rK HO390))
      (case aS => exact (below_size bA))
      (case aL => have := LMc32.out; have hlx_ := (show (l0.take (x5_1 : Int).toNat).length = x5_1.toNat from (by rw [List.length_take]; have h_ : (x5_1 : Int) ≤ (l0.length : Int) := dA; omega)); omega)
      intro v393 w42 ho hb hg hat
      rw [← Ny392.out] at ho
      have n0_ := Aside0.mk (hb)
      have n1_ := Aside0.mk (ho)
      clear HB
      clear HO390
      have HB := n0_
      have HO394 := n1_
      clear n0_ n1_
      clear ho hb hg hat
      refine hK.out _ _ trivial (fun hHeld => ?_)
      clear hK K
      refine nB ?_
      refine oa 6 41 (mb 13 1919) HT_ (fun K hK => ?_)
      refine Kd.R_lit_step (Kd.int .i64) _ 3 ?hg (N := 41) ?hd (xs := ([a1] : List Int)) (inner := [.int .i64 a1]) (ok := fun _ => True) (okp := fun _ => True) ?hr ?hp (fun _ hk => hk) trivial (Below.refl _ _) (Nat.le_refl _) (by simp) ?_; (case hd => rfl); (case hg => rfl); (case hr => first | (go_simp; done) | (go_simp; rfl)); (case hp => exact (Reps.one (show Kd.M (Kd.int .i64) _ _ _ a1 [.int .i64 a1] from rfl) (Reps.none _ _)))
      intro v396 w43 ho44 hb hg_ hnew_
      clear hg_ hnew_
      (first | rw [← Ny395.out] at ho44 | (simp only [Int.reduceToNat] at ho44; rw [← Ny395.out] at ho44))
      have HO397 := rl w (rn ho44 HO394)
      replace HO394 := re HO394 ho44 hb
      replace HB := bs HB hb
      clear hb ho44
      refine hK.out _ _ trivial (fun hHeld => ?_)
      clear hK K
      refine nB ?_
      exact mB (hCont (v389, v393, v396) _ ⟨(rm HO394 (fun _ hk => hk.2)), (rm HO397 (fun _ hk => hk.2)), bA⟩)
     ·
      skip
      refine Kd.R_lit_step (Kd.int .i64) _ 3 ?hg (N := 41) ?hd (xs := ([a1] : List Int)) (inner := [.int .i64 a1]) (ok := fun _ => True) (okp := fun _ => True) ?hr ?hp (fun _ hk => hk) trivial (Below.refl _ _) (Nat.le_refl _) (by simp) ?_; (case hd => rfl); (case hg => rfl); (case hr => first | (go_simp; done) | (go_simp; rfl)); (case hp => exact (Reps.one (show Kd.M (Kd.int .i64) _ _ _ a1 [.int .i64 a1] from rfl) (Reps.none _ _)))
      intro v396 w42 ho43 hb hg_ hnew_
      clear hg_ hnew_
      (first | rw [← Ny395.out] at ho43 | (simp only [Int.reduceToNat] at ho43; rw [← Ny395.out] at ho43))
      have HO397 := rl w (rn ho43 HO390)
      replace HO390 := re HO390 ho43 hb
      replace HB := bs HB hb
      clear hb ho43
      refine hK.out _ _ trivial (fun hHeld => ?_)
      clear hK K
      refine nB ?_
      refine oa 4 39 (mb 13 1919) HT_ (fun K hK => ?_)
      refine Kd.R_append_rows_step (Kd.int .i64) (w0 := w) w.heap.size (by rfl) (.tmp 35) (.tmp 38) 35 3 (.int .i64 0) 8 rfl Try.underlying35 info3 rfl (by decide) (by omega) v389 y388 (l0.take (x5_1 : Int).toNat) _ _ _ (n1 v396) (fun _ => False) rfl rfl ?aO ?aR (fun _ _ h => h) (fun _ h => h.elim) ?aF ?aB ?aS ?aL ?_
      (case aR => (have hr_ := HR391.out; rw [show (l0.take (x5_1 : Int).toNat).length = x5_1.toNat from (by rw [List.length_take]; have h_ : (x5_1 : Int) ≤ (l0.length : Int) := dA; omega)] at hr_; (repeat (first | exact (Kd.C_below hr_ HB.out) | (with_reducible refine Kd.C_alloc ?_ _) | (with_reducible refine Kd.C_drewN ?_ _) | (with_reducible refine Kd.C_drew ?_))); done))
      (case aB => exact bA)
      (case aF => exact (fun k_ hk => Kd.fresh' (Kd.R_lt (rK HO397)) k_ hk))
      (case aO => exact (rm HO390 (fun _ hk => hk.2)))
      (case aS => exact (below_size bA))
      (case aL => have := LMc32.out; have hlx_ := (show (l0.take (x5_1 : Int).toNat).length = x5_1.toNat from (by rw [List.length_take]; have h_ : (x5_1 : Int) ≤ (l0.length : Int) := dA; omega)); omega)
      intro v393 w44 ho hb hg hat
      rw [← Ny392.out] at ho
      have n0_ := Aside0.mk (Kd.R_after (ok := (fun _ => True)) (rK HO397) hg hat)
      have n1_ := Aside0.mk (hb)
      have n2_ := Aside0.mk (ho)
      clear HO397
      clear HB
      clear HO390
      have HO397 := n0_
      have HB := n1_
      have HO394 := n2_
      clear n0_ n1_ n2_
      clear ho hb hg hat
      refine hK.out _ _ trivial (fun hHeld => ?_)
      clear hK K
      refine nB ?_
      exact mB (hCont (v389, v393, v396) _ ⟨(rK HO394), (rm HO397 (fun _ hk => hk.2)), bA⟩)
    ·
     skip
     refine Kd.R_lit_step (Kd.int .i64) _ 3 ?hg (N := 41) ?hd (xs := ([a1] : List Int)) (inner := [.int .i64 a1]) (ok := fun _ => True) (okp := fun _ => True) ?hr ?hp (fun _ hk => hk) trivial (Below.refl _ _) (Nat.le_refl _) (by simp) ?_; (case hd => rfl); (case hg => rfl); (case hr => first | (go_simp; done) | (go_simp; rfl)); (case hp => exact (Reps.one (show Kd.M (Kd.int .i64) _ _ _ a1 [.int .i64 a1] from rfl) (Reps.none _ _)))
     intro v396 w40 ho41 hb hg_ hnew_
     clear hg_ hnew_
     (first | rw [← Ny395.out] at ho41 | (simp only [Int.reduceToNat] at ho41; rw [← Ny395.out] at ho41))
     have HO397 := rl w ho41
     replace HB := bs HB hb
     clear hb ho41
     refine hK.out _ _ trivial (fun hHeld => ?_)
     clear hK K
     refine nB ?_
     refine oa 0 35 (mb 13 1903) HT_ (fun K hK => ?_)
     refine Kd.R_lit_step (Kd.int .i64) _ 3 ?hg (N := 35) ?hd (xs := ([] : List Int)) (inner := []) (ok := fun _ => True) (okp := fun _ => True) ?hr ?hp (fun _ hk => hk) trivial (Below.refl _ _) (Nat.le_refl _) (by simp) ?_; (case hd => rfl); (case hg => rfl); (case hr => first | (go_simp; done) | (go_simp; rfl)); (case hp => exact (Reps.none _ _))
     intro v389 w42 ho43 hb hg_ hnew_
     clear hg_ hnew_
     (first | rw [← Ny388.out] at ho43 | (simp only [Int.reduceToNat] at ho43; rw [← Ny388.out] at ho43))
     have HO390 := rl w (rn ho43 HO397)
     replace HO397 := re HO397 ho43 hb
     replace HB := bs HB hb
     clear hb ho43
     refine hK.out _ _ trivial (fun hHeld => ?_)
     clear hK K
     refine nB ?_
     refine oa 4 39 (mb 13 1919) HT_ (fun K hK => ?_)
     refine Kd.R_append_rows_step (Kd.int .i64) (w0 := w) w.heap.size (by rfl) (.tmp 35) (.tmp 38) 35 3 (.int .i64 0) 8 rfl Try.underlying35 info3 rfl (by decide) (by omega) v389 y388 (l0.take (x5_1 : Int).toNat) _ _ _ (n1 v396) (fun _ => False) rfl rfl ?aO ?aR (fun _ _ h => h) (fun _ h => h.elim) ?aF ?aB ?aS ?aL ?_
     (case aR => (have hr_ := HR391.out; rw [show (l0.take (x5_1 : Int).toNat).length = x5_1.toNat from (by rw [List.length_take]; have h_ : (x5_1 : Int) ≤ (l0.length : Int) := dA; omega)] at hr_; (repeat (first | exact (Kd.C_below hr_ HB.out) | (with_reducible refine Kd.C_alloc ?_ _) | (with_reducible refine Kd.C_drewN ?_ _) | (with_reducible refine Kd.C_drew ?_))); done))
     (case aB => exact bA)
     (case aF => exact (fun k_ hk => Kd.fresh' (Kd.R_lt (rK HO397)) k_ hk))
     (case aO => exact (rm HO390 (fun _ hk => hk.2)))
     (case aS => exact (below_size bA))
     (case aL => have := LMc32.out; have hlx_ := (show (l0.take (x5_1 : Int).toNat).length = x5_1.toNat from (by rw [List.length_take]; have h_ : (x5_1 : Int) ≤ (l0.length : Int) := dA; omega)); omega)
     intro v393 w44 ho hb hg hat
     rw [← Ny392.out] at ho
     have n0_ := Aside0.mk (Kd.R_after (ok := (fun _ => True)) (rK HO397) hg hat)
     have n1_ := Aside0.mk (hb)
     have n2_ := Aside0.mk (ho)
     clear HO397
     clear HB
     clear HO390
     have HO397 := n0_
     have HB := n1_
     have HO394 := n2_
     clear n0_ n1_ n2_
     clear ho hb hg hat
     refine hK.out _ _ trivial (fun hHeld => ?_)
     clear hK K
     refine nB ?_
     exact mB (hCont (v389, v393, v396) _ ⟨(rK HO394), (rm HO397 (fun _ hk => hk.2)), bA⟩)
   rintro ⟨v389, v393, v396⟩ w45 ⟨h0_, h1_, h2_⟩
   have n0_ : Aside0 (Kd.R (Kd.int .i64) 3 w45 w.heap.size (n1 v396) v393 y392) := ⟨h0_⟩
   have n1_ : Aside0 (Kd.R (Kd.int .i64) 3 w45 w.heap.size (n1 v393) v396 y395) := ⟨h1_⟩
   have n2_ : Aside0 (Below w.heap.size w w45) := ⟨h2_⟩
   clear HB
   clear h0_ h1_ h2_
   have HO394 := n0_
   have HO397 := n1_
   have HB := n2_
   clear n0_ n1_ n2_
   have hHeld := trivial
   obtain ⟨Ao47, co47, eo47⟩ := Kd.R_slice HO397.out
   (first | subst eo47 | (injection eo47 with f1_ f2_ f3_; have f4_ := f1_.symm; have f5_ := f3_.symm; clear f1_ f2_ f3_; subst f4_; subst f5_))
   refine norm_ (a' := ?_) ?_ ?_
   rotate_left
   ·
    simp only [putAll, Act.put, List.setIfInBounds_toArray, List.set_cons_zero, List.set_cons_succ]
    rfl
   refine oa 7 42 (mb 13 2047) HT_ (fun K hK => ?_)
   refine Kd.R_append_rows_step (Kd.int .i64) (w0 := w) w.heap.size (by rfl) (.tmp 39) (.tmp 41) 35 3 (.int .i64 0) 8 rfl Try.underlying35 info3 rfl (by decide) (by omega) v393 y392 y395 _ _ _ (n1 (.slice Ao47 y395.length co47)) (fun _ => False) rfl rfl ?aO ?aR (fun _ _ h => h) (fun _ h => h.elim) ?aF ?aB ?aS ?aL ?_
   (case aR => repeat (first | exact (Kd.R_reads' HO397.out).2.2 | (with_reducible refine Kd.C_alloc ?_ _) | (with_reducible refine Kd.C_drewN ?_ _) | (with_reducible refine Kd.C_drew ?_)))
   (case aB => exact bA)
   (case aF => exact (fun k_ hk => Kd.fresh' (Kd.R_lt (rK HO397)) k_ hk))
   (case aO => exact (rK HO394))
   (case aS => exact (below_size bA))
   (case aL => have := LMc33.out; omega)
   intro v399 w46 ho hb hg hat
   rw [← Ny398.out] at ho
   have n0_ := Aside0.mk (Kd.R_after (ok := (fun _ => True)) (rm HO397 (fun _ hk => ⟨trivial, hk⟩)) hg hat)
   have n1_ := Aside0.mk (hb)
   have n2_ := Aside0.mk (ho)
   clear HO397
   clear HB
   clear HO394
   have HO397 := n0_
   have HB := n1_
   have HO400 := n2_
   clear n0_ n1_ n2_
   clear ho hb hg hat
   refine hK.out _ _ trivial (fun hHeld => ?_)
   clear hK K
   refine nB ?_
   refine oa 11 46 (mb 13 4095) HT_ (fun K hK => ?_)
   refine Kd.R_append_rows_step (Kd.int .i64) (w0 := w) w.heap.size (by rfl) (.tmp 42) (.tmp 45) 35 3 (.int .i64 0) 8 rfl Try.underlying35 info3 rfl (by decide) (by omega) v399 y398 (l0.drop (x5_1 : Int).toNat) _ _ _ (n1 (.slice Ao47 y395.length co47)) (fun _ => False) rfl rfl ?aO ?aR (fun _ _ h => h) (fun _ h => h.elim) ?aF ?aB ?aS ?aL ?_
   (case aR => (have hr_ := HR401.out; rw [show (l0.drop (x5_1 : Int).toNat).length = (l0.length - x5_1.toNat) from List.length_drop] at hr_; (repeat (first | exact (Kd.C_below hr_ HB.out) | (with_reducible refine Kd.C_alloc ?_ _) | (with_reducible refine Kd.C_drewN ?_ _) | (with_reducible refine Kd.C_drew ?_))); done))
   (case aB => exact bA)
   (case aF => exact (fun k_ hk => Kd.fresh' (Kd.R_lt (rK HO397)) k_ hk))
   (case aO => exact (rK HO400))
   (case aS => exact (below_size bA))
   (case aL => have := LMc36.out; have hlx_ := (show (l0.drop (x5_1 : Int).toNat).length = (l0.length - x5_1.toNat) from List.length_drop); omega)
   intro v403 w48 ho hb hg hat
   rw [← Ny402.out] at ho
   have n0_ := Aside0.mk (Kd.R_after (ok := (fun _ => True)) (rK HO397) hg hat)
   have n1_ := Aside0.mk (hb)
   have n2_ := Aside0.mk (ho)
   clear HO397
   clear HB
   clear HO400
   have HO397 := n0_
   have HB := n1_
   have HO404 := n2_
   clear n0_ n1_ n2_
   clear ho hb hg hat
   refine hK.out _ _ trivial (fun hHeld => ?_)
   clear hK K
   refine nB ?_
   refine pa 12 4 (mb 13 8191) HT_ ?_
   refine eA HT_ ?_
   try go_wp2
   go_ret
   exact ⟨_, rA, rm HO404 (fun _ hk => trivial), bA⟩

/-! ### spec_AddToStage: function 134 -/
mutual
def spec_AddToStage.l0 : Nat → List (S50) → List Int → List Int → Int → Option (List Int)
 | 0, _, _, _, _ => none
 | k + 1, x0, x1, x5, x6 => if x6 < (x0.length : Int) then ((spec_IsTogether.f k x0 x1).bind fun t411 => (spec_AddToStage.j1 k x0 x1 x5 x6 t411)) else (spec_AddToStage.j1 k x0 x1 x5 x6 false)
def spec_AddToStage.j1 : Nat → List (S50) → List Int → List Int → Int → Bool → Option (List Int)
 | 0, _, _, _, _, _ => none
 | k + 1, x0, x1, x5, x6, x19 => if x19 = true then (if 0 ≤ x6 then (if x6 < (x0.length : Int) then ((spec_l6Put.f k x5 ((rd_T50 x0 x6).f0)).bind fun t413 => ((spec_IsTogether.f k x0 t413).bind fun t416 => (if t416 = true then (spec_AddToStage.l0 k x0 x1 t413 (wrap64 (x6 + 1))) else (spec_AddToStage.l0 k x0 x1 x5 (wrap64 (x6 + 1)))))) else (none)) else (none)) else (some x5)
end
def spec_AddToStage.f (k : Nat) (l0 : List (S50)) (l1 : List Int) : Option (List Int) := (some (([] : List Int) : List Int)).bind fun y405 => (if y405.length + l1.length < 17592186044416 then (spec_AddToStage.l0 k l0 l1 (y405 ++ l1) 0) else (none))
theorem spec_AddToStage.mono_l : ∀ k, (∀ y0 y1 y2 y3, LeO (spec_AddToStage.l0 k y0 y1 y2 y3) (spec_AddToStage.l0 (k + 1) y0 y1 y2 y3)) ∧ (∀ y0 y1 y2 y3 y4, LeO (spec_AddToStage.j1 k y0 y1 y2 y3 y4) (spec_AddToStage.j1 (k + 1) y0 y1 y2 y3 y4))
 | 0 => ⟨fun _ _ _ _ r h => by simp [spec_AddToStage.l0] at h, fun _ _ _ _ _ r h => by simp [spec_AddToStage.j1] at h⟩
 | k + 1 => by
  obtain ⟨ih0, ih1⟩ := spec_AddToStage.mono_l k
  refine ⟨?_, ?_⟩
  ·
   intro y0 y1 y2 y3
   unfold spec_AddToStage.l0
   exact mz4 ih0 ih1 spec_IsTogether.mono spec_l6Put.mono
  ·
   intro y0 y1 y2 y3 y4
   unfold spec_AddToStage.j1
   exact mz4 ih0 ih1 spec_IsTogether.mono spec_l6Put.mono
theorem spec_AddToStage.mono : ∀ a0 a1 k, LeO (spec_AddToStage.f k a0 a1) (spec_AddToStage.f (k + 1) a0 a1) := by
 intro a0 a1 k
 obtain ⟨ih0, ih1⟩ := spec_AddToStage.mono_l k
 unfold spec_AddToStage.f
 exact mz4 ih0 ih1 spec_IsTogether.mono spec_l6Put.mono
set_option maxHeartbeats 8000000 in
set_option maxRecDepth 100000 in
theorem spec_AddToStage.calls (k : Nat) (A0 : Option Addr) (c0 : Nat) (l0 : List (S50)) (A1 : Option Addr) (c1 : Nat) (l1 : List Int) (r : List Int) (w : World) (hr0 : Kd.C k50 w A0 l0.length l0) (hc0 : l0.length ≤ c0) (hr1 : Kd.C (Kd.int .i64) w A1 l1.length l1) (hc1 : l1.length ≤ c1) (h : spec_AddToStage.f k l0 l1 = some r) :
  Calls Try.prog 134 #[.slice A0 l0.length c0, .slice A1 l1.length c1] w fun e w' => ∃ v0_ : Value, e = .returned (v0_) ∧ Kd.R (Kd.int .i64) 3 w' w.heap.size (fun _ => True) v0_ r ∧ Below w.heap.size w w' := by
 have HR0 := Aside0.mk hr0
 have HC0 := Aside0.mk hc0
 clear hr0 hc0
 have HR1 := Aside0.mk hr1
 have HC1 := Aside0.mk hc1
 clear hr1 hc1
 have HB := Aside0.mk (Below.refl w.heap.size w)
 have H : ((some (([] : List Int) : List Int)).bind fun y405 => (if y405.length + l1.length < 17592186044416 then (spec_AddToStage.l0 k l0 l1 (y405 ++ l1) 0) else (none))) = some r := h
 clear h
 obtain ⟨y405, hy405⟩ : ∃ y_ : List Int, y_ = (([] : List Int)) := ⟨_, rfl⟩
 replace H : (if y405.length + l1.length < 17592186044416 then (spec_AddToStage.l0 k l0 l1 (y405 ++ l1) 0) else (none)) = some r := rH H hy405
 have Ny405 := Aside0.mk hy405
 clear hy405
 have c3 : y405.length + l1.length < 17592186044416 := ifN H
 replace H := ifT H
 have LMc3 := Aside0.mk c3
 clear c3
 obtain ⟨y408, hy408⟩ : ∃ y_ : List Int, y_ = (y405 ++ l1) := ⟨_, rfl⟩
 replace H : (spec_AddToStage.l0 k l0 l1 y408 0) = some r := rH H hy408
 have Ny408 := Aside0.mk hy408
 clear hy408
 have H' := Aside0.mk H
 clear H
 go_enter Try.func134, Try.ntmps134
 go_wp2_with (first | ((with_reducible refine gate_dst (N := 8) rfl ?_); refine Kd.R_lit (Kd.int .i64) _ 3 ?hg (N := 8) ?hd (xs := ([] : List Int)) (inner := []) (ok := fun _ => True) (okp := fun _ => True) ?hr ?hp (fun _ hk => hk) trivial (Below.refl _ _) (Nat.le_refl _) (by simp) ?_; (case hd => rfl); (case hg => rfl); (case hr => first | (go_simp; done) | (go_simp; rfl)); (case hp => exact (Reps.none _ _)); intro v406 w4 ho5 hb hg_ hnew_; clear hg_ hnew_; (first | rw [← Ny405.out] at ho5 | (simp only [Int.reduceToNat] at ho5; rw [← Ny405.out] at ho5)); have HO407 := rl w ho5; replace HB := bs HB hb; clear hb ho5) | ((with_reducible refine gate_builtin (b := .append) (xs := #[.tmp 8, .tmp 9]) rfl ?_); at_builtin; refine Kd.R_append_rows (Kd.int .i64) (w0 := w) w.heap.size rfl (.tmp 8) (.tmp 9) 35 3 (.int .i64 0) 8 rfl Try.underlying35 info3 rfl (by decide) (by omega) v406 y405 l1 _ _ _ (fun _ => True) (fun _ => False) rfl rfl ?aO ?aR (fun _ _ h => h) (fun _ h => h.elim) ?aF ?aB ?aS ?aL ?_; (case aR => repeat (first | exact (Kd.C_below HR1.out HB.out) | (with_reducible refine Kd.C_alloc ?_ _) | (with_reducible refine Kd.C_drewN ?_ _) | (with_reducible refine Kd.C_drew ?_))); (case aB => exact bA); (case aF => exact (fun _ _ => trivial)); (case aO => exact (rK HO407)); (case aS => exact (below_size bA)); (case aL => have := LMc3.out; omega); intro v409 w6 ho hb hg hat; rw [← Ny408.out] at ho; have n0_ := Aside0.mk (hb); have n1_ := Aside0.mk (ho); clear HB; clear HO407; have HB := n0_; have HO410 := n1_; clear n0_ n1_; clear ho hb hg hat))
 go_loopg [5, 6] k (fun kq v5 v6 w' => ∃ (x5_1 : List Int) (x6_1 : Int), v6 = .int .i64 x6_1 ∧ Aside0 (spec_AddToStage.l0 kq l0 l1 x5_1 x6_1 = some r) ∧ Aside0 (kq ≤ k) ∧ Aside0 (Kd.R (Kd.int .i64) 3 w' w.heap.size (fun _ => True) v5 x5_1) ∧ Aside0 (Below w.heap.size w w'))
 case atStart => exact ⟨(y408), (0), rS, H', ⟨Nat.le_refl _⟩, ⟨rK HO410⟩, ⟨bA⟩⟩
 case round =>
  clear H'
  obtain ⟨x5_1, x6_1, rfl, HA, HK1, HO_5, HB⟩ := hrel
  cases gk with
  | zero => exact absurd HA.out (by simp [spec_AddToStage.l0])
  | succ k1 =>
   have H := HA.out
   clear HA
   simp only [spec_AddToStage.l0] at H
   have HC7 := Aside0.mk H
   clear H
   go_upto_region 3 with (fail)
   go_cut [19] (fun v19 wc => ∃ (kq : Nat) (x19_6 : Bool), v19 = .bool x19_6 ∧ Aside0 (spec_AddToStage.j1 kq l0 l1 x5_1 x6_1 x19_6 = some r) ∧ Aside0 (kq ≤ k1) ∧ Aside0 (Kd.R (Kd.int .i64) 3 wc w.heap.size (fun _ => True) u5 x5_1) ∧ Aside0 (Below w.heap.size w wc))
   case first =>
    have H := HC7.out
    clear HC7
    by_cases c8 : x6_1 < (l0.length : Int)
    ·
     rw [if_pos c8] at H
     have c8b0 := decide_eq_true c8
     clear c8
     (first | rw [c8b0] | (simp only [i64_w, i32_w]; rw [c8b0]) | skip)
     obtain ⟨t411, A9, H⟩ := bindE H
     try dsimp only at H
     have H' := Aside0.mk H
     clear H
     go_wp2_with (first | (go_at_call 112; (with_reducible refine (spec_IsTogether.calls k1 _ _ l0 _ _ l1 t411 _ ?_ ?_ ?_ ?_ A9.out).mono ?_); exact cB HR0; exact HC0.out; exact cB HR1; exact HC1.out; rintro e w10 ⟨rfl, hb⟩; replace HO_5 := rb HO_5 hb; replace HB := bs HB hb; (try clear hb)))
     go_meet
     case rel => exact ⟨_, (t411), rS, H', ⟨by have := HK1.out; first | omega | exact Nat.le_refl _⟩, ⟨rK HO_5⟩, ⟨bA⟩⟩
    rw [if_neg c8] at H
    have c8b0 := decide_eq_false c8
    clear c8
    (first | rw [c8b0] | (simp only [i64_w, i32_w]; rw [c8b0]) | skip)
    have H' := Aside0.mk H
    clear H
    go_wp2
    go_meet
    case rel => exact ⟨_, (false), rS, H', ⟨by have := HK1.out; first | omega | exact Nat.le_refl _⟩, ⟨rK HO_5⟩, ⟨bA⟩⟩
   case rest =>
    clear HC7
    obtain ⟨kq, x19_6, rfl, HA, HJ6, HO_5, HB⟩ := hcut
    cases kq with
    | zero => exact absurd HA.out (by simp [spec_AddToStage.j1])
    | succ kj6 =>
     have H := HA.out
     clear HA
     simp only [spec_AddToStage.j1] at H
     by_cases c11 : x19_6 = true
     ·
      subst c11
      have H1 : (if 0 ≤ x6_1 then (if x6_1 < (l0.length : Int) then ((spec_l6Put.f kj6 x5_1 ((rd_T50 l0 x6_1).f0)).bind fun t413 => ((spec_IsTogether.f kj6 l0 t413).bind fun t416 => (if t416 = true then (spec_AddToStage.l0 kj6 l0 l1 t413 (wrap64 (x6_1 + 1))) else (spec_AddToStage.l0 kj6 l0 l1 x5_1 (wrap64 (x6_1 + 1)))))) else (none)) else (none)) = some r := by rw [if_pos rfl] at H; exact H
      clear H
      have H := H1
      clear H1
      have c12 : 0 ≤ x6_1 := ifN H
      replace H := ifT H
      have c12b0 := decide_eq_true c12
      clear c12
      have c13 : x6_1 < (l0.length : Int) := ifN H
      replace H := ifT H
      have c13b0 := decide_eq_true c13
      clear c13
      obtain ⟨t413, A14, H⟩ := bindE H
      try dsimp only at H
      obtain ⟨t416, A15, H⟩ := bindE H
      try dsimp only at H
      by_cases c16 : t416 = true
      ·
       subst c16
       have H1 : (spec_AddToStage.l0 kj6 l0 l1 t413 (wrap64 (x6_1 + 1))) = some r := by rw [if_pos rfl] at H; exact H
       clear H
       have H := H1
       clear H1
       have H' := Aside0.mk H
       clear H
       obtain ⟨p412, q412⟩ : 0 ≤ (x6_1 : Int) ∧ x6_1 < (l0.length : Int) := ⟨dA, dA⟩
       obtain ⟨ad412, e412, hx412_0, hx412_1, hx412_2, hx412_3⟩ := at_T50 (Kd.C_below HR0.out HB.out) x6_1 p412 q412
       cases e412
       obtain ⟨p412, q412⟩ := eT p412 q412
       obtain ⟨Ao17, co17, eo17⟩ := Kd.R_slice HO_5.out
       subst eo17
       go_wp2_with (first | ((with_reducible refine gate_callee (f := 135) rfl ?_); refine gL (some 28) Try.func135 #[.slice Ao17 x5_1.length co17, .int .i64 ((rd_T50 l0 x6_1).f0)] ?_; (with_reducible refine (spec_l6Put.calls kj6 _ _ x5_1 ((rd_T50 l0 x6_1).f0) t413 _ ?_ ?_ A14.out).mono ?_); exact cO ⟨(Kd.R_reads' HO_5.out).2.2⟩; exact (Kd.R_reads' HO_5.out).2.1; rintro e w18 ⟨v414, rfl, ho0, hb⟩; refine ⟨_, rfl, ?_⟩; have HO415 := rl w (rn ho0 HO_5); replace HO_5 := re HO_5 ho0 hb; replace HB := bs HB hb; (try clear hb); (try clear ho0); obtain ⟨Ao19, co19, eo19⟩ := Kd.R_slice HO415.out; subst eo19) | ((with_reducible refine gate_callee (f := 112) rfl ?_); refine gL (some 31) Try.func112 #[.slice (some ad412) l0.length c0, .slice Ao19 t413.length co19] ?_; (with_reducible refine (spec_IsTogether.calls kj6 _ _ l0 _ _ t413 true _ ?_ ?_ ?_ ?_ A15.out).mono ?_); exact cB HR0; exact HC0.out; exact cO ⟨(Kd.R_reads' HO415.out).2.2⟩; exact (Kd.R_reads' HO415.out).2.1; rintro e w20 ⟨rfl, hb⟩; refine ⟨_, rfl, ?_⟩; replace HO_5 := rb HO_5 hb; replace HO415 := rb HO415 hb; replace HB := bs HB hb; (try clear hb)))
       go_roundg kj6
       case measure => have := HK1.out; have := HJ6.out; omega
       case rel => exact ⟨(t413), (wrap64 (x6_1 + 1)), rS, H', ⟨by have := HK1.out; have := HJ6.out; omega⟩, ⟨rm HO415 (fun _ hk => trivial)⟩, ⟨bA⟩⟩
      replace c16 := Bool.eq_false_iff.mpr c16
      subst c16
      have H1 : (spec_AddToStage.l0 kj6 l0 l1 x5_1 (wrap64 (x6_1 + 1))) = some r := by rw [if_neg (show ¬ (false = true) by decide)] at H; exact H
      clear H
      have H := H1
      clear H1
      have H' := Aside0.mk H
      clear H
      obtain ⟨p412, q412⟩ : 0 ≤ (x6_1 : Int) ∧ x6_1 < (l0.length : Int) := ⟨dA, dA⟩
      obtain ⟨ad412, e412, hx412_0, hx412_1, hx412_2, hx412_3⟩ := at_T50 (Kd.C_below HR0.out HB.out) x6_1 p412 q412
      cases e412
      obtain ⟨p412, q412⟩ := eT p412 q412
      obtain ⟨Ao21, co21, eo21⟩ := Kd.R_slice HO_5.out
      subst eo21
      go_wp2_with (first | ((with_reducible refine gate_callee (f := 135) rfl ?_); refine gL (some 28) Try.func135 #[.slice Ao21 x5_1.length co21, .int .i64 ((rd_T50 l0 x6_1).f0)] ?_; (with_reducible refine (spec_l6Put.calls kj6 _ _ x5_1 ((rd_T50 l0 x6_1).f0) t413 _ ?_ ?_ A14.out).mono ?_); exact cO ⟨(Kd.R_reads' HO_5.out).2.2⟩; exact (Kd.R_reads' HO_5.out).2.1; rintro e w22 ⟨v414, rfl, ho0, hb⟩; refine ⟨_, rfl, ?_⟩; have HO415 := rl w (rn ho0 HO_5); replace HO_5 := re HO_5 ho0 hb; replace HB := bs HB hb; (try clear hb); (try clear ho0); obtain ⟨Ao23, co23, eo23⟩ := Kd.R_slice HO415.out; subst eo23) | ((with_reducible refine gate_callee (f := 112) rfl ?_); refine gL (some 31) Try.func112 #[.slice (some ad412) l0.length c0, .slice Ao23 t413.length co23] ?_; (with_reducible refine (spec_IsTogether.calls kj6 _ _ l0 _ _ t413 false _ ?_ ?_ ?_ ?_ A15.out).mono ?_); exact cB HR0; exact HC0.out; exact cO ⟨(Kd.R_reads' HO415.out).2.2⟩; exact (Kd.R_reads' HO415.out).2.1; rintro e w24 ⟨rfl, hb⟩; refine ⟨_, rfl, ?_⟩; replace HO_5 := rb HO_5 hb; replace HO415 := rb HO415 hb; replace HB := bs HB hb; (try clear hb)))
      go_roundg kj6
      case measure => have := HK1.out; have := HJ6.out; omega
      case rel => exact ⟨(x5_1), (wrap64 (x6_1 + 1)), rS, H', ⟨by have := HK1.out; have := HJ6.out; omega⟩, ⟨rm HO_5 (fun _ hk => trivial)⟩, ⟨bA⟩⟩
     replace c11 := Bool.eq_false_iff.mpr c11
     subst c11
     have H1 : (some x5_1) = some r := by rw [if_neg (show ¬ (false = true) by decide)] at H; exact H
     clear H
     have H := H1
     clear H1
     obtain rfl := Option.some.inj H
     go_wp2
     go_ret
     exact ⟨_, rA, rK HO_5, bA⟩

/-! ### spec_CoverOf: function 89 -/
mutual
def spec_CoverOf.l0 : Nat → List (S50) → List (List Int) → List Int → Int → Option ((List (List Int)))
 | 0, _, _, _, _ => none
 | k + 1, x0, x3, x4, x5 => if x5 < (x0.length : Int) then ((spec_ArePaths.f k x0).bind fun t423 => (spec_CoverOf.j1 k x0 x3 x4 x5 t423)) else (spec_CoverOf.j1 k x0 x3 x4 x5 false)
def spec_CoverOf.j1 : Nat → List (S50) → List (List Int) → List Int → Int → Bool → Option ((List (List Int)))
 | 0, _, _, _, _, _ => none
 | k + 1, x0, x3, x4, x5, x17 => if x17 = true then (if 0 ≤ x5 then (if x5 < (x0.length : Int) then ((spec_l6Has.f k x4 ((rd_T50 x0 x5).f0)).bind fun t425 => (if t425 = true then (spec_CoverOf.l0 k x0 x3 x4 (wrap64 (x5 + 1))) else ((spec_AddToStage.f k x0 (([(rd_T50 x0 x5).f0] : List Int))).bind fun t430 => (if x3.length < 5864062014805 then (spec_CoverOf.l1 k x0 (x3 ++ [t430]) x4 x5 t430 0) else (none))))) else (none)) else (none)) else (some x3)
def spec_CoverOf.l1 : Nat → List (S50) → List (List Int) → List Int → Int → List Int → Int → Option ((List (List Int)))
 | 0, _, _, _, _, _, _ => none
 | k + 1, x0, x3, x4, x5, x6, x7 => if x7 < (x6.length : Int) then (if 0 ≤ x7 then ((spec_l6Put.f k x4 (rd x6 x7)).bind fun t437 => (spec_CoverOf.l1 k x0 x3 t437 x5 x6 (wrap64 (x7 + 1)))) else (none)) else (spec_CoverOf.l0 k x0 x3 x4 (wrap64 (x5 + 1)))
end
def spec_CoverOf.f (k : Nat) (l0 : List (S50)) : Option ((List (List Int))) := spec_CoverOf.l0 k l0 (([] : List (List Int))) (([] : List Int)) 0
theorem spec_CoverOf.mono_l : ∀ k, (∀ y0 y1 y2 y3, LeO (spec_CoverOf.l0 k y0 y1 y2 y3) (spec_CoverOf.l0 (k + 1) y0 y1 y2 y3)) ∧ (∀ y0 y1 y2 y3 y4, LeO (spec_CoverOf.j1 k y0 y1 y2 y3 y4) (spec_CoverOf.j1 (k + 1) y0 y1 y2 y3 y4)) ∧ (∀ y0 y1 y2 y3 y4 y5, LeO (spec_CoverOf.l1 k y0 y1 y2 y3 y4 y5) (spec_CoverOf.l1 (k + 1) y0 y1 y2 y3 y4 y5))
 | 0 => ⟨fun _ _ _ _ r h => by simp [spec_CoverOf.l0] at h, fun _ _ _ _ _ r h => by simp [spec_CoverOf.j1] at h, fun _ _ _ _ _ _ r h => by simp [spec_CoverOf.l1] at h⟩
 | k + 1 => by
  obtain ⟨ih0, ih1, ih2⟩ := spec_CoverOf.mono_l k
  refine ⟨?_, ?_, ?_⟩
  ·
   intro y0 y1 y2 y3
   unfold spec_CoverOf.l0
   exact mz7 ih0 ih1 ih2 spec_AddToStage.mono spec_ArePaths.mono spec_l6Has.mono spec_l6Put.mono
  ·
   intro y0 y1 y2 y3 y4
   unfold spec_CoverOf.j1
   exact mz7 ih0 ih1 ih2 spec_AddToStage.mono spec_ArePaths.mono spec_l6Has.mono spec_l6Put.mono
  ·
   intro y0 y1 y2 y3 y4 y5
   unfold spec_CoverOf.l1
   exact mz7 ih0 ih1 ih2 spec_AddToStage.mono spec_ArePaths.mono spec_l6Has.mono spec_l6Put.mono
theorem spec_CoverOf.mono : ∀ a0 k, LeO (spec_CoverOf.f k a0) (spec_CoverOf.f (k + 1) a0) := by
 intro a0 k
 obtain ⟨ih0, ih1, ih2⟩ := spec_CoverOf.mono_l k
 unfold spec_CoverOf.f
 exact mz7 ih0 ih1 ih2 spec_AddToStage.mono spec_ArePaths.mono spec_l6Has.mono spec_l6Put.mono
set_option maxHeartbeats 8000000 in
set_option maxRecDepth 100000 in
theorem spec_CoverOf.calls (k : Nat) (A0 : Option Addr) (c0 : Nat) (l0 : List (S50)) (r : List (List Int)) (w : World) (hr0 : Kd.C k50 w A0 l0.length l0) (hc0 : l0.length ≤ c0) (h : spec_CoverOf.f k l0 = some r) :
  Calls Try.prog 89 #[.slice A0 l0.length c0] w fun e w' => ∃ v0_ : Value, e = .returned (v0_) ∧ Kd.S (Kd.slice 3 (Kd.int .i64)) 35 w' w.heap.size (fun _ => True) v0_ r ∧ Below w.heap.size w w' := by
 have HR0 := Aside0.mk hr0
 have HC0 := Aside0.mk hc0
 clear hr0 hc0
 have HB := Aside0.mk (Below.refl w.heap.size w)
 have H : (spec_CoverOf.l0 k l0 (([] : List (List Int))) (([] : List Int)) 0) = some r := h
 clear h
 obtain ⟨y417, hy417⟩ : ∃ y_ : List (List Int), y_ = (([] : List (List Int))) := ⟨_, rfl⟩
 replace H : (spec_CoverOf.l0 k l0 y417 (([] : List Int)) 0) = some r := rH H hy417
 have Ny417 := Aside0.mk hy417
 clear hy417
 obtain ⟨y420, hy420⟩ : ∃ y_ : List Int, y_ = (([] : List Int)) := ⟨_, rfl⟩
 replace H : (spec_CoverOf.l0 k l0 y417 y420 0) = some r := rH H hy420
 have Ny420 := Aside0.mk hy420
 clear hy420
 have H' := Aside0.mk H
 clear H
 go_enter Try.func89, Try.ntmps89
 go_wp2_with (first | ((with_reducible refine gate_dst (N := 8) rfl ?_); refine Kd.S_lit (Kd.slice 3 (Kd.int .i64)) _ 35 ?hg (N := 8) ?hd (xs := ([] : List (List Int))) (inner := []) (ok := fun _ => True) (okp := fun _ => True) ?hr ?hp (fun _ hk => hk) trivial (Below.refl _ _) (Nat.le_refl _) (by simp) ?_; (case hd => rfl); (case hg => rfl); (case hr => first | (go_simp; done) | (go_simp; rfl)); (case hp => exact (Reps.none _ _)); intro v418 w2 ho3 hb hg_ hnew_; clear hg_ hnew_; (first | rw [← Ny417.out] at ho3 | (simp only [Int.reduceToNat] at ho3; rw [← Ny417.out] at ho3)); have HO419 := sl w ho3; replace HB := bs HB hb; clear hb ho3) | ((with_reducible refine gate_dst (N := 9) rfl ?_); refine Kd.R_lit (Kd.int .i64) _ 3 ?hg (N := 9) ?hd (xs := ([] : List Int)) (inner := []) (ok := fun _ => True) (okp := fun _ => True) ?hr ?hp (fun _ hk => hk) trivial (Below.refl _ _) (Nat.le_refl _) (by simp) ?_; (case hd => rfl); (case hg => rfl); (case hr => first | (go_simp; done) | (go_simp; rfl)); (case hp => exact (Reps.none _ _)); intro v421 w4 ho5 hb hg_ hnew_; clear hg_ hnew_; (first | rw [← Ny420.out] at ho5 | (simp only [Int.reduceToNat] at ho5; rw [← Ny420.out] at ho5)); replace HO419 := se HO419 ho5 hb; have HO422 := rl w ho5; replace HB := bs HB hb; clear hb ho5))
 go_loopg [3, 4, 5] k (fun kq v3 v4 v5 w' => ∃ (x3_1 : List (List Int)) (x4_1 : List Int) (x5_1 : Int), v5 = .int .i64 x5_1 ∧ Aside0 (spec_CoverOf.l0 kq l0 x3_1 x4_1 x5_1 = some r) ∧ Aside0 (kq ≤ k) ∧ Aside0 (Kd.S (Kd.slice 3 (Kd.int .i64)) 35 w' w.heap.size (n1 v4) v3 x3_1) ∧ Aside0 (Kd.R (Kd.int .i64) 3 w' w.heap.size (fun _ => True) v4 x4_1) ∧ Aside0 (Below w.heap.size w w'))
 case atStart => exact ⟨(y417), (y420), (0), rS, H', ⟨Nat.le_refl _⟩, ⟨sm HO419 (fun _ hk => hk.2)⟩, ⟨rK HO422⟩, ⟨bA⟩⟩
 case round =>
  clear H'
  obtain ⟨x3_1, x4_1, x5_1, rfl, HA, HK1, HO_3, HO_4, HB⟩ := hrel
  cases gk with
  | zero => exact absurd HA.out (by simp [spec_CoverOf.l0])
  | succ k1 =>
   have H := HA.out
   clear HA
   simp only [spec_CoverOf.l0] at H
   have HC6 := Aside0.mk H
   clear H
   go_upto_region 4 with (fail)
   go_cut [17] (fun v17 wc => ∃ (kq : Nat) (x17_5 : Bool), v17 = .bool x17_5 ∧ Aside0 (spec_CoverOf.j1 kq l0 x3_1 x4_1 x5_1 x17_5 = some r) ∧ Aside0 (kq ≤ k1) ∧ Aside0 (Kd.S (Kd.slice 3 (Kd.int .i64)) 35 wc w.heap.size (n1 u4) u3 x3_1) ∧ Aside0 (Kd.R (Kd.int .i64) 3 wc w.heap.size (fun _ => True) u4 x4_1) ∧ Aside0 (Below w.heap.size w wc))
   case first =>
    have H := HC6.out
    clear HC6
    by_cases c7 : x5_1 < (l0.length : Int)
    ·
     rw [if_pos c7] at H
     have c7b0 := decide_eq_true c7
     clear c7
     (first | rw [c7b0] | (simp only [i64_w, i32_w]; rw [c7b0]) | skip)
     obtain ⟨t423, A8, H⟩ := bindE H
     try dsimp only at H
     have H' := Aside0.mk H
     clear H
     go_wp2_with (first | (go_at_call 33; (with_reducible refine (spec_ArePaths.calls k1 _ _ l0 t423 _ ?_ ?_ A8.out).mono ?_); exact cB HR0; exact HC0.out; rintro e w9 ⟨rfl, hb⟩; replace HO_3 := sb HO_3 hb; replace HO_4 := rb HO_4 hb; replace HB := bs HB hb; (try clear hb)))
     go_meet
     case rel => exact ⟨_, (t423), rS, H', ⟨by have := HK1.out; first | omega | exact Nat.le_refl _⟩, ⟨sK HO_3⟩, ⟨rK HO_4⟩, ⟨bA⟩⟩
    rw [if_neg c7] at H
    have c7b0 := decide_eq_false c7
    clear c7
    (first | rw [c7b0] | (simp only [i64_w, i32_w]; rw [c7b0]) | skip)
    have H' := Aside0.mk H
    clear H
    go_wp2
    go_meet
    case rel => exact ⟨_, (false), rS, H', ⟨by have := HK1.out; first | omega | exact Nat.le_refl _⟩, ⟨sK HO_3⟩, ⟨rK HO_4⟩, ⟨bA⟩⟩
   case rest =>
    clear HC6
    obtain ⟨kq, x17_5, rfl, HA, HJ5, HO_3, HO_4, HB⟩ := hcut
    cases kq with
    | zero => exact absurd HA.out (by simp [spec_CoverOf.j1])
    | succ kj5 =>
     have H := HA.out
     clear HA
     simp only [spec_CoverOf.j1] at H
     by_cases c10 : x17_5 = true
     ·
      subst c10
      have H1 : (if 0 ≤ x5_1 then (if x5_1 < (l0.length : Int) then ((spec_l6Has.f kj5 x4_1 ((rd_T50 l0 x5_1).f0)).bind fun t425 => (if t425 = true then (spec_CoverOf.l0 kj5 l0 x3_1 x4_1 (wrap64 (x5_1 + 1))) else ((spec_AddToStage.f kj5 l0 (([(rd_T50 l0 x5_1).f0] : List Int))).bind fun t430 => (if x3_1.length < 5864062014805 then (spec_CoverOf.l1 kj5 l0 (x3_1 ++ [t430]) x4_1 x5_1 t430 0) else (none))))) else (none)) else (none)) = some r := by rw [if_pos rfl] at H; exact H
      clear H
      have H := H1
      clear H1
      have c11 : 0 ≤ x5_1 := ifN H
      replace H := ifT H
      have c11b0 := decide_eq_true c11
      clear c11
      have c12 : x5_1 < (l0.length : Int) := ifN H
      replace H := ifT H
      have c12b0 := decide_eq_true c12
      clear c12
      obtain ⟨t425, A13, H⟩ := bindE H
      try dsimp only at H
      by_cases c14 : t425 = true
      ·
       subst c14
       have H1 : (spec_CoverOf.l0 kj5 l0 x3_1 x4_1 (wrap64 (x5_1 + 1))) = some r := by rw [if_pos rfl] at H; exact H
       clear H
       have H := H1
       clear H1
       have H' := Aside0.mk H
       clear H
       obtain ⟨p424, q424⟩ : 0 ≤ (x5_1 : Int) ∧ x5_1 < (l0.length : Int) := ⟨dA, dA⟩
       obtain ⟨ad424, e424, hx424_0, hx424_1, hx424_2, hx424_3⟩ := at_T50 (Kd.C_below HR0.out HB.out) x5_1 p424 q424
       cases e424
       obtain ⟨p424, q424⟩ := eT p424 q424
       obtain ⟨Ao15, co15, eo15⟩ := Kd.R_slice HO_4.out
       subst eo15
       go_wp2_with (first | ((with_reducible refine gate_callee (f := 133) rfl ?_); refine gL (some 26) Try.func133 #[.slice Ao15 x4_1.length co15, .int .i64 ((rd_T50 l0 x5_1).f0)] ?_; (with_reducible refine (spec_l6Has.calls kj5 _ _ x4_1 ((rd_T50 l0 x5_1).f0) true _ ?_ ?_ A13.out).mono ?_); exact cO ⟨(Kd.R_reads' HO_4.out).2.2⟩; exact (Kd.R_reads' HO_4.out).2.1; rintro e w' ⟨rfl, ⟨nd, rfl⟩⟩; refine ⟨_, rfl, ?_⟩))
       go_roundg kj5
       case measure => have := HK1.out; have := HJ5.out; omega
       case rel => exact ⟨(x3_1), (x4_1), (wrap64 (x5_1 + 1)), rS, H', ⟨by have := HK1.out; have := HJ5.out; omega⟩, ⟨sK HO_3⟩, ⟨rK HO_4⟩, ⟨bA⟩⟩
      replace c14 := Bool.eq_false_iff.mpr c14
      subst c14
      have H1 : ((spec_AddToStage.f kj5 l0 (([(rd_T50 l0 x5_1).f0] : List Int))).bind fun t430 => (if x3_1.length < 5864062014805 then (spec_CoverOf.l1 kj5 l0 (x3_1 ++ [t430]) x4_1 x5_1 t430 0) else (none))) = some r := by rw [if_neg (show ¬ (false = true) by decide)] at H; exact H
      clear H
      have H := H1
      clear H1
      obtain ⟨y427, hy427⟩ : ∃ y_ : List Int, y_ = (([(rd_T50 l0 x5_1).f0] : List Int)) := ⟨_, rfl⟩
      replace H : ((spec_AddToStage.f kj5 l0 y427).bind fun t430 => (if x3_1.length < 5864062014805 then (spec_CoverOf.l1 kj5 l0 (x3_1 ++ [t430]) x4_1 x5_1 t430 0) else (none))) = some r := rH H hy427
      have Ny427 := Aside0.mk hy427
      clear hy427
      obtain ⟨t430, A16, H⟩ := bindE H
      try dsimp only at H
      have c17 : x3_1.length < 5864062014805 := ifN H
      replace H := ifT H
      have LMc17 := Aside0.mk c17
      clear c17
      obtain ⟨y433, hy433⟩ : ∃ y_ : List (List Int), y_ = (x3_1 ++ [t430]) := ⟨_, rfl⟩
      replace H : (spec_CoverOf.l1 kj5 l0 y433 x4_1 x5_1 t430 0) = some r := rH H hy433
      have Ny433 := Aside0.mk hy433
      clear hy433
      have H' := Aside0.mk H
      clear H
      obtain ⟨p424, q424⟩ : 0 ≤ (x5_1 : Int) ∧ x5_1 < (l0.length : Int) := ⟨dA, dA⟩
      obtain ⟨ad424, e424, hx424_0, hx424_1, hx424_2, hx424_3⟩ := at_T50 (Kd.C_below HR0.out HB.out) x5_1 p424 q424
      cases e424
      obtain ⟨p424, q424⟩ := eT p424 q424
      obtain ⟨Ao18, co18, eo18⟩ := Kd.R_slice HO_4.out
      subst eo18
      go_wp2_with (first | ((with_reducible refine gate_callee (f := 133) rfl ?_); refine gL (some 26) Try.func133 #[.slice Ao18 x4_1.length co18, .int .i64 ((rd_T50 l0 x5_1).f0)] ?_; (with_reducible refine (spec_l6Has.calls kj5 _ _ x4_1 ((rd_T50 l0 x5_1).f0) false _ ?_ ?_ A13.out).mono ?_); exact cO ⟨(Kd.R_reads' HO_4.out).2.2⟩; exact (Kd.R_reads' HO_4.out).2.1; rintro e w' ⟨rfl, ⟨nd, rfl⟩⟩; refine ⟨_, rfl, ?_⟩; have p426 : 0 ≤ (x5_1 : Int) := dA; have q426 : x5_1 < (l0.length : Int) := dA; obtain ⟨ad426, e426, hx426_0, hx426_1, hx426_2, hx426_3⟩ := at_T50 HR0.out x5_1 p426 q426; obtain rfl : ad424 = ad426 := (by injection e426); replace hx426_0 := hC HB hx426_0; replace hx426_1 := hC HB hx426_1; replace hx426_2 := hC HB hx426_2; replace hx426_3 := hC HB hx426_3; replace p426 := eq_true p426; replace q426 := eq_true q426) | ((with_reducible refine gate_dst (N := 33) rfl ?_); refine Kd.R_lit (Kd.int .i64) _ 3 ?hg (N := 33) ?hd (xs := ([(rd_T50 l0 x5_1).f0] : List Int)) (inner := [.int .i64 ((rd_T50 l0 x5_1).f0)]) (ok := fun _ => True) (okp := fun _ => True) ?hr ?hp (fun _ hk => hk) trivial (Below.refl _ _) (Nat.le_refl _) (by simp) ?_; (case hd => rfl); (case hg => rfl); (case hr => first | (go_simp; done) | (go_simp; rfl)); (case hp => exact (Reps.one (show Kd.M (Kd.int .i64) _ _ _ ((rd_T50 l0 x5_1).f0) [.int .i64 ((rd_T50 l0 x5_1).f0)] from rfl) (Reps.none _ _))); intro v428 w19 ho20 hb hg_ hnew_; clear hg_ hnew_; (first | rw [← Ny427.out] at ho20 | (simp only [Int.reduceToNat] at ho20; rw [← Ny427.out] at ho20)); replace HO_3 := se HO_3 ho20 hb; have HO429 := rl w (rn ho20 HO_4); replace HO_4 := re HO_4 ho20 hb; replace HB := bs HB hb; clear hb ho20; obtain ⟨Ao21, co21, eo21⟩ := Kd.R_slice HO429.out; subst eo21) | ((with_reducible refine gate_callee (f := 134) rfl ?_); refine gL (some 34) Try.func134 #[.slice (some ad424) l0.length c0, .slice Ao21 y427.length co21] ?_; (with_reducible refine (spec_AddToStage.calls kj5 _ _ l0 _ _ y427 t430 _ ?_ ?_ ?_ ?_ A16.out).mono ?_); exact cB HR0; exact HC0.out; exact cO ⟨(Kd.R_reads' HO429.out).2.2⟩; exact (Kd.R_reads' HO429.out).2.1; rintro e w22 ⟨v431, rfl, ho0, hb⟩; refine ⟨_, rfl, ?_⟩; replace HO_3 := se HO_3 ho0 hb; have HO432 := rl w (rn (rn ho0 HO_4) HO429); replace HO_4 := re HO_4 ho0 hb; replace HO429 := re HO429 ho0 hb; replace HB := bs HB hb; (try clear hb); (try clear ho0); obtain ⟨Ao24, co24, eo24⟩ := Kd.R_slice HO432.out; subst eo24) | ((with_reducible refine gate_builtin (b := .append) (xs := #[.tmp 35, .tmp 37]) rfl ?_); at_builtin; refine Kd.S_append (Kd.slice 3 (Kd.int .i64)) (w0 := w) w.heap.size rfl (.tmp 35) (.tmp 37) 103 35 (.slice none 0 0) 24 rfl Try.underlying103 info35 rfl (by decide) (by omega) u3 x3_1 t430 [.slice Ao24 t430.length co24] (n2 (.slice Ao18 x4_1.length co18) (.slice Ao21 y427.length co21)) (fun k_ => some k_ = (.slice Ao24 t430.length co24 : Value).ownBlock) rfl rfl ?aP (fun k_ hk_ => ((Kd.R_mono (ok' := fun k_ => ((n2 (.slice Ao18 x4_1.length co18) (.slice Ao21 y427.length co21))) k_ ∧ some k_ ≠ (u3 : Value).ownBlock) (Kd.R_apart' (HO432.out) (Kd.S_typed HO_3.out) (by decide)) (fun k_ hk => ⟨⟨hk.1.1.2, hk.1.2⟩, hk.2⟩))).1 k_ hk_.symm) ?aF ?aO ?aB ?aS ?aL ?_; (case aP => exact Kd.M_row (Kd.R_mono (Kd.R_tight rfl (Kd.R_mono (ok' := fun k_ => ((n2 (.slice Ao18 x4_1.length co18) (.slice Ao21 y427.length co21))) k_ ∧ some k_ ≠ (u3 : Value).ownBlock) (Kd.R_apart' (HO432.out) (Kd.S_typed HO_3.out) (by decide)) (fun k_ hk => ⟨⟨hk.1.1.2, hk.1.2⟩, hk.2⟩))) (fun _ h_ => h_))); (case aB => exact bA); (case aF => exact (fun k_ hk => ⟨Kd.fresh' (Kd.R_lt (rK HO_4)) k_ hk, Kd.fresh' (Kd.R_lt (rK HO429)) k_ hk⟩)); (case aO => exact (sm HO_3 (fun k_ hk => ⟨⟨hk.1.1, hk.1.2⟩, fun e_ => hk.2 e_⟩))); (case aS => exact (below_size bA)); (case aL => have := LMc17.out; omega); intro v434 w23 ho hb hg hat; rw [← Ny433.out] at ho; have n0_ := Aside0.mk (Kd.R_over' (rK HO_4) (Kd.S_typed (sK HO_3)) (by decide) hg); have n1_ := Aside0.mk (Kd.R_over' (rK HO429) (Kd.S_typed (sK HO_3)) (by decide) hg); have n2_ := Aside0.mk (Kd.R_over' (rK HO432) (Kd.S_typed (sK HO_3)) (by decide) hg); have n3_ := Aside0.mk (hb); have n4_ := Aside0.mk (ho); clear HO_4; clear HO429; clear HO432; clear HB; clear HO_3; have HO_4 := n0_; have HO429 := n1_; have HO432 := n2_; have HB := n3_; have HO435 := n4_; clear n0_ n1_ n2_ n3_ n4_; clear ho hb hg hat))
      go_loopg [4, 7] kj5 (fun kq v4 v7 w' => ∃ (x4_3 : List Int) (x7_3 : Int), v7 = .int .i64 x7_3 ∧ Aside0 (spec_CoverOf.l1 kq l0 y433 x4_3 x5_1 t430 x7_3 = some r) ∧ Aside0 (kq ≤ kj5) ∧ Aside0 (Kd.S (Kd.slice 3 (Kd.int .i64)) 35 w' w.heap.size (n1 v4) v434 y433) ∧ Aside0 (Kd.R (Kd.int .i64) 3 w' w.heap.size (n1 (.slice Ao24 t430.length co24)) v4 x4_3) ∧ Aside0 (Kd.R (Kd.int .i64) 3 w' w.heap.size (n1 v4) (.slice Ao24 t430.length co24) t430) ∧ Aside0 (Below w.heap.size w w'))
      case atStart => exact ⟨(x4_1), (0), rS, H', ⟨Nat.le_refl _⟩, ⟨sm HO435 (fun _ hk => hk.1)⟩, ⟨rm HO_4 (fun _ hk => hk.2)⟩, ⟨rm HO432 (fun _ hk => hk.1.2)⟩, ⟨bA⟩⟩
      case round =>
       clear H'
       obtain ⟨x4_3, x7_3, rfl, HA, HK3, HO_3, HO_4, HO_6, HB⟩ := hrel
       cases gk with
       | zero => exact absurd HA.out (by simp [spec_CoverOf.l1])
       | succ k3 =>
        have H := HA.out
        clear HA
        simp only [spec_CoverOf.l1] at H
        by_cases c25 : x7_3 < (t430.length : Int)
        ·
         rw [if_pos c25] at H
         have c25b0 := decide_eq_true c25
         clear c25
         have c26 : 0 ≤ x7_3 := ifN H
         replace H := ifT H
         have c26b0 := decide_eq_true c26
         clear c26
         obtain ⟨t437, A27, H⟩ := bindE H
         try dsimp only at H
         have H' := Aside0.mk H
         clear H
         obtain ⟨p436, q436⟩ : 0 ≤ (x7_3 : Int) ∧ x7_3 < (t430.length : Int) := ⟨dA, dA⟩
         obtain ⟨ad436, e436, hx436_0⟩ := Kd.at_int (Kd.R_reads' HO_6.out).2.2 x7_3 p436 q436
         cases e436
         obtain ⟨p436, q436⟩ := eT p436 q436
         obtain ⟨Ao28, co28, eo28⟩ := Kd.R_slice HO_4.out
         subst eo28
         go_wp2_with (first | ((with_reducible refine gate_callee (f := 135) rfl ?_); refine gL (some 50) Try.func135 #[.slice Ao28 x4_3.length co28, .int .i64 (rd t430 x7_3)] ?_; (with_reducible refine (spec_l6Put.calls k3 _ _ x4_3 (rd t430 x7_3) t437 _ ?_ ?_ A27.out).mono ?_); exact cO ⟨(Kd.R_reads' HO_4.out).2.2⟩; exact (Kd.R_reads' HO_4.out).2.1; rintro e w29 ⟨v438, rfl, ho0, hb⟩; refine ⟨_, rfl, ?_⟩; replace HO_3 := se HO_3 ho0 hb; have HO439 := rl w (rn (rn ho0 HO_4) HO_6); replace HO_4 := re HO_4 ho0 hb; replace HO_6 := re HO_6 ho0 hb; replace HB := bs HB hb; (try clear hb); (try clear ho0)))
         go_roundg k3
         case measure => have := HK1.out; have := HJ5.out; have := HK3.out; omega
         case rel => exact ⟨(t437), (wrap64 (x7_3 + 1)), rS, H', ⟨by have := HK1.out; have := HJ5.out; have := HK3.out; omega⟩, ⟨sm HO_3 (fun _ hk => hk.2)⟩, ⟨rm HO439 (fun _ hk => hk.2)⟩, ⟨rm HO_6 (fun _ hk => hk.2)⟩, ⟨bA⟩⟩
        rw [if_neg c25] at H
        have c25b0 := decide_eq_false c25
        clear c25
        have H' := Aside0.mk H
        clear H
        go_wp2
        go_roundg k3
        case measure => have := HK1.out; have := HJ5.out; have := HK3.out; omega
        case rel => exact ⟨(y433), (x4_3), (wrap64 (x5_1 + 1)), rS, H', ⟨by have := HK1.out; have := HJ5.out; have := HK3.out; omega⟩, ⟨sK HO_3⟩, ⟨rm HO_4 (fun _ hk => trivial)⟩, ⟨bA⟩⟩
     replace c10 := Bool.eq_false_iff.mpr c10
     subst c10
     have H1 : (some x3_1) = some r := by rw [if_neg (show ¬ (false = true) by decide)] at H; exact H
     clear H
     have H := H1
     clear H1
     obtain rfl := Option.some.inj H
     go_wp2
     go_ret
     exact ⟨_, rA, sm HO_3 (fun _ hk => trivial), bA⟩

/-! ### spec_PlanFor: function 151 -/
def spec_PlanFor.l0 : Nat → List (S50) → List (S85) → List (List Int) → Int → Option ((List (S85)))
 | 0, _, _, _, _ => none
 | k + 1, x0, x3, x4, x5 => if x5 < (x4.length : Int) then (if 0 ≤ x5 then ((spec_LeastGreen.f k x0 (rd_L4 x4 x5)).bind fun t448 => (if x3.length < 4398046511104 then (spec_PlanFor.l0 k x0 (x3 ++ [(⟨rd_L4 x4 x5, t448⟩ : S85)]) x4 (wrap64 (x5 + 1))) else (none))) else (none)) else ((spec_IsPlan.f k x0 x3).bind fun t452 => (if t452 = true then (some x3) else (some (([] : List (S85))))))
def spec_PlanFor.f (k : Nat) (l0 : List (S50)) : Option ((List (S85))) := (spec_CoverOf.f k l0).bind fun t443 => (spec_PlanFor.l0 k l0 (([] : List (S85))) t443 0)
theorem spec_PlanFor.mono_l : ∀ k, (∀ y0 y1 y2 y3, LeO (spec_PlanFor.l0 k y0 y1 y2 y3) (spec_PlanFor.l0 (k + 1) y0 y1 y2 y3))
 | 0 => fun _ _ _ _ r h => by simp [spec_PlanFor.l0] at h
 | k + 1 => by
  have ih0 := spec_PlanFor.mono_l k
  ·
   intro y0 y1 y2 y3
   unfold spec_PlanFor.l0
   exact mz4 ih0 spec_CoverOf.mono spec_IsPlan.mono spec_LeastGreen.mono
theorem spec_PlanFor.mono : ∀ a0 k, LeO (spec_PlanFor.f k a0) (spec_PlanFor.f (k + 1) a0) := by
 intro a0 k
 have ih0 := spec_PlanFor.mono_l k
 unfold spec_PlanFor.f
 exact mz4 ih0 spec_CoverOf.mono spec_IsPlan.mono spec_LeastGreen.mono
def spec_PlanFor.T6 : Bool × List (List Nat × List Nat) := (true, [([], []), ([], []), ([], []), ([1, 2], [1, 2]), ([3], [3]), ([], []), ([], []), ([], []), ([6, 7], [6, 7]), ([8], [8]), ([5, 9], [5, 9]), ([4, 10], [4, 10]), ([11], [11]), ([0, 12, 10], [0, 12]), ([13, 13, 0, 1, 2, 3, 4, 5, 6, 7, 8, 9, 10, 11, 12, 13], [0, 13])])
def spec_PlanFor.B6 : List Nat := [0, 0, 0, 6, 14, 0, 0, 0, 192, 448, 992, 2046, 4094, 8191, 16383]
theorem spec_PlanFor.tab6 : rtab .any (opsOf Try.f151 6) = spec_PlanFor.T6 := by kernel_rfl
theorem spec_PlanFor.bits6 : waitsOk spec_PlanFor.T6.2 spec_PlanFor.B6 = true := by kernel_rfl
theorem spec_PlanFor.retag {α β : Type} {d : Kd α} {d' : Kd β} {e base : Nat} {w : World} {ok : Nat → Prop} {v : Value} (hs : d'.sz = d.sz) (h : d.R e w base ok v ([] : List α)) : d'.R e w base ok v ([] : List β) := by
  obtain ⟨h0, inner, ho, hr⟩ := h
  have hi : inner = [] := List.eq_nil_of_length_eq_zero (by rw [hr.1]; simp)
  subst hi
  exact ⟨h0, [], by rw [hs]; exact ho, ⟨by simp, fun j p hj => by simp at hj⟩⟩
theorem spec_PlanFor.toS {α : Type} {d : Kd α} {f : Nat → Nat} {e base : Nat} {w : World} {ok : Nat → Prop} {v : Value} {xs : List α} (h : (Kd.tag f d).R e w base ok v xs.zipIdx) : Kd.S d e w base ok v xs := ⟨f, h⟩
theorem spec_PlanFor.nilS {α : Type} {d : Kd α} {e base : Nat} {w : World} {ok : Nat → Prop} {v : Value} (h : d.R e w base ok v ([] : List α)) : Kd.S d e w base ok v ([] : List α) := ⟨fun _ => 0, (spec_PlanFor.retag (d := d) (d' := Kd.tag (fun _ => 0) d) rfl h : (Kd.tag (fun _ => 0) d).R e w base ok v ([] : List (α × Nat)))⟩
theorem spec_PlanFor.el {f : Nat → Nat} {e base n c : Nat} {w : World} {ok : Nat → Prop} {ad : Addr} {xs : List (List Int)} (h : (Kd.tag f (Kd.slice 3 (Kd.int .i64))).R e w base ok (.slice (some ad) n c) xs.zipIdx) (j : Nat) (hj : j < xs.length) :
    ∃ v, w.cell? (ad.add j) = some v ∧ (Kd.int .i64).R 3 w base (fun k => (ok k ∧ some k ≠ (Value.slice (some ad) n c).ownBlock) ∧ f k = j) v (xs.getD j ([] : List Int)) := by
  have h1 := Kd.R_reads' (Kd.S_R (spec_PlanFor.toS h))
  obtain ⟨h0, inner, ho, hr⟩ := h
  have h2 := hr.2 j (xs[j], j) (Kd.zip_at (List.getElem?_eq_getElem hj))
  obtain ⟨v, hv, hR⟩ := h2
  have e1 : xs.getD j ([] : List Int) = xs[j] := by simp [List.getD_eq_getElem?_getD, List.getElem?_eq_getElem hj]
  have hi : inner[j]? = some v := by
    have h3 : ((inner.drop (j * 1)).take 1)[0]? = some v := by
      rw [show (inner.drop (j * 1)).take 1 = [v] from hv]
      rfl
    rw [List.getElem?_take, if_pos (by decide), List.getElem?_drop] at h3
    simpa using h3
  refine ⟨v, ?_, by rw [e1]; exact hR⟩
  rcases ho.2 with ⟨hq, _⟩ | ⟨g, c', cur, hq, _, hh, _, _, _, ht⟩
  · cases hq
  · injection hq with ha _ _
    injection ha with ha
    subst ha
    rw [add_at, cell_of_row w g _ cur e (0, 0) hh, ← Array.getElem?_toList]
    have ht' : cur.toList.take (xs.zipIdx.length * 1) = inner := ht
    rw [← ht', List.getElem?_take] at hi
    split at hi
    · simpa using hi
    · cases hi
set_option maxHeartbeats 8000000 in
set_option maxRecDepth 100000 in
theorem spec_PlanFor.calls (k : Nat) (A0 : Option Addr) (c0 : Nat) (l0 : List (S50)) (r : List (S85)) (w : World) (hr0 : Kd.C k50 w A0 l0.length l0) (hc0 : l0.length ≤ c0) (h : spec_PlanFor.f k l0 = some r) :
  Calls Try.prog 151 #[.slice A0 l0.length c0] w fun e w' => ∃ v0_ : Value, e = .returned (v0_) ∧ Kd.S k85 85 w' w.heap.size (fun _ => True) v0_ r ∧ Below w.heap.size w w' := by
 have hu85 := Try.underlying85
 have HR0 := Aside0.mk hr0
 have HC0 := Aside0.mk hc0
 clear hr0 hc0
 have HB := Aside0.mk (Below.refl w.heap.size w)
 have H : ((spec_CoverOf.f k l0).bind fun t443 => (spec_PlanFor.l0 k l0 (([] : List (S85))) t443 0)) = some r := h
 clear h
 obtain ⟨y440, hy440⟩ : ∃ y_ : List (S85), y_ = (([] : List (S85))) := ⟨_, rfl⟩
 replace H : ((spec_CoverOf.f k l0).bind fun t443 => (spec_PlanFor.l0 k l0 y440 t443 0)) = some r := rH H hy440
 have Ny440 := Aside0.mk hy440
 clear hy440
 obtain ⟨t443, A2, H⟩ := bindE H
 try dsimp only at H
 have H' := Aside0.mk H
 clear H
 go_enter Try.func151, Try.ntmps151
 go_wp2_with (first | ((with_reducible refine gate_dst (N := 6) rfl ?_); refine Kd.R_lit k85 _ 85 ?hg (N := 6) ?hd (xs := ([] : List (S85))) (inner := []) (ok := fun _ => True) (okp := fun _ => True) ?hr ?hp (fun _ hk => hk) trivial (Below.refl _ _) (Nat.le_refl _) (by simp) ?_; (case hd => rfl); (case hg => rfl); (case hr => first | (go_simp; done) | (go_simp; rfl)); (case hp => exact (Reps.none _ _)); intro v441 w3 ho4 hb hg_ hnew_; clear hg_ hnew_; have HO442 := rl w ho4; replace HB := bs HB hb; clear hb ho4) | ((with_reducible refine gate_callee (f := 89) rfl ?_); refine gL (some 8) Try.func89 #[.slice A0 l0.length c0] ?_; (with_reducible refine (spec_CoverOf.calls k _ _ l0 t443 _ ?_ ?_ A2.out).mono ?_); exact cB HR0; exact HC0.out; rintro e w5 ⟨v444, rfl, ⟨f_, ho0⟩, hb⟩; refine ⟨_, rfl, ?_⟩; have HO445 := rl w (Kd.R_mono (ok' := fun k_ => True ∧ some k_ ≠ (v441 : Value).ownBlock) (Kd.R_bound ho0) (fun k_ hk_ => ⟨trivial, fun e_ => Nat.not_lt.2 hk_.2.1 (Kd.R_lt (rK HO442) k_ e_.symm)⟩)); replace HO442 := Aside0.mk (spec_PlanFor.retag (d := k85) (d' := Kd.tag f_ k85) rfl (Kd.R_below (rK HO442) hb)); replace HB := bs HB hb; (try clear hb); (try clear ho0)))
 go_loopg [3, 5] k (fun kq v3 v5 w' => ∃ (x3_1 : List (S85)) (x5_1 : Int), v5 = .int .i64 x5_1 ∧ Aside0 (spec_PlanFor.l0 kq l0 x3_1 t443 x5_1 = some r) ∧ Aside0 (kq ≤ k) ∧ Aside0 ((Kd.tag f_ k85).R 85 w' w.heap.size (fun _ => True) v3 x3_1.zipIdx) ∧ Aside0 ((Kd.tag f_ (Kd.slice 3 (Kd.int .i64))).R 35 w' w.heap.size (fun k_ => True ∧ some k_ ≠ (v3 : Value).ownBlock) v444 t443.zipIdx) ∧ Aside0 ((x3_1.length : Int) = x5_1) ∧ Aside0 (Below w.heap.size w w'))
 case atStart => exact ⟨(y440), (0), rS, H', ⟨Nat.le_refl _⟩, ⟨by rw [Ny440.out]; (with_reducible repeat (first | apply Kd.R_alloc | apply Kd.R_drewN | apply Kd.R_drew)); exact HO442.out⟩, ⟨rK HO445⟩, ⟨by rw [Ny440.out]; rfl⟩, ⟨bA⟩⟩
 case round =>
  clear H'
  obtain ⟨x3_1, x5_1, rfl, HA, HK1, HO_3, HO_4, HN, HB⟩ := hrel
  cases gk with
  | zero => exact absurd HA.out (by simp [spec_PlanFor.l0])
  | succ k1 =>
   have H := HA.out
   clear HA
   simp only [spec_PlanFor.l0] at H
   by_cases c6 : x5_1 < (t443.length : Int)
   ·
    rw [if_pos c6] at H
    have c6b0 := decide_eq_true c6
    clear c6
    have c7 : 0 ≤ x5_1 := ifN H
    replace H := ifT H
    have c7b0 := decide_eq_true c7
    clear c7
    obtain ⟨t448, A8, H⟩ := bindE H
    try dsimp only at H
    have c9 : x3_1.length < 4398046511104 := ifN H
    replace H := ifT H
    have LMc9 := Aside0.mk c9
    clear c9
    obtain ⟨y449, hy449⟩ : ∃ y_ : List (S85), y_ = (x3_1 ++ [(⟨rd_L4 t443 x5_1, t448⟩ : S85)]) := ⟨_, rfl⟩
    replace H : (spec_PlanFor.l0 k1 l0 y449 t443 (wrap64 (x5_1 + 1))) = some r := rH H hy449
    have Ny449 := Aside0.mk hy449
    clear hy449
    have H' := Aside0.mk H
    clear H
    obtain ⟨Ao10, co10, eo10⟩ := Kd.R_slice HO_4.out
    rw [List.length_zipIdx] at eo10
    subst eo10
    try go_wp2
    replace HO_3 := dr HO_3
    replace HO_4 := dr HO_4
    have HBo := HB
    replace HB := db HB
    obtain ⟨p446, q446⟩ : 0 ≤ (x5_1 : Int) ∧ x5_1 < (t443.length : Int) := ⟨dA, dA⟩
    obtain ⟨ad446, A446_0, c446_0, e446, hx446_0, hl446_0, hi446_0⟩ := at_L4 (Kd.R_reads' (Kd.S_R (spec_PlanFor.toS HO_4.out))).2.2 x5_1 p446 q446
    cases e446
    obtain ⟨ve446, hve446, hRe446⟩ := spec_PlanFor.el HO_4.out x5_1.toNat (by omega)
    obtain rfl := Option.some.inj (hve446.symm.trans hx446_0)
    have HL446_0 := Aside0.mk (hRe446)
    have HR446_0 := Aside0.mk hi446_0
    have HC446_0 := Aside0.mk hl446_0
    clear hi446_0 hl446_0
    obtain ⟨p446, q446⟩ := eT p446 q446
    obtain ⟨p447, q447⟩ : 0 ≤ (x5_1 : Int) ∧ x5_1 < (t443.length : Int) := ⟨dA, dA⟩
    obtain ⟨ad447, A447_0, c447_0, e447, hx447_0, hl447_0, hi447_0⟩ := at_L4 (Kd.R_reads' (Kd.S_R (spec_PlanFor.toS HO_4.out))).2.2 x5_1 p447 q447
    obtain rfl : ad446 = ad447 := (by injection e447)
    obtain ⟨ve447, hve447, hRe447⟩ := spec_PlanFor.el HO_4.out x5_1.toNat (by omega)
    obtain rfl := Option.some.inj (hve447.symm.trans hx447_0)
    have HL447_0 := Aside0.mk (hRe447)
    have HR447_0 := Aside0.mk hi447_0
    have HC447_0 := Aside0.mk hl447_0
    clear hi447_0 hl447_0
    obtain ⟨p447, q447⟩ := eT p447 q447
    have ea_ := Option.some.inj (hx446_0.symm.trans hx447_0)
    injection ea_ with ea_ en_ ec_
    subst ea_
    subst ec_
    clear en_
    refine sw (ds := [12, 13]) 15 (mb 15 0) spec_PlanFor.tab6 spec_PlanFor.bits6 (h1c hx446_0 (h1 hx447_0)) (fun hHeld HT_ HW_ => ?_)
    generalize wr.drew = w11 at HO_3 HO_4 HB HL446_0 HL447_0 HR446_0 HR447_0 hx446_0 hx447_0 hHeld ⊢
    refine pa 0 15 (mb 15 1) HT_ ?_
    refine pa 1 16 (mb 15 3) HT_ ?_
    refine pa 2 17 (mb 15 7) HT_ ?_
    refine pa 3 18 (mb 15 15) HT_ ?_
    refine pa 5 20 (mb 15 47) HT_ ?_
    refine pa 6 21 (mb 15 111) HT_ ?_
    refine pa 7 22 (mb 15 239) HT_ ?_
    refine pa 8 23 (mb 15 495) HT_ ?_
    refine ta2 4 19 (mb 15 511) HT_ HW_ hHeld ?_
    refine ta2 9 24 (mb 15 1023) HT_ HW_ hHeld ?_
    refine oa 10 25 (mb 15 2047) HT_ (fun K hK => ?_)
    refine gA Try.func113 #[.slice A0 l0.length c0, .slice A446_0 (rd_L4 t443 x5_1).length c446_0] ?_
    with_reducible refine (spec_LeastGreen.calls k1 _ _ l0 _ _ (rd_L4 t443 x5_1) t448 _ ?side1 ?side2 ?side3 ?side4 A8.out).mono ?_
    (case side1 => exact cB HR0)
    (case side2 => exact HC0.out)
    (case side3 => repeat (first | exact (by repeat (first | (with_reducible exact HR447_0.out) | (with_reducible refine Kd.C_alloc ?_ _) | (with_reducible refine Kd.C_drewN ?_ _) | (with_reducible refine Kd.C_drew ?_) | exact HR447_0.out)) | (with_reducible refine Kd.C_alloc ?_ _) | (with_reducible refine Kd.C_drewN ?_ _) | (with_reducible refine Kd.C_drew ?_)))
    (case side4 => exact HC447_0.out)
    rintro e w' ⟨rfl, ⟨nd, rfl⟩⟩
    refine ⟨_, rfl, ?_⟩
    refine hK.out _ _ ⟨hHeld.1, hHeld.2⟩ (fun hHeld => ?_)
    clear hK K
    refine nB ?_
    refine pa 11 26 (mb 15 4095) HT_ ?_
    refine last_ (i := 12) (N := some 27) (mb 15 8191) rfl rfl (one_of HT_.out (by kernel_rfl)) (by decide) (fun K hK => ?_)
    refine value_ (w1 := ?_) (v := ?_) (by rfl) rfl ?_ ?_
    rotate_left 2
    ·
     go_simp
     constructor
     ·
      rfl
     ·
      rfl
    refine hK.out _ _ ?_
    clear hK K
    refine nB ?_
    refine last_ (i := 13) (N := some 28) (mb 15 16383) rfl rfl (one_of HT_.out (by kernel_rfl)) (by decide) (fun K hK => ?_)
    refine Kd.R_append_step (Kd.tag f_ k85) (w0 := w) w.heap.size (by rfl) (.tmp 15) (.tmp 27) 25 85 (.agg #[(.slice none 0 0), (.int .i64 0)]) 32 rfl Try.underlying25 info85 rfl (show 0 < k85.sz by decide) (by omega) u3 x3_1.zipIdx ((⟨rd_L4 t443 x5_1, t448⟩ : S85), x3_1.length) [.slice A446_0 (rd_L4 t443 x5_1).length c446_0, .int .i64 t448] (fun _ => True) (n1 u3) rfl rfl ?aP (fun _ hk => ⟨trivial, hk⟩) (fun _ _ => trivial) ?aO ?aB ?aS ?aL ?_
    (case aP => have hz_ := Kd.R_mono HL446_0.out (fun k_ hk => (⟨hk.1.1.2, hk.2.trans (by have := HN.out; omega)⟩ : some k_ ≠ (u3 : Value).ownBlock ∧ f_ k_ = x3_1.length)); exact (show k85.M _ _ (fun k_ => some k_ ≠ (u3 : Value).ownBlock ∧ f_ k_ = x3_1.length) _ _ from k85_mkM _ _ _ (⟨rd_L4 t443 x5_1, t448⟩ : S85) (by (with_reducible repeat (first | apply Kd.R_alloc | apply Kd.R_drewN | apply Kd.R_drew)); exact hz_)))
    (case aB => exact bA)
    (case aO => exact (rK HO_3))
    (case aS => exact (below_size bA))
    (case aL => have := LMc9.out; rw [List.length_zipIdx]; omega)
    intro v450 w12 ho hb hg hat
    rw [← Kd.zip_snoc, ← Ny449.out] at ho
    have n0_ := Aside0.mk (Kd.R_after (ok := fun _ => True) (rK HO_4) hg hat)
    have n1_ := HL446_0
    have n2_ := HL447_0
    have n3_ := Aside0.mk (hb)
    have n4_ := Aside0.mk (ho)
    clear HO_4
    clear HL446_0
    clear HL447_0
    clear HB
    clear HO_3
    have HO_4 := n0_
    have HL446_0 := n1_
    have HL447_0 := n2_
    have HB := n3_
    have HO451 := n4_
    clear n0_ n1_ n2_ n3_ n4_
    clear ho hb hg hat
    refine hK.out _ _ ?_
    clear hK K
    refine nB ?_
    refine pa 14 3 (mb 15 32767) HT_ ?_
    refine eA HT_ ?_
    try go_wp2
    go_roundg k1
    case measure => have := HK1.out; omega
    case rel => exact ⟨(y449), (wrap64 (x5_1 + 1)), rS, H', ⟨by have := HK1.out; omega⟩, ⟨rK HO451⟩, ⟨rK HO_4⟩, ⟨by (have h1_ := HN.out; have h2_ := LMc9.out; rw [Ny449.out, List.length_append, List.length_singleton]; unfold wrap64; omega)⟩, ⟨bA⟩⟩
   rw [if_neg c6] at H
   have c6b0 := decide_eq_false c6
   clear c6
   obtain ⟨t452, A13, H⟩ := bindE H
   try dsimp only at H
   by_cases c14 : t452 = true
   ·
    subst c14
    have H1 : (some x3_1) = some r := by rw [if_pos rfl] at H; exact H
    clear H
    have H := H1
    clear H1
    obtain rfl := Option.some.inj H
    obtain ⟨Ao15, co15, eo15⟩ := Kd.R_slice HO_4.out
    rw [List.length_zipIdx] at eo15
    subst eo15
    obtain ⟨Ao16, co16, eo16⟩ := Kd.R_slice HO_3.out
    rw [List.length_zipIdx] at eo16
    subst eo16
    go_wp2_with (first | ((with_reducible refine gate_callee (f := 61) rfl ?_); refine gL (some 31) Try.func61 #[.slice A0 l0.length c0, .slice Ao16 x3_1.length co16] ?_; (with_reducible refine (spec_IsPlan.calls k1 _ _ l0 _ _ x3_1 true _ ?_ ?_ ?_ ?_ A13.out).mono ?_); exact cB HR0; exact HC0.out; (focus repeat (first | exact (Kd.R_reads' (Kd.S_R (spec_PlanFor.toS HO_3.out))).2.2 | (with_reducible refine Kd.C_alloc ?_ _) | (with_reducible refine Kd.C_drewN ?_ _) | (with_reducible refine Kd.C_drew ?_))); exact (Kd.R_reads' (Kd.S_R (spec_PlanFor.toS HO_3.out))).2.1; rintro e w17 ⟨rfl, hb⟩; refine ⟨_, rfl, ?_⟩; replace HO_3 := rb HO_3 hb; replace HO_4 := rb HO_4 hb; replace HB := bs HB hb; (try clear hb)))
    go_ret
    exact ⟨_, rA, spec_PlanFor.toS (rK HO_3), bA⟩
   replace c14 := Bool.eq_false_iff.mpr c14
   subst c14
   have H1 : (some (([] : List (S85)))) = some r := by rw [if_neg (show ¬ (false = true) by decide)] at H; exact H
   clear H
   have H := H1
   clear H1
   obtain ⟨y453, hy453⟩ : ∃ y_ : List (S85), y_ = (([] : List (S85))) := ⟨_, rfl⟩
   replace H : (some y453) = some r := rH H hy453
   have Ny453 := Aside0.mk hy453
   clear hy453
   obtain rfl := Option.some.inj H
   obtain ⟨Ao18, co18, eo18⟩ := Kd.R_slice HO_4.out
   rw [List.length_zipIdx] at eo18
   subst eo18
   obtain ⟨Ao19, co19, eo19⟩ := Kd.R_slice HO_3.out
   rw [List.length_zipIdx] at eo19
   subst eo19
   go_wp2_with (first | ((with_reducible refine gate_callee (f := 61) rfl ?_); refine gL (some 31) Try.func61 #[.slice A0 l0.length c0, .slice Ao19 x3_1.length co19] ?_; (with_reducible refine (spec_IsPlan.calls k1 _ _ l0 _ _ x3_1 false _ ?_ ?_ ?_ ?_ A13.out).mono ?_); exact cB HR0; exact HC0.out; (focus repeat (first | exact (Kd.R_reads' (Kd.S_R (spec_PlanFor.toS HO_3.out))).2.2 | (with_reducible refine Kd.C_alloc ?_ _) | (with_reducible refine Kd.C_drewN ?_ _) | (with_reducible refine Kd.C_drew ?_))); exact (Kd.R_reads' (Kd.S_R (spec_PlanFor.toS HO_3.out))).2.1; rintro e w20 ⟨rfl, hb⟩; refine ⟨_, rfl, ?_⟩; replace HO_3 := rb HO_3 hb; replace HO_4 := rb HO_4 hb; replace HB := bs HB hb; (try clear hb)) | ((with_reducible refine gate_dst (N := 33) rfl ?_); refine Kd.R_lit k85 _ 85 ?hg (N := 33) ?hd (xs := ([] : List (S85))) (inner := []) (ok := fun _ => True) (okp := fun _ => True) ?hr ?hp (fun _ hk => hk) trivial (Below.refl _ _) (Nat.le_refl _) (by simp) ?_; (case hd => rfl); (case hg => rfl); (case hr => first | (go_simp; done) | (go_simp; rfl)); (case hp => exact (Reps.none _ _)); intro v454 w21 ho22 hb hg_ hnew_; clear hg_ hnew_; replace HO_3 := rb HO_3 hb; replace HO_4 := rb HO_4 hb; have HO455 := rl w ho22; replace HB := bs HB hb; clear hb ho22))
   go_ret
   exact ⟨_, rA, by rw [Ny453.out]; exact spec_PlanFor.nilS (rK HO455), bA⟩

/-! ### spec_l8Draw: function 124 -/
mutual
def spec_l8Draw.l0 : Nat → List (S50) → List (S85) → Int → List Int → Int → Int → Option ((List (S50)) × (List (S85)) × Int × Int)
 | 0, _, _, _, _, _, _ => none
 | k + 1, x4, x5, x6, x1000, x1001, x1002 => if x6 < 4 then (spec_l8Draw.j1 k x4 x5 x6 ((x5.length : Int) == 0) x1000 x1001 x1002) else (spec_l8Draw.j1 k x4 x5 x6 false x1000 x1001 x1002)
def spec_l8Draw.j1 : Nat → List (S50) → List (S85) → Int → Bool → List Int → Int → Int → Option ((List (S50)) × (List (S85)) × Int × Int)
 | 0, _, _, _, _, _, _, _ => none
 | k + 1, x4, x5, x6, x18, x1000, x1001, x1002 => if x18 = true then ((spec_l5Draw.f k x1000 x1001 x1002).bind fun bt464 => ((spec_PlanFor.f k bt464.1).bind fun t469 => (spec_l8Draw.l0 k bt464.1 t469 (wrap64 (x6 + 1)) x1000 bt464.2.1 bt464.2.2))) else (spec_l8Draw.l1 k x4 x5 0 x1000 x1001 x1002)
def spec_l8Draw.l1 : Nat → List (S50) → List (S85) → Int → List Int → Int → Int → Option ((List (S50)) × (List (S85)) × Int × Int)
 | 0, _, _, _, _, _, _ => none
 | k + 1, x4, x5, x7, x1000, x1001, x1002 => if x7 < (x5.length : Int) then (if 0 ≤ x7 then ((spec_l1Below.f x1000 x1001 x1002 12).bind fun bt473 => (spec_l8Draw.l1 k x4 (x5.set (x7 : Int).toNat (⟨(rd_T85 x5 x7).f0, wrap64 (((rd_T85 x5 x7).f1) + bt473.1)⟩ : S85)) (wrap64 (x7 + 1)) x1000 bt473.2.1 bt473.2.2)) else (none)) else (some (x4, x5, x1001, x1002))
end
def spec_l8Draw.f (k : Nat) (s0_0 : List Int) (s0_1 : Int) (s0_2 : Int) : Option ((List (S50)) × (List (S85)) × Int × Int) := (spec_l5Draw.f k s0_0 s0_1 s0_2).bind fun bt456 => ((spec_PlanFor.f k bt456.1).bind fun t461 => (spec_l8Draw.l0 k bt456.1 t461 0 s0_0 bt456.2.1 bt456.2.2))
theorem spec_l8Draw.mono_l : ∀ k, (∀ y0 y1 y2 y3 y4 y5, LeO (spec_l8Draw.l0 k y0 y1 y2 y3 y4 y5) (spec_l8Draw.l0 (k + 1) y0 y1 y2 y3 y4 y5)) ∧ (∀ y0 y1 y2 y3 y4 y5 y6, LeO (spec_l8Draw.j1 k y0 y1 y2 y3 y4 y5 y6) (spec_l8Draw.j1 (k + 1) y0 y1 y2 y3 y4 y5 y6)) ∧ (∀ y0 y1 y2 y3 y4 y5, LeO (spec_l8Draw.l1 k y0 y1 y2 y3 y4 y5) (spec_l8Draw.l1 (k + 1) y0 y1 y2 y3 y4 y5))
 | 0 => ⟨fun _ _ _ _ _ _ r h => by simp [spec_l8Draw.l0] at h, fun _ _ _ _ _ _ _ r h => by simp [spec_l8Draw.j1] at h, fun _ _ _ _ _ _ r h => by simp [spec_l8Draw.l1] at h⟩
 | k + 1 => by
  obtain ⟨ih0, ih1, ih2⟩ := spec_l8Draw.mono_l k
  refine ⟨?_, ?_, ?_⟩
  ·
   intro y0 y1 y2 y3 y4 y5
   unfold spec_l8Draw.l0
   exact mz5 ih0 ih1 ih2 spec_PlanFor.mono spec_l5Draw.mono
  ·
   intro y0 y1 y2 y3 y4 y5 y6
   unfold spec_l8Draw.j1
   exact mz5 ih0 ih1 ih2 spec_PlanFor.mono spec_l5Draw.mono
  ·
   intro y0 y1 y2 y3 y4 y5
   unfold spec_l8Draw.l1
   exact mz5 ih0 ih1 ih2 spec_PlanFor.mono spec_l5Draw.mono
theorem spec_l8Draw.mono : ∀ a0 a1 a2 k, LeO (spec_l8Draw.f k a0 a1 a2) (spec_l8Draw.f (k + 1) a0 a1 a2) := by
 intro a0 a1 a2 k
 obtain ⟨ih0, ih1, ih2⟩ := spec_l8Draw.mono_l k
 unfold spec_l8Draw.f
 exact mz5 ih0 ih1 ih2 spec_PlanFor.mono spec_l5Draw.mono
def spec_l8Draw.T11 : Bool × List (List Nat × List Nat) := (true, [([], []), ([], []), ([], []), ([], []), ([2, 3], [2, 3]), ([4], [4]), ([5], [5]), ([], []), ([7], [7]), ([6, 8], [6, 8]), ([0, 1, 0, 1, 2, 3, 4, 5, 6, 7, 8, 9], [0, 1]), ([10, 0, 1, 2, 3, 4, 5, 6, 7, 8, 9], [10]), ([11, 9, 8, 0, 1, 2, 3, 4, 5, 6, 7, 8, 9], [9, 11])])
def spec_l8Draw.B11 : List Nat := [0, 0, 0, 0, 12, 28, 60, 0, 128, 508, 1023, 2047, 4095]
theorem spec_l8Draw.tab11 : rtab .any (opsOf Try.f124 11) = spec_l8Draw.T11 := by kernel_rfl
theorem spec_l8Draw.bits11 : waitsOk spec_l8Draw.T11.2 spec_l8Draw.B11 = true := by kernel_rfl
set_option maxHeartbeats 8000000 in
set_option maxRecDepth 100000 in
theorem spec_l8Draw.calls (k : Nat) (g : Nat) (s0_0 : List Int) (s0_1 : Int) (s0_2 : Int) (r1 : List (S50)) (r2 : List (S85)) (r3 : Int) (r4 : Int) (w0 w : World) (hI : IsS138 w0 w g s0_0 s0_1 s0_2) (hB : Below w0.heap.size w0 w) (h : spec_l8Draw.f k s0_0 s0_1 s0_2 = some (r1, r2, r3, r4)) :
  Calls Try.prog 124 #[.pointer (some ⟨g, 0, none⟩)] w fun e w' => ∃ v0_ v1_ : Value, e = .returned (.tuple #[v0_, v1_]) ∧ Kd.R k50 50 w' w.heap.size (fun _ => True) v0_ r1 ∧ Kd.S k85 85 w' w.heap.size (fun _ => True) v1_ r2 ∧ IsS138 w0 w' g s0_0 r3 r4 ∧ Below w0.heap.size w0 w' ∧ KeepBut w w' g none := by
 have HI0 := Aside0.mk hI
 have HK := Aside0.mk (KeepBut.refl w g none)
 have HL := Aside0.mk hB.size
 clear hI
 have HW0 := Aside0.mk hB.size
 have HB := Aside0.mk hB
 clear hB
 have H : ((spec_l5Draw.f k s0_0 s0_1 s0_2).bind fun bt456 => ((spec_PlanFor.f k bt456.1).bind fun t461 => (spec_l8Draw.l0 k bt456.1 t461 0 s0_0 bt456.2.1 bt456.2.2))) = some (r1, r2, r3, r4) := h
 clear h
 obtain ⟨⟨t456, t459, t460⟩, A2, H⟩ := bindE H
 try dsimp only at H
 obtain ⟨t461, A3, H⟩ := bindE H
 try dsimp only at H
 have H' := Aside0.mk H
 clear H
 go_enter Try.func124, Try.ntmps124
 go_wp2_with (first | ((with_reducible refine gate_callee (f := 150) rfl ?_); refine gL (some 9) Try.func150 #[.pointer (some ⟨g, 0, none⟩)] ?_; (with_reducible refine (spec_l5Draw.calls k g s0_0 s0_1 s0_2 t456 t459 t460 w0 _ ?_ ?_ A2.out).mono ?_); exact sI1380 HI0.out; exact sB1 HB.out (IsS138.ge HI0.out); rintro e w4 ⟨v457, rfl, ho0, hi, hb, hk⟩; refine ⟨_, rfl, ?_⟩; have HO458 := Aside0.mk (Kd.R_lower ho0 (keep_size (w := w) (g := g) (row := none) (by exact sK0 HK.out))); replace HK := Aside0.mk (KeepBut.trans (by exact sK0 HK.out) hk (.inl rfl)); replace HB := Aside0.mk (hb); replace HI0 := Aside0.mk (hi); (try clear hb); (try clear hk); (try clear hi); (try clear ho0); obtain ⟨Ao5, co5, eo5⟩ := Kd.R_slice HO458.out; subst eo5) | ((with_reducible refine gate_callee (f := 151) rfl ?_); refine gL (some 11) Try.func151 #[.slice Ao5 t456.length co5] ?_; (with_reducible refine (spec_PlanFor.calls k _ _ t456 t461 _ ?_ ?_ A3.out).mono ?_); exact cO ⟨(Kd.R_reads' HO458.out).2.2⟩; exact (Kd.R_reads' HO458.out).2.1; rintro e w6 ⟨v462, rfl, ho0, hb⟩; refine ⟨_, rfl, ?_⟩; replace HO458 := rb HO458 hb; have HO463 := Aside0.mk (Kd.S_lower ho0 (keep_size (w := w) (g := g) (row := none) (by exact sK0 HK.out))); replace HK := Aside0.mk (KeepBut.trans (by exact sK0 HK.out) (KeepBut.of_below hb g none) (.inl rfl)); replace HB := Aside0.mk (below_step (by exact sB1 HB.out (IsS138.ge HI0.out)) hb); replace HI0 := Aside0.mk (IsS138.below (by exact sI1380 HI0.out) hb); (try clear hb); (try clear ho0)))
 go_loopg [4, 5, 6] k (fun kq v4 v5 v6 w' => ∃ (x4_1 : List (S50)) (x5_1 : List (S85)) (x6_1 : Int) (x1001_1 : Int) (x1002_1 : Int), v6 = .int .i64 x6_1 ∧ Aside0 (spec_l8Draw.l0 kq x4_1 x5_1 x6_1 s0_0 x1001_1 x1002_1 = some (r1, r2, r3, r4)) ∧ Aside0 (kq ≤ k) ∧ Aside0 (Kd.R k50 50 w' w.heap.size (fun _ => True) v4 x4_1) ∧ Aside0 (Kd.S k85 85 w' w.heap.size (fun _ => True) v5 x5_1) ∧ Aside0 (IsS138 w0 w' g s0_0 x1001_1 x1002_1) ∧ Aside0 (KeepBut w w' g none) ∧ Aside0 (Below w0.heap.size w0 w'))
 case atStart => exact ⟨(t456), (t461), (0), (t459), (t460), rS, H', ⟨Nat.le_refl _⟩, ⟨rK HO458⟩, ⟨sK HO463⟩, ⟨by exact sI1380 HI0.out⟩, ⟨by exact sK0 HK.out⟩, ⟨by exact sB1 HB.out (IsS138.ge HI0.out)⟩⟩
 case round =>
  clear H'
  obtain ⟨x4_1, x5_1, x6_1, x1001_1, x1002_1, rfl, HA, HK1, HO_4, HO_5, HI0, HK, HB⟩ := hrel
  cases gk with
  | zero => exact absurd HA.out (by simp [spec_l8Draw.l0])
  | succ k1 =>
   have H := HA.out
   clear HA
   simp only [spec_l8Draw.l0] at H
   have HC7 := Aside0.mk H
   clear H
   go_upto_region 4 with (fail)
   go_cut [18] (fun v18 wc => ∃ (kq : Nat) (x18_6 : Bool), v18 = .bool x18_6 ∧ Aside0 (spec_l8Draw.j1 kq x4_1 x5_1 x6_1 x18_6 s0_0 x1001_1 x1002_1 = some (r1, r2, r3, r4)) ∧ Aside0 (kq ≤ k1) ∧ Aside0 (Kd.R k50 50 wc w.heap.size (fun _ => True) u4 x4_1) ∧ Aside0 (Kd.S k85 85 wc w.heap.size (fun _ => True) u5 x5_1) ∧ Aside0 (IsS138 w0 wc g s0_0 x1001_1 x1002_1) ∧ Aside0 (KeepBut w wc g none) ∧ Aside0 (Below w0.heap.size w0 wc))
   case first =>
    have H := HC7.out
    clear HC7
    by_cases c8 : x6_1 < 4
    ·
     rw [if_pos c8] at H
     have c8b0 := decide_eq_true c8
     clear c8
     (first | rw [c8b0] | (simp only [i64_w, i32_w]; rw [c8b0]) | skip)
     have H' := Aside0.mk H
     clear H
     obtain ⟨Ao9, co9, eo9⟩ := Kd.S_slice HO_5.out
     subst eo9
     go_wp2
     go_meet
     case rel => exact ⟨_, (((x5_1.length : Int) == 0)), rS, H', ⟨by have := HK1.out; first | omega | exact Nat.le_refl _⟩, ⟨rK HO_4⟩, ⟨sK HO_5⟩, ⟨by exact sI1380 HI0.out⟩, ⟨by exact sK0 HK.out⟩, ⟨by exact sB1 HB.out (IsS138.ge HI0.out)⟩⟩
    rw [if_neg c8] at H
    have c8b0 := decide_eq_false c8
    clear c8
    (first | rw [c8b0] | (simp only [i64_w, i32_w]; rw [c8b0]) | skip)
    have H' := Aside0.mk H
    clear H
    go_wp2
    go_meet
    case rel => exact ⟨_, (false), rS, H', ⟨by have := HK1.out; first | omega | exact Nat.le_refl _⟩, ⟨rK HO_4⟩, ⟨sK HO_5⟩, ⟨by exact sI1380 HI0.out⟩, ⟨by exact sK0 HK.out⟩, ⟨by exact sB1 HB.out (IsS138.ge HI0.out)⟩⟩
   case rest =>
    clear HC7
    obtain ⟨kq, x18_6, rfl, HA, HJ6, HO_4, HO_5, HI0, HK, HB⟩ := hcut
    cases kq with
    | zero => exact absurd HA.out (by simp [spec_l8Draw.j1])
    | succ kj6 =>
     have H := HA.out
     clear HA
     simp only [spec_l8Draw.j1] at H
     by_cases c10 : x18_6 = true
     ·
      subst c10
      have H1 : ((spec_l5Draw.f kj6 s0_0 x1001_1 x1002_1).bind fun bt464 => ((spec_PlanFor.f kj6 bt464.1).bind fun t469 => (spec_l8Draw.l0 kj6 bt464.1 t469 (wrap64 (x6_1 + 1)) s0_0 bt464.2.1 bt464.2.2))) = some (r1, r2, r3, r4) := by rw [if_pos rfl] at H; exact H
      clear H
      have H := H1
      clear H1
      obtain ⟨⟨t464, t467, t468⟩, A11, H⟩ := bindE H
      try dsimp only at H
      obtain ⟨t469, A12, H⟩ := bindE H
      try dsimp only at H
      have H' := Aside0.mk H
      clear H
      go_wp2_with (first | ((with_reducible refine gate_callee (f := 150) rfl ?_); refine gL (some 22) Try.func150 #[.pointer (some ⟨g, 0, none⟩)] ?_; (with_reducible refine (spec_l5Draw.calls kj6 g s0_0 x1001_1 x1002_1 t464 t467 t468 w0 _ ?_ ?_ A11.out).mono ?_); exact sI1380 HI0.out; exact sB1 HB.out (IsS138.ge HI0.out); rintro e w13 ⟨v465, rfl, ho0, hi, hb, hk⟩; refine ⟨_, rfl, ?_⟩; replace HO_5 := Aside0.mk (Kd.S_mono (Kd.S_keep (IsS138.apartS (show IsS138 w0 _ g s0_0 x1001_1 x1002_1 from by exact sI1380 HI0.out) (sK HO_5) (by decide)) hk (fun _ h => h.2)) (fun _ h => h.1)); have HO466 := Aside0.mk (Kd.R_lower (Kd.R_new' ho0 (Kd.R_lt (rK HO_4))) (keep_size (w := w) (g := g) (row := none) (by exact sK0 HK.out))); replace HO_4 := Aside0.mk (Kd.R_mono (Kd.R_told (Kd.R_oldK (IsS138.apart (show IsS138 w0 _ g s0_0 x1001_1 x1002_1 from by exact sI1380 HI0.out) (rK HO_4) (by decide)) hk) (Kd.R_base ho0)) (fun _ h_ => h_.1)); replace HK := Aside0.mk (KeepBut.trans (by exact sK0 HK.out) hk (.inl rfl)); replace HB := Aside0.mk (hb); replace HI0 := Aside0.mk (hi); (try clear hb); (try clear hk); (try clear hi); (try clear ho0); obtain ⟨Ao14, co14, eo14⟩ := Kd.R_slice HO466.out; subst eo14) | ((with_reducible refine gate_callee (f := 151) rfl ?_); refine gL (some 24) Try.func151 #[.slice Ao14 t464.length co14] ?_; (with_reducible refine (spec_PlanFor.calls kj6 _ _ t464 t469 _ ?_ ?_ A12.out).mono ?_); exact cO ⟨(Kd.R_reads' HO466.out).2.2⟩; exact (Kd.R_reads' HO466.out).2.1; rintro e w15 ⟨v470, rfl, ho0, hb⟩; refine ⟨_, rfl, ?_⟩; replace HO_4 := rb HO_4 hb; replace HO466 := rb HO466 hb; have HO471 := Aside0.mk (Kd.S_lower (Kd.S_new' ho0 (Kd.S_lt (sK HO_5))) (keep_size (w := w) (g := g) (row := none) (by exact sK0 HK.out))); replace HO_5 := Aside0.mk (Kd.S_elder' (sK HO_5) (Kd.S_base ho0) hb); replace HK := Aside0.mk (KeepBut.trans (by exact sK0 HK.out) (KeepBut.of_below hb g none) (.inl rfl)); replace HB := Aside0.mk (below_step (by exact sB1 HB.out (IsS138.ge HI0.out)) hb); replace HI0 := Aside0.mk (IsS138.below (by exact sI1380 HI0.out) hb); (try clear hb); (try clear ho0)))
      go_roundg kj6
      case measure => have := HK1.out; have := HJ6.out; omega
      case rel => exact ⟨(t464), (t469), (wrap64 (x6_1 + 1)), (t467), (t468), rS, H', ⟨by have := HK1.out; have := HJ6.out; omega⟩, ⟨rm HO466 (fun _ hk => trivial)⟩, ⟨sm HO471 (fun _ hk => trivial)⟩, ⟨by exact sI1380 HI0.out⟩, ⟨by exact sK0 HK.out⟩, ⟨by exact sB1 HB.out (IsS138.ge HI0.out)⟩⟩
     replace c10 := Bool.eq_false_iff.mpr c10
     subst c10
     have H1 : (spec_l8Draw.l1 kj6 x4_1 x5_1 0 s0_0 x1001_1 x1002_1) = some (r1, r2, r3, r4) := by rw [if_neg (show ¬ (false = true) by decide)] at H; exact H
     clear H
     have H := H1
     clear H1
     have H' := Aside0.mk H
     clear H
     go_wp2
     go_loopg [7] kj6 (fun kq v7 w' => ∃ (x5_3 : List (S85)) (x7_3 : Int) (x1001_3 : Int) (x1002_3 : Int), v7 = .int .i64 x7_3 ∧ Aside0 (spec_l8Draw.l1 kq x4_1 x5_3 x7_3 s0_0 x1001_3 x1002_3 = some (r1, r2, r3, r4)) ∧ Aside0 (kq ≤ kj6) ∧ Aside0 (Kd.R k50 50 w' w.heap.size (fun _ => True) u4 x4_1) ∧ Aside0 (Kd.S k85 85 w' w.heap.size (fun _ => True) u5 x5_3) ∧ Aside0 (IsS138 w0 w' g s0_0 x1001_3 x1002_3) ∧ Aside0 (KeepBut w w' g none) ∧ Aside0 (Below w0.heap.size w0 w'))
     case atStart => exact ⟨(x5_1), (0), (x1001_1), (x1002_1), rS, H', ⟨Nat.le_refl _⟩, ⟨rK HO_4⟩, ⟨sK HO_5⟩, ⟨by exact sI1380 HI0.out⟩, ⟨by exact sK0 HK.out⟩, ⟨by exact sB1 HB.out (IsS138.ge HI0.out)⟩⟩
     case round =>
      clear H'
      obtain ⟨x5_3, x7_3, x1001_3, x1002_3, rfl, HA, HK3, HO_4, HO_5, HI0, HK, HB⟩ := hrel
      cases gk with
      | zero => exact absurd HA.out (by simp [spec_l8Draw.l1])
      | succ k3 =>
       have H := HA.out
       clear HA
       simp only [spec_l8Draw.l1] at H
       by_cases c16 : x7_3 < (x5_3.length : Int)
       ·
        rw [if_pos c16] at H
        have c16b0 := decide_eq_true c16
        clear c16
        have c17 : 0 ≤ x7_3 := ifN H
        replace H := ifT H
        have c17b0 := decide_eq_true c17
        clear c17
        obtain ⟨⟨t473, t474, t475⟩, A18, H⟩ := bindE H
        try dsimp only at H
        obtain ⟨y476, hy476⟩ : ∃ y_ : List (S85), y_ = (x5_3.set (x7_3 : Int).toNat (⟨(rd_T85 x5_3 x7_3).f0, wrap64 (((rd_T85 x5_3 x7_3).f1) + t473)⟩ : S85)) := ⟨_, rfl⟩
        replace H : (spec_l8Draw.l1 k3 x4_1 y476 (wrap64 (x7_3 + 1)) s0_0 t474 t475) = some (r1, r2, r3, r4) := rH H hy476
        have Ny476 := Aside0.mk hy476
        clear hy476
        have H' := Aside0.mk H
        clear H
        obtain ⟨Ao20, co20, eo20⟩ := Kd.S_slice HO_5.out
        subst eo20
        try go_wp2
        replace HO_4 := dr HO_4
        replace HO_5 := ds HO_5
        replace HI0 := Aside0.mk (IsS138.drew HI0.out)
        replace HK := Aside0.mk (keep_drew HK.out)
        have HBo := HB
        replace HB := db HB
        obtain ⟨p472, q472⟩ : 0 ≤ (x7_3 : Int) ∧ x7_3 < (x5_3.length : Int) := ⟨dA, dA⟩
        obtain ⟨ad472, A472_0, c472_0, e472, hx472_0, hx472_1, hl472_0, hi472_0⟩ := at_T85 (Kd.S_reads' HO_5.out).2.2 x7_3 p472 q472
        cases e472
        obtain ⟨ce472, hce472, hMe472, hcc472⟩ := Kd.S_get HO_5.out z85 x7_3 p472 (by first | exact q472 | exact dA | (have e_ := (Kd.S_reads' HO_5.out).1; omega))
        obtain ⟨ve472_0, rfl, ge472_0⟩ := k85_openM hMe472
        have hv472_0 := hcc472 0 _ rfl
        rw [Nat.add_zero] at hv472_0
        replace hv472_0 := Option.some.inj (hv472_0.symm.trans hx472_0)
        rw [hv472_0] at ge472_0
        have HL472_0 := Aside0.mk (show Kd.R (Kd.int .i64) 3 _ _ _ _ ((rd_T85 x5_3 x7_3).f0) from ge472_0)
        clear hv472_0 ge472_0
        clear hcc472 hce472
        have HR472_0 := Aside0.mk hi472_0
        have HC472_0 := Aside0.mk hl472_0
        clear hi472_0 hl472_0
        obtain ⟨p472, q472⟩ := eT p472 q472
        refine sw (ds := [12]) 13 (mb 13 0) spec_l8Draw.tab11 spec_l8Draw.bits11 (h1c hx472_0 (h1 hx472_1)) (fun hHeld HT_ HW_ => ?_)
        generalize wr.drew = w21 at HO_4 HO_5 HI0 HK HB HL472_0 HR472_0 hx472_0 hx472_1 hHeld ⊢
        refine pa 0 31 (mb 13 1) HT_ ?_
        refine pa 1 32 (mb 13 3) HT_ ?_
        refine pa 2 33 (mb 13 7) HT_ ?_
        refine pa 3 34 (mb 13 15) HT_ ?_
        refine pa 4 35 (mb 13 31) HT_ ?_
        refine pa 5 36 (mb 13 63) HT_ ?_
        refine pa 7 38 (mb 13 191) HT_ ?_
        refine ta2 6 37 (mb 13 255) HT_ HW_ hHeld ?_
        refine oa 8 39 (mb 13 511) HT_ (fun K hK => ?_)
        refine gA Try.func84 #[.pointer (some ⟨g, 0, none⟩), .int .i64 12] ?_
        with_reducible refine (spec_l1Below.calls g s0_0 x1001_3 x1002_3 12 t473 t474 t475 w0 _ ?side1 ?side2 A18.out).mono ?_
        (case side1 => exact sI1380 HI0.out)
        (case side2 => exact sB1 HB.out (IsS138.ge HI0.out))
        rintro e w22 ⟨rfl, hi, hb, hk⟩
        have HS0_ := keep_cell hk (hHeld.1) (by first | (rw [add_block]; exact Kd.own_blk (IsS138.own_neS HI0.out HO_5.out (by decide))) | (show (Addr.add _ _).block ≠ _; rw [add_block]; exact Kd.own_blk (IsS138.own_neS HI0.out HO_5.out (by decide))) | exact Kd.own_blk (IsS138.own_neS HI0.out HO_5.out (by decide)))
        have HS1_ := keep_cell hk (hHeld.2) (by first | (rw [add_block]; exact Kd.own_blk (IsS138.own_neS HI0.out HO_5.out (by decide))) | (show (Addr.add _ _).block ≠ _; rw [add_block]; exact Kd.own_blk (IsS138.own_neS HI0.out HO_5.out (by decide))) | exact Kd.own_blk (IsS138.own_neS HI0.out HO_5.out (by decide)))
        refine ⟨_, rfl, ?_⟩
        replace HO_4 := Aside0.mk (Kd.R_mono (Kd.R_keep (IsS138.apart (show IsS138 w0 _ g s0_0 x1001_3 x1002_3 from by exact sI1380 HI0.out) (rK HO_4) (by decide)) hk (fun _ h => h.2)) (fun _ h => h.1))
        replace HO_5 := Aside0.mk (Kd.S_mono (Kd.S_keep (IsS138.apartS (show IsS138 w0 _ g s0_0 x1001_3 x1002_3 from by exact sI1380 HI0.out) (sK HO_5) (by decide)) hk (fun _ h => h.2)) (fun _ h => h.1))
        replace HL472_0 := Aside0.mk (Kd.R_mono (Kd.R_keep (IsS138.apart (show IsS138 w0 _ g s0_0 x1001_3 x1002_3 from by exact sI1380 HI0.out) (by (with_reducible repeat (first | apply Kd.R_alloc | apply Kd.R_drewN | apply Kd.R_drew)); exact HL472_0.out) (by decide)) hk (fun _ h => h.2)) (fun _ h => h.1))
        replace HK := Aside0.mk (KeepBut.trans (by exact sK0 HK.out) hk (.inl rfl))
        replace HB := Aside0.mk (hb)
        replace HI0 := Aside0.mk (hi)
        (try clear hb)
        (try clear hb2)
        (try clear hk)
        (try clear hi)
        obtain ⟨p19, q19⟩ : 0 ≤ (x7_3 : Int) ∧ (x7_3 : Int) < ((x5_3.length : Int) : Int) := ⟨dA, dA⟩
        obtain ⟨go19, co19, eo19, gb19, gl19, cl19, HG19⟩ := Kd.S_form HO_5.out (by omega)
        (first | cases eo19 | (injection eo19 with ea_ en_ ec_; (first | subst ea_ | (injection ea_ with ea_; subst ea_)); subst ec_; clear en_))
        have GB19 := Aside0.mk gb19
        have GG19 := Aside0.mk HG19
        clear gb19 gl19 HG19
        (first | simp only [add_plain] at hx472_0 | skip)
        (first | simp only [add_plain] at hx472_1 | skip)
        obtain ⟨_, ce19, hcl19, hM19, hcc19, hfr19, _, _⟩ := Kd.S_elem HO_5.out z85 (x7_3 : Int) p19 q19
        obtain ⟨ve19_0, rfl, ge19_0⟩ := k85_openM hM19
        have hx19_0 : World.cell? _ ⟨go19, (x7_3 : Int).toNat * 2, none⟩ = some (ve19_0) := hcc19 0 _ rfl
        have hx19_1 : World.cell? _ ⟨go19, (x7_3 : Int).toNat * 2 + 1, none⟩ = some (.int .i64 ((rd_T85 x5_3 x7_3).f1)) := hcc19 1 _ rfl
        have hf19_0 : World.frozen? _ ⟨go19, (x7_3 : Int).toNat * 2, none⟩ = false := hfr19 0
        have hf19_1 : World.frozen? _ ⟨go19, (x7_3 : Int).toNat * 2 + 1, none⟩ = false := hfr19 1
        clear hcl19 hcc19 hfr19 hM19
        obtain ⟨p19, q19⟩ := eT p19 q19
        have HN0_go19 := Aside0.mk (show g ≠ go19 from by have h_ := IsS138.own_neS HI0.out HO_5.out (by decide); intro e_; exact h_ (by rw [e_]; rfl))
        have HX23 := Aside0.mk (show Kd.S k85 85 _ w.heap.size (fun k_ => ((fun _ => True)) k_ ∧ ¬ (fun _ => False) k_) (.slice (some ⟨go19, 0, none⟩) x5_3.length co20) x5_3 from (sm HO_5 (fun k_ hk => ⟨trivial, fun e_ => e_⟩)))
        obtain ⟨oki23, ce23, hcl23, hM23, hcc23, hfr23, hoki23, hH23⟩ := Kd.S_elem HX23.out z85 (x7_3 : Int) (dA) (by have h_ : (x7_3 : Int) < ((x5_3.length : Int) : Int) := dA; first | exact h_ | (have e_ := (Kd.S_reads' HO_5.out).1; omega) | simpa using h_)
        obtain ⟨ve23_0, rfl, ge23_0⟩ := k85_openM hM23
        have HP23 := (Kd.S_seg hH23 (dA) (by have h_ : (x7_3 : Int) < ((x5_3.length : Int) : Int) := dA; first | exact h_ | (have e_ := (Kd.S_reads' HO_5.out).1; omega) | simpa using h_) (seg := [.int .i64 (wrap64 (((rd_T85 x5_3 x7_3).f1) + t473))]) (j := 1) (show 2 ≤ 2 from by decide) (x' := (⟨(rd_T85 x5_3 x7_3).f0, wrap64 (((rd_T85 x5_3 x7_3).f1) + t473)⟩ : S85)) (k85_mkM _ _ _ (⟨(rd_T85 x5_3 x7_3).f0, wrap64 (((rd_T85 x5_3 x7_3).f1) + t473)⟩ : S85) ge23_0) (fun _ hk => Or.inl hk) (fun _ hk => hk.elim)).1
        rw [← Ny476.out] at HP23
        have HQ23 := Aside0.mk HP23
        clear hcl23 hcc23 hfr23 hM23 HP23
        refine hK.out _ _ ⟨HS0_, HS1_⟩ (fun hHeld => ?_)
        clear hK K
        refine nB ?_
        refine pa 9 40 (mb 13 1023) HT_ ?_
        refine pa 10 41 (mb 13 2047) HT_ ?_
        refine pa 11 42 (mb 13 4095) HT_ ?_
        refine last_ (i := 12) (N := none) (mb 13 8191) rfl rfl (one_of HT_.out (by kernel_rfl)) (by decide) (fun K hK => ?_)
        refine skip_ (w1 := ?_) (by rfl) rfl ?_ ?_
        rotate_left
        ·
         go_simp
         rfl
        refine hK.out _ _ ?_
        clear hK K
        refine eA HT_ ?_
        try go_wp2
        go_roundg k3
        case measure => have := HK1.out; have := HJ6.out; have := HK3.out; omega
        case rel => exact ⟨(y476), (wrap64 (x7_3 + 1)), (t474), (t475), rS, H', ⟨by have := HK1.out; have := HJ6.out; have := HK3.out; omega⟩, ⟨by (with_reducible repeat (first | apply Kd.R_alloc | apply Kd.R_drewN | apply Kd.R_drew)); exact Kd.R_mono (Kd.R_far (p := ⟨go19, (x7_3 : Int).toNat * 2 + 1, none⟩) (Kd.R_types HO_4.out GG19.out (by decide)) (fun _ hk => hk.2) (.int .i64 (wrap64 (((rd_T85 x5_3 x7_3).f1) + t473)))) (fun _ hk => trivial)⟩, ⟨by (with_reducible repeat (first | apply Kd.S_alloc | apply Kd.S_drewN | apply Kd.S_drew)); exact HQ23.out⟩, ⟨by exact sI1381 HI0.out HN0_go19.out⟩, ⟨by exact sK1 HK.out GB19.out⟩, ⟨by repeat (first | (with_reducible first | exact HB.out | apply below_alloc | apply pw_below_drewN | apply below_drew1 | refine below_set ?_ (Nat.le_trans HL.out GB19.out) | refine below_set ?_ (IsS138.ge HI0.out)) | exact HB.out)⟩⟩
       rw [if_neg c16] at H
       have c16b0 := decide_eq_false c16
       clear c16
       simp only [Option.some.injEq, Prod.mk.injEq] at H
       obtain ⟨rfl, rfl, rfl, rfl⟩ := H
       obtain ⟨Ao24, co24, eo24⟩ := Kd.S_slice HO_5.out
       subst eo24
       go_wp2
       go_ret2
       exact ⟨_, _, rA, rK HO_4, sK HO_5, by exact sI1380 HI0.out, by exact sB1 HB.out (IsS138.ge HI0.out), by exact sK0 HK.out⟩

/-! ### spec_l1Once: function 93 -/
def spec_l1Once.f (s0_0 : List Int) (s0_1 : Int) (s0_2 : Int) (a1 : Int) : Option (Bool × Int × Int) := (spec_l1Below.f s0_0 s0_1 s0_2 a1).bind fun bt477 => (some ((bt477.1 == 0), bt477.2.1, bt477.2.2))
set_option maxHeartbeats 8000000 in
set_option maxRecDepth 100000 in
theorem spec_l1Once.calls (g : Nat) (s0_0 : List Int) (s0_1 : Int) (s0_2 : Int) (a1 : Int) (r1 : Bool) (r2 : Int) (r3 : Int) (w0 w : World) (hI : IsS138 w0 w g s0_0 s0_1 s0_2) (hB : Below w0.heap.size w0 w) (h : spec_l1Once.f s0_0 s0_1 s0_2 a1 = some (r1, r2, r3)) :
  Calls Try.prog 93 #[.pointer (some ⟨g, 0, none⟩), .int .i64 a1] w fun e w' => e = .returned (.bool r1) ∧ IsS138 w0 w' g s0_0 r2 r3 ∧ Below w0.heap.size w0 w' ∧ KeepBut w w' g none := by
 have HI0 := Aside0.mk hI
 have HK := Aside0.mk (KeepBut.refl w g none)
 have HL := Aside0.mk hB.size
 clear hI
 have HW0 := Aside0.mk hB.size
 have HB := Aside0.mk hB
 clear hB
 have H : ((spec_l1Below.f s0_0 s0_1 s0_2 a1).bind fun bt477 => (some ((bt477.1 == 0), bt477.2.1, bt477.2.2))) = some (r1, r2, r3) := h
 clear h
 obtain ⟨⟨t477, t478, t479⟩, A3, H⟩ := bindE H
 try dsimp only at H
 simp only [Option.some.injEq, Prod.mk.injEq] at H
 obtain ⟨rfl, rfl, rfl⟩ := H
 go_enter Try.func93, Try.ntmps93
 go_wp2_with (first | ((with_reducible refine gate_callee (f := 84) rfl ?_); refine gL (some 7) Try.func84 #[.pointer (some ⟨g, 0, none⟩), .int .i64 a1] ?_; (with_reducible refine (spec_l1Below.calls g s0_0 s0_1 s0_2 a1 t477 t478 t479 w0 _ ?_ ?_ A3.out).mono ?_); exact sI1380 HI0.out; exact sB1 HB.out (IsS138.ge HI0.out); rintro e w4 ⟨rfl, hi, hb, hk⟩; refine ⟨_, rfl, ?_⟩; replace HK := Aside0.mk (KeepBut.trans (by exact sK0 HK.out) hk (.inl rfl)); replace HB := Aside0.mk (hb); replace HI0 := Aside0.mk (hi); (try clear hb); (try clear hk); (try clear hi)))
 go_ret
 exact ⟨rA, by exact sI1380 HI0.out, by exact sB1 HB.out (IsS138.ge HI0.out), by exact sK0 HK.out⟩

/-! ### spec_l4Raw: function 129 -/
def spec_l4Raw.f (s0_0 : List Int) (s0_1 : Int) (s0_2 : Int) : Option (Int × Int × Int) := (spec_l1Int.f s0_0 s0_1 s0_2 (([(-1), 0, 4, 7, 20, 21, 9223372036854775807, (-9223372036854775808)] : List Int))).bind fun bt483 => (some (bt483.1, bt483.2.1, bt483.2.2))
set_option maxHeartbeats 8000000 in
set_option maxRecDepth 100000 in
theorem spec_l4Raw.calls (g : Nat) (s0_0 : List Int) (s0_1 : Int) (s0_2 : Int) (r1 : Int) (r2 : Int) (r3 : Int) (w0 w : World) (hI : IsS138 w0 w g s0_0 s0_1 s0_2) (hB : Below w0.heap.size w0 w) (h : spec_l4Raw.f s0_0 s0_1 s0_2 = some (r1, r2, r3)) :
  Calls Try.prog 129 #[.pointer (some ⟨g, 0, none⟩)] w fun e w' => e = .returned (.int .i64 r1) ∧ IsS138 w0 w' g s0_0 r2 r3 ∧ Below w0.heap.size w0 w' ∧ KeepBut w w' g none := by
 have HI0 := Aside0.mk hI
 have HK := Aside0.mk (KeepBut.refl w g none)
 have HL := Aside0.mk hB.size
 clear hI
 have HW0 := Aside0.mk hB.size
 have HB := Aside0.mk hB
 clear hB
 have H : ((spec_l1Int.f s0_0 s0_1 s0_2 (([(-1), 0, 4, 7, 20, 21, 9223372036854775807, (-9223372036854775808)] : List Int))).bind fun bt483 => (some (bt483.1, bt483.2.1, bt483.2.2))) = some (r1, r2, r3) := h
 clear h
 obtain ⟨y480, hy480⟩ : ∃ y_ : List Int, y_ = (([(-1), 0, 4, 7, 20, 21, 9223372036854775807, (-9223372036854775808)] : List Int)) := ⟨_, rfl⟩
 replace H : ((spec_l1Int.f s0_0 s0_1 s0_2 y480).bind fun bt483 => (some (bt483.1, bt483.2.1, bt483.2.2))) = some (r1, r2, r3) := rH H hy480
 have Ny480 := Aside0.mk hy480
 clear hy480
 obtain ⟨⟨t483, t484, t485⟩, A2, H⟩ := bindE H
 try dsimp only at H
 simp only [Option.some.injEq, Prod.mk.injEq] at H
 obtain ⟨rfl, rfl, rfl⟩ := H
 go_enter Try.func129, Try.ntmps129
 go_wp2_with (first | ((with_reducible refine gate_dst (N := 4) rfl ?_); refine Kd.R_lit (Kd.int .i64) _ 3 ?hg (N := 4) ?hd (xs := ([(-1), 0, 4, 7, 20, 21, 9223372036854775807, (-9223372036854775808)] : List Int)) (inner := [.int .i64 (-1), .int .i64 0, .int .i64 4, .int .i64 7, .int .i64 20, .int .i64 21, .int .i64 9223372036854775807, .int .i64 (-9223372036854775808)]) (ok := fun _ => True) (okp := fun _ => True) ?hr ?hp (fun _ hk => hk) trivial (Below.refl _ _) (Nat.le_refl _) (by simp) ?_; (case hd => rfl); (case hg => rfl); (case hr => first | (go_simp; done) | (go_simp; rfl)); (case hp => exact (Reps.one (show Kd.M (Kd.int .i64) _ _ _ (-1) [.int .i64 (-1)] from rfl) (Reps.one (show Kd.M (Kd.int .i64) _ _ _ 0 [.int .i64 0] from rfl) (Reps.one (show Kd.M (Kd.int .i64) _ _ _ 4 [.int .i64 4] from rfl) (Reps.one (show Kd.M (Kd.int .i64) _ _ _ 7 [.int .i64 7] from rfl) (Reps.one (show Kd.M (Kd.int .i64) _ _ _ 20 [.int .i64 20] from rfl) (Reps.one (show Kd.M (Kd.int .i64) _ _ _ 21 [.int .i64 21] from rfl) (Reps.one (show Kd.M (Kd.int .i64) _ _ _ 9223372036854775807 [.int .i64 9223372036854775807] from rfl) (Reps.one (show Kd.M (Kd.int .i64) _ _ _ (-9223372036854775808) [.int .i64 (-9223372036854775808)] from rfl) (Reps.none _ _)))))))))); intro v481 w3 ho4 hb hg_ hnew_; clear hg_ hnew_; (first | rw [← Ny480.out] at ho4 | (simp only [Int.reduceToNat] at ho4; rw [← Ny480.out] at ho4)); have HO482 := Aside0.mk (Kd.R_lower ho4 (keep_size (w := w) (g := g) (row := none) (by exact sK0 HK.out))); replace HK := Aside0.mk (KeepBut.trans (by exact sK0 HK.out) (KeepBut.of_below hb g none) (.inl rfl)); replace HB := Aside0.mk (below_step (by exact sB1 HB.out (IsS138.ge HI0.out)) hb); replace HI0 := Aside0.mk (IsS138.below (by exact sI1380 HI0.out) hb); clear hb ho4; obtain ⟨Ao5, co5, eo5⟩ := Kd.R_slice HO482.out; subst eo5) | ((with_reducible refine gate_callee (f := 94) rfl ?_); refine gL (some 5) Try.func94 #[.pointer (some ⟨g, 0, none⟩), .slice Ao5 y480.length co5] ?_; (with_reducible refine (spec_l1Int.calls g s0_0 s0_1 s0_2 _ _ y480 t483 t484 t485 w0 _ ?_ ?_ ?_ ?_ ?_ A2.out).mono ?_); exact sI1380 HI0.out; exact sB1 HB.out (IsS138.ge HI0.out); exact cO ⟨(Kd.R_reads' HO482.out).2.2⟩; exact (Kd.R_reads' HO482.out).2.1; exact far_slice (IsS138.own_ne HI0.out HO482.out (by decide)); rintro e w6 ⟨rfl, hi, hb, hk⟩; refine ⟨_, rfl, ?_⟩; replace HO482 := Aside0.mk (Kd.R_mono (Kd.R_keep (IsS138.apart (show IsS138 w0 _ g s0_0 s0_1 s0_2 from by exact sI1380 HI0.out) (rK HO482) (by decide)) hk (fun _ h => h.2)) (fun _ h => h.1)); replace HK := Aside0.mk (KeepBut.trans (by exact sK0 HK.out) hk (.inl rfl)); replace HB := Aside0.mk (hb); replace HI0 := Aside0.mk (hi); (try clear hb); (try clear hk); (try clear hi)))
 go_ret
 exact ⟨rA, by exact sI1380 HI0.out, by exact sB1 HB.out (IsS138.ge HI0.out), by exact sK0 HK.out⟩

/-! ### spec_l4Any: function 152 -/
def spec_l4Any.f (s0_0 : List Int) (s0_1 : Int) (s0_2 : Int) : Option (Int × Int × Int × Int × Int × Int) := (spec_l1Below.f s0_0 s0_1 s0_2 20).bind fun bt487 => ((spec_l4Draw.f s0_0 bt487.2.1 bt487.2.2 (wrap64 (1 + bt487.1))).bind fun bt490 => ((spec_l1Below.f s0_0 bt490.2.2.2.2.1 bt490.2.2.2.2.2 10).bind fun bt497 => (if bt497.1 = 0 then ((spec_l1Int.f s0_0 bt497.2.1 bt497.2.2 (([0, 20, 21] : List Int))).bind fun bt503 => (some (bt503.1, bt490.2.1, bt490.2.2.1, bt490.2.2.2.1, bt503.2.1, bt503.2.2))) else (if bt497.1 = 1 then ((spec_l1Int.f s0_0 bt497.2.1 bt497.2.2 (([0, 2, 4] : List Int))).bind fun bt509 => (some (bt490.1, bt509.1, bt490.2.2.1, bt490.2.2.2.1, bt509.2.1, bt509.2.2))) else (if bt497.1 = 2 then ((spec_l4Raw.f s0_0 bt497.2.1 bt497.2.2).bind fun bt512 => (some (bt490.1, bt490.2.1, bt512.1, bt490.2.2.2.1, bt512.2.1, bt512.2.2))) else (if bt497.1 = 3 then ((spec_l4Raw.f s0_0 bt497.2.1 bt497.2.2).bind fun bt515 => (some (bt490.1, bt490.2.1, bt490.2.2.1, bt515.1, bt515.2.1, bt515.2.2))) else (some (bt490.1, bt490.2.1, bt490.2.2.1, bt490.2.2.2.1, bt497.2.1, bt497.2.2))))))))
set_option maxHeartbeats 8000000 in
set_option maxRecDepth 100000 in
theorem spec_l4Any.calls (g : Nat) (s0_0 : List Int) (s0_1 : Int) (s0_2 : Int) (r1 : Int) (r2 : Int) (r3 : Int) (r4 : Int) (r5 : Int) (r6 : Int) (w0 w : World) (hI : IsS138 w0 w g s0_0 s0_1 s0_2) (hB : Below w0.heap.size w0 w) (h : spec_l4Any.f s0_0 s0_1 s0_2 = some (r1, r2, r3, r4, r5, r6)) :
  Calls Try.prog 152 #[.pointer (some ⟨g, 0, none⟩)] w fun e w' => e = .returned (.agg #[.int .i64 r1, .int .i64 r2, .int .i64 r3, .int .i64 r4]) ∧ IsS138 w0 w' g s0_0 r5 r6 ∧ Below w0.heap.size w0 w' ∧ KeepBut w w' g none := by
 have hu50 := Try.underlying50
 have HI0 := Aside0.mk hI
 have HK := Aside0.mk (KeepBut.refl w g none)
 have HL := Aside0.mk hB.size
 clear hI
 have HW0 := Aside0.mk hB.size
 have HB := Aside0.mk hB
 clear hB
 have H : ((spec_l1Below.f s0_0 s0_1 s0_2 20).bind fun bt487 => ((spec_l4Draw.f s0_0 bt487.2.1 bt487.2.2 (wrap64 (1 + bt487.1))).bind fun bt490 => ((spec_l1Below.f s0_0 bt490.2.2.2.2.1 bt490.2.2.2.2.2 10).bind fun bt497 => (if bt497.1 = 0 then ((spec_l1Int.f s0_0 bt497.2.1 bt497.2.2 (([0, 20, 21] : List Int))).bind fun bt503 => (some (bt503.1, bt490.2.1, bt490.2.2.1, bt490.2.2.2.1, bt503.2.1, bt503.2.2))) else (if bt497.1 = 1 then ((spec_l1Int.f s0_0 bt497.2.1 bt497.2.2 (([0, 2, 4] : List Int))).bind fun bt509 => (some (bt490.1, bt509.1, bt490.2.2.1, bt490.2.2.2.1, bt509.2.1, bt509.2.2))) else (if bt497.1 = 2 then ((spec_l4Raw.f s0_0 bt497.2.1 bt497.2.2).bind fun bt512 => (some (bt490.1, bt490.2.1, bt512.1, bt490.2.2.2.1, bt512.2.1, bt512.2.2))) else (if bt497.1 = 3 then ((spec_l4Raw.f s0_0 bt497.2.1 bt497.2.2).bind fun bt515 => (some (bt490.1, bt490.2.1, bt490.2.2.1, bt515.1, bt515.2.1, bt515.2.2))) else (some (bt490.1, bt490.2.1, bt490.2.2.1, bt490.2.2.2.1, bt497.2.1, bt497.2.2))))))))) = some (r1, r2, r3, r4, r5, r6) := h
 clear h
 obtain ⟨⟨t487, t488, t489⟩, A2, H⟩ := bindE H
 try dsimp only at H
 obtain ⟨⟨t490, t491, t492, t493, t494, t495⟩, A3, H⟩ := bindE H
 try dsimp only at H
 obtain ⟨⟨t497, t498, t499⟩, A4, H⟩ := bindE H
 try dsimp only at H
 go_enter Try.func152, Try.ntmps152
 go_upto_region 3 with (first | ((with_reducible refine gate_dst (N := 2) rfl ?_); refine bE (N := 2) (cs := #[.int .i64 0, .int .i64 0, .int .i64 0, .int .i64 0]) (t := 50) ?_; intro gb486 hg w7 hbox hb; have n0_ := Aside0.mk (IsS138.below (by exact sI1380 HI0.out) hb); have n1_ := Aside0.mk (KeepBut.trans (by exact sK0 HK.out) (KeepBut.of_below hb g none) (.inl rfl)); have n2_ := Aside0.mk (below_step (by exact sB1 HB.out (IsS138.ge HI0.out)) hb); have n3_ := Aside0.mk (hbox); have n4_ := Aside0.mk ((by rw [hg]; exact (keep_size (w := w) (g := g) (row := none) (by exact sK0 HK.out)) : w.heap.size ≤ gb486)); have n5_ := Aside0.mk ((Nat.le_trans HW0.out (by rw [hg]; exact (keep_size (w := w) (g := g) (row := none) (by exact sK0 HK.out)) : w.heap.size ≤ gb486) : w0.heap.size ≤ gb486)); have n6_ := Aside0.mk ((by rw [hg]; exact Nat.ne_of_lt (IsS138.lt (show IsS138 w0 _ g s0_0 s0_1 s0_2 from by exact sI1380 HI0.out)) : g ≠ gb486)); have n7_ := Aside0.mk ((by rw [hg]; exact Nat.ne_of_gt (IsS138.lt (show IsS138 w0 _ g s0_0 s0_1 s0_2 from by exact sI1380 HI0.out)) : gb486 ≠ g)); clear HI0; clear HK; clear HB; have HI0 := n0_; have HK := n1_; have HB := n2_; have BK486 := n3_; have GW486 := n4_; have GE486 := n5_; have NB0_486 := n6_; have NB486_0 := n7_; clear n0_ n1_ n2_ n3_ n4_ n5_ n6_ n7_; clear hb hbox hg) | ((with_reducible refine gate_callee (f := 84) rfl ?_); refine gL (some 6) Try.func84 #[.pointer (some ⟨g, 0, none⟩), .int .i64 20] ?_; (with_reducible refine (spec_l1Below.calls g s0_0 s0_1 s0_2 20 t487 t488 t489 w0 _ ?_ ?_ A2.out).mono ?_); exact sI1381 HI0.out NB0_486.out; exact sB2 HB.out (IsS138.ge HI0.out) GE486.out; rintro e w8 ⟨rfl, hi, hb, hk⟩; refine ⟨_, rfl, ?_⟩; replace BK486 := Aside0.mk (KeepBut.blk hk (g' := gb486) (o := .cells #[.int .i64 0, .int .i64 0, .int .i64 0, .int .i64 0] 50 (0, 0)) (bK BK486) NB486_0.out (by simp)); replace HK := Aside0.mk (KeepBut.trans (by exact sK1 HK.out GW486.out) hk (.inl rfl)); replace HB := Aside0.mk (hb); replace HI0 := Aside0.mk (hi); (try clear hb); (try clear hk); (try clear hi)) | ((with_reducible refine gate_callee (f := 174) rfl ?_); refine gL (some 8) Try.func174 #[.pointer (some ⟨g, 0, none⟩), .int .i64 (wrap64 (1 + t487))] ?_; (with_reducible refine (spec_l4Draw.calls g s0_0 t488 t489 (wrap64 (1 + t487)) t490 t491 t492 t493 t494 t495 w0 _ ?_ ?_ A3.out).mono ?_); exact sI1381 HI0.out NB0_486.out; exact sB2 HB.out (IsS138.ge HI0.out) GE486.out; rintro e w9 ⟨rfl, hi, hb, hk⟩; refine ⟨_, rfl, ?_⟩; replace BK486 := Aside0.mk (KeepBut.blk hk (g' := gb486) (o := .cells #[.int .i64 0, .int .i64 0, .int .i64 0, .int .i64 0] 50 (0, 0)) (bK BK486) NB486_0.out (by simp)); replace HK := Aside0.mk (KeepBut.trans (by exact sK1 HK.out GW486.out) hk (.inl rfl)); replace HB := Aside0.mk (hb); replace HI0 := Aside0.mk (hi); (try clear hb); (try clear hk); (try clear hi)) | ((with_reducible refine gate_dst (N := 3) rfl ?_); refine bE (N := 3) (cs := #[.int .i64 0, .int .i64 0, .int .i64 0, .int .i64 0]) (t := 50) ?_; intro gb496 hg w10 hbox hb; have n0_ := Aside0.mk (IsS138.below (by exact sI1381 HI0.out NB0_486.out) hb); have n1_ := kb BK486 hb; have n2_ := Aside0.mk (KeepBut.trans (by exact sK1 HK.out GW486.out) (KeepBut.of_below hb g none) (.inl rfl)); have n3_ := Aside0.mk (below_step (by exact sB2 HB.out (IsS138.ge HI0.out) GE486.out) hb); have n4_ := Aside0.mk (hbox); have n5_ := Aside0.mk ((by rw [hg]; exact (keep_size (w := w) (g := g) (row := none) (by exact sK1 HK.out GW486.out)) : w.heap.size ≤ gb496)); have n6_ := Aside0.mk ((Nat.le_trans HW0.out (by rw [hg]; exact (keep_size (w := w) (g := g) (row := none) (by exact sK1 HK.out GW486.out)) : w.heap.size ≤ gb496) : w0.heap.size ≤ gb496)); have n7_ := nl BK486 hg; have n8_ := nr BK486 hg; have n9_ := Aside0.mk ((by rw [hg]; exact Nat.ne_of_lt (IsS138.lt (show IsS138 w0 _ g s0_0 t494 t495 from by exact sI1381 HI0.out NB0_486.out)) : g ≠ gb496)); have n10_ := Aside0.mk ((by rw [hg]; exact Nat.ne_of_gt (IsS138.lt (show IsS138 w0 _ g s0_0 t494 t495 from by exact sI1381 HI0.out NB0_486.out)) : gb496 ≠ g)); clear HI0; clear BK486; clear HK; clear HB; have HI0 := n0_; have BK486 := n1_; have HK := n2_; have HB := n3_; have BK496 := n4_; have GW496 := n5_; have GE496 := n6_; have NB486_496 := n7_; have NB496_486 := n8_; have NB0_496 := n9_; have NB496_0 := n10_; clear n0_ n1_ n2_ n3_ n4_ n5_ n6_ n7_ n8_ n9_ n10_; clear hb hbox hg; have hnb11 := NB496_486.out; have hnc11 := NB486_496.out; have hnb12 := NB496_0.out; have hnc12 := NB0_496.out; obtain ⟨_, _, _, _, _, _, _, _⟩ := blkc4 BK496) | ((with_reducible refine gate_callee (f := 84) rfl ?_); refine gL (some 10) Try.func84 #[.pointer (some ⟨g, 0, none⟩), .int .i64 10] ?_; (with_reducible refine (spec_l1Below.calls g s0_0 t494 t495 10 t497 t498 t499 w0 _ ?_ ?_ A4.out).mono ?_); exact sI1382 HI0.out NB0_486.out NB0_496.out; exact sB3 HB.out (IsS138.ge HI0.out) GE486.out GE496.out; rintro e w14 ⟨rfl, hi, hb, hk⟩; refine ⟨_, rfl, ?_⟩; replace BK486 := Aside0.mk (KeepBut.blk hk (g' := gb486) (o := .cells #[.int .i64 0, .int .i64 0, .int .i64 0, .int .i64 0] 50 (0, 0)) (kf BK486 NB486_496) NB486_0.out (by simp)); replace BK496 := Aside0.mk (KeepBut.blk hk (g' := gb496) (o := .cells #[.int .i64 t490, .int .i64 t491, .int .i64 t492, .int .i64 t493] 50 (0, 0)) (kp BK496) NB496_0.out (by simp)); replace HK := Aside0.mk (KeepBut.trans (by exact sK2 HK.out GW486.out GW496.out) hk (.inl rfl)); replace HB := Aside0.mk (hb); replace HI0 := Aside0.mk (hi); (try clear hb); (try clear hk); (try clear hi)))
 by_cases c5 : t497 = 0
 ·
  rw [if_pos c5] at H
  have c5b0 : (t497 == 0) = true := beq_iff_eq.mpr c5
  have c5b1 : (t497 != 0) = false := bne_eq_false_iff_eq.mpr c5
  clear c5
  obtain ⟨y500, hy500⟩ : ∃ y_ : List Int, y_ = (([0, 20, 21] : List Int)) := ⟨_, rfl⟩
  replace H : ((spec_l1Int.f s0_0 t498 t499 y500).bind fun bt503 => (some (bt503.1, t491, t492, t493, bt503.2.1, bt503.2.2))) = some (r1, r2, r3, r4, r5, r6) := rH H hy500
  have Ny500 := Aside0.mk hy500
  clear hy500
  obtain ⟨⟨t503, t504, t505⟩, A6, H⟩ := bindE H
  try dsimp only at H
  simp only [Option.some.injEq, Prod.mk.injEq] at H
  obtain ⟨rfl, rfl, rfl, rfl, rfl, rfl⟩ := H
  go_wp2_with (first | ((with_reducible refine gate_dst (N := 14) rfl ?_); refine Kd.R_lit (Kd.int .i64) _ 3 ?hg (N := 14) ?hd (xs := ([0, 20, 21] : List Int)) (inner := [.int .i64 0, .int .i64 20, .int .i64 21]) (ok := fun _ => True) (okp := fun _ => True) ?hr ?hp (fun _ hk => hk) trivial (Below.refl _ _) (Nat.le_refl _) (by simp) ?_; (case hd => rfl); (case hg => rfl); (case hr => first | (go_simp; done) | (go_simp; rfl)); (case hp => exact (Reps.one (show Kd.M (Kd.int .i64) _ _ _ 0 [.int .i64 0] from rfl) (Reps.one (show Kd.M (Kd.int .i64) _ _ _ 20 [.int .i64 20] from rfl) (Reps.one (show Kd.M (Kd.int .i64) _ _ _ 21 [.int .i64 21] from rfl) (Reps.none _ _))))); intro v501 w15 ho16 hb hg_ hnew_; clear hg_ hnew_; (first | rw [← Ny500.out] at ho16 | (simp only [Int.reduceToNat] at ho16; rw [← Ny500.out] at ho16)); have HO502 := Aside0.mk (Kd.R_lower ho16 (keep_size (w := w) (g := g) (row := none) (by exact sK2 HK.out GW486.out GW496.out))); replace BK486 := kb BK486 hb; replace BK496 := kb BK496 hb; replace HK := Aside0.mk (KeepBut.trans (by exact sK2 HK.out GW486.out GW496.out) (KeepBut.of_below hb g none) (.inl rfl)); replace HB := Aside0.mk (below_step (by exact sB3 HB.out (IsS138.ge HI0.out) GE486.out GE496.out) hb); replace HI0 := Aside0.mk (IsS138.below (by exact sI1382 HI0.out NB0_486.out NB0_496.out) hb); clear hb ho16; obtain ⟨Ao17, co17, eo17⟩ := Kd.R_slice HO502.out; subst eo17) | ((with_reducible refine gate_callee (f := 94) rfl ?_); refine gL (some 15) Try.func94 #[.pointer (some ⟨g, 0, none⟩), .slice Ao17 y500.length co17] ?_; (with_reducible refine (spec_l1Int.calls g s0_0 t498 t499 _ _ y500 t503 t504 t505 w0 _ ?_ ?_ ?_ ?_ ?_ A6.out).mono ?_); exact sI1382 HI0.out NB0_486.out NB0_496.out; exact sB3 HB.out (IsS138.ge HI0.out) GE486.out GE496.out; exact cO ⟨(Kd.R_reads' HO502.out).2.2⟩; exact (Kd.R_reads' HO502.out).2.1; exact far_slice (IsS138.own_ne HI0.out HO502.out (by decide)); rintro e w18 ⟨rfl, hi, hb, hk⟩; refine ⟨_, rfl, ?_⟩; replace BK486 := Aside0.mk (KeepBut.blk hk (g' := gb486) (o := .cells #[.int .i64 0, .int .i64 0, .int .i64 0, .int .i64 0] 50 (0, 0)) (bK BK486) NB486_0.out (by simp)); replace BK496 := Aside0.mk (KeepBut.blk hk (g' := gb496) (o := .cells #[.int .i64 t490, .int .i64 t491, .int .i64 t492, .int .i64 t493] 50 (0, 0)) (bK BK496) NB496_0.out (by simp)); replace HO502 := Aside0.mk (Kd.R_mono (Kd.R_keep (IsS138.apart (show IsS138 w0 _ g s0_0 t498 t499 from by exact sI1382 HI0.out NB0_486.out NB0_496.out) (rK HO502) (by decide)) hk (fun _ h => h.2)) (fun _ h => h.1)); replace HK := Aside0.mk (KeepBut.trans (by exact sK2 HK.out GW486.out GW496.out) hk (.inl rfl)); replace HB := Aside0.mk (hb); replace HI0 := Aside0.mk (hi); (try clear hb); (try clear hk); (try clear hi); obtain ⟨_, _, _, _, _, _, _, _⟩ := blkc4 BK496; have hnb20 := NB486_0.out; have hnc20 := NB0_486.out; obtain ⟨_, _, _, _, _, _, _, _⟩ := blkc4 BK486))
  refine bodyPost_ret (results_cell_row rfl _ _ gb486 50 #[.int .i64 t503, .int .i64 t491, .int .i64 t492, .int .i64 t493] (0, 0) _ rfl (kP BK486 NB486_496) Try.underlying50 rfl (by kernel_rfl)) rfl ?_
  exact ⟨rA, by exact sI1382 HI0.out NB0_486.out NB0_496.out, by exact sB3 HB.out (IsS138.ge HI0.out) GE486.out GE496.out, by exact sK2 HK.out GW486.out GW496.out⟩
 rw [if_neg c5] at H
 have c5b0 : (t497 == 0) = false := beq_eq_false_iff_ne.mpr c5
 have c5b1 : (t497 != 0) = true := bne_iff_ne.mpr c5
 by_cases c22 : t497 = 1
 ·
  rw [if_pos c22] at H
  have c22b0 : (t497 == 1) = true := beq_iff_eq.mpr c22
  have c22b1 : (t497 != 1) = false := bne_eq_false_iff_eq.mpr c22
  clear c22
  obtain ⟨y506, hy506⟩ : ∃ y_ : List Int, y_ = (([0, 2, 4] : List Int)) := ⟨_, rfl⟩
  replace H : ((spec_l1Int.f s0_0 t498 t499 y506).bind fun bt509 => (some (t490, bt509.1, t492, t493, bt509.2.1, bt509.2.2))) = some (r1, r2, r3, r4, r5, r6) := rH H hy506
  have Ny506 := Aside0.mk hy506
  clear hy506
  obtain ⟨⟨t509, t510, t511⟩, A23, H⟩ := bindE H
  try dsimp only at H
  simp only [Option.some.injEq, Prod.mk.injEq] at H
  obtain ⟨rfl, rfl, rfl, rfl, rfl, rfl⟩ := H
  go_wp2_with (first | ((with_reducible refine gate_dst (N := 20) rfl ?_); refine Kd.R_lit (Kd.int .i64) _ 3 ?hg (N := 20) ?hd (xs := ([0, 2, 4] : List Int)) (inner := [.int .i64 0, .int .i64 2, .int .i64 4]) (ok := fun _ => True) (okp := fun _ => True) ?hr ?hp (fun _ hk => hk) trivial (Below.refl _ _) (Nat.le_refl _) (by simp) ?_; (case hd => rfl); (case hg => rfl); (case hr => first | (go_simp; done) | (go_simp; rfl)); (case hp => exact (Reps.one (show Kd.M (Kd.int .i64) _ _ _ 0 [.int .i64 0] from rfl) (Reps.one (show Kd.M (Kd.int .i64) _ _ _ 2 [.int .i64 2] from rfl) (Reps.one (show Kd.M (Kd.int .i64) _ _ _ 4 [.int .i64 4] from rfl) (Reps.none _ _))))); intro v507 w32 ho33 hb hg_ hnew_; clear hg_ hnew_; (first | rw [← Ny506.out] at ho33 | (simp only [Int.reduceToNat] at ho33; rw [← Ny506.out] at ho33)); have HO508 := Aside0.mk (Kd.R_lower ho33 (keep_size (w := w) (g := g) (row := none) (by exact sK2 HK.out GW486.out GW496.out))); replace BK486 := kb BK486 hb; replace BK496 := kb BK496 hb; replace HK := Aside0.mk (KeepBut.trans (by exact sK2 HK.out GW486.out GW496.out) (KeepBut.of_below hb g none) (.inl rfl)); replace HB := Aside0.mk (below_step (by exact sB3 HB.out (IsS138.ge HI0.out) GE486.out GE496.out) hb); replace HI0 := Aside0.mk (IsS138.below (by exact sI1382 HI0.out NB0_486.out NB0_496.out) hb); clear hb ho33; obtain ⟨Ao34, co34, eo34⟩ := Kd.R_slice HO508.out; subst eo34) | ((with_reducible refine gate_callee (f := 94) rfl ?_); refine gL (some 21) Try.func94 #[.pointer (some ⟨g, 0, none⟩), .slice Ao34 y506.length co34] ?_; (with_reducible refine (spec_l1Int.calls g s0_0 t498 t499 _ _ y506 t509 t510 t511 w0 _ ?_ ?_ ?_ ?_ ?_ A23.out).mono ?_); exact sI1382 HI0.out NB0_486.out NB0_496.out; exact sB3 HB.out (IsS138.ge HI0.out) GE486.out GE496.out; exact cO ⟨(Kd.R_reads' HO508.out).2.2⟩; exact (Kd.R_reads' HO508.out).2.1; exact far_slice (IsS138.own_ne HI0.out HO508.out (by decide)); rintro e w35 ⟨rfl, hi, hb, hk⟩; refine ⟨_, rfl, ?_⟩; replace BK486 := Aside0.mk (KeepBut.blk hk (g' := gb486) (o := .cells #[.int .i64 0, .int .i64 0, .int .i64 0, .int .i64 0] 50 (0, 0)) (bK BK486) NB486_0.out (by simp)); replace BK496 := Aside0.mk (KeepBut.blk hk (g' := gb496) (o := .cells #[.int .i64 t490, .int .i64 t491, .int .i64 t492, .int .i64 t493] 50 (0, 0)) (bK BK496) NB496_0.out (by simp)); replace HO508 := Aside0.mk (Kd.R_mono (Kd.R_keep (IsS138.apart (show IsS138 w0 _ g s0_0 t498 t499 from by exact sI1382 HI0.out NB0_486.out NB0_496.out) (rK HO508) (by decide)) hk (fun _ h => h.2)) (fun _ h => h.1)); replace HK := Aside0.mk (KeepBut.trans (by exact sK2 HK.out GW486.out GW496.out) hk (.inl rfl)); replace HB := Aside0.mk (hb); replace HI0 := Aside0.mk (hi); (try clear hb); (try clear hk); (try clear hi); obtain ⟨_, _, _, _, _, _, _, _⟩ := blkc4 BK496; have hnb37 := NB486_0.out; have hnc37 := NB0_486.out; obtain ⟨_, _, _, _, _, _, _, _⟩ := blkc4 BK486))
  refine bodyPost_ret (results_cell_row rfl _ _ gb486 50 #[.int .i64 t490, .int .i64 t509, .int .i64 t492, .int .i64 t493] (0, 0) _ rfl (kP BK486 NB486_496) Try.underlying50 rfl (by kernel_rfl)) rfl ?_
  exact ⟨rA, by exact sI1382 HI0.out NB0_486.out NB0_496.out, by exact sB3 HB.out (IsS138.ge HI0.out) GE486.out GE496.out, by exact sK2 HK.out GW486.out GW496.out⟩
 rw [if_neg c22] at H
 have c22b0 : (t497 == 1) = false := beq_eq_false_iff_ne.mpr c22
 have c22b1 : (t497 != 1) = true := bne_iff_ne.mpr c22
 by_cases c39 : t497 = 2
 ·
  rw [if_pos c39] at H
  have c39b0 : (t497 == 2) = true := beq_iff_eq.mpr c39
  have c39b1 : (t497 != 2) = false := bne_eq_false_iff_eq.mpr c39
  clear c39
  obtain ⟨⟨t512, t513, t514⟩, A40, H⟩ := bindE H
  try dsimp only at H
  simp only [Option.some.injEq, Prod.mk.injEq] at H
  obtain ⟨rfl, rfl, rfl, rfl, rfl, rfl⟩ := H
  go_wp2_with (first | ((with_reducible refine gate_callee (f := 129) rfl ?_); refine gL (some 26) Try.func129 #[.pointer (some ⟨g, 0, none⟩)] ?_; (with_reducible refine (spec_l4Raw.calls g s0_0 t498 t499 t512 t513 t514 w0 _ ?_ ?_ A40.out).mono ?_); exact sI1382 HI0.out NB0_486.out NB0_496.out; exact sB3 HB.out (IsS138.ge HI0.out) GE486.out GE496.out; rintro e w49 ⟨rfl, hi, hb, hk⟩; refine ⟨_, rfl, ?_⟩; replace BK486 := Aside0.mk (KeepBut.blk hk (g' := gb486) (o := .cells #[.int .i64 0, .int .i64 0, .int .i64 0, .int .i64 0] 50 (0, 0)) (bK BK486) NB486_0.out (by simp)); replace BK496 := Aside0.mk (KeepBut.blk hk (g' := gb496) (o := .cells #[.int .i64 t490, .int .i64 t491, .int .i64 t492, .int .i64 t493] 50 (0, 0)) (bK BK496) NB496_0.out (by simp)); replace HK := Aside0.mk (KeepBut.trans (by exact sK2 HK.out GW486.out GW496.out) hk (.inl rfl)); replace HB := Aside0.mk (hb); replace HI0 := Aside0.mk (hi); (try clear hb); (try clear hk); (try clear hi); obtain ⟨_, _, _, _, _, _, _, _⟩ := blkc4 BK496; have hnb51 := NB486_0.out; have hnc51 := NB0_486.out; obtain ⟨_, _, _, _, _, _, _, _⟩ := blkc4 BK486))
  refine bodyPost_ret (results_cell_row rfl _ _ gb486 50 #[.int .i64 t490, .int .i64 t491, .int .i64 t512, .int .i64 t493] (0, 0) _ rfl (kP BK486 NB486_496) Try.underlying50 rfl (by kernel_rfl)) rfl ?_
  exact ⟨rA, by exact sI1382 HI0.out NB0_486.out NB0_496.out, by exact sB3 HB.out (IsS138.ge HI0.out) GE486.out GE496.out, by exact sK2 HK.out GW486.out GW496.out⟩
 rw [if_neg c39] at H
 have c39b0 : (t497 == 2) = false := beq_eq_false_iff_ne.mpr c39
 have c39b1 : (t497 != 2) = true := bne_iff_ne.mpr c39
 by_cases c53 : t497 = 3
 ·
  rw [if_pos c53] at H
  have c53b0 : (t497 == 3) = true := beq_iff_eq.mpr c53
  have c53b1 : (t497 != 3) = false := bne_eq_false_iff_eq.mpr c53
  clear c53
  obtain ⟨⟨t515, t516, t517⟩, A54, H⟩ := bindE H
  try dsimp only at H
  simp only [Option.some.injEq, Prod.mk.injEq] at H
  obtain ⟨rfl, rfl, rfl, rfl, rfl, rfl⟩ := H
  go_wp2_with (first | ((with_reducible refine gate_callee (f := 129) rfl ?_); refine gL (some 31) Try.func129 #[.pointer (some ⟨g, 0, none⟩)] ?_; (with_reducible refine (spec_l4Raw.calls g s0_0 t498 t499 t515 t516 t517 w0 _ ?_ ?_ A54.out).mono ?_); exact sI1382 HI0.out NB0_486.out NB0_496.out; exact sB3 HB.out (IsS138.ge HI0.out) GE486.out GE496.out; rintro e w63 ⟨rfl, hi, hb, hk⟩; refine ⟨_, rfl, ?_⟩; replace BK486 := Aside0.mk (KeepBut.blk hk (g' := gb486) (o := .cells #[.int .i64 0, .int .i64 0, .int .i64 0, .int .i64 0] 50 (0, 0)) (bK BK486) NB486_0.out (by simp)); replace BK496 := Aside0.mk (KeepBut.blk hk (g' := gb496) (o := .cells #[.int .i64 t490, .int .i64 t491, .int .i64 t492, .int .i64 t493] 50 (0, 0)) (bK BK496) NB496_0.out (by simp)); replace HK := Aside0.mk (KeepBut.trans (by exact sK2 HK.out GW486.out GW496.out) hk (.inl rfl)); replace HB := Aside0.mk (hb); replace HI0 := Aside0.mk (hi); (try clear hb); (try clear hk); (try clear hi); obtain ⟨_, _, _, _, _, _, _, _⟩ := blkc4 BK496; have hnb65 := NB486_0.out; have hnc65 := NB0_486.out; obtain ⟨_, _, _, _, _, _, _, _⟩ := blkc4 BK486))
  refine bodyPost_ret (results_cell_row rfl _ _ gb486 50 #[.int .i64 t490, .int .i64 t491, .int .i64 t492, .int .i64 t515] (0, 0) _ rfl (kP BK486 NB486_496) Try.underlying50 rfl (by kernel_rfl)) rfl ?_
  exact ⟨rA, by exact sI1382 HI0.out NB0_486.out NB0_496.out, by exact sB3 HB.out (IsS138.ge HI0.out) GE486.out GE496.out, by exact sK2 HK.out GW486.out GW496.out⟩
 rw [if_neg c53] at H
 have c53b0 : (t497 == 3) = false := beq_eq_false_iff_ne.mpr c53
 have c53b1 : (t497 != 3) = true := bne_iff_ne.mpr c53
 simp only [Option.some.injEq, Prod.mk.injEq] at H
 obtain ⟨rfl, rfl, rfl, rfl, rfl, rfl⟩ := H
 obtain ⟨_, _, _, _, _, _, _, _⟩ := blkc4 BK496
 have hnb76 := NB486_0.out
 have hnc76 := NB0_486.out
 obtain ⟨_, _, _, _, _, _, _, _⟩ := blkc4 BK486
 go_wp2
 refine bodyPost_ret (results_cell_row rfl _ _ gb486 50 #[.int .i64 t490, .int .i64 t491, .int .i64 t492, .int .i64 t493] (0, 0) _ rfl (kp BK486) Try.underlying50 rfl (by kernel_rfl)) rfl ?_
 exact ⟨rA, by exact sI1382 HI0.out NB0_486.out NB0_496.out, by exact sB3 HB.out (IsS138.ge HI0.out) GE486.out GE496.out, by exact sK2 HK.out GW486.out GW496.out⟩

/-! ### spec_l5Any: function 125 -/
def spec_l5Any.f (k : Nat) (s0_0 : List Int) (s0_1 : Int) (s0_2 : Int) : Option ((List (S50)) × Int × Int) := (spec_l5Draw.f k s0_0 s0_1 s0_2).bind fun bt518 => ((spec_l1Once.f s0_0 bt518.2.1 bt518.2.2 6).bind fun bt523 => (if bt523.1 = true then ((spec_l1Below.f s0_0 bt523.2.1 bt523.2.2 (bt518.1.length : Int)).bind fun bt526 => ((spec_l4Any.f s0_0 bt526.2.1 bt526.2.2).bind fun bt529 => (if 0 ≤ bt526.1 then (if bt526.1 < (bt518.1.length : Int) then (some ((bt518.1.set (bt526.1 : Int).toNat (⟨bt529.1, bt529.2.1, bt529.2.2.1, bt529.2.2.2.1⟩ : S50)), bt529.2.2.2.2.1, bt529.2.2.2.2.2)) else (none)) else (none)))) else (some (bt518.1, bt523.2.1, bt523.2.2))))
theorem spec_l5Any.mono : ∀ a0 a1 a2 k, LeO (spec_l5Any.f k a0 a1 a2) (spec_l5Any.f (k + 1) a0 a1 a2) := by
 intro a0 a1 a2 k
 unfold spec_l5Any.f
 exact mz1 spec_l5Draw.mono
set_option maxHeartbeats 8000000 in
set_option maxRecDepth 100000 in
theorem spec_l5Any.calls (k : Nat) (g : Nat) (s0_0 : List Int) (s0_1 : Int) (s0_2 : Int) (r1 : List (S50)) (r2 : Int) (r3 : Int) (w0 w : World) (hI : IsS138 w0 w g s0_0 s0_1 s0_2) (hB : Below w0.heap.size w0 w) (h : spec_l5Any.f k s0_0 s0_1 s0_2 = some (r1, r2, r3)) :
  Calls Try.prog 125 #[.pointer (some ⟨g, 0, none⟩)] w fun e w' => ∃ v0_ : Value, e = .returned (v0_) ∧ Kd.R k50 50 w' w.heap.size (fun _ => True) v0_ r1 ∧ IsS138 w0 w' g s0_0 r2 r3 ∧ Below w0.heap.size w0 w' ∧ KeepBut w w' g none := by
 have hu50 := Try.underlying50
 have HI0 := Aside0.mk hI
 have HK := Aside0.mk (KeepBut.refl w g none)
 have HL := Aside0.mk hB.size
 clear hI
 have HW0 := Aside0.mk hB.size
 have HB := Aside0.mk hB
 clear hB
 have H : ((spec_l5Draw.f k s0_0 s0_1 s0_2).bind fun bt518 => ((spec_l1Once.f s0_0 bt518.2.1 bt518.2.2 6).bind fun bt523 => (if bt523.1 = true then ((spec_l1Below.f s0_0 bt523.2.1 bt523.2.2 (bt518.1.length : Int)).bind fun bt526 => ((spec_l4Any.f s0_0 bt526.2.1 bt526.2.2).bind fun bt529 => (if 0 ≤ bt526.1 then (if bt526.1 < (bt518.1.length : Int) then (some ((bt518.1.set (bt526.1 : Int).toNat (⟨bt529.1, bt529.2.1, bt529.2.2.1, bt529.2.2.2.1⟩ : S50)), bt529.2.2.2.2.1, bt529.2.2.2.2.2)) else (none)) else (none)))) else (some (bt518.1, bt523.2.1, bt523.2.2))))) = some (r1, r2, r3) := h
 clear h
 obtain ⟨⟨t518, t521, t522⟩, A2, H⟩ := bindE H
 try dsimp only at H
 obtain ⟨⟨t523, t524, t525⟩, A3, H⟩ := bindE H
 try dsimp only at H
 by_cases c4 : t523 = true
 ·
  subst c4
  have H1 : ((spec_l1Below.f s0_0 t524 t525 (t518.length : Int)).bind fun bt526 => ((spec_l4Any.f s0_0 bt526.2.1 bt526.2.2).bind fun bt529 => (if 0 ≤ bt526.1 then (if bt526.1 < (t518.length : Int) then (some ((t518.set (bt526.1 : Int).toNat (⟨bt529.1, bt529.2.1, bt529.2.2.1, bt529.2.2.2.1⟩ : S50)), bt529.2.2.2.2.1, bt529.2.2.2.2.2)) else (none)) else (none)))) = some (r1, r2, r3) := by rw [if_pos rfl] at H; exact H
  clear H
  have H := H1
  clear H1
  obtain ⟨⟨t526, t527, t528⟩, A5, H⟩ := bindE H
  try dsimp only at H
  obtain ⟨⟨t529, t530, t531, t532, t533, t534⟩, A6, H⟩ := bindE H
  try dsimp only at H
  have c7 : 0 ≤ t526 := ifN H
  replace H := ifT H
  have c7b0 := decide_eq_true c7
  clear c7
  have c8 : t526 < (t518.length : Int) := ifN H
  replace H := ifT H
  have c8b0 := decide_eq_true c8
  clear c8
  obtain ⟨y535, hy535⟩ : ∃ y_ : List (S50), y_ = (t518.set (t526 : Int).toNat (⟨t529, t530, t531, t532⟩ : S50)) := ⟨_, rfl⟩
  replace H : (some (y535, t533, t534)) = some (r1, r2, r3) := rH H hy535
  have Ny535 := Aside0.mk hy535
  clear hy535
  simp only [Option.some.injEq, Prod.mk.injEq] at H
  obtain ⟨rfl, rfl, rfl⟩ := H
  go_enter Try.func125, Try.ntmps125
  go_wp2_with (first | ((with_reducible refine gate_callee (f := 150) rfl ?_); refine gL (some 5) Try.func150 #[.pointer (some ⟨g, 0, none⟩)] ?_; (with_reducible refine (spec_l5Draw.calls k g s0_0 s0_1 s0_2 t518 t521 t522 w0 _ ?_ ?_ A2.out).mono ?_); exact sI1380 HI0.out; exact sB1 HB.out (IsS138.ge HI0.out); rintro e w10 ⟨v519, rfl, ho0, hi, hb, hk⟩; refine ⟨_, rfl, ?_⟩; have HO520 := Aside0.mk (Kd.R_lower ho0 (keep_size (w := w) (g := g) (row := none) (by exact sK0 HK.out))); replace HK := Aside0.mk (KeepBut.trans (by exact sK0 HK.out) hk (.inl rfl)); replace HB := Aside0.mk (hb); replace HI0 := Aside0.mk (hi); (try clear hb); (try clear hk); (try clear hi); (try clear ho0)) | ((with_reducible refine gate_callee (f := 93) rfl ?_); refine gL (some 7) Try.func93 #[.pointer (some ⟨g, 0, none⟩), .int .i64 6] ?_; (with_reducible refine (spec_l1Once.calls g s0_0 t521 t522 6 true t524 t525 w0 _ ?_ ?_ A3.out).mono ?_); exact sI1380 HI0.out; exact sB1 HB.out (IsS138.ge HI0.out); rintro e w11 ⟨rfl, hi, hb, hk⟩; refine ⟨_, rfl, ?_⟩; replace HO520 := Aside0.mk (Kd.R_mono (Kd.R_keep (IsS138.apart (show IsS138 w0 _ g s0_0 t521 t522 from by exact sI1380 HI0.out) (rK HO520) (by decide)) hk (fun _ h => h.2)) (fun _ h => h.1)); replace HK := Aside0.mk (KeepBut.trans (by exact sK0 HK.out) hk (.inl rfl)); replace HB := Aside0.mk (hb); replace HI0 := Aside0.mk (hi); (try clear hb); (try clear hk); (try clear hi); obtain ⟨Ao12, co12, eo12⟩ := Kd.R_slice HO520.out; subst eo12) | ((with_reducible refine gate_callee (f := 84) rfl ?_); refine gL (some 12) Try.func84 #[.pointer (some ⟨g, 0, none⟩), .int .i64 (t518.length : Int)] ?_; (with_reducible refine (spec_l1Below.calls g s0_0 t524 t525 (t518.length : Int) t526 t527 t528 w0 _ ?_ ?_ A5.out).mono ?_); exact sI1380 HI0.out; exact sB1 HB.out (IsS138.ge HI0.out); rintro e w13 ⟨rfl, hi, hb, hk⟩; refine ⟨_, rfl, ?_⟩; replace HO520 := Aside0.mk (Kd.R_mono (Kd.R_keep (IsS138.apart (show IsS138 w0 _ g s0_0 t524 t525 from by exact sI1380 HI0.out) (rK HO520) (by decide)) hk (fun _ h => h.2)) (fun _ h => h.1)); replace HK := Aside0.mk (KeepBut.trans (by exact sK0 HK.out) hk (.inl rfl)); replace HB := Aside0.mk (hb); replace HI0 := Aside0.mk (hi); (try clear hb); (try clear hk); (try clear hi)) | ((with_reducible refine gate_callee (f := 152) rfl ?_); refine gL (some 14) Try.func152 #[.pointer (some ⟨g, 0, none⟩)] ?_; (with_reducible refine (spec_l4Any.calls g s0_0 t527 t528 t529 t530 t531 t532 t533 t534 w0 _ ?_ ?_ A6.out).mono ?_); exact sI1380 HI0.out; exact sB1 HB.out (IsS138.ge HI0.out); rintro e w14 ⟨rfl, hi, hb, hk⟩; refine ⟨_, rfl, ?_⟩; replace HO520 := Aside0.mk (Kd.R_mono (Kd.R_keep (IsS138.apart (show IsS138 w0 _ g s0_0 t527 t528 from by exact sI1380 HI0.out) (rK HO520) (by decide)) hk (fun _ h => h.2)) (fun _ h => h.1)); replace HK := Aside0.mk (KeepBut.trans (by exact sK0 HK.out) hk (.inl rfl)); replace HB := Aside0.mk (hb); replace HI0 := Aside0.mk (hi); (try clear hb); (try clear hk); (try clear hi); have p9 : 0 ≤ (t526 : Int) := dA; have q9 : (t526 : Int) < ((t518.length : Int) : Int) := dA; obtain ⟨go9, co9, eo9, gb9, gl9, cl9, HG9⟩ := Kd.R_form HO520.out (by omega); (first | cases eo9 | (injection eo9 with ea_ en_ ec_; (first | subst ea_ | (injection ea_ with ea_; subst ea_)); subst ec_; clear en_)); have GB9 := Aside0.mk gb9; have GG9 := Aside0.mk HG9; clear gb9 gl9 HG9; obtain ⟨ce9, hcl9, hM9, hcc9, hfr9⟩ := Kd.R_elem HO520.out z50 (t526 : Int) p9 q9; obtain rfl := k50_openM hM9; have hx9_0 : w14.cell? ⟨go9, (t526 : Int).toNat * 4, none⟩ = some (.int .i64 ((rd_T50 t518 t526).f0)) := hcc9 0 _ rfl; have hx9_1 : w14.cell? ⟨go9, (t526 : Int).toNat * 4 + 1, none⟩ = some (.int .i64 ((rd_T50 t518 t526).f1)) := hcc9 1 _ rfl; have hx9_2 : w14.cell? ⟨go9, (t526 : Int).toNat * 4 + 2, none⟩ = some (.int .i64 ((rd_T50 t518 t526).f2)) := hcc9 2 _ rfl; have hx9_3 : w14.cell? ⟨go9, (t526 : Int).toNat * 4 + 3, none⟩ = some (.int .i64 ((rd_T50 t518 t526).f3)) := hcc9 3 _ rfl; have hf9_0 : w14.frozen? ⟨go9, (t526 : Int).toNat * 4, none⟩ = false := hfr9 0; have hf9_1 : w14.frozen? ⟨go9, (t526 : Int).toNat * 4 + 1, none⟩ = false := hfr9 1; have hf9_2 : w14.frozen? ⟨go9, (t526 : Int).toNat * 4 + 2, none⟩ = false := hfr9 2; have hf9_3 : w14.frozen? ⟨go9, (t526 : Int).toNat * 4 + 3, none⟩ = false := hfr9 3; clear hcl9 hcc9 hfr9 hM9; replace p9 := eq_true p9; replace q9 := eq_true q9; have HX15 := Aside0.mk (show Kd.R k50 50 w14 w.heap.size (fun _ => True) (.slice (some ⟨go9, 0, none⟩) t518.length co12) t518 from (rK HO520)); obtain ⟨ce15, hcl15, hM15, hcc15, hfr15⟩ := Kd.R_elem HX15.out z50 (t526 : Int) (dA) (by have h_ : (t526 : Int) < ((t518.length : Int) : Int) := dA; first | exact h_ | (have e_ := (Kd.R_reads' HO520.out).1; omega) | simpa using h_); obtain rfl := k50_openM hM15; have HP15 := Kd.R_seg HX15.out (t526 : Int) (dA) (by have h_ : (t526 : Int) < ((t518.length : Int) : Int) := dA; first | exact h_ | (have e_ := (Kd.R_reads' HO520.out).1; omega) | simpa using h_) (seg := [.int .i64 t529, .int .i64 t530, .int .i64 t531, .int .i64 t532]) (j := 0) hcl15 hcc15 (show 4 ≤ 4 from by decide) (x' := (⟨t529, t530, t531, t532⟩ : S50)) (k50_mkM _ _ _ (⟨t529, t530, t531, t532⟩ : S50) ) (fun _ hk => hk); have hx15_0 := hcc15 0 _ rfl; (try simp only [show (k50).sz = 4 from rfl, Nat.mul_one, Nat.add_zero] at hx15_0); have hf15_0 := hfr15 0; (try simp only [show (k50).sz = 4 from rfl, Nat.mul_one, Nat.add_zero] at hf15_0); have hx15_1 := hcc15 1 _ rfl; (try simp only [show (k50).sz = 4 from rfl, Nat.mul_one, Nat.add_zero] at hx15_1); have hf15_1 := hfr15 1; (try simp only [show (k50).sz = 4 from rfl, Nat.mul_one, Nat.add_zero] at hf15_1); have hx15_2 := hcc15 2 _ rfl; (try simp only [show (k50).sz = 4 from rfl, Nat.mul_one, Nat.add_zero] at hx15_2); have hf15_2 := hfr15 2; (try simp only [show (k50).sz = 4 from rfl, Nat.mul_one, Nat.add_zero] at hf15_2); have hx15_3 := hcc15 3 _ rfl; (try simp only [show (k50).sz = 4 from rfl, Nat.mul_one, Nat.add_zero] at hx15_3); have hf15_3 := hfr15 3; (try simp only [show (k50).sz = 4 from rfl, Nat.mul_one, Nat.add_zero] at hf15_3); clear hcl15 hcc15 hfr15 hM15) | ((with_reducible refine gate_store (t := 50) (p := 15) rfl ?_); refine store_event (t := 50) (p := 15) (v := ?vo_w16) (w1 := ((((w14.setCell ⟨go9, (t526 : Int).toNat * 4, none⟩ (.int .i64 t529)).setCell ⟨go9, (t526 : Int).toNat * 4 + 1, none⟩ (.int .i64 t530)).setCell ⟨go9, (t526 : Int).toNat * 4 + 2, none⟩ (.int .i64 t531)).setCell ⟨go9, (t526 : Int).toNat * 4 + 3, none⟩ (.int .i64 t532))) ?hg ?ho ?hn ?hr ?_; (case ho => rfl); (case hg => rfl); (case hn => rfl); (case hr => first | (go_simp; done) | (go_simp; rfl)); intro w16 hw; have hg : w14.grownBy w16 (some go9) := (by rw [hw]; exact HP15.2); have hp_ : Kd.R k50 50 w16 w.heap.size (fun _ => True) (.slice (some ⟨go9, 0, none⟩) t518.length co12) y535 := (by rw [hw, Ny535.out]; exact HP15.1); clear HP15; have n0_ := Aside0.mk (IsS138.grown (by exact sI1380 HI0.out) hg (IsS138.own_ne HI0.out HO520.out (by decide))); have n1_ := Aside0.mk (hp_); have n2_ := Aside0.mk ((by rw [hw]; exact below_set (below_set (below_set (below_set (HB.out) (Nat.le_trans HL.out GB9.out)) (Nat.le_trans HL.out GB9.out)) (Nat.le_trans HL.out GB9.out)) (Nat.le_trans HL.out GB9.out) : Below w0.heap.size w0 w16)); have n3_ := Aside0.mk (KeepBut.trans (by exact sK0 HK.out) (KeepBut.of_grown hg g) (Kd.R_base2 HO520.out)); clear HI0; clear HO520; clear HB; clear HK; have HI0 := n0_; have HO520 := n1_; have HB := n2_; have HK := n3_; clear n0_ n1_ n2_ n3_; clear hg hw hp_))
  go_ret
  exact ⟨_, rA, rK HO520, by exact sI1380 HI0.out, by exact sB1 HB.out (IsS138.ge HI0.out), by exact sK0 HK.out⟩
 replace c4 := Bool.eq_false_iff.mpr c4
 subst c4
 have H1 : (some (t518, t524, t525)) = some (r1, r2, r3) := by rw [if_neg (show ¬ (false = true) by decide)] at H; exact H
 clear H
 have H := H1
 clear H1
 simp only [Option.some.injEq, Prod.mk.injEq] at H
 obtain ⟨rfl, rfl, rfl⟩ := H
 go_enter Try.func125, Try.ntmps125
 go_wp2_with (first | ((with_reducible refine gate_callee (f := 150) rfl ?_); refine gL (some 5) Try.func150 #[.pointer (some ⟨g, 0, none⟩)] ?_; (with_reducible refine (spec_l5Draw.calls k g s0_0 s0_1 s0_2 t518 t521 t522 w0 _ ?_ ?_ A2.out).mono ?_); exact sI1380 HI0.out; exact sB1 HB.out (IsS138.ge HI0.out); rintro e w17 ⟨v519, rfl, ho0, hi, hb, hk⟩; refine ⟨_, rfl, ?_⟩; have HO520 := Aside0.mk (Kd.R_lower ho0 (keep_size (w := w) (g := g) (row := none) (by exact sK0 HK.out))); replace HK := Aside0.mk (KeepBut.trans (by exact sK0 HK.out) hk (.inl rfl)); replace HB := Aside0.mk (hb); replace HI0 := Aside0.mk (hi); (try clear hb); (try clear hk); (try clear hi); (try clear ho0)) | ((with_reducible refine gate_callee (f := 93) rfl ?_); refine gL (some 7) Try.func93 #[.pointer (some ⟨g, 0, none⟩), .int .i64 6] ?_; (with_reducible refine (spec_l1Once.calls g s0_0 t521 t522 6 false t524 t525 w0 _ ?_ ?_ A3.out).mono ?_); exact sI1380 HI0.out; exact sB1 HB.out (IsS138.ge HI0.out); rintro e w18 ⟨rfl, hi, hb, hk⟩; refine ⟨_, rfl, ?_⟩; replace HO520 := Aside0.mk (Kd.R_mono (Kd.R_keep (IsS138.apart (show IsS138 w0 _ g s0_0 t521 t522 from by exact sI1380 HI0.out) (rK HO520) (by decide)) hk (fun _ h => h.2)) (fun _ h => h.1)); replace HK := Aside0.mk (KeepBut.trans (by exact sK0 HK.out) hk (.inl rfl)); replace HB := Aside0.mk (hb); replace HI0 := Aside0.mk (hi); (try clear hb); (try clear hk); (try clear hi)))
 go_ret
 exact ⟨_, rA, rK HO520, by exact sI1380 HI0.out, by exact sB1 HB.out (IsS138.ge HI0.out), by exact sK0 HK.out⟩

end Go.Proofs.Ytjgonpcajedkjaa.P
