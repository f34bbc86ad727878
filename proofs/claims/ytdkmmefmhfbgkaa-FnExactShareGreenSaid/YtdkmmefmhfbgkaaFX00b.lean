/- Printed by myprint.py (wip/tools) over the kit's print: what Go's functions compute, and that they do. Lean checks it. -/
import Derived.Test.YtdkmmefmhfbgkaaF0
import Derived.Test.YtdkmmefmhfbgkaaFX00
namespace Go.Proofs.Ytdkmmefmhfbgkaa.P
open Go.RowKit Go.Proofs.YtdkmmefmhfbgkaaW.PrintWords Go.Proofs.YtdkmmefmhfbgkaaW.PrintLast Go.Proofs.YtdkmmefmhfbgkaaW.PrintMore Go.Proofs.Ytdkmmefmhfbgkaa.Sq
attribute [local go_sem] max2_int min2_int max_two min_two max_three min_three max_four min_four
set_option linter.unusedVariables false
set_option linter.unusedSimpArgs false

/-! ### spec_IsTogether: function 82 -/
mutual
def spec_IsTogether.l0 : Nat → List (S89) → List Int → Int → Option (Bool)
 | 0, _, _, _ => none
 | k + 1, x0, x1, x5 => if x5 < (x1.length : Int) then (if 0 ≤ x5 then ((spec_FindPath.f k x0 (rd x1 x5)).bind fun t206 => (if t206 < 0 then (spec_IsTogether.j1 k x0 x1 x5 t206 true) else (if x5 > 0 then (if 0 ≤ (wrap64 (x5 - 1)) then (if (wrap64 (x5 - 1)) < (x1.length : Int) then (spec_IsTogether.j1 k x0 x1 x5 t206 (decide ((rd x1 (wrap64 (x5 - 1))) ≥ (rd x1 x5)))) else (none)) else (none)) else (spec_IsTogether.j1 k x0 x1 x5 t206 false)))) else (none)) else ((spec_ArePaths.f k x0).bind fun t204 => (some t204))
def spec_IsTogether.j1 : Nat → List (S89) → List Int → Int → Int → Bool → Option (Bool)
 | 0, _, _, _, _, _ => none
 | k + 1, x0, x1, x5, x6, x37 => if x37 = true then (some false) else (spec_IsTogether.l1 k x0 x1 x5 x6 0)
def spec_IsTogether.l1 : Nat → List (S89) → List Int → Int → Int → Int → Option (Bool)
 | 0, _, _, _, _, _ => none
 | k + 1, x0, x1, x5, x6, x7 => if x7 < x5 then (if 0 ≤ x6 then (if x6 < (x0.length : Int) then (if 0 ≤ x7 then (if x7 < (x1.length : Int) then ((spec_FindPath.f k x0 (rd x1 x7)).bind fun t211 => (if 0 ≤ t211 then (if t211 < (x0.length : Int) then ((spec_Conflict.f k ((rd_T89 x0 x6).f0) ((rd_T89 x0 x6).f1) ((rd_T89 x0 x6).f2) ((rd_T89 x0 x6).f3) ((rd_T89 x0 t211).f0) ((rd_T89 x0 t211).f1) ((rd_T89 x0 t211).f2) ((rd_T89 x0 t211).f3)).bind fun t213 => (if t213 = true then (some false) else (spec_IsTogether.l1 k x0 x1 x5 x6 (wrap64 (x7 + 1))))) else (none)) else (none))) else (none)) else (none)) else (none)) else (none)) else (spec_IsTogether.l0 k x0 x1 (wrap64 (x5 + 1)))
end
def spec_IsTogether.f (k : Nat) (l0 : List (S89)) (l1 : List Int) : Option (Bool) := spec_IsTogether.l0 k l0 l1 0
theorem spec_IsTogether.mono_l : ∀ k, (∀ y0 y1 y2, LeO (spec_IsTogether.l0 k y0 y1 y2) (spec_IsTogether.l0 (k + 1) y0 y1 y2)) ∧ (∀ y0 y1 y2 y3 y4, LeO (spec_IsTogether.j1 k y0 y1 y2 y3 y4) (spec_IsTogether.j1 (k + 1) y0 y1 y2 y3 y4)) ∧ (∀ y0 y1 y2 y3 y4, LeO (spec_IsTogether.l1 k y0 y1 y2 y3 y4) (spec_IsTogether.l1 (k + 1) y0 y1 y2 y3 y4))
 | 0 => ⟨fun _ _ _ r h => by simp [spec_IsTogether.l0] at h, fun _ _ _ _ _ r h => by simp [spec_IsTogether.j1] at h, fun _ _ _ _ _ r h => by simp [spec_IsTogether.l1] at h⟩
 | k + 1 => by
  obtain ⟨ih0, ih1, ih2⟩ := spec_IsTogether.mono_l k
  refine ⟨?_, ?_, ?_⟩
  ·
   intro y0 y1 y2
   unfold spec_IsTogether.l0
   exact mz6 ih0 ih1 ih2 spec_ArePaths.mono spec_Conflict.mono spec_FindPath.mono
  ·
   intro y0 y1 y2 y3 y4
   unfold spec_IsTogether.j1
   exact mz6 ih0 ih1 ih2 spec_ArePaths.mono spec_Conflict.mono spec_FindPath.mono
  ·
   intro y0 y1 y2 y3 y4
   unfold spec_IsTogether.l1
   exact mz6 ih0 ih1 ih2 spec_ArePaths.mono spec_Conflict.mono spec_FindPath.mono
theorem spec_IsTogether.mono : ∀ a0 a1 k, LeO (spec_IsTogether.f k a0 a1) (spec_IsTogether.f (k + 1) a0 a1) := by
 intro a0 a1 k
 obtain ⟨ih0, ih1, ih2⟩ := spec_IsTogether.mono_l k
 unfold spec_IsTogether.f
 exact mz6 ih0 ih1 ih2 spec_ArePaths.mono spec_Conflict.mono spec_FindPath.mono
def spec_IsTogether.T5 : Bool × List (List Nat × List Nat) := (true, [([], []), ([0], [0]), ([1], [1]), ([2], [2]), ([3, 2], [2, 3]), ([4, 2, 2], [2, 4]), ([5], [5]), ([5], [5]), ([7, 5], [5, 7]), ([6, 8, 5], [5, 6, 8]), ([9, 5], [5, 9]), ([5], [5]), ([5], [5]), ([11, 12, 5], [5, 11, 12]), ([13, 5], [5, 13]), ([10, 14, 5], [5, 10, 14]), ([5, 15, 2], [2, 5, 15]), ([2, 16], [2, 16])])
def spec_IsTogether.B5 : List Nat := [0, 1, 3, 7, 15, 31, 63, 63, 191, 511, 1023, 63, 63, 6207, 14399, 32767, 65535, 131071]
theorem spec_IsTogether.tab5 : rtab .any (opsOf Try.f82 5) = spec_IsTogether.T5 := by kernel_rfl
theorem spec_IsTogether.bits5 : waitsOk spec_IsTogether.T5.2 spec_IsTogether.B5 = true := by kernel_rfl
def spec_IsTogether.T10 : Bool × List (List Nat × List Nat) := (true, [([], []), ([], []), ([0, 1], [0, 1]), ([2], [2]), ([], []), ([], []), ([], []), ([], []), ([6, 7], [6, 7]), ([8], [8]), ([5, 9], [5, 9]), ([4, 10], [4, 10]), ([11], [11]), ([3, 12, 10], [3, 12])])
def spec_IsTogether.B10 : List Nat := [0, 0, 3, 7, 0, 0, 0, 0, 192, 448, 992, 2032, 4080, 8191]
theorem spec_IsTogether.tab10 : rtab .any (opsOf Try.f82 10) = spec_IsTogether.T10 := by kernel_rfl
theorem spec_IsTogether.bits10 : waitsOk spec_IsTogether.T10.2 spec_IsTogether.B10 = true := by kernel_rfl
set_option maxHeartbeats 8000000 in
set_option maxRecDepth 100000 in
theorem spec_IsTogether.calls (k : Nat) (A0 : Option Addr) (c0 : Nat) (l0 : List (S89)) (A1 : Option Addr) (c1 : Nat) (l1 : List Int) (r : Bool) (w : World) (hr0 : Kd.C k89 w A0 l0.length l0) (hc0 : l0.length ≤ c0) (hr1 : Kd.C (Kd.int .i64) w A1 l1.length l1) (hc1 : l1.length ≤ c1) (h : spec_IsTogether.f k l0 l1 = some r) :
  Calls Try.prog 82 #[.slice A0 l0.length c0, .slice A1 l1.length c1] w fun e w' => e = .returned (.bool r) ∧ Below w.heap.size w w' := by
 have hu89 := Try.underlying89
 have HR0 := Aside0.mk hr0
 have HC0 := Aside0.mk hc0
 clear hr0 hc0
 have HR1 := Aside0.mk hr1
 have HC1 := Aside0.mk hc1
 clear hr1 hc1
 have HB := Aside0.mk (Below.refl w.heap.size w)
 have H : (spec_IsTogether.l0 k l0 l1 0) = some r := h
 clear h
 have H' := Aside0.mk H
 clear H
 go_enter Try.func82, Try.ntmps82
 go_wp2
 go_loopg [5] k (fun kq v5 w' => ∃ (x5_1 : Int), v5 = .int .i64 x5_1 ∧ Aside0 (spec_IsTogether.l0 kq l0 l1 x5_1 = some r) ∧ Aside0 (kq ≤ k) ∧ Aside0 (Below w.heap.size w w'))
 case atStart => exact ⟨(0), rS, H', ⟨Nat.le_refl _⟩, ⟨bA⟩⟩
 case round =>
  clear H'
  obtain ⟨x5_1, rfl, HA, HK1, HB⟩ := hrel
  cases gk with
  | zero => exact absurd HA.out (by simp [spec_IsTogether.l0])
  | succ k1 =>
   have H := HA.out
   clear HA
   simp only [spec_IsTogether.l0] at H
   by_cases c3 : x5_1 < (l1.length : Int)
   ·
    rw [if_pos c3] at H
    have c3b0 := decide_eq_true c3
    clear c3
    have c4 : 0 ≤ x5_1 := ifN H
    replace H := ifT H
    have c4b0 := decide_eq_true c4
    clear c4
    obtain ⟨t206, A5, H⟩ := bindE H
    try dsimp only at H
    have HC6 := Aside0.mk H
    clear H
    obtain ⟨p205, q205⟩ : 0 ≤ (x5_1 : Int) ∧ x5_1 < (l1.length : Int) := ⟨dA, dA⟩
    obtain ⟨ad205, e205, hx205_0⟩ := Kd.at_int (Kd.C_below HR1.out HB.out) x5_1 p205 q205
    cases e205
    obtain ⟨p205, q205⟩ := eT p205 q205
    go_upto_region 5 with (first | ((with_reducible refine gate_callee (f := 116) rfl ?_); refine gL (some 19) Try.func116 #[.slice A0 l0.length c0, .int .i64 (rd l1 x5_1)] ?_; (with_reducible refine (spec_FindPath.calls k1 _ _ l0 (rd l1 x5_1) t206 _ ?_ ?_ A5.out).mono ?_); exact cB HR0; exact HC0.out; rintro e w' ⟨rfl, ⟨nd, rfl⟩⟩; refine ⟨_, rfl, ?_⟩))
    (try simp only [Act.put, List.setIfInBounds_toArray, List.set_cons_zero, List.set_cons_succ])
    go_cut [37] (fun v37 wc => ∃ (kq : Nat) (x37_5 : Bool), v37 = .bool x37_5 ∧ Aside0 (spec_IsTogether.j1 kq l0 l1 x5_1 t206 x37_5 = some r) ∧ Aside0 (kq ≤ k1) ∧ Aside0 (Below w.heap.size w wc))
    case first =>
     have H := HC6.out
     clear HC6
     by_cases c7 : t206 < 0
     ·
      rw [if_pos c7] at H
      have c7b0 := decide_eq_true c7
      clear c7
      (first | rw [c7b0] | (simp only [i64_w, i32_w]; rw [c7b0]) | skip)
      have H' := Aside0.mk H
      clear H
      try go_wp2
      have HBo := HB
      replace HB := db HB
      refine sw (ds := []) 18 (mb 18 0) spec_IsTogether.tab5 spec_IsTogether.bits5 h0 (fun hHeld HT_ HW_ => ?_)
      generalize wr.drew = w8 at HB hHeld ⊢
      refine pa 0 20 (mb 18 1) HT_ ?_
      refine pa 1 21 (mb 18 3) HT_ ?_
      refine pa 2 22 (mb 18 7) HT_ ?_
      refine pu 3 23 (mb 18 15) HT_ ?_
      refine pu 4 24 (mb 18 31) HT_ ?_
      refine pu 5 25 (mb 18 63) HT_ ?_
      refine pu 6 26 (mb 18 127) HT_ ?_
      refine pu 7 27 (mb 18 255) HT_ ?_
      refine pu 8 28 (mb 18 511) HT_ ?_
      refine pu 9 29 (mb 18 1023) HT_ ?_
      refine pu 10 30 (mb 18 2047) HT_ ?_
      refine pu 11 31 (mb 18 4095) HT_ ?_
      refine pu 12 32 (mb 18 8191) HT_ ?_
      refine pu 13 33 (mb 18 16383) HT_ ?_
      refine pu 14 34 (mb 18 32767) HT_ ?_
      refine pu 15 35 (mb 18 65535) HT_ ?_
      refine pu 16 36 (mb 18 131071) HT_ ?_
      refine pa 17 37 (mb 18 262143) HT_ ?_
      refine eA HT_ ?_
      try go_wp2
      go_meet
      case rel => exact ⟨_, (true), rS, H', ⟨by have := HK1.out; first | omega | exact Nat.le_refl _⟩, ⟨bA⟩⟩
     rw [if_neg c7] at H
     have c7b0 := decide_eq_false c7
     clear c7
     (first | rw [c7b0] | (simp only [i64_w, i32_w]; rw [c7b0]) | skip)
     by_cases c9 : x5_1 > 0
     ·
      rw [if_pos c9] at H
      have c9b0 := decide_eq_true c9
      clear c9
      obtain ⟨ji10, hji10⟩ : ∃ j_ : Int, (wrap64 (x5_1 - 1)) = j_ := ⟨_, rfl⟩
      replace H : (if 0 ≤ (ji10) then (if (ji10) < (l1.length : Int) then (spec_IsTogether.j1 k1 l0 l1 x5_1 t206 (decide ((rd l1 (ji10)) ≥ (rd l1 x5_1)))) else (none)) else (none)) = some r := by first | (rw [hji10] at H; exact H) | (simp only [hji10] at H ⊢; exact H)
      have hji10w : (IntKind.i64.wrap (x5_1 - 1)) = ji10 := (i64_w _).trans hji10
      have c11 : 0 ≤ (ji10) := ifN H
      replace H := ifT H
      have c11b0 := decide_eq_true c11
      clear c11
      have c12 : (ji10) < (l1.length : Int) := ifN H
      replace H := ifT H
      have c12b0 := decide_eq_true c12
      clear c12
      have H' := Aside0.mk H
      clear H
      try go_wp2
      have HBo := HB
      replace HB := db HB
      obtain ⟨p207, q207⟩ : 0 ≤ ((ji10) : Int) ∧ (ji10) < (l1.length : Int) := ⟨dA, dA⟩
      obtain ⟨ad207, e207, hx207_0⟩ := Kd.at_int HR1.out (ji10) p207 q207
      have hw207_0 := hx207_0
      obtain rfl : ad205 = ad207 := (by injection e207)
      replace hx207_0 := hC HB hx207_0
      obtain ⟨p207, q207⟩ := eT p207 q207
      obtain ⟨p208, q208⟩ : 0 ≤ (x5_1 : Int) ∧ x5_1 < (l1.length : Int) := ⟨dA, dA⟩
      obtain ⟨ad208, e208, hx208_0⟩ := Kd.at_int HR1.out x5_1 p208 q208
      have hw208_0 := hx208_0
      obtain rfl : ad205 = ad208 := (by injection e208)
      replace hx208_0 := hC HB hx208_0
      obtain ⟨p208, q208⟩ := eT p208 q208
      refine sw (ds := []) 18 (mb 18 0) spec_IsTogether.tab5 spec_IsTogether.bits5 (h1c (hC HB hw207_0) (h1 (hC HB hw208_0))) (fun hHeld HT_ HW_ => ?_)
      generalize wr.drew = w13 at HB hx207_0 hx208_0 hHeld ⊢
      refine pa 0 20 (mb 18 1) HT_ ?_
      refine pa 1 21 (mb 18 3) HT_ ?_
      refine pa 2 22 (mb 18 7) HT_ ?_
      refine pa 3 23 (mb 18 15) HT_ ?_
      refine pa 4 24 (mb 18 31) HT_ ?_
      refine pa 5 25 (mb 18 63) HT_ ?_
      refine pa 6 26 (mb 18 127) HT_ ?_
      refine pa 7 27 (mb 18 255) HT_ ?_
      refine pa 8 28 (mb 18 511) HT_ ?_
      refine pa 9 29 (mb 18 1023) HT_ ?_
      refine pa 11 31 (mb 18 3071) HT_ ?_
      refine pa 12 32 (mb 18 7167) HT_ ?_
      refine pa 13 33 (mb 18 15359) HT_ ?_
      refine ta2 10 30 (mb 18 16383) HT_ HW_ hHeld ?_
      refine ta2 14 34 (mb 18 32767) HT_ HW_ hHeld ?_
      refine pa 15 35 (mb 18 65535) HT_ ?_
      refine pa 16 36 (mb 18 131071) HT_ ?_
      refine pa 17 37 (mb 18 262143) HT_ ?_
      refine eA HT_ ?_
      try go_wp2
      go_meet
      case rel => exact ⟨_, (decide ((rd l1 (ji10)) ≥ (rd l1 x5_1))), (by first | rfl | (simp; done) | (simp only [← hji10] <;> (first | rfl | simp)) | (simp [*]; done)), H', ⟨by have := HK1.out; first | omega | exact Nat.le_refl _⟩, ⟨bA⟩⟩
     rw [if_neg c9] at H
     have c9b0 := decide_eq_false c9
     clear c9
     have H' := Aside0.mk H
     clear H
     try go_wp2
     have HBo := HB
     replace HB := db HB
     refine sw (ds := []) 18 (mb 18 0) spec_IsTogether.tab5 spec_IsTogether.bits5 h0 (fun hHeld HT_ HW_ => ?_)
     generalize wr.drew = w14 at HB hHeld ⊢
     refine pa 0 20 (mb 18 1) HT_ ?_
     refine pa 1 21 (mb 18 3) HT_ ?_
     refine pa 2 22 (mb 18 7) HT_ ?_
     refine pa 3 23 (mb 18 15) HT_ ?_
     refine pa 4 24 (mb 18 31) HT_ ?_
     refine pa 5 25 (mb 18 63) HT_ ?_
     refine pu 6 26 (mb 18 127) HT_ ?_
     refine pu 7 27 (mb 18 255) HT_ ?_
     refine pu 8 28 (mb 18 511) HT_ ?_
     refine pu 9 29 (mb 18 1023) HT_ ?_
     refine pu 10 30 (mb 18 2047) HT_ ?_
     refine pu 11 31 (mb 18 4095) HT_ ?_
     refine pu 12 32 (mb 18 8191) HT_ ?_
     refine pu 13 33 (mb 18 16383) HT_ ?_
     refine pu 14 34 (mb 18 32767) HT_ ?_
     refine pu 15 35 (mb 18 65535) HT_ ?_
     refine pa 16 36 (mb 18 131071) HT_ ?_
     refine pa 17 37 (mb 18 262143) HT_ ?_
     refine eA HT_ ?_
     try go_wp2
     go_meet
     case rel => exact ⟨_, (false), rS, H', ⟨by have := HK1.out; first | omega | exact Nat.le_refl _⟩, ⟨bA⟩⟩
    case rest =>
     clear HC6
     obtain ⟨kq, x37_5, rfl, HA, HJ5, HB⟩ := hcut
     cases kq with
     | zero => exact absurd HA.out (by simp [spec_IsTogether.j1])
     | succ kj5 =>
      have H := HA.out
      clear HA
      simp only [spec_IsTogether.j1] at H
      by_cases c15 : x37_5 = true
      ·
       subst c15
       have H1 : (some false) = some r := by rw [if_pos rfl] at H; exact H
       clear H
       have H := H1
       clear H1
       obtain rfl := Option.some.inj H
       go_wp2
       go_ret
       exact ⟨rA, bA⟩
      replace c15 := Bool.eq_false_iff.mpr c15
      subst c15
      have H1 : (spec_IsTogether.l1 kj5 l0 l1 x5_1 t206 0) = some r := by rw [if_neg (show ¬ (false = true) by decide)] at H; exact H
      clear H
      have H := H1
      clear H1
      have H' := Aside0.mk H
      clear H
      go_wp2
      go_loopg [7] kj5 (fun kq v7 w' => ∃ (x7_3 : Int), v7 = .int .i64 x7_3 ∧ Aside0 (spec_IsTogether.l1 kq l0 l1 x5_1 t206 x7_3 = some r) ∧ Aside0 (kq ≤ kj5) ∧ Aside0 (Below w.heap.size w w'))
      case atStart => exact ⟨(0), rS, H', ⟨Nat.le_refl _⟩, ⟨bA⟩⟩
      case round =>
       clear H'
       obtain ⟨x7_3, rfl, HA, HK3, HB⟩ := hrel
       cases gk with
       | zero => exact absurd HA.out (by simp [spec_IsTogether.l1])
       | succ k3 =>
        have H := HA.out
        clear HA
        simp only [spec_IsTogether.l1] at H
        by_cases c16 : x7_3 < x5_1
        ·
         rw [if_pos c16] at H
         have c16b0 := decide_eq_true c16
         clear c16
         have c17 : 0 ≤ t206 := ifN H
         replace H := ifT H
         have c17b0 := decide_eq_true c17
         clear c17
         have c18 : t206 < (l0.length : Int) := ifN H
         replace H := ifT H
         have c18b0 := decide_eq_true c18
         clear c18
         have c19 : 0 ≤ x7_3 := ifN H
         replace H := ifT H
         have c19b0 := decide_eq_true c19
         clear c19
         have c20 : x7_3 < (l1.length : Int) := ifN H
         replace H := ifT H
         have c20b0 := decide_eq_true c20
         clear c20
         obtain ⟨t211, A21, H⟩ := bindE H
         try dsimp only at H
         have c22 : 0 ≤ t211 := ifN H
         replace H := ifT H
         have c22b0 := decide_eq_true c22
         clear c22
         have c23 : t211 < (l0.length : Int) := ifN H
         replace H := ifT H
         have c23b0 := decide_eq_true c23
         clear c23
         obtain ⟨t213, A24, H⟩ := bindE H
         try dsimp only at H
         by_cases c25 : t213 = true
         ·
          subst c25
          have H1 : (some false) = some r := by rw [if_pos rfl] at H; exact H
          clear H
          have H := H1
          clear H1
          obtain rfl := Option.some.inj H
          try go_wp2
          have HBo := HB
          replace HB := db HB
          obtain ⟨p209, q209⟩ : 0 ≤ (t206 : Int) ∧ t206 < (l0.length : Int) := ⟨dA, dA⟩
          obtain ⟨ad209, e209, hx209_0, hx209_1, hx209_2, hx209_3⟩ := at_T89 HR0.out t206 p209 q209
          have hw209_3 := hx209_3
          have hw209_2 := hx209_2
          have hw209_1 := hx209_1
          have hw209_0 := hx209_0
          cases e209
          replace hx209_0 := hC HB hx209_0
          replace hx209_1 := hC HB hx209_1
          replace hx209_2 := hC HB hx209_2
          replace hx209_3 := hC HB hx209_3
          obtain ⟨p209, q209⟩ := eT p209 q209
          obtain ⟨p210, q210⟩ : 0 ≤ (x7_3 : Int) ∧ x7_3 < (l1.length : Int) := ⟨dA, dA⟩
          obtain ⟨ad210, e210, hx210_0⟩ := Kd.at_int HR1.out x7_3 p210 q210
          have hw210_0 := hx210_0
          obtain rfl : ad205 = ad210 := (by injection e210)
          replace hx210_0 := hC HB hx210_0
          obtain ⟨p210, q210⟩ := eT p210 q210
          obtain ⟨p212, q212⟩ : 0 ≤ (t211 : Int) ∧ t211 < (l0.length : Int) := ⟨dA, dA⟩
          obtain ⟨ad212, e212, hx212_0, hx212_1, hx212_2, hx212_3⟩ := at_T89 HR0.out t211 p212 q212
          have hw212_3 := hx212_3
          have hw212_2 := hx212_2
          have hw212_1 := hx212_1
          have hw212_0 := hx212_0
          obtain rfl : ad209 = ad212 := (by injection e212)
          replace hx212_0 := hC HB hx212_0
          replace hx212_1 := hC HB hx212_1
          replace hx212_2 := hC HB hx212_2
          replace hx212_3 := hC HB hx212_3
          obtain ⟨p212, q212⟩ := eT p212 q212
          refine sw (ds := []) 14 (mb 14 0) spec_IsTogether.tab10 spec_IsTogether.bits10 (h1c (hC HB hw209_0) (h1c (hC HB hw209_1) (h1c (hC HB hw209_2) (h1c (hC HB hw209_3) (h1c (hC HB hw210_0) (h1c (hC HB hw212_0) (h1c (hC HB hw212_1) (h1c (hC HB hw212_2) (h1 (hC HB hw212_3)))))))))) (fun hHeld HT_ HW_ => ?_)
          generalize wr.drew = w26 at HB hx209_0 hx209_1 hx209_2 hx209_3 hx210_0 hx212_0 hx212_1 hx212_2 hx212_3 hHeld ⊢
          refine pa 0 43 (mb 14 1) HT_ ?_
          refine pa 1 44 (mb 14 3) HT_ ?_
          refine pa 2 45 (mb 14 7) HT_ ?_
          refine pa 4 47 (mb 14 23) HT_ ?_
          refine pa 5 48 (mb 14 55) HT_ ?_
          refine pa 6 49 (mb 14 119) HT_ ?_
          refine pa 7 50 (mb 14 247) HT_ ?_
          refine pa 8 51 (mb 14 503) HT_ ?_
          refine ta9 3 46 (mb 14 511) HT_ HW_ hHeld ?_
          refine ta9 9 52 (mb 14 1023) HT_ HW_ hHeld ?_
          refine oa 10 53 (mb 14 2047) HT_ (fun K hK => ?_)
          refine gA Try.func116 #[.slice (some ad209) l0.length c0, .int .i64 (rd l1 x7_3)] ?_
          with_reducible refine (spec_FindPath.calls k3 _ _ l0 (rd l1 x7_3) t211 _ ?side1 ?side2 A21.out).mono ?_
          (case side1 => exact cB HR0)
          (case side2 => exact HC0.out)
          rintro e w' ⟨rfl, ⟨nd, rfl⟩⟩
          refine ⟨_, rfl, ?_⟩
          refine hK.out _ _ ⟨(hC HB hw209_0), (hC HB hw209_1), (hC HB hw209_2), (hC HB hw209_3), (hC HB hw210_0), (hC HB hw212_0), (hC HB hw212_1), (hC HB hw212_2), (hC HB hw212_3)⟩ (fun hHeld => ?_)
          clear hK K
          refine nB ?_
          refine pa 11 54 (mb 14 4095) HT_ ?_
          refine ta9 12 55 (mb 14 8191) HT_ HW_ hHeld ?_
          refine oa 13 56 (mb 14 16383) HT_ (fun K hK => ?_)
          refine gA Try.func129 #[.agg #[.int .i64 ((rd_T89 l0 t206).f0), .int .i64 ((rd_T89 l0 t206).f1), .int .i64 ((rd_T89 l0 t206).f2), .int .i64 ((rd_T89 l0 t206).f3)], .agg #[.int .i64 ((rd_T89 l0 t211).f0), .int .i64 ((rd_T89 l0 t211).f1), .int .i64 ((rd_T89 l0 t211).f2), .int .i64 ((rd_T89 l0 t211).f3)]] ?_
          with_reducible refine (spec_Conflict.calls k3 ((rd_T89 l0 t206).f0) ((rd_T89 l0 t206).f1) ((rd_T89 l0 t206).f2) ((rd_T89 l0 t206).f3) ((rd_T89 l0 t211).f0) ((rd_T89 l0 t211).f1) ((rd_T89 l0 t211).f2) ((rd_T89 l0 t211).f3) true _ A24.out).mono ?_
          rintro e w27 ⟨rfl, hb⟩
          refine ⟨_, rfl, ?_⟩
          replace HB := bs HB hb
          (try clear hb)
          (try clear hb2)
          (try clear hk)
          (try clear hi)
          refine hK.out _ _ ⟨(hC HB hw209_0), (hC HB hw209_1), (hC HB hw209_2), (hC HB hw209_3), (hC HB hw210_0), (hC HB hw212_0), (hC HB hw212_1), (hC HB hw212_2), (hC HB hw212_3)⟩ (fun hHeld => ?_)
          clear hK K
          refine nB ?_
          refine eA HT_ ?_
          try go_wp2
          go_ret
          exact ⟨rA, bA⟩
         replace c25 := Bool.eq_false_iff.mpr c25
         subst c25
         have H1 : (spec_IsTogether.l1 k3 l0 l1 x5_1 t206 (wrap64 (x7_3 + 1))) = some r := by rw [if_neg (show ¬ (false = true) by decide)] at H; exact H
         clear H
         have H := H1
         clear H1
         have H' := Aside0.mk H
         clear H
         try go_wp2
         have HBo := HB
         replace HB := db HB
         obtain ⟨p209, q209⟩ : 0 ≤ (t206 : Int) ∧ t206 < (l0.length : Int) := ⟨dA, dA⟩
         obtain ⟨ad209, e209, hx209_0, hx209_1, hx209_2, hx209_3⟩ := at_T89 HR0.out t206 p209 q209
         have hw209_3 := hx209_3
         have hw209_2 := hx209_2
         have hw209_1 := hx209_1
         have hw209_0 := hx209_0
         cases e209
         replace hx209_0 := hC HB hx209_0
         replace hx209_1 := hC HB hx209_1
         replace hx209_2 := hC HB hx209_2
         replace hx209_3 := hC HB hx209_3
         obtain ⟨p209, q209⟩ := eT p209 q209
         obtain ⟨p210, q210⟩ : 0 ≤ (x7_3 : Int) ∧ x7_3 < (l1.length : Int) := ⟨dA, dA⟩
         obtain ⟨ad210, e210, hx210_0⟩ := Kd.at_int HR1.out x7_3 p210 q210
         have hw210_0 := hx210_0
         obtain rfl : ad205 = ad210 := (by injection e210)
         replace hx210_0 := hC HB hx210_0
         obtain ⟨p210, q210⟩ := eT p210 q210
         obtain ⟨p212, q212⟩ : 0 ≤ (t211 : Int) ∧ t211 < (l0.length : Int) := ⟨dA, dA⟩
         obtain ⟨ad212, e212, hx212_0, hx212_1, hx212_2, hx212_3⟩ := at_T89 HR0.out t211 p212 q212
         have hw212_3 := hx212_3
         have hw212_2 := hx212_2
         have hw212_1 := hx212_1
         have hw212_0 := hx212_0
         obtain rfl : ad209 = ad212 := (by injection e212)
         replace hx212_0 := hC HB hx212_0
         replace hx212_1 := hC HB hx212_1
         replace hx212_2 := hC HB hx212_2
         replace hx212_3 := hC HB hx212_3
         obtain ⟨p212, q212⟩ := eT p212 q212
         refine sw (ds := []) 14 (mb 14 0) spec_IsTogether.tab10 spec_IsTogether.bits10 (h1c (hC HB hw209_0) (h1c (hC HB hw209_1) (h1c (hC HB hw209_2) (h1c (hC HB hw209_3) (h1c (hC HB hw210_0) (h1c (hC HB hw212_0) (h1c (hC HB hw212_1) (h1c (hC HB hw212_2) (h1 (hC HB hw212_3)))))))))) (fun hHeld HT_ HW_ => ?_)
         generalize wr.drew = w28 at HB hx209_0 hx209_1 hx209_2 hx209_3 hx210_0 hx212_0 hx212_1 hx212_2 hx212_3 hHeld ⊢
         refine pa 0 43 (mb 14 1) HT_ ?_
         refine pa 1 44 (mb 14 3) HT_ ?_
         refine pa 2 45 (mb 14 7) HT_ ?_
         refine pa 4 47 (mb 14 23) HT_ ?_
         refine pa 5 48 (mb 14 55) HT_ ?_
         refine pa 6 49 (mb 14 119) HT_ ?_
         refine pa 7 50 (mb 14 247) HT_ ?_
         refine pa 8 51 (mb 14 503) HT_ ?_
         refine ta9 3 46 (mb 14 511) HT_ HW_ hHeld ?_
         refine ta9 9 52 (mb 14 1023) HT_ HW_ hHeld ?_
         refine oa 10 53 (mb 14 2047) HT_ (fun K hK => ?_)
         refine gA Try.func116 #[.slice (some ad209) l0.length c0, .int .i64 (rd l1 x7_3)] ?_
         with_reducible refine (spec_FindPath.calls k3 _ _ l0 (rd l1 x7_3) t211 _ ?side1 ?side2 A21.out).mono ?_
         (case side1 => exact cB HR0)
         (case side2 => exact HC0.out)
         rintro e w' ⟨rfl, ⟨nd, rfl⟩⟩
         refine ⟨_, rfl, ?_⟩
         refine hK.out _ _ ⟨(hC HB hw209_0), (hC HB hw209_1), (hC HB hw209_2), (hC HB hw209_3), (hC HB hw210_0), (hC HB hw212_0), (hC HB hw212_1), (hC HB hw212_2), (hC HB hw212_3)⟩ (fun hHeld => ?_)
         clear hK K
         refine nB ?_
         refine pa 11 54 (mb 14 4095) HT_ ?_
         refine ta9 12 55 (mb 14 8191) HT_ HW_ hHeld ?_
         refine oa 13 56 (mb 14 16383) HT_ (fun K hK => ?_)
         refine gA Try.func129 #[.agg #[.int .i64 ((rd_T89 l0 t206).f0), .int .i64 ((rd_T89 l0 t206).f1), .int .i64 ((rd_T89 l0 t206).f2), .int .i64 ((rd_T89 l0 t206).f3)], .agg #[.int .i64 ((rd_T89 l0 t211).f0), .int .i64 ((rd_T89 l0 t211).f1), .int .i64 ((rd_T89 l0 t211).f2), .int .i64 ((rd_T89 l0 t211).f3)]] ?_
         with_reducible refine (spec_Conflict.calls k3 ((rd_T89 l0 t206).f0) ((rd_T89 l0 t206).f1) ((rd_T89 l0 t206).f2) ((rd_T89 l0 t206).f3) ((rd_T89 l0 t211).f0) ((rd_T89 l0 t211).f1) ((rd_T89 l0 t211).f2) ((rd_T89 l0 t211).f3) false _ A24.out).mono ?_
         rintro e w29 ⟨rfl, hb⟩
         refine ⟨_, rfl, ?_⟩
         replace HB := bs HB hb
         (try clear hb)
         (try clear hb2)
         (try clear hk)
         (try clear hi)
         refine hK.out _ _ ⟨(hC HB hw209_0), (hC HB hw209_1), (hC HB hw209_2), (hC HB hw209_3), (hC HB hw210_0), (hC HB hw212_0), (hC HB hw212_1), (hC HB hw212_2), (hC HB hw212_3)⟩ (fun hHeld => ?_)
         clear hK K
         refine nB ?_
         refine eA HT_ ?_
         try go_wp2
         go_roundg k3
         case measure => have := HK1.out; have := HJ5.out; have := HK3.out; omega
         case rel => exact ⟨(wrap64 (x7_3 + 1)), rS, H', ⟨by have := HK1.out; have := HJ5.out; have := HK3.out; omega⟩, ⟨bA⟩⟩
        rw [if_neg c16] at H
        have c16b0 := decide_eq_false c16
        clear c16
        have H' := Aside0.mk H
        clear H
        go_wp2
        go_roundg k3
        case measure => have := HK1.out; have := HJ5.out; have := HK3.out; omega
        case rel => exact ⟨(wrap64 (x5_1 + 1)), rS, H', ⟨by have := HK1.out; have := HJ5.out; have := HK3.out; omega⟩, ⟨bA⟩⟩
   rw [if_neg c3] at H
   have c3b0 := decide_eq_false c3
   clear c3
   obtain ⟨t204, A30, H⟩ := bindE H
   try dsimp only at H
   obtain rfl := Option.some.inj H
   go_wp2_with (first | ((with_reducible refine gate_callee (f := 122) rfl ?_); refine gL (some 58) Try.func122 #[.slice A0 l0.length c0] ?_; (with_reducible refine (spec_ArePaths.calls k1 _ _ l0 t204 _ ?_ ?_ A30.out).mono ?_); exact cB HR0; exact HC0.out; rintro e w31 ⟨rfl, hb⟩; refine ⟨_, rfl, ?_⟩; replace HB := bs HB hb; (try clear hb)))
   go_ret
   exact ⟨rA, bA⟩

/-! ### spec_l6Has: function 101 -/
def spec_l6Has.l0 : Nat → List Int → Int → Int → Option (Bool)
 | 0, _, _, _ => none
 | k + 1, x0, x1, x5 => if x5 < (x0.length : Int) then (if 0 ≤ x5 then (if (rd x0 x5) = x1 then (some true) else (spec_l6Has.l0 k x0 x1 (wrap64 (x5 + 1)))) else (none)) else (some false)
def spec_l6Has.f (k : Nat) (l0 : List Int) (a1 : Int) : Option (Bool) := spec_l6Has.l0 k l0 a1 0
theorem spec_l6Has.mono_l : ∀ k, (∀ y0 y1 y2, LeO (spec_l6Has.l0 k y0 y1 y2) (spec_l6Has.l0 (k + 1) y0 y1 y2))
 | 0 => fun _ _ _ r h => by simp [spec_l6Has.l0] at h
 | k + 1 => by
  have ih0 := spec_l6Has.mono_l k
  ·
   intro y0 y1 y2
   unfold spec_l6Has.l0
   exact mz1 ih0
theorem spec_l6Has.mono : ∀ a0 a1 k, LeO (spec_l6Has.f k a0 a1) (spec_l6Has.f (k + 1) a0 a1) := by
 intro a0 a1 k
 have ih0 := spec_l6Has.mono_l k
 unfold spec_l6Has.f
 exact mz1 ih0
set_option maxHeartbeats 8000000 in
set_option maxRecDepth 100000 in
theorem spec_l6Has.calls (k : Nat) (A0 : Option Addr) (c0 : Nat) (l0 : List Int) (a1 : Int) (r : Bool) (w : World) (hr0 : Kd.C (Kd.int .i64) w A0 l0.length l0) (hc0 : l0.length ≤ c0) (h : spec_l6Has.f k l0 a1 = some r) :
  Calls Try.prog 101 #[.slice A0 l0.length c0, .int .i64 a1] w fun e w' => e = .returned (.bool r) ∧ Drawn0 w w' := by
 have HR0 := Aside0.mk hr0
 have HC0 := Aside0.mk hc0
 clear hr0 hc0
 have H : (spec_l6Has.l0 k l0 a1 0) = some r := h
 clear h
 have H' := Aside0.mk H
 clear H
 go_enter Try.func101, Try.ntmps101
 go_wp2
 go_loopg [5] k (fun kq v5 w' => ∃ (x5_1 : Int), v5 = .int .i64 x5_1 ∧ Aside0 (spec_l6Has.l0 kq l0 a1 x5_1 = some r) ∧ Aside0 (kq ≤ k) ∧ Drawn0 w w')
 case atStart => exact ⟨(0), rS, H', ⟨Nat.le_refl _⟩, by repeat (first | exact Drawn0.refl _ | apply Drawn0.step)⟩
 case round =>
  clear H'
  obtain ⟨x5_1, rfl, HA, HK1, ⟨m1, rfl⟩⟩ := hrel
  cases gk with
  | zero => exact absurd HA.out (by simp [spec_l6Has.l0])
  | succ k1 =>
   have H := HA.out
   clear HA
   simp only [spec_l6Has.l0] at H
   by_cases c3 : x5_1 < (l0.length : Int)
   ·
    rw [if_pos c3] at H
    have c3b0 := decide_eq_true c3
    clear c3
    have c4 : 0 ≤ x5_1 := ifN H
    replace H := ifT H
    have c4b0 := decide_eq_true c4
    clear c4
    by_cases c5 : (rd l0 x5_1) = a1
    ·
     rw [if_pos c5] at H
     have c5b0 : ((rd l0 x5_1) == a1) = true := beq_iff_eq.mpr c5
     have c5b1 : ((rd l0 x5_1) != a1) = false := bne_eq_false_iff_eq.mpr c5
     clear c5
     obtain rfl := Option.some.inj H
     obtain ⟨p214, q214⟩ : 0 ≤ (x5_1 : Int) ∧ x5_1 < (l0.length : Int) := ⟨dA, dA⟩
     obtain ⟨ad214, e214, hx214_0⟩ := Kd.at_int HR0.out x5_1 p214 q214
     cases e214
     obtain ⟨p214, q214⟩ := eT p214 q214
     go_wp2
     go_ret
     exact ⟨rS, dD⟩
    rw [if_neg c5] at H
    have c5b0 : ((rd l0 x5_1) == a1) = false := beq_eq_false_iff_ne.mpr c5
    have c5b1 : ((rd l0 x5_1) != a1) = true := bne_iff_ne.mpr c5
    have H' := Aside0.mk H
    clear H
    obtain ⟨p214, q214⟩ : 0 ≤ (x5_1 : Int) ∧ x5_1 < (l0.length : Int) := ⟨dA, dA⟩
    obtain ⟨ad214, e214, hx214_0⟩ := Kd.at_int HR0.out x5_1 p214 q214
    cases e214
    obtain ⟨p214, q214⟩ := eT p214 q214
    go_wp2
    go_roundg k1
    case measure => have := HK1.out; omega
    case rel => exact ⟨(wrap64 (x5_1 + 1)), rS, H', ⟨by have := HK1.out; omega⟩, by repeat (first | exact Drawn0.refl _ | apply Drawn0.step)⟩
   rw [if_neg c3] at H
   have c3b0 := decide_eq_false c3
   clear c3
   obtain rfl := Option.some.inj H
   go_wp2
   go_ret
   exact ⟨rS, dD⟩

/-! ### spec_Covers: function 124 -/
mutual
def spec_Covers.l0 : Nat → List (S89) → List (List Int) → Int → Option (Bool)
 | 0, _, _, _ => none
 | k + 1, x0, x1, x5 => if x5 < (x1.length : Int) then (if 0 ≤ x5 then ((spec_IsTogether.f k x0 (rd_L2 x1 x5)).bind fun t216 => (if t216 = true then (spec_Covers.l0 k x0 x1 (wrap64 (x5 + 1))) else (some false))) else (none)) else (spec_Covers.l1 k x0 x1 0)
def spec_Covers.l1 : Nat → List (S89) → List (List Int) → Int → Option (Bool)
 | 0, _, _, _ => none
 | k + 1, x0, x1, x6 => if x6 < (x0.length : Int) then (spec_Covers.l2 k x0 x1 x6 false 0) else ((spec_ArePaths.f k x0).bind fun t217 => (some t217))
def spec_Covers.l2 : Nat → List (S89) → List (List Int) → Int → Bool → Int → Option (Bool)
 | 0, _, _, _, _, _ => none
 | k + 1, x0, x1, x6, x7, x8 => if x8 < (x1.length : Int) then (if x7 = true then (spec_Covers.l2 k x0 x1 x6 true (wrap64 (x8 + 1))) else (if 0 ≤ x8 then (if 0 ≤ x6 then (if x6 < (x0.length : Int) then ((spec_l6Has.f k (rd_L2 x1 x8) ((rd_T89 x0 x6).f0)).bind fun t220 => (spec_Covers.l2 k x0 x1 x6 t220 (wrap64 (x8 + 1)))) else (none)) else (none)) else (none))) else (if x7 = true then (spec_Covers.l1 k x0 x1 (wrap64 (x6 + 1))) else (some false))
end
def spec_Covers.f (k : Nat) (l0 : List (S89)) (l1 : List (List Int)) : Option (Bool) := spec_Covers.l0 k l0 l1 0
theorem spec_Covers.mono_l : ∀ k, (∀ y0 y1 y2, LeO (spec_Covers.l0 k y0 y1 y2) (spec_Covers.l0 (k + 1) y0 y1 y2)) ∧ (∀ y0 y1 y2, LeO (spec_Covers.l1 k y0 y1 y2) (spec_Covers.l1 (k + 1) y0 y1 y2)) ∧ (∀ y0 y1 y2 y3 y4, LeO (spec_Covers.l2 k y0 y1 y2 y3 y4) (spec_Covers.l2 (k + 1) y0 y1 y2 y3 y4))
 | 0 => ⟨fun _ _ _ r h => by simp [spec_Covers.l0] at h, fun _ _ _ r h => by simp [spec_Covers.l1] at h, fun _ _ _ _ _ r h => by simp [spec_Covers.l2] at h⟩
 | k + 1 => by
  obtain ⟨ih0, ih1, ih2⟩ := spec_Covers.mono_l k
  refine ⟨?_, ?_, ?_⟩
  ·
   intro y0 y1 y2
   unfold spec_Covers.l0
   exact mz6 ih0 ih1 ih2 spec_ArePaths.mono spec_IsTogether.mono spec_l6Has.mono
  ·
   intro y0 y1 y2
   unfold spec_Covers.l1
   exact mz6 ih0 ih1 ih2 spec_ArePaths.mono spec_IsTogether.mono spec_l6Has.mono
  ·
   intro y0 y1 y2 y3 y4
   unfold spec_Covers.l2
   exact mz6 ih0 ih1 ih2 spec_ArePaths.mono spec_IsTogether.mono spec_l6Has.mono
theorem spec_Covers.mono : ∀ a0 a1 k, LeO (spec_Covers.f k a0 a1) (spec_Covers.f (k + 1) a0 a1) := by
 intro a0 a1 k
 obtain ⟨ih0, ih1, ih2⟩ := spec_Covers.mono_l k
 unfold spec_Covers.f
 exact mz6 ih0 ih1 ih2 spec_ArePaths.mono spec_IsTogether.mono spec_l6Has.mono
set_option maxHeartbeats 8000000 in
set_option maxRecDepth 100000 in
theorem spec_Covers.calls (k : Nat) (A0 : Option Addr) (c0 : Nat) (l0 : List (S89)) (A1 : Option Addr) (c1 : Nat) (l1 : List (List Int)) (r : Bool) (w : World) (hr0 : Kd.C k89 w A0 l0.length l0) (hc0 : l0.length ≤ c0) (hr1 : Kd.C (Kd.slice 3 (Kd.int .i64)) w A1 l1.length l1) (hc1 : l1.length ≤ c1) (h : spec_Covers.f k l0 l1 = some r) :
  Calls Try.prog 124 #[.slice A0 l0.length c0, .slice A1 l1.length c1] w fun e w' => e = .returned (.bool r) ∧ Below w.heap.size w w' := by
 have HR0 := Aside0.mk hr0
 have HC0 := Aside0.mk hc0
 clear hr0 hc0
 have HR1 := Aside0.mk hr1
 have HC1 := Aside0.mk hc1
 clear hr1 hc1
 have HB := Aside0.mk (Below.refl w.heap.size w)
 have H : (spec_Covers.l0 k l0 l1 0) = some r := h
 clear h
 have H' := Aside0.mk H
 clear H
 go_enter Try.func124, Try.ntmps124
 go_wp2
 repeat (go_quiet (fail); try go_wp2)
 go_loopg [5] k (fun kq v5 w' => ∃ (x5_1 : Int), v5 = .int .i64 x5_1 ∧ Aside0 (spec_Covers.l0 kq l0 l1 x5_1 = some r) ∧ Aside0 (kq ≤ k) ∧ Aside0 (Below w.heap.size w w'))
 case atStart => exact ⟨(0), rS, H', ⟨Nat.le_refl _⟩, ⟨bA⟩⟩
 case round =>
  clear H'
  obtain ⟨x5_1, rfl, HA, HK1, HB⟩ := hrel
  cases gk with
  | zero => exact absurd HA.out (by simp [spec_Covers.l0])
  | succ k1 =>
   have H := HA.out
   clear HA
   simp only [spec_Covers.l0] at H
   by_cases c3 : x5_1 < (l1.length : Int)
   ·
    rw [if_pos c3] at H
    have c3b0 := decide_eq_true c3
    clear c3
    have c4 : 0 ≤ x5_1 := ifN H
    replace H := ifT H
    have c4b0 := decide_eq_true c4
    clear c4
    obtain ⟨t216, A5, H⟩ := bindE H
    try dsimp only at H
    by_cases c6 : t216 = true
    ·
     subst c6
     have H1 : (spec_Covers.l0 k1 l0 l1 (wrap64 (x5_1 + 1))) = some r := by rw [if_pos rfl] at H; exact H
     clear H
     have H := H1
     clear H1
     have H' := Aside0.mk H
     clear H
     obtain ⟨p215, q215⟩ : 0 ≤ (x5_1 : Int) ∧ x5_1 < (l1.length : Int) := ⟨dA, dA⟩
     obtain ⟨ad215, A215_0, c215_0, e215, hx215_0, hl215_0, hi215_0⟩ := at_L2 HR1.out x5_1 p215 q215
     cases e215
     replace hx215_0 := hC HB hx215_0
     have HR215_0 := Aside0.mk hi215_0
     have HC215_0 := Aside0.mk hl215_0
     clear hi215_0 hl215_0
     obtain ⟨p215, q215⟩ := eT p215 q215
     go_wp2_with (first | (go_at_call 82; (with_reducible refine (spec_IsTogether.calls k1 _ _ l0 _ _ (rd_L2 l1 x5_1) true _ ?_ ?_ ?_ ?_ A5.out).mono ?_); exact cB HR0; exact HC0.out; exact cB HR215_0; exact HC215_0.out; rintro e w7 ⟨rfl, hb⟩; replace HB := bs HB hb; (try clear hb)))
     repeat (go_quiet (first | (go_at_call 82; (with_reducible refine (spec_IsTogether.calls k1 _ _ l0 _ _ (rd_L2 l1 x5_1) true _ ?_ ?_ ?_ ?_ A5.out).mono ?_); exact cB HR0; exact HC0.out; exact cB HR215_0; exact HC215_0.out; rintro e w7 ⟨rfl, hb⟩; replace HB := bs HB hb; (try clear hb))); try go_wp2_with (first | (go_at_call 82; (with_reducible refine (spec_IsTogether.calls k1 _ _ l0 _ _ (rd_L2 l1 x5_1) true _ ?_ ?_ ?_ ?_ A5.out).mono ?_); exact cB HR0; exact HC0.out; exact cB HR215_0; exact HC215_0.out; rintro e w7 ⟨rfl, hb⟩; replace HB := bs HB hb; (try clear hb))))
     go_roundg k1
     case measure => have := HK1.out; omega
     case rel => exact ⟨(wrap64 (x5_1 + 1)), rS, H', ⟨by have := HK1.out; omega⟩, ⟨bA⟩⟩
    replace c6 := Bool.eq_false_iff.mpr c6
    subst c6
    have H1 : (some false) = some r := by rw [if_neg (show ¬ (false = true) by decide)] at H; exact H
    clear H
    have H := H1
    clear H1
    obtain rfl := Option.some.inj H
    obtain ⟨p215, q215⟩ : 0 ≤ (x5_1 : Int) ∧ x5_1 < (l1.length : Int) := ⟨dA, dA⟩
    obtain ⟨ad215, A215_0, c215_0, e215, hx215_0, hl215_0, hi215_0⟩ := at_L2 HR1.out x5_1 p215 q215
    cases e215
    replace hx215_0 := hC HB hx215_0
    have HR215_0 := Aside0.mk hi215_0
    have HC215_0 := Aside0.mk hl215_0
    clear hi215_0 hl215_0
    obtain ⟨p215, q215⟩ := eT p215 q215
    go_wp2_with (first | (go_at_call 82; (with_reducible refine (spec_IsTogether.calls k1 _ _ l0 _ _ (rd_L2 l1 x5_1) false _ ?_ ?_ ?_ ?_ A5.out).mono ?_); exact cB HR0; exact HC0.out; exact cB HR215_0; exact HC215_0.out; rintro e w8 ⟨rfl, hb⟩; replace HB := bs HB hb; (try clear hb)))
    repeat (go_quiet (first | (go_at_call 82; (with_reducible refine (spec_IsTogether.calls k1 _ _ l0 _ _ (rd_L2 l1 x5_1) false _ ?_ ?_ ?_ ?_ A5.out).mono ?_); exact cB HR0; exact HC0.out; exact cB HR215_0; exact HC215_0.out; rintro e w8 ⟨rfl, hb⟩; replace HB := bs HB hb; (try clear hb))); try go_wp2_with (first | (go_at_call 82; (with_reducible refine (spec_IsTogether.calls k1 _ _ l0 _ _ (rd_L2 l1 x5_1) false _ ?_ ?_ ?_ ?_ A5.out).mono ?_); exact cB HR0; exact HC0.out; exact cB HR215_0; exact HC215_0.out; rintro e w8 ⟨rfl, hb⟩; replace HB := bs HB hb; (try clear hb))))
    go_ret
    exact ⟨rA, bA⟩
   rw [if_neg c3] at H
   have c3b0 := decide_eq_false c3
   clear c3
   have H' := Aside0.mk H
   clear H
   go_wp2
   repeat (go_quiet (fail); try go_wp2)
   go_loopg [6] k1 (fun kq v6 w' => ∃ (x6_2 : Int), v6 = .int .i64 x6_2 ∧ Aside0 (spec_Covers.l1 kq l0 l1 x6_2 = some r) ∧ Aside0 (kq ≤ k1) ∧ Aside0 (Below w.heap.size w w'))
   case atStart => exact ⟨(0), rS, H', ⟨Nat.le_refl _⟩, ⟨bA⟩⟩
   case round =>
    clear H'
    obtain ⟨x6_2, rfl, HA, HK2, HB⟩ := hrel
    cases gk with
    | zero => exact absurd HA.out (by simp [spec_Covers.l1])
    | succ k2 =>
     have H := HA.out
     clear HA
     simp only [spec_Covers.l1] at H
     by_cases c9 : x6_2 < (l0.length : Int)
     ·
      rw [if_pos c9] at H
      have c9b0 := decide_eq_true c9
      clear c9
      have H' := Aside0.mk H
      clear H
      go_wp2
      repeat (go_quiet (fail); try go_wp2)
      go_loopg [7, 8] k2 (fun kq v7 v8 w' => ∃ (x7_3 : Bool) (x8_3 : Int), v7 = .bool x7_3 ∧ v8 = .int .i64 x8_3 ∧ Aside0 (spec_Covers.l2 kq l0 l1 x6_2 x7_3 x8_3 = some r) ∧ Aside0 (kq ≤ k2) ∧ Aside0 (Below w.heap.size w w'))
      case atStart => exact ⟨(false), (0), rS, rS, H', ⟨Nat.le_refl _⟩, ⟨bA⟩⟩
      case round =>
       clear H'
       obtain ⟨x7_3, x8_3, rfl, rfl, HA, HK3, HB⟩ := hrel
       cases gk with
       | zero => exact absurd HA.out (by simp [spec_Covers.l2])
       | succ k3 =>
        have H := HA.out
        clear HA
        simp only [spec_Covers.l2] at H
        by_cases c10 : x8_3 < (l1.length : Int)
        ·
         rw [if_pos c10] at H
         have c10b0 := decide_eq_true c10
         clear c10
         by_cases c11 : x7_3 = true
         ·
          subst c11
          have H1 : (spec_Covers.l2 k3 l0 l1 x6_2 true (wrap64 (x8_3 + 1))) = some r := by rw [if_pos rfl] at H; exact H
          clear H
          have H := H1
          clear H1
          have H' := Aside0.mk H
          clear H
          go_wp2
          repeat (go_quiet (fail); try go_wp2)
          go_roundg k3
          case measure => have := HK1.out; have := HK2.out; have := HK3.out; omega
          case rel => exact ⟨(true), (wrap64 (x8_3 + 1)), rS, rS, H', ⟨by have := HK1.out; have := HK2.out; have := HK3.out; omega⟩, ⟨bA⟩⟩
         replace c11 := Bool.eq_false_iff.mpr c11
         subst c11
         have H1 : (if 0 ≤ x8_3 then (if 0 ≤ x6_2 then (if x6_2 < (l0.length : Int) then ((spec_l6Has.f k3 (rd_L2 l1 x8_3) ((rd_T89 l0 x6_2).f0)).bind fun t220 => (spec_Covers.l2 k3 l0 l1 x6_2 t220 (wrap64 (x8_3 + 1)))) else (none)) else (none)) else (none)) = some r := by rw [if_neg (show ¬ (false = true) by decide)] at H; exact H
         clear H
         have H := H1
         clear H1
         have c12 : 0 ≤ x8_3 := ifN H
         replace H := ifT H
         have c12b0 := decide_eq_true c12
         clear c12
         have c13 : 0 ≤ x6_2 := ifN H
         replace H := ifT H
         have c13b0 := decide_eq_true c13
         clear c13
         have c14 : x6_2 < (l0.length : Int) := ifN H
         replace H := ifT H
         have c14b0 := decide_eq_true c14
         clear c14
         obtain ⟨t220, A15, H⟩ := bindE H
         try dsimp only at H
         have H' := Aside0.mk H
         clear H
         obtain ⟨p218, q218⟩ : 0 ≤ (x8_3 : Int) ∧ x8_3 < (l1.length : Int) := ⟨dA, dA⟩
         obtain ⟨ad218, A218_0, c218_0, e218, hx218_0, hl218_0, hi218_0⟩ := at_L2 HR1.out x8_3 p218 q218
         cases e218
         replace hx218_0 := hC HB hx218_0
         have HR218_0 := Aside0.mk hi218_0
         have HC218_0 := Aside0.mk hl218_0
         clear hi218_0 hl218_0
         obtain ⟨p218, q218⟩ := eT p218 q218
         obtain ⟨p219, q219⟩ : 0 ≤ (x6_2 : Int) ∧ x6_2 < (l0.length : Int) := ⟨dA, dA⟩
         obtain ⟨ad219, e219, hx219_0, hx219_1, hx219_2, hx219_3⟩ := at_T89 (Kd.C_below HR0.out HB.out) x6_2 p219 q219
         cases e219
         obtain ⟨p219, q219⟩ := eT p219 q219
         go_wp2_with (first | (go_at_call 101; (with_reducible refine (spec_l6Has.calls k3 _ _ (rd_L2 l1 x8_3) ((rd_T89 l0 x6_2).f0) t220 _ ?_ ?_ A15.out).mono ?_); exact cB HR218_0; exact HC218_0.out; rintro e w' ⟨rfl, ⟨nd, rfl⟩⟩; (try first | exact ⟨rfl, _, World.drewN_drewN _ _ _⟩ | exact ⟨rfl, _, Eq.trans (World.drewN_drewN _ _ _) (congrArg (World.drewN _) (Nat.add_assoc _ _ _))⟩)))
         repeat (go_quiet (first | (go_at_call 101; (with_reducible refine (spec_l6Has.calls k3 _ _ (rd_L2 l1 x8_3) ((rd_T89 l0 x6_2).f0) t220 _ ?_ ?_ A15.out).mono ?_); exact cB HR218_0; exact HC218_0.out; rintro e w' ⟨rfl, ⟨nd, rfl⟩⟩; (try first | exact ⟨rfl, _, World.drewN_drewN _ _ _⟩ | exact ⟨rfl, _, Eq.trans (World.drewN_drewN _ _ _) (congrArg (World.drewN _) (Nat.add_assoc _ _ _))⟩))); try go_wp2_with (first | (go_at_call 101; (with_reducible refine (spec_l6Has.calls k3 _ _ (rd_L2 l1 x8_3) ((rd_T89 l0 x6_2).f0) t220 _ ?_ ?_ A15.out).mono ?_); exact cB HR218_0; exact HC218_0.out; rintro e w' ⟨rfl, ⟨nd, rfl⟩⟩; (try first | exact ⟨rfl, _, World.drewN_drewN _ _ _⟩ | exact ⟨rfl, _, Eq.trans (World.drewN_drewN _ _ _) (congrArg (World.drewN _) (Nat.add_assoc _ _ _))⟩))))
         go_roundg k3
         case measure => have := HK1.out; have := HK2.out; have := HK3.out; omega
         case rel => exact ⟨(t220), (wrap64 (x8_3 + 1)), rS, rS, H', ⟨by have := HK1.out; have := HK2.out; have := HK3.out; omega⟩, ⟨bA⟩⟩
        rw [if_neg c10] at H
        have c10b0 := decide_eq_false c10
        clear c10
        by_cases c16 : x7_3 = true
        ·
         subst c16
         have H1 : (spec_Covers.l1 k3 l0 l1 (wrap64 (x6_2 + 1))) = some r := by rw [if_pos rfl] at H; exact H
         clear H
         have H := H1
         clear H1
         have H' := Aside0.mk H
         clear H
         go_wp2
         repeat (go_quiet (fail); try go_wp2)
         go_roundg k3
         case measure => have := HK1.out; have := HK2.out; have := HK3.out; omega
         case rel => exact ⟨(wrap64 (x6_2 + 1)), rS, H', ⟨by have := HK1.out; have := HK2.out; have := HK3.out; omega⟩, ⟨bA⟩⟩
        replace c16 := Bool.eq_false_iff.mpr c16
        subst c16
        have H1 : (some false) = some r := by rw [if_neg (show ¬ (false = true) by decide)] at H; exact H
        clear H
        have H := H1
        clear H1
        obtain rfl := Option.some.inj H
        go_wp2
        repeat (go_quiet (fail); try go_wp2)
        go_ret
        exact ⟨rA, bA⟩
     rw [if_neg c9] at H
     have c9b0 := decide_eq_false c9
     clear c9
     obtain ⟨t217, A17, H⟩ := bindE H
     try dsimp only at H
     obtain rfl := Option.some.inj H
     go_wp2_with (first | (go_at_call 122; (with_reducible refine (spec_ArePaths.calls k2 _ _ l0 t217 _ ?_ ?_ A17.out).mono ?_); exact cB HR0; exact HC0.out; rintro e w18 ⟨rfl, hb⟩; replace HB := bs HB hb; (try clear hb)))
     repeat (go_quiet (first | (go_at_call 122; (with_reducible refine (spec_ArePaths.calls k2 _ _ l0 t217 _ ?_ ?_ A17.out).mono ?_); exact cB HR0; exact HC0.out; rintro e w18 ⟨rfl, hb⟩; replace HB := bs HB hb; (try clear hb))); try go_wp2_with (first | (go_at_call 122; (with_reducible refine (spec_ArePaths.calls k2 _ _ l0 t217 _ ?_ ?_ A17.out).mono ?_); exact cB HR0; exact HC0.out; rintro e w18 ⟨rfl, hb⟩; replace HB := bs HB hb; (try clear hb))))
     go_ret
     exact ⟨rA, bA⟩

/-! ### spec_l8Stages: function 125 -/
def spec_l8Stages.l0 : Nat → List (S92) → List (List Int) → Int → Option ((List (List Int)))
 | 0, _, _, _ => none
 | k + 1, x0, x3, x4 => if x4 < (x0.length : Int) then (if 0 ≤ x4 then (if x3.length < 5864062014805 then (spec_l8Stages.l0 k x0 (x3 ++ [(rd_T92 x0 x4).f0]) (wrap64 (x4 + 1))) else (none)) else (none)) else (some x3)
def spec_l8Stages.f (k : Nat) (l0 : List (S92)) : Option ((List (List Int))) := spec_l8Stages.l0 k l0 (([] : List (List Int))) 0
theorem spec_l8Stages.mono_l : ∀ k, (∀ y0 y1 y2, LeO (spec_l8Stages.l0 k y0 y1 y2) (spec_l8Stages.l0 (k + 1) y0 y1 y2))
 | 0 => fun _ _ _ r h => by simp [spec_l8Stages.l0] at h
 | k + 1 => by
  have ih0 := spec_l8Stages.mono_l k
  ·
   intro y0 y1 y2
   unfold spec_l8Stages.l0
   exact mz1 ih0
theorem spec_l8Stages.mono : ∀ a0 k, LeO (spec_l8Stages.f k a0) (spec_l8Stages.f (k + 1) a0) := by
 intro a0 k
 have ih0 := spec_l8Stages.mono_l k
 unfold spec_l8Stages.f
 exact mz1 ih0
set_option maxHeartbeats 8000000 in
set_option maxRecDepth 100000 in
theorem spec_l8Stages.calls (k : Nat) (P0_ : Nat → Prop) (A0 : Option Addr) (c0 : Nat) (l0 : List (S92)) (r : List (List Int)) (w : World) (hs0 : Kd.V k92 92 w w.heap.size (fun k_ => P0_ k_) (.slice A0 l0.length c0) l0) (h : spec_l8Stages.f k l0 = some r) :
  Calls Try.prog 125 #[.slice A0 l0.length c0] w fun e w' => ∃ v0_ : Value, e = .returned (v0_) ∧ Kd.N (Kd.slice 3 (Kd.int .i64)) 41 w' w.heap.size (fun k_ => (P0_ k_ ∨ w.heap.size ≤ k_)) v0_ r ∧ Below w.heap.size w w' := by
 have HO0 := Aside0.mk (show Kd.V k92 92 w w.heap.size (fun k_ => (P0_ k_ ∨ w.heap.size ≤ k_)) (.slice A0 l0.length c0) l0 from Kd.V_mono hs0 (fun k_ hk => .inl hk))
 have HB := Aside0.mk (Below.refl w.heap.size w)
 have H : (spec_l8Stages.l0 k l0 (([] : List (List Int))) 0) = some r := h
 clear h
 obtain ⟨y221, hy221⟩ : ∃ y_ : List (List Int), y_ = (([] : List (List Int))) := ⟨_, rfl⟩
 replace H : (spec_l8Stages.l0 k l0 y221 0) = some r := rH H hy221
 have Ny221 := Aside0.mk hy221
 clear hy221
 have H' := Aside0.mk H
 clear H
 go_enter Try.func125, Try.ntmps125
 go_wp2_with (first | ((with_reducible refine gate_dst (N := 5) rfl ?_); refine Kd.N_lit (Kd.slice 3 (Kd.int .i64)) _ 41 ?hg (N' := 5) ?hd (xs := ([] : List (List Int))) (inner := []) (ok := (fun k_ => (P0_ k_ ∨ w.heap.size ≤ k_))) (okp := (fun k_ => (P0_ k_ ∨ w.heap.size ≤ k_))) ?hr ?hp (fun _ hk => hk) ((show ∀ k_, w.heap.size ≤ k_ → (fun k_ => (P0_ k_ ∨ w.heap.size ≤ k_)) k_ from fun k_ hk => (.inr (Nat.le_trans (below_size bA) hk))) _ (Nat.le_refl _)) (Below.refl _ _) (Nat.le_refl _) (by simp) ?_; (case hd => rfl); (case hg => rfl); (case hr => first | (go_simp; done) | (go_simp; rfl)); (case hp => exact (Reps.none _ _)); intro v222 w2 ho3 hb hg_ hnew_; clear hg_ hnew_; (first | rw [← Ny221.out] at ho3 | (simp only [Int.reduceToNat] at ho3; rw [← Ny221.out] at ho3)); have n0_ := Aside0.mk (Kd.V_elder' (by (with_reducible repeat (first | apply Kd.V_alloc | apply Kd.V_drewN | apply Kd.V_drew)); exact HO0.out) (by first | exact Kd.N_base ho3 | exact Kd.N_base (Kd.S_N ho3)) hb); have n1_ := Aside0.mk (Kd.N_lower ho3 (below_size bA)); have n2_ := bs HB hb; clear HO0; clear HB; have HO0 := n0_; have HO223 := n1_; have HB := n2_; clear n0_ n1_ n2_; clear hb ho3))
 go_loopg [3, 4] k (fun kq v3 v4 w' => ∃ (x3_1 : List (List Int)) (x4_1 : Int), v4 = .int .i64 x4_1 ∧ Aside0 (spec_l8Stages.l0 kq l0 x3_1 x4_1 = some r) ∧ Aside0 (kq ≤ k) ∧ Aside0 (Kd.V k92 92 w' w.heap.size (fun k_ => (P0_ k_ ∨ w.heap.size ≤ k_) ∧ some k_ ≠ (v3 : Value).ownBlock) (.slice A0 l0.length c0) l0) ∧ Aside0 (Kd.N (Kd.slice 3 (Kd.int .i64)) 41 w' w.heap.size (fun k_ => (P0_ k_ ∨ w.heap.size ≤ k_)) v3 x3_1) ∧ Aside0 (Below w.heap.size w w'))
 case atStart => exact ⟨(y221), (0), rS, H', ⟨Nat.le_refl _⟩, ⟨by (with_reducible repeat (first | apply Kd.V_alloc | apply Kd.V_drewN | apply Kd.V_drew)); exact HO0.out⟩, ⟨by (with_reducible repeat (first | apply Kd.N_alloc | apply Kd.N_drewN | apply Kd.N_drew)); exact HO223.out⟩, ⟨bA⟩⟩
 case round =>
  clear H'
  obtain ⟨x3_1, x4_1, rfl, HA, HK1, HO_0, HO_3, HB⟩ := hrel
  cases gk with
  | zero => exact absurd HA.out (by simp [spec_l8Stages.l0])
  | succ k1 =>
   have H := HA.out
   clear HA
   simp only [spec_l8Stages.l0] at H
   by_cases c4 : x4_1 < (l0.length : Int)
   ·
    rw [if_pos c4] at H
    have c4b0 := decide_eq_true c4
    clear c4
    have c5 : 0 ≤ x4_1 := ifN H
    replace H := ifT H
    have c5b0 := decide_eq_true c5
    clear c5
    have c6 : x3_1.length < 5864062014805 := ifN H
    replace H := ifT H
    have LMc6 := Aside0.mk c6
    clear c6
    obtain ⟨y225, hy225⟩ : ∃ y_ : List (List Int), y_ = (x3_1 ++ [(rd_T92 l0 x4_1).f0]) := ⟨_, rfl⟩
    replace H : (spec_l8Stages.l0 k1 l0 y225 (wrap64 (x4_1 + 1))) = some r := rH H hy225
    have Ny225 := Aside0.mk hy225
    clear hy225
    have H' := Aside0.mk H
    clear H
    obtain ⟨p224, q224⟩ : 0 ≤ (x4_1 : Int) ∧ x4_1 < (l0.length : Int) := ⟨dA, dA⟩
    obtain ⟨ad224, A224_0, c224_0, e224, hx224_0, hx224_1, hl224_0, hi224_0⟩ := at_T92 (Kd.V_reads' HO_0.out).2.2 x4_1 p224 q224
    cases e224
    obtain ⟨ce224, hce224, hMe224, hcc224⟩ := Kd.V_get HO_0.out z92 x4_1 p224 (by first | exact q224 | exact dA | (have e_ := (Kd.V_reads' HO_0.out).1; omega))
    obtain ⟨ua224_0, uc224_0, rfl, ul224_0, ge224_0⟩ := k92_openF hMe224
    have hv224_0 := hcc224 0 _ rfl
    rw [Nat.add_zero] at hv224_0
    replace hv224_0 := Option.some.inj (hv224_0.symm.trans hx224_0)
    injection hv224_0 with hva_ hvn_ hvc_
    rw [hva_] at ge224_0
    rw [hvc_] at ul224_0
    have HL224_0 := Aside0.mk (show Kd.V (Kd.int .i64) 3 _ w.heap.size _ _ ((rd_T92 l0 x4_1).f0) from Kd.V_mk ul224_0 ge224_0)
    clear hva_ hvn_ hvc_ ge224_0 ul224_0
    clear hcc224 hce224
    have HR224_0 := Aside0.mk hi224_0
    have HC224_0 := Aside0.mk hl224_0
    clear hi224_0 hl224_0
    obtain ⟨p224, q224⟩ := eT p224 q224
    go_wp2_with (first | ((with_reducible refine gate_builtin (b := .append) (xs := #[.tmp 12, .tmp 18]) rfl ?_); at_builtin; refine Kd.N_append (Kd.slice 3 (Kd.int .i64)) (w0 := w) w.heap.size rfl (.tmp 12) (.tmp 18) 103 41 (.slice none 0 0) 24 rfl Try.underlying103 info41 rfl (by decide) (by omega) u3 x3_1 ((rd_T92 l0 x4_1).f0) [.slice A224_0 ((rd_T92 l0 x4_1).f0).length c224_0] (fun k_ => (P0_ k_ ∨ w.heap.size ≤ k_)) (fun k_ => ((fun k_ => (P0_ k_ ∨ w.heap.size ≤ k_))) k_ ∧ some k_ ≠ (u3 : Value).ownBlock) rfl rfl ?aP (fun _ hk => hk) ?aF ?aO ?aB ?aS ?aL ?_; (case aP => exact (Kd.FK_slice_mk (Kd.V_reads' (Kd.V_mono (ok' := (fun k_ => ((fun k_ => (P0_ k_ ∨ w.heap.size ≤ k_))) k_ ∧ some k_ ≠ (u3 : Value).ownBlock)) (HL224_0.out) (fun k_ hk => ⟨hk.1, hk.2⟩))).2.1 (Kd.V_F (Kd.V_mono (ok' := (fun k_ => ((fun k_ => (P0_ k_ ∨ w.heap.size ≤ k_))) k_ ∧ some k_ ≠ (u3 : Value).ownBlock)) (HL224_0.out) (fun k_ hk => ⟨hk.1, hk.2⟩))))); (case aB => exact bA); (case aF => exact (fun k_ hk => (.inr (Nat.le_trans (below_size bA) hk)))); (case aO => exact (by (with_reducible repeat (first | apply Kd.N_alloc | apply Kd.N_drewN | apply Kd.N_drew)); exact HO_3.out)); (case aS => exact (below_size bA)); (case aL => have := LMc6.out; omega); intro v226 w7 ho hb hg hat; rw [← Ny225.out] at ho; have n0_ := Aside0.mk (Kd.V_afterv (ok := (fun k_ => (P0_ k_ ∨ w.heap.size ≤ k_))) (by (with_reducible repeat (first | apply Kd.V_alloc | apply Kd.V_drewN | apply Kd.V_drew)); exact HO_0.out) hg hat); have n1_ := Aside0.mk (Kd.V_afterv (ok := (fun k_ => (P0_ k_ ∨ w.heap.size ≤ k_))) (by (with_reducible repeat (first | apply Kd.V_alloc | apply Kd.V_drewN | apply Kd.V_drew)); exact HL224_0.out) hg hat); have n2_ := Aside0.mk (hb); have n3_ := Aside0.mk (ho); clear HO_0; clear HL224_0; clear HB; clear HO_3; have HO_0 := n0_; have HL224_0 := n1_; have HB := n2_; have HO227 := n3_; clear n0_ n1_ n2_ n3_; clear ho hb hg hat))
    go_roundg k1
    case measure => have := HK1.out; omega
    case rel => exact ⟨(y225), (wrap64 (x4_1 + 1)), rS, H', ⟨by have := HK1.out; omega⟩, ⟨by (with_reducible repeat (first | apply Kd.V_alloc | apply Kd.V_drewN | apply Kd.V_drew)); exact HO_0.out⟩, ⟨by (with_reducible repeat (first | apply Kd.N_alloc | apply Kd.N_drewN | apply Kd.N_drew)); exact HO227.out⟩, ⟨bA⟩⟩
   rw [if_neg c4] at H
   have c4b0 := decide_eq_false c4
   clear c4
   obtain rfl := Option.some.inj H
   go_wp2
   go_ret
   exact ⟨_, rA, by (with_reducible repeat (first | apply Kd.N_alloc | apply Kd.N_drewN | apply Kd.N_drew)); exact HO_3.out, bA⟩

/-! ### spec_IsPlan: function 75 -/
def spec_IsPlan.l0 : Nat → List (S89) → List (S92) → Int → Option (Bool)
 | 0, _, _, _ => none
 | k + 1, x0, x1, x5 => if x5 < (x1.length : Int) then (if 0 ≤ x5 then (if (((rd_T92 x1 x5).f0).length : Int) = 0 then (some false) else ((spec_IsTogether.f k x0 ((rd_T92 x1 x5).f0)).bind fun t235 => (if t235 = true then ((spec_LeastGreen.f k x0 ((rd_T92 x1 x5).f0)).bind fun t238 => ((spec_l1In.f ((rd_T92 x1 x5).f1) t238 60).bind fun t239 => (if t239 = true then (spec_IsPlan.l0 k x0 x1 (wrap64 (x5 + 1))) else (some false)))) else (some false)))) else (none)) else ((spec_l8Stages.f k x1).bind fun t229 => ((spec_Covers.f k x0 t229).bind fun t232 => (some t232)))
def spec_IsPlan.f (k : Nat) (l0 : List (S89)) (l1 : List (S92)) : Option (Bool) := (spec_l1In.f (l1.length : Int) 1 6).bind fun t228 => (if t228 = true then (spec_IsPlan.l0 k l0 l1 0) else (some false))
theorem spec_IsPlan.mono_l : ∀ k, (∀ y0 y1 y2, LeO (spec_IsPlan.l0 k y0 y1 y2) (spec_IsPlan.l0 (k + 1) y0 y1 y2))
 | 0 => fun _ _ _ r h => by simp [spec_IsPlan.l0] at h
 | k + 1 => by
  have ih0 := spec_IsPlan.mono_l k
  ·
   intro y0 y1 y2
   unfold spec_IsPlan.l0
   exact mz5 ih0 spec_Covers.mono spec_IsTogether.mono spec_LeastGreen.mono spec_l8Stages.mono
theorem spec_IsPlan.mono : ∀ a0 a1 k, LeO (spec_IsPlan.f k a0 a1) (spec_IsPlan.f (k + 1) a0 a1) := by
 intro a0 a1 k
 have ih0 := spec_IsPlan.mono_l k
 unfold spec_IsPlan.f
 exact mz5 ih0 spec_Covers.mono spec_IsTogether.mono spec_LeastGreen.mono spec_l8Stages.mono
def spec_IsPlan.T6 : Bool × List (List Nat × List Nat) := (true, [([], []), ([], []), ([0, 1], [0, 1]), ([2], [2]), ([3], [3]), ([4], [4]), ([5], [5]), ([6], [6]), ([7], [7]), ([7], [7]), ([7], [7]), ([9, 10, 7], [7, 9, 10]), ([11, 7], [7, 11]), ([12, 7], [7, 12]), ([8, 13, 7, 7], [7, 8, 13]), ([14, 7], [7, 14]), ([7, 15], [7, 15]), ([16, 14], [16]), ([17], [17]), ([17], [17]), ([18, 19, 17], [17, 18, 19]), ([20, 17], [17, 20]), ([21, 17], [17, 21]), ([17], [17]), ([17], [17]), ([17], [17]), ([24, 25, 17], [17, 24, 25]), ([26, 17], [17, 26]), ([27, 17], [17, 27]), ([23, 28, 17, 17], [17, 23, 28]), ([22, 29, 29, 17], [17, 22, 29]), ([30, 17], [17, 30]), ([17, 31], [17, 31])])
def spec_IsPlan.B6 : List Nat := [0, 0, 3, 7, 15, 31, 63, 127, 255, 255, 255, 1791, 3839, 7935, 16383, 32767, 65535, 131071, 262143, 262143, 1048575, 2097151, 4194303, 262143, 262143, 262143, 50593791, 117702655, 251920383, 528744447, 1073741823, 2147483647, 4294967295]
theorem spec_IsPlan.tab6 : rtab .any (opsOf Try.f75 6) = spec_IsPlan.T6 := by kernel_rfl
theorem spec_IsPlan.bits6 : waitsOk spec_IsPlan.T6.2 spec_IsPlan.B6 = true := by kernel_rfl
set_option maxHeartbeats 8000000 in
set_option maxRecDepth 100000 in
theorem spec_IsPlan.calls (k : Nat) (A0 : Option Addr) (c0 : Nat) (l0 : List (S89)) (A1 : Option Addr) (c1 : Nat) (l1 : List (S92)) (r : Bool) (w : World) (hr0 : Kd.C k89 w A0 l0.length l0) (hc0 : l0.length ≤ c0) (hr1 : Kd.C k92 w A1 l1.length l1) (hc1 : l1.length ≤ c1) (h : spec_IsPlan.f k l0 l1 = some r) :
  Calls Try.prog 75 #[.slice A0 l0.length c0, .slice A1 l1.length c1] w fun e w' => e = .returned (.bool r) ∧ Below w.heap.size w w' := by
 have HR0 := Aside0.mk hr0
 have HC0 := Aside0.mk hc0
 clear hr0 hc0
 have HR1 := Aside0.mk hr1
 have HC1 := Aside0.mk hc1
 clear hr1 hc1
 have HB := Aside0.mk (Below.refl w.heap.size w)
 have H : ((spec_l1In.f (l1.length : Int) 1 6).bind fun t228 => (if t228 = true then (spec_IsPlan.l0 k l0 l1 0) else (some false))) = some r := h
 clear h
 obtain ⟨t228, A3, H⟩ := bindE H
 try dsimp only at H
 by_cases c4 : t228 = true
 ·
  subst c4
  have H1 : (spec_IsPlan.l0 k l0 l1 0) = some r := by rw [if_pos rfl] at H; exact H
  clear H
  have H := H1
  clear H1
  have H' := Aside0.mk H
  clear H
  go_enter Try.func75, Try.ntmps75
  go_wp2_with (first | ((with_reducible refine gate_callee (f := 62) rfl ?_); refine gL (some 8) Try.func62 #[.int .i64 (l1.length : Int), .int .i64 1, .int .i64 6] ?_; (with_reducible refine (spec_l1In.calls (l1.length : Int) 1 6 true _ A3.out).mono ?_); rintro e w' ⟨rfl, ⟨nd, rfl⟩⟩; refine ⟨_, rfl, ?_⟩))
  go_loopg [5] k (fun kq v5 w' => ∃ (x5_1 : Int), v5 = .int .i64 x5_1 ∧ Aside0 (spec_IsPlan.l0 kq l0 l1 x5_1 = some r) ∧ Aside0 (kq ≤ k) ∧ Aside0 (Below w.heap.size w w'))
  case atStart => exact ⟨(0), rS, H', ⟨Nat.le_refl _⟩, ⟨bA⟩⟩
  case round =>
   clear H'
   obtain ⟨x5_1, rfl, HA, HK1, HB⟩ := hrel
   cases gk with
   | zero => exact absurd HA.out (by simp [spec_IsPlan.l0])
   | succ k1 =>
    have H := HA.out
    clear HA
    simp only [spec_IsPlan.l0] at H
    by_cases c5 : x5_1 < (l1.length : Int)
    ·
     rw [if_pos c5] at H
     have c5b0 := decide_eq_true c5
     clear c5
     have c6 : 0 ≤ x5_1 := ifN H
     replace H := ifT H
     have c6b0 := decide_eq_true c6
     clear c6
     by_cases c7 : (((rd_T92 l1 x5_1).f0).length : Int) = 0
     ·
      rw [if_pos c7] at H
      have c7b0 : ((((rd_T92 l1 x5_1).f0).length : Int) == 0) = true := beq_iff_eq.mpr c7
      have c7b1 : ((((rd_T92 l1 x5_1).f0).length : Int) != 0) = false := bne_eq_false_iff_eq.mpr c7
      clear c7
      obtain rfl := Option.some.inj H
      try go_wp2
      have HBo := HB
      replace HB := db HB
      obtain ⟨p233, q233⟩ : 0 ≤ (x5_1 : Int) ∧ x5_1 < (l1.length : Int) := ⟨dA, dA⟩
      obtain ⟨ad233, A233_0, c233_0, e233, hx233_0, hx233_1, hl233_0, hi233_0⟩ := at_T92 HR1.out x5_1 p233 q233
      have hw233_1 := hx233_1
      have hw233_0 := hx233_0
      cases e233
      replace hx233_0 := hC HB hx233_0
      replace hx233_1 := hC HB hx233_1
      have HR233_0 := Aside0.mk hi233_0
      have HC233_0 := Aside0.mk hl233_0
      clear hi233_0 hl233_0
      obtain ⟨p233, q233⟩ := eT p233 q233
      refine sw (ds := []) 33 (mb 33 0) spec_IsPlan.tab6 spec_IsPlan.bits6 (h1c (hC HB hw233_0) (h1 (hC HB hw233_1))) (fun hHeld HT_ HW_ => ?_)
      generalize wr.drew = w8 at HB HR233_0 hx233_0 hx233_1 hHeld ⊢
      refine pa 0 16 (mb 33 1) HT_ ?_
      refine pa 1 17 (mb 33 3) HT_ ?_
      refine pa 2 18 (mb 33 7) HT_ ?_
      refine pa 3 19 (mb 33 15) HT_ ?_
      refine ta2 4 20 (mb 33 31) HT_ HW_ hHeld ?_
      refine pa 5 21 (mb 33 63) HT_ ?_
      refine pa 6 22 (mb 33 127) HT_ ?_
      refine pa 7 23 (mb 33 255) HT_ ?_
      refine pu 8 24 (mb 33 511) HT_ ?_
      refine pu 9 25 (mb 33 1023) HT_ ?_
      refine pu 10 26 (mb 33 2047) HT_ ?_
      refine pu 11 27 (mb 33 4095) HT_ ?_
      refine pu 12 28 (mb 33 8191) HT_ ?_
      refine pu 13 29 (mb 33 16383) HT_ ?_
      refine pu 14 30 (mb 33 32767) HT_ ?_
      refine pu 15 31 (mb 33 65535) HT_ ?_
      refine pa 16 32 (mb 33 131071) HT_ ?_
      refine pa 17 33 (mb 33 262143) HT_ ?_
      refine pu 18 34 (mb 33 524287) HT_ ?_
      refine pu 19 35 (mb 33 1048575) HT_ ?_
      refine pu 20 36 (mb 33 2097151) HT_ ?_
      refine pu 21 37 (mb 33 4194303) HT_ ?_
      refine pu 22 38 (mb 33 8388607) HT_ ?_
      refine pu 23 39 (mb 33 16777215) HT_ ?_
      refine pu 24 40 (mb 33 33554431) HT_ ?_
      refine pu 25 41 (mb 33 67108863) HT_ ?_
      refine pu 26 42 (mb 33 134217727) HT_ ?_
      refine pu 27 43 (mb 33 268435455) HT_ ?_
      refine pu 28 44 (mb 33 536870911) HT_ ?_
      refine pu 29 45 (mb 33 1073741823) HT_ ?_
      refine pu 30 46 (mb 33 2147483647) HT_ ?_
      refine pu 31 47 (mb 33 4294967295) HT_ ?_
      refine pa 32 48 (mb 33 8589934591) HT_ ?_
      refine eA HT_ ?_
      try go_wp2
      go_ret
      exact ⟨rA, bA⟩
     rw [if_neg c7] at H
     have c7b0 : ((((rd_T92 l1 x5_1).f0).length : Int) == 0) = false := beq_eq_false_iff_ne.mpr c7
     have c7b1 : ((((rd_T92 l1 x5_1).f0).length : Int) != 0) = true := bne_iff_ne.mpr c7
     have c7b2 : ¬ (((rd_T92 l1 x5_1).f0) = []) := fun h_ => c7 (by rw [h_]; rfl)
     obtain ⟨t235, A9, H⟩ := bindE H
     try dsimp only at H
     by_cases c10 : t235 = true
     ·
      subst c10
      have H1 : ((spec_LeastGreen.f k1 l0 ((rd_T92 l1 x5_1).f0)).bind fun t238 => ((spec_l1In.f ((rd_T92 l1 x5_1).f1) t238 60).bind fun t239 => (if t239 = true then (spec_IsPlan.l0 k1 l0 l1 (wrap64 (x5_1 + 1))) else (some false)))) = some r := by rw [if_pos rfl] at H; exact H
      clear H
      have H := H1
      clear H1
      obtain ⟨t238, A11, H⟩ := bindE H
      try dsimp only at H
      obtain ⟨t239, A12, H⟩ := bindE H
      try dsimp only at H
      by_cases c13 : t239 = true
      ·
       subst c13
       have H1 : (spec_IsPlan.l0 k1 l0 l1 (wrap64 (x5_1 + 1))) = some r := by rw [if_pos rfl] at H; exact H
       clear H
       have H := H1
       clear H1
       have H' := Aside0.mk H
       clear H
       try go_wp2
       have HBo := HB
       replace HB := db HB
       obtain ⟨p233, q233⟩ : 0 ≤ (x5_1 : Int) ∧ x5_1 < (l1.length : Int) := ⟨dA, dA⟩
       obtain ⟨ad233, A233_0, c233_0, e233, hx233_0, hx233_1, hl233_0, hi233_0⟩ := at_T92 HR1.out x5_1 p233 q233
       have hw233_1 := hx233_1
       have hw233_0 := hx233_0
       cases e233
       replace hx233_0 := hC HB hx233_0
       replace hx233_1 := hC HB hx233_1
       have HR233_0 := Aside0.mk hi233_0
       have HC233_0 := Aside0.mk hl233_0
       clear hi233_0 hl233_0
       obtain ⟨p233, q233⟩ := eT p233 q233
       obtain ⟨p234, q234⟩ : 0 ≤ (x5_1 : Int) ∧ x5_1 < (l1.length : Int) := ⟨dA, dA⟩
       obtain ⟨ad234, A234_0, c234_0, e234, hx234_0, hx234_1, hl234_0, hi234_0⟩ := at_T92 HR1.out x5_1 p234 q234
       have hw234_1 := hx234_1
       have hw234_0 := hx234_0
       obtain rfl : ad233 = ad234 := (by injection e234)
       replace hx234_0 := hC HB hx234_0
       replace hx234_1 := hC HB hx234_1
       have HR234_0 := Aside0.mk hi234_0
       have HC234_0 := Aside0.mk hl234_0
       clear hi234_0 hl234_0
       obtain ⟨p234, q234⟩ := eT p234 q234
       have ea_ := Option.some.inj (hx233_0.symm.trans hx234_0)
       injection ea_ with ea_ en_ ec_
       subst ea_
       subst ec_
       clear en_
       obtain ⟨p236, q236⟩ : 0 ≤ (x5_1 : Int) ∧ x5_1 < (l1.length : Int) := ⟨dA, dA⟩
       obtain ⟨ad236, A236_0, c236_0, e236, hx236_0, hx236_1, hl236_0, hi236_0⟩ := at_T92 HR1.out x5_1 p236 q236
       have hw236_1 := hx236_1
       have hw236_0 := hx236_0
       obtain rfl : ad233 = ad236 := (by injection e236)
       replace hx236_0 := hC HB hx236_0
       replace hx236_1 := hC HB hx236_1
       have HR236_0 := Aside0.mk hi236_0
       have HC236_0 := Aside0.mk hl236_0
       clear hi236_0 hl236_0
       obtain ⟨p236, q236⟩ := eT p236 q236
       first | have ea_ := Option.some.inj (hw233_0.symm.trans hw236_0) | have ea_ := Option.some.inj (hx233_0.symm.trans hx236_0)
       injection ea_ with ea_ en_ ec_
       subst ea_
       subst ec_
       clear en_
       obtain ⟨p237, q237⟩ : 0 ≤ (x5_1 : Int) ∧ x5_1 < (l1.length : Int) := ⟨dA, dA⟩
       obtain ⟨ad237, A237_0, c237_0, e237, hx237_0, hx237_1, hl237_0, hi237_0⟩ := at_T92 HR1.out x5_1 p237 q237
       have hw237_1 := hx237_1
       have hw237_0 := hx237_0
       obtain rfl : ad233 = ad237 := (by injection e237)
       replace hx237_0 := hC HB hx237_0
       replace hx237_1 := hC HB hx237_1
       have HR237_0 := Aside0.mk hi237_0
       have HC237_0 := Aside0.mk hl237_0
       clear hi237_0 hl237_0
       obtain ⟨p237, q237⟩ := eT p237 q237
       first | have ea_ := Option.some.inj (hw233_0.symm.trans hw237_0) | have ea_ := Option.some.inj (hx233_0.symm.trans hx237_0)
       injection ea_ with ea_ en_ ec_
       subst ea_
       subst ec_
       clear en_
       refine sw (ds := []) 33 (mb 33 0) spec_IsPlan.tab6 spec_IsPlan.bits6 (h1c (hC HB hw233_0) (h1c (hC HB hw233_1) (h1c (hC HB hw234_0) (h1c (hC HB hw234_1) (h1c (hC HB hw236_0) (h1c (hC HB hw236_1) (h1c (hC HB hw237_0) (h1 (hC HB hw237_1))))))))) (fun hHeld HT_ HW_ => ?_)
       generalize wr.drew = w14 at HB HR233_0 HR234_0 HR236_0 HR237_0 hx233_0 hx233_1 hx234_0 hx234_1 hx236_0 hx236_1 hx237_0 hx237_1 hHeld ⊢
       refine pa 0 16 (mb 33 1) HT_ ?_
       refine pa 1 17 (mb 33 3) HT_ ?_
       refine pa 2 18 (mb 33 7) HT_ ?_
       refine pa 3 19 (mb 33 15) HT_ ?_
       refine ta8 4 20 (mb 33 31) HT_ HW_ hHeld ?_
       refine pa 5 21 (mb 33 63) HT_ ?_
       refine pa 6 22 (mb 33 127) HT_ ?_
       refine pa 7 23 (mb 33 255) HT_ ?_
       refine pa 8 24 (mb 33 511) HT_ ?_
       refine pa 9 25 (mb 33 1023) HT_ ?_
       refine pa 10 26 (mb 33 2047) HT_ ?_
       refine pa 11 27 (mb 33 4095) HT_ ?_
       refine pa 12 28 (mb 33 8191) HT_ ?_
       refine ta8 13 29 (mb 33 16383) HT_ HW_ hHeld ?_
       refine oa 14 30 (mb 33 32767) HT_ (fun K hK => ?_)
       refine gA Try.func82 #[.slice A0 l0.length c0, .slice A233_0 ((rd_T92 l1 x5_1).f0).length c233_0] ?_
       with_reducible refine (spec_IsTogether.calls k1 _ _ l0 _ _ ((rd_T92 l1 x5_1).f0) true _ ?side1 ?side2 ?side3 ?side4 A9.out).mono ?_
       (case side1 => exact cB HR0)
       (case side2 => exact HC0.out)
       (case side3 => exact cB HR234_0)
       (case side4 => exact HC234_0.out)
       rintro e w15 ⟨rfl, hb⟩
       refine ⟨_, rfl, ?_⟩
       replace HB := bs HB hb
       (try clear hb)
       (try clear hb2)
       (try clear hk)
       (try clear hi)
       refine hK.out _ _ ⟨(hC HB hw233_0), (hC HB hw233_1), (hC HB hw234_0), (hC HB hw234_1), (hC HB hw236_0), (hC HB hw236_1), (hC HB hw237_0), (hC HB hw237_1)⟩ (fun hHeld => ?_)
       clear hK K
       refine nB ?_
       refine pa 15 31 (mb 33 65535) HT_ ?_
       refine pa 16 32 (mb 33 131071) HT_ ?_
       refine pa 17 33 (mb 33 262143) HT_ ?_
       refine pa 18 34 (mb 33 524287) HT_ ?_
       refine pa 19 35 (mb 33 1048575) HT_ ?_
       refine pa 20 36 (mb 33 2097151) HT_ ?_
       refine pa 21 37 (mb 33 4194303) HT_ ?_
       refine pa 23 39 (mb 33 12582911) HT_ ?_
       refine pa 24 40 (mb 33 29360127) HT_ ?_
       refine pa 25 41 (mb 33 62914559) HT_ ?_
       refine pa 26 42 (mb 33 130023423) HT_ ?_
       refine pa 27 43 (mb 33 264241151) HT_ ?_
       refine ta8 22 38 (mb 33 268435455) HT_ HW_ hHeld ?_
       refine ta8 28 44 (mb 33 536870911) HT_ HW_ hHeld ?_
       refine oa 29 45 (mb 33 1073741823) HT_ (fun K hK => ?_)
       refine gA Try.func74 #[.slice A0 l0.length c0, .slice A233_0 ((rd_T92 l1 x5_1).f0).length c233_0] ?_
       with_reducible refine (spec_LeastGreen.calls k1 _ _ l0 _ _ ((rd_T92 l1 x5_1).f0) t238 _ ?side1 ?side2 ?side3 ?side4 A11.out).mono ?_
       (case side1 => exact cB HR0)
       (case side2 => exact HC0.out)
       (case side3 => exact cB HR237_0)
       (case side4 => exact HC237_0.out)
       rintro e w' ⟨rfl, ⟨nd, rfl⟩⟩
       refine ⟨_, rfl, ?_⟩
       refine hK.out _ _ ⟨(hC HB hw233_0), (hC HB hw233_1), (hC HB hw234_0), (hC HB hw234_1), (hC HB hw236_0), (hC HB hw236_1), (hC HB hw237_0), (hC HB hw237_1)⟩ (fun hHeld => ?_)
       clear hK K
       refine nB ?_
       refine oa 30 46 (mb 33 2147483647) HT_ (fun K hK => ?_)
       refine gA Try.func62 #[.int .i64 ((rd_T92 l1 x5_1).f1), .int .i64 t238, .int .i64 60] ?_
       with_reducible refine (spec_l1In.calls ((rd_T92 l1 x5_1).f1) t238 60 true _ A12.out).mono ?_
       rintro e w' ⟨rfl, ⟨nd, rfl⟩⟩
       refine ⟨_, rfl, ?_⟩
       refine hK.out _ _ ⟨(hC HB hw233_0), (hC HB hw233_1), (hC HB hw234_0), (hC HB hw234_1), (hC HB hw236_0), (hC HB hw236_1), (hC HB hw237_0), (hC HB hw237_1)⟩ (fun hHeld => ?_)
       clear hK K
       refine nB ?_
       refine pa 31 47 (mb 33 4294967295) HT_ ?_
       refine pa 32 48 (mb 33 8589934591) HT_ ?_
       refine eA HT_ ?_
       try go_wp2
       go_roundg k1
       case measure => have := HK1.out; omega
       case rel => exact ⟨(wrap64 (x5_1 + 1)), rS, H', ⟨by have := HK1.out; omega⟩, ⟨bA⟩⟩
      replace c13 := Bool.eq_false_iff.mpr c13
      subst c13
      have H1 : (some false) = some r := by rw [if_neg (show ¬ (false = true) by decide)] at H; exact H
      clear H
      have H := H1
      clear H1
      obtain rfl := Option.some.inj H
      try go_wp2
      have HBo := HB
      replace HB := db HB
      obtain ⟨p233, q233⟩ : 0 ≤ (x5_1 : Int) ∧ x5_1 < (l1.length : Int) := ⟨dA, dA⟩
      obtain ⟨ad233, A233_0, c233_0, e233, hx233_0, hx233_1, hl233_0, hi233_0⟩ := at_T92 HR1.out x5_1 p233 q233
      have hw233_1 := hx233_1
      have hw233_0 := hx233_0
      cases e233
      replace hx233_0 := hC HB hx233_0
      replace hx233_1 := hC HB hx233_1
      have HR233_0 := Aside0.mk hi233_0
      have HC233_0 := Aside0.mk hl233_0
      clear hi233_0 hl233_0
      obtain ⟨p233, q233⟩ := eT p233 q233
      obtain ⟨p234, q234⟩ : 0 ≤ (x5_1 : Int) ∧ x5_1 < (l1.length : Int) := ⟨dA, dA⟩
      obtain ⟨ad234, A234_0, c234_0, e234, hx234_0, hx234_1, hl234_0, hi234_0⟩ := at_T92 HR1.out x5_1 p234 q234
      have hw234_1 := hx234_1
      have hw234_0 := hx234_0
      obtain rfl : ad233 = ad234 := (by injection e234)
      replace hx234_0 := hC HB hx234_0
      replace hx234_1 := hC HB hx234_1
      have HR234_0 := Aside0.mk hi234_0
      have HC234_0 := Aside0.mk hl234_0
      clear hi234_0 hl234_0
      obtain ⟨p234, q234⟩ := eT p234 q234
      have ea_ := Option.some.inj (hx233_0.symm.trans hx234_0)
      injection ea_ with ea_ en_ ec_
      subst ea_
      subst ec_
      clear en_
      obtain ⟨p236, q236⟩ : 0 ≤ (x5_1 : Int) ∧ x5_1 < (l1.length : Int) := ⟨dA, dA⟩
      obtain ⟨ad236, A236_0, c236_0, e236, hx236_0, hx236_1, hl236_0, hi236_0⟩ := at_T92 HR1.out x5_1 p236 q236
      have hw236_1 := hx236_1
      have hw236_0 := hx236_0
      obtain rfl : ad233 = ad236 := (by injection e236)
      replace hx236_0 := hC HB hx236_0
      replace hx236_1 := hC HB hx236_1
      have HR236_0 := Aside0.mk hi236_0
      have HC236_0 := Aside0.mk hl236_0
      clear hi236_0 hl236_0
      obtain ⟨p236, q236⟩ := eT p236 q236
      first | have ea_ := Option.some.inj (hw233_0.symm.trans hw236_0) | have ea_ := Option.some.inj (hx233_0.symm.trans hx236_0)
      injection ea_ with ea_ en_ ec_
      subst ea_
      subst ec_
      clear en_
      obtain ⟨p237, q237⟩ : 0 ≤ (x5_1 : Int) ∧ x5_1 < (l1.length : Int) := ⟨dA, dA⟩
      obtain ⟨ad237, A237_0, c237_0, e237, hx237_0, hx237_1, hl237_0, hi237_0⟩ := at_T92 HR1.out x5_1 p237 q237
      have hw237_1 := hx237_1
      have hw237_0 := hx237_0
      obtain rfl : ad233 = ad237 := (by injection e237)
      replace hx237_0 := hC HB hx237_0
      replace hx237_1 := hC HB hx237_1
      have HR237_0 := Aside0.mk hi237_0
      have HC237_0 := Aside0.mk hl237_0
      clear hi237_0 hl237_0
      obtain ⟨p237, q237⟩ := eT p237 q237
      first | have ea_ := Option.some.inj (hw233_0.symm.trans hw237_0) | have ea_ := Option.some.inj (hx233_0.symm.trans hx237_0)
      injection ea_ with ea_ en_ ec_
      subst ea_
      subst ec_
      clear en_
      refine sw (ds := []) 33 (mb 33 0) spec_IsPlan.tab6 spec_IsPlan.bits6 (h1c (hC HB hw233_0) (h1c (hC HB hw233_1) (h1c (hC HB hw234_0) (h1c (hC HB hw234_1) (h1c (hC HB hw236_0) (h1c (hC HB hw236_1) (h1c (hC HB hw237_0) (h1 (hC HB hw237_1))))))))) (fun hHeld HT_ HW_ => ?_)
      generalize wr.drew = w16 at HB HR233_0 HR234_0 HR236_0 HR237_0 hx233_0 hx233_1 hx234_0 hx234_1 hx236_0 hx236_1 hx237_0 hx237_1 hHeld ⊢
      refine pa 0 16 (mb 33 1) HT_ ?_
      refine pa 1 17 (mb 33 3) HT_ ?_
      refine pa 2 18 (mb 33 7) HT_ ?_
      refine pa 3 19 (mb 33 15) HT_ ?_
      refine ta8 4 20 (mb 33 31) HT_ HW_ hHeld ?_
      refine pa 5 21 (mb 33 63) HT_ ?_
      refine pa 6 22 (mb 33 127) HT_ ?_
      refine pa 7 23 (mb 33 255) HT_ ?_
      refine pa 8 24 (mb 33 511) HT_ ?_
      refine pa 9 25 (mb 33 1023) HT_ ?_
      refine pa 10 26 (mb 33 2047) HT_ ?_
      refine pa 11 27 (mb 33 4095) HT_ ?_
      refine pa 12 28 (mb 33 8191) HT_ ?_
      refine ta8 13 29 (mb 33 16383) HT_ HW_ hHeld ?_
      refine oa 14 30 (mb 33 32767) HT_ (fun K hK => ?_)
      refine gA Try.func82 #[.slice A0 l0.length c0, .slice A233_0 ((rd_T92 l1 x5_1).f0).length c233_0] ?_
      with_reducible refine (spec_IsTogether.calls k1 _ _ l0 _ _ ((rd_T92 l1 x5_1).f0) true _ ?side1 ?side2 ?side3 ?side4 A9.out).mono ?_
      (case side1 => exact cB HR0)
      (case side2 => exact HC0.out)
      (case side3 => exact cB HR234_0)
      (case side4 => exact HC234_0.out)
      rintro e w17 ⟨rfl, hb⟩
      refine ⟨_, rfl, ?_⟩
      replace HB := bs HB hb
      (try clear hb)
      (try clear hb2)
      (try clear hk)
      (try clear hi)
      refine hK.out _ _ ⟨(hC HB hw233_0), (hC HB hw233_1), (hC HB hw234_0), (hC HB hw234_1), (hC HB hw236_0), (hC HB hw236_1), (hC HB hw237_0), (hC HB hw237_1)⟩ (fun hHeld => ?_)
      clear hK K
      refine nB ?_
      refine pa 15 31 (mb 33 65535) HT_ ?_
      refine pa 16 32 (mb 33 131071) HT_ ?_
      refine pa 17 33 (mb 33 262143) HT_ ?_
      refine pa 18 34 (mb 33 524287) HT_ ?_
      refine pa 19 35 (mb 33 1048575) HT_ ?_
      refine pa 20 36 (mb 33 2097151) HT_ ?_
      refine pa 21 37 (mb 33 4194303) HT_ ?_
      refine pa 23 39 (mb 33 12582911) HT_ ?_
      refine pa 24 40 (mb 33 29360127) HT_ ?_
      refine pa 25 41 (mb 33 62914559) HT_ ?_
      refine pa 26 42 (mb 33 130023423) HT_ ?_
      refine pa 27 43 (mb 33 264241151) HT_ ?_
      refine ta8 22 38 (mb 33 268435455) HT_ HW_ hHeld ?_
      refine ta8 28 44 (mb 33 536870911) HT_ HW_ hHeld ?_
      refine oa 29 45 (mb 33 1073741823) HT_ (fun K hK => ?_)
      refine gA Try.func74 #[.slice A0 l0.length c0, .slice A233_0 ((rd_T92 l1 x5_1).f0).length c233_0] ?_
      with_reducible refine (spec_LeastGreen.calls k1 _ _ l0 _ _ ((rd_T92 l1 x5_1).f0) t238 _ ?side1 ?side2 ?side3 ?side4 A11.out).mono ?_
      (case side1 => exact cB HR0)
      (case side2 => exact HC0.out)
      (case side3 => exact cB HR237_0)
      (case side4 => exact HC237_0.out)
      rintro e w' ⟨rfl, ⟨nd, rfl⟩⟩
      refine ⟨_, rfl, ?_⟩
      refine hK.out _ _ ⟨(hC HB hw233_0), (hC HB hw233_1), (hC HB hw234_0), (hC HB hw234_1), (hC HB hw236_0), (hC HB hw236_1), (hC HB hw237_0), (hC HB hw237_1)⟩ (fun hHeld => ?_)
      clear hK K
      refine nB ?_
      refine oa 30 46 (mb 33 2147483647) HT_ (fun K hK => ?_)
      refine gA Try.func62 #[.int .i64 ((rd_T92 l1 x5_1).f1), .int .i64 t238, .int .i64 60] ?_
      with_reducible refine (spec_l1In.calls ((rd_T92 l1 x5_1).f1) t238 60 false _ A12.out).mono ?_
      rintro e w' ⟨rfl, ⟨nd, rfl⟩⟩
      refine ⟨_, rfl, ?_⟩
      refine hK.out _ _ ⟨(hC HB hw233_0), (hC HB hw233_1), (hC HB hw234_0), (hC HB hw234_1), (hC HB hw236_0), (hC HB hw236_1), (hC HB hw237_0), (hC HB hw237_1)⟩ (fun hHeld => ?_)
      clear hK K
      refine nB ?_
      refine pa 31 47 (mb 33 4294967295) HT_ ?_
      refine pa 32 48 (mb 33 8589934591) HT_ ?_
      refine eA HT_ ?_
      try go_wp2
      go_ret
      exact ⟨rA, bA⟩
     replace c10 := Bool.eq_false_iff.mpr c10
     subst c10
     have H1 : (some false) = some r := by rw [if_neg (show ¬ (false = true) by decide)] at H; exact H
     clear H
     have H := H1
     clear H1
     obtain rfl := Option.some.inj H
     try go_wp2
     have HBo := HB
     replace HB := db HB
     obtain ⟨p233, q233⟩ : 0 ≤ (x5_1 : Int) ∧ x5_1 < (l1.length : Int) := ⟨dA, dA⟩
     obtain ⟨ad233, A233_0, c233_0, e233, hx233_0, hx233_1, hl233_0, hi233_0⟩ := at_T92 HR1.out x5_1 p233 q233
     have hw233_1 := hx233_1
     have hw233_0 := hx233_0
     cases e233
     replace hx233_0 := hC HB hx233_0
     replace hx233_1 := hC HB hx233_1
     have HR233_0 := Aside0.mk hi233_0
     have HC233_0 := Aside0.mk hl233_0
     clear hi233_0 hl233_0
     obtain ⟨p233, q233⟩ := eT p233 q233
     obtain ⟨p234, q234⟩ : 0 ≤ (x5_1 : Int) ∧ x5_1 < (l1.length : Int) := ⟨dA, dA⟩
     obtain ⟨ad234, A234_0, c234_0, e234, hx234_0, hx234_1, hl234_0, hi234_0⟩ := at_T92 HR1.out x5_1 p234 q234
     have hw234_1 := hx234_1
     have hw234_0 := hx234_0
     obtain rfl : ad233 = ad234 := (by injection e234)
     replace hx234_0 := hC HB hx234_0
     replace hx234_1 := hC HB hx234_1
     have HR234_0 := Aside0.mk hi234_0
     have HC234_0 := Aside0.mk hl234_0
     clear hi234_0 hl234_0
     obtain ⟨p234, q234⟩ := eT p234 q234
     have ea_ := Option.some.inj (hx233_0.symm.trans hx234_0)
     injection ea_ with ea_ en_ ec_
     subst ea_
     subst ec_
     clear en_
     refine sw (ds := []) 33 (mb 33 0) spec_IsPlan.tab6 spec_IsPlan.bits6 (h1c (hC HB hw233_0) (h1c (hC HB hw233_1) (h1c (hC HB hw234_0) (h1 (hC HB hw234_1))))) (fun hHeld HT_ HW_ => ?_)
     generalize wr.drew = w18 at HB HR233_0 HR234_0 hx233_0 hx233_1 hx234_0 hx234_1 hHeld ⊢
     refine pa 0 16 (mb 33 1) HT_ ?_
     refine pa 1 17 (mb 33 3) HT_ ?_
     refine pa 2 18 (mb 33 7) HT_ ?_
     refine pa 3 19 (mb 33 15) HT_ ?_
     refine ta4 4 20 (mb 33 31) HT_ HW_ hHeld ?_
     refine pa 5 21 (mb 33 63) HT_ ?_
     refine pa 6 22 (mb 33 127) HT_ ?_
     refine pa 7 23 (mb 33 255) HT_ ?_
     refine pa 8 24 (mb 33 511) HT_ ?_
     refine pa 9 25 (mb 33 1023) HT_ ?_
     refine pa 10 26 (mb 33 2047) HT_ ?_
     refine pa 11 27 (mb 33 4095) HT_ ?_
     refine pa 12 28 (mb 33 8191) HT_ ?_
     refine ta4 13 29 (mb 33 16383) HT_ HW_ hHeld ?_
     refine oa 14 30 (mb 33 32767) HT_ (fun K hK => ?_)
     refine gA Try.func82 #[.slice A0 l0.length c0, .slice A233_0 ((rd_T92 l1 x5_1).f0).length c233_0] ?_
     with_reducible refine (spec_IsTogether.calls k1 _ _ l0 _ _ ((rd_T92 l1 x5_1).f0) false _ ?side1 ?side2 ?side3 ?side4 A9.out).mono ?_
     (case side1 => exact cB HR0)
     (case side2 => exact HC0.out)
     (case side3 => exact cB HR234_0)
     (case side4 => exact HC234_0.out)
     rintro e w19 ⟨rfl, hb⟩
     refine ⟨_, rfl, ?_⟩
     replace HB := bs HB hb
     (try clear hb)
     (try clear hb2)
     (try clear hk)
     (try clear hi)
     refine hK.out _ _ ⟨(hC HB hw233_0), (hC HB hw233_1), (hC HB hw234_0), (hC HB hw234_1)⟩ (fun hHeld => ?_)
     clear hK K
     refine nB ?_
     refine pa 15 31 (mb 33 65535) HT_ ?_
     refine pa 16 32 (mb 33 131071) HT_ ?_
     refine pa 17 33 (mb 33 262143) HT_ ?_
     refine pu 18 34 (mb 33 524287) HT_ ?_
     refine pu 19 35 (mb 33 1048575) HT_ ?_
     refine pu 20 36 (mb 33 2097151) HT_ ?_
     refine pu 21 37 (mb 33 4194303) HT_ ?_
     refine pu 22 38 (mb 33 8388607) HT_ ?_
     refine pu 23 39 (mb 33 16777215) HT_ ?_
     refine pu 24 40 (mb 33 33554431) HT_ ?_
     refine pu 25 41 (mb 33 67108863) HT_ ?_
     refine pu 26 42 (mb 33 134217727) HT_ ?_
     refine pu 27 43 (mb 33 268435455) HT_ ?_
     refine pu 28 44 (mb 33 536870911) HT_ ?_
     refine pu 29 45 (mb 33 1073741823) HT_ ?_
     refine pu 30 46 (mb 33 2147483647) HT_ ?_
     refine pu 31 47 (mb 33 4294967295) HT_ ?_
     refine pa 32 48 (mb 33 8589934591) HT_ ?_
     refine eA HT_ ?_
     try go_wp2
     go_ret
     exact ⟨rA, bA⟩
    rw [if_neg c5] at H
    have c5b0 := decide_eq_false c5
    clear c5
    obtain ⟨t229, A20, H⟩ := bindE H
    try dsimp only at H
    obtain ⟨t232, A21, H⟩ := bindE H
    try dsimp only at H
    obtain rfl := Option.some.inj H
    go_wp2_with (first | ((with_reducible refine gate_callee (f := 125) rfl ?_); refine gL (some 51) Try.func125 #[.slice A1 l1.length c1] ?_; (with_reducible refine (spec_l8Stages.calls k1 (fun k_ => k_ < w.heap.size) _ _ l1 t229 _ ?_ A20.out).mono ?_); exact Kd.V_mk HC1.out (Kd.F_below (Kd.C_F k92_heap HR1.out) bA); rintro e w22 ⟨v230, rfl, ho0, hb⟩; refine ⟨_, rfl, ?_⟩; have HO231 := Aside0.mk (Kd.N_lower (Kd.N_mono (ok' := fun k_ => True) ho0 (fun k_ hk_ => trivial)) (below_size bA)); replace HB := bs HB hb; (try clear hb); (try clear ho0); obtain ⟨Ao23, co23, eo23⟩ := Kd.N_slice HO231.out; subst eo23) | ((with_reducible refine gate_callee (f := 124) rfl ?_); refine gL (some 52) Try.func124 #[.slice A0 l0.length c0, .slice Ao23 t229.length co23] ?_; (with_reducible refine (spec_Covers.calls k1 _ _ l0 _ _ t229 t232 _ ?_ ?_ ?_ ?_ A21.out).mono ?_); exact cB HR0; exact HC0.out; (focus repeat (first | exact (Kd.N_reads' HO231.out).2.2 | (with_reducible refine Kd.C_alloc ?_ _) | (with_reducible refine Kd.C_drewN ?_ _) | (with_reducible refine Kd.C_drew ?_))); exact (Kd.N_reads' HO231.out).2.1; rintro e w24 ⟨rfl, hb⟩; refine ⟨_, rfl, ?_⟩; have n0_ := Aside0.mk (Kd.N_below (by (with_reducible repeat (first | apply Kd.N_alloc | apply Kd.N_drewN | apply Kd.N_drew)); exact HO231.out) hb); have n1_ := bs HB hb; clear HO231; clear HB; have HO231 := n0_; have HB := n1_; clear n0_ n1_; (try clear hb)))
    go_ret
    exact ⟨rA, bA⟩
 replace c4 := Bool.eq_false_iff.mpr c4
 subst c4
 have H1 : (some false) = some r := by rw [if_neg (show ¬ (false = true) by decide)] at H; exact H
 clear H
 have H := H1
 clear H1
 obtain rfl := Option.some.inj H
 go_enter Try.func75, Try.ntmps75
 go_wp2_with (first | ((with_reducible refine gate_callee (f := 62) rfl ?_); refine gL (some 8) Try.func62 #[.int .i64 (l1.length : Int), .int .i64 1, .int .i64 6] ?_; (with_reducible refine (spec_l1In.calls (l1.length : Int) 1 6 false _ A3.out).mono ?_); rintro e w' ⟨rfl, ⟨nd, rfl⟩⟩; refine ⟨_, rfl, ?_⟩))
 go_ret
 exact ⟨rA, bA⟩

/-! ### spec_Closes: function 130 -/
def spec_Closes.l0 : Nat → List Int → List Int → List Int → Int → Option (List Int)
 | 0, _, _, _, _ => none
 | k + 1, x0, x1, x5, x6 => if x6 < (x0.length : Int) then (if 0 ≤ x6 then ((spec_l6Has.f k x1 (rd x0 x6)).bind fun t244 => (if t244 = true then (spec_Closes.l0 k x0 x1 x5 (wrap64 (x6 + 1))) else (if x5.length < 17592186044416 then (spec_Closes.l0 k x0 x1 (x5 ++ [rd x0 x6]) (wrap64 (x6 + 1))) else (none)))) else (none)) else (some x5)
def spec_Closes.f (k : Nat) (l0 : List Int) (l1 : List Int) : Option (List Int) := spec_Closes.l0 k l0 l1 (([] : List Int)) 0
theorem spec_Closes.mono_l : ∀ k, (∀ y0 y1 y2 y3, LeO (spec_Closes.l0 k y0 y1 y2 y3) (spec_Closes.l0 (k + 1) y0 y1 y2 y3))
 | 0 => fun _ _ _ _ r h => by simp [spec_Closes.l0] at h
 | k + 1 => by
  have ih0 := spec_Closes.mono_l k
  ·
   intro y0 y1 y2 y3
   unfold spec_Closes.l0
   exact mz2 ih0 spec_l6Has.mono
theorem spec_Closes.mono : ∀ a0 a1 k, LeO (spec_Closes.f k a0 a1) (spec_Closes.f (k + 1) a0 a1) := by
 intro a0 a1 k
 have ih0 := spec_Closes.mono_l k
 unfold spec_Closes.f
 exact mz2 ih0 spec_l6Has.mono
set_option maxHeartbeats 8000000 in
set_option maxRecDepth 100000 in
theorem spec_Closes.calls (k : Nat) (A0 : Option Addr) (c0 : Nat) (l0 : List Int) (A1 : Option Addr) (c1 : Nat) (l1 : List Int) (r : List Int) (w : World) (hr0 : Kd.C (Kd.int .i64) w A0 l0.length l0) (hc0 : l0.length ≤ c0) (hr1 : Kd.C (Kd.int .i64) w A1 l1.length l1) (hc1 : l1.length ≤ c1) (h : spec_Closes.f k l0 l1 = some r) :
  Calls Try.prog 130 #[.slice A0 l0.length c0, .slice A1 l1.length c1] w fun e w' => ∃ v0_ : Value, e = .returned (v0_) ∧ Kd.R (Kd.int .i64) 3 w' w.heap.size (fun _ => True) v0_ r ∧ Below w.heap.size w w' := by
 have HR0 := Aside0.mk hr0
 have HC0 := Aside0.mk hc0
 clear hr0 hc0
 have HR1 := Aside0.mk hr1
 have HC1 := Aside0.mk hc1
 clear hr1 hc1
 have HB := Aside0.mk (Below.refl w.heap.size w)
 have H : (spec_Closes.l0 k l0 l1 (([] : List Int)) 0) = some r := h
 clear h
 obtain ⟨y240, hy240⟩ : ∃ y_ : List Int, y_ = (([] : List Int)) := ⟨_, rfl⟩
 replace H : (spec_Closes.l0 k l0 l1 y240 0) = some r := rH H hy240
 have Ny240 := Aside0.mk hy240
 clear hy240
 have H' := Aside0.mk H
 clear H
 go_enter Try.func130, Try.ntmps130
 go_wp2_with (first | ((with_reducible refine gate_dst (N := 7) rfl ?_); refine Kd.R_lit (Kd.int .i64) _ 3 ?hg (N := 7) ?hd (xs := ([] : List Int)) (inner := []) (ok := fun _ => True) (okp := fun _ => True) ?hr ?hp (fun _ hk => hk) trivial (Below.refl _ _) (Nat.le_refl _) (by simp) ?_; (case hd => rfl); (case hg => rfl); (case hr => first | (go_simp; done) | (go_simp; rfl)); (case hp => exact (Reps.none _ _)); intro v241 w3 ho4 hb hg_ hnew_; clear hg_ hnew_; (first | rw [← Ny240.out] at ho4 | (simp only [Int.reduceToNat] at ho4; rw [← Ny240.out] at ho4)); have HO242 := rl w ho4; replace HB := bs HB hb; clear hb ho4))
 go_loopg [5, 6] k (fun kq v5 v6 w' => ∃ (x5_1 : List Int) (x6_1 : Int), v6 = .int .i64 x6_1 ∧ Aside0 (spec_Closes.l0 kq l0 l1 x5_1 x6_1 = some r) ∧ Aside0 (kq ≤ k) ∧ Aside0 (Kd.R (Kd.int .i64) 3 w' w.heap.size (fun _ => True) v5 x5_1) ∧ Aside0 (Below w.heap.size w w'))
 case atStart => exact ⟨(y240), (0), rS, H', ⟨Nat.le_refl _⟩, ⟨rK HO242⟩, ⟨bA⟩⟩
 case round =>
  clear H'
  obtain ⟨x5_1, x6_1, rfl, HA, HK1, HO_5, HB⟩ := hrel
  cases gk with
  | zero => exact absurd HA.out (by simp [spec_Closes.l0])
  | succ k1 =>
   have H := HA.out
   clear HA
   simp only [spec_Closes.l0] at H
   by_cases c5 : x6_1 < (l0.length : Int)
   ·
    rw [if_pos c5] at H
    have c5b0 := decide_eq_true c5
    clear c5
    have c6 : 0 ≤ x6_1 := ifN H
    replace H := ifT H
    have c6b0 := decide_eq_true c6
    clear c6
    obtain ⟨t244, A7, H⟩ := bindE H
    try dsimp only at H
    by_cases c8 : t244 = true
    ·
     subst c8
     have H1 : (spec_Closes.l0 k1 l0 l1 x5_1 (wrap64 (x6_1 + 1))) = some r := by rw [if_pos rfl] at H; exact H
     clear H
     have H := H1
     clear H1
     have H' := Aside0.mk H
     clear H
     obtain ⟨p243, q243⟩ : 0 ≤ (x6_1 : Int) ∧ x6_1 < (l0.length : Int) := ⟨dA, dA⟩
     obtain ⟨ad243, e243, hx243_0⟩ := Kd.at_int (Kd.C_below HR0.out HB.out) x6_1 p243 q243
     cases e243
     obtain ⟨p243, q243⟩ := eT p243 q243
     go_wp2_with (first | ((with_reducible refine gate_callee (f := 101) rfl ?_); refine gL (some 19) Try.func101 #[.slice A1 l1.length c1, .int .i64 (rd l0 x6_1)] ?_; (with_reducible refine (spec_l6Has.calls k1 _ _ l1 (rd l0 x6_1) true _ ?_ ?_ A7.out).mono ?_); exact cB HR1; exact HC1.out; rintro e w' ⟨rfl, ⟨nd, rfl⟩⟩; refine ⟨_, rfl, ?_⟩))
     go_roundg k1
     case measure => have := HK1.out; omega
     case rel => exact ⟨(x5_1), (wrap64 (x6_1 + 1)), rS, H', ⟨by have := HK1.out; omega⟩, ⟨rK HO_5⟩, ⟨bA⟩⟩
    replace c8 := Bool.eq_false_iff.mpr c8
    subst c8
    have H1 : (if x5_1.length < 17592186044416 then (spec_Closes.l0 k1 l0 l1 (x5_1 ++ [rd l0 x6_1]) (wrap64 (x6_1 + 1))) else (none)) = some r := by rw [if_neg (show ¬ (false = true) by decide)] at H; exact H
    clear H
    have H := H1
    clear H1
    have c9 : x5_1.length < 17592186044416 := ifN H
    replace H := ifT H
    have LMc9 := Aside0.mk c9
    clear c9
    obtain ⟨y246, hy246⟩ : ∃ y_ : List Int, y_ = (x5_1 ++ [rd l0 x6_1]) := ⟨_, rfl⟩
    replace H : (spec_Closes.l0 k1 l0 l1 y246 (wrap64 (x6_1 + 1))) = some r := rH H hy246
    have Ny246 := Aside0.mk hy246
    clear hy246
    have H' := Aside0.mk H
    clear H
    obtain ⟨p243, q243⟩ : 0 ≤ (x6_1 : Int) ∧ x6_1 < (l0.length : Int) := ⟨dA, dA⟩
    obtain ⟨ad243, e243, hx243_0⟩ := Kd.at_int (Kd.C_below HR0.out HB.out) x6_1 p243 q243
    cases e243
    obtain ⟨p243, q243⟩ := eT p243 q243
    go_wp2_with (first | ((with_reducible refine gate_callee (f := 101) rfl ?_); refine gL (some 19) Try.func101 #[.slice A1 l1.length c1, .int .i64 (rd l0 x6_1)] ?_; (with_reducible refine (spec_l6Has.calls k1 _ _ l1 (rd l0 x6_1) false _ ?_ ?_ A7.out).mono ?_); exact cB HR1; exact HC1.out; rintro e w' ⟨rfl, ⟨nd, rfl⟩⟩; refine ⟨_, rfl, ?_⟩; have p245 : 0 ≤ (x6_1 : Int) := dA; have q245 : x6_1 < (l0.length : Int) := dA; obtain ⟨ad245, e245, hx245_0⟩ := Kd.at_int HR0.out x6_1 p245 q245; obtain rfl : ad243 = ad245 := (by injection e245); replace hx245_0 := hC HB hx245_0; replace p245 := eq_true p245; replace q245 := eq_true q245) | ((with_reducible refine gate_builtin (b := .append) (xs := #[.tmp 21, .tmp 26]) rfl ?_); at_builtin; refine Kd.R_append (Kd.int .i64) (w0 := w) w.heap.size rfl (.tmp 21) (.tmp 26) 41 3 (.int .i64 0) 8 rfl Try.underlying41 info3 rfl (by decide) (by omega) u5 x5_1 (rd l0 x6_1) [.int .i64 (rd l0 x6_1)] (fun _ => True) (fun _ => False) rfl rfl ?aP (fun _ hk => hk.elim) ?aF ?aO ?aB ?aS ?aL ?_; (case aP => exact rfl); (case aB => exact bA); (case aF => exact (fun _ _ => trivial)); (case aO => exact (rK HO_5)); (case aS => exact (below_size bA)); (case aL => have := LMc9.out; omega); intro v247 w10 ho hb hg hat; rw [← Ny246.out] at ho; have n0_ := Aside0.mk (hb); have n1_ := Aside0.mk (ho); clear HB; clear HO_5; have HB := n0_; have HO248 := n1_; clear n0_ n1_; clear ho hb hg hat))
    go_roundg k1
    case measure => have := HK1.out; omega
    case rel => exact ⟨(y246), (wrap64 (x6_1 + 1)), rS, H', ⟨by have := HK1.out; omega⟩, ⟨rK HO248⟩, ⟨bA⟩⟩
   rw [if_neg c5] at H
   have c5b0 := decide_eq_false c5
   clear c5
   obtain rfl := Option.some.inj H
   go_wp2
   go_ret
   exact ⟨_, rA, rK HO_5, bA⟩

/-! ### spec_Max: function 131 -/
def spec_Max.f (a0 : Int) (a1 : Int) : Option (Int) := if a1 > a0 then (some a1) else (some a0)
set_option maxHeartbeats 8000000 in
set_option maxRecDepth 100000 in
theorem spec_Max.calls (a0 : Int) (a1 : Int) (r : Int) (w : World) (h : spec_Max.f a0 a1 = some r) :
  Calls Try.prog 131 #[.int .i64 a0, .int .i64 a1] w fun e w' => e = .returned (.int .i64 r) ∧ Drawn0 w w' := by
 have H : (if a1 > a0 then (some a1) else (some a0)) = some r := h
 clear h
 by_cases c3 : a1 > a0
 ·
  rw [if_pos c3] at H
  have c3b0 := decide_eq_true c3
  clear c3
  obtain rfl := Option.some.inj H
  go_enter Try.func131, Try.ntmps131
  go_wp2
  go_ret
  exact ⟨rS, dD⟩
 rw [if_neg c3] at H
 have c3b0 := decide_eq_false c3
 clear c3
 obtain rfl := Option.some.inj H
 go_enter Try.func131, Try.ntmps131
 go_wp2
 go_ret
 exact ⟨rS, dD⟩

/-! ### spec_ClearOf: function 132 -/
def spec_ClearOf.f (a0_0 : Int) (a0_1 : Int) (a0_2 : Int) (a0_3 : Int) : Option (Int) := (spec_IsPath.f a0_0 a0_1 a0_2 a0_3).bind fun t250 => (if t250 = true then ((some (([0, 2, 5, 3] : List Int) : List Int)).bind fun y251 => (if 0 ≤ a0_1 then (if a0_1 < (y251.length : Int) then (some (rd y251 a0_1)) else (none)) else (none))) else (some 0))
set_option maxHeartbeats 8000000 in
set_option maxRecDepth 100000 in
theorem spec_ClearOf.calls (a0_0 : Int) (a0_1 : Int) (a0_2 : Int) (a0_3 : Int) (r : Int) (w : World) (h : spec_ClearOf.f a0_0 a0_1 a0_2 a0_3 = some r) :
  Calls Try.prog 132 #[.agg #[.int .i64 a0_0, .int .i64 a0_1, .int .i64 a0_2, .int .i64 a0_3]] w fun e w' => e = .returned (.int .i64 r) ∧ Below w.heap.size w w' := by
 have hu89 := Try.underlying89
 have HB := Aside0.mk (Below.refl w.heap.size w)
 have H : ((spec_IsPath.f a0_0 a0_1 a0_2 a0_3).bind fun t250 => (if t250 = true then ((some (([0, 2, 5, 3] : List Int) : List Int)).bind fun y251 => (if 0 ≤ a0_1 then (if a0_1 < (y251.length : Int) then (some (rd y251 a0_1)) else (none)) else (none))) else (some 0))) = some r := h
 clear h
 obtain ⟨t250, A2, H⟩ := bindE H
 try dsimp only at H
 by_cases c3 : t250 = true
 ·
  subst c3
  have H1 : ((some (([0, 2, 5, 3] : List Int) : List Int)).bind fun y251 => (if 0 ≤ a0_1 then (if a0_1 < (y251.length : Int) then (some (rd y251 a0_1)) else (none)) else (none))) = some r := by rw [if_pos rfl] at H; exact H
  clear H
  have H := H1
  clear H1
  obtain ⟨y251, hy251⟩ : ∃ y_ : List Int, y_ = (([0, 2, 5, 3] : List Int)) := ⟨_, rfl⟩
  replace H : (if 0 ≤ a0_1 then (if a0_1 < (y251.length : Int) then (some (rd y251 a0_1)) else (none)) else (none)) = some r := rH H hy251
  have Ny251 := Aside0.mk hy251
  clear hy251
  have c4 : 0 ≤ a0_1 := ifN H
  replace H := ifT H
  have c4b0 := decide_eq_true c4
  clear c4
  have c5 : a0_1 < (y251.length : Int) := ifN H
  replace H := ifT H
  have c5b0 := decide_eq_true c5
  clear c5
  obtain rfl := Option.some.inj H
  go_enter Try.func132, Try.ntmps132
  go_wp2_with (first | ((with_reducible refine gate_dst (N := 1) rfl ?_); refine bE (N := 1) (cs := #[.int .i64 a0_0, .int .i64 a0_1, .int .i64 a0_2, .int .i64 a0_3]) (t := 89) ?_; intro gb249 hg w6 hbox hb; have BK249 := Aside0.mk (hbox); have GW249 := gw w hg; have GE249 := gw w hg; replace HB := bs HB hb; clear hb hbox hg; obtain ⟨_, _, _, _, _, _, _, _⟩ := blkc4 BK249) | ((with_reducible refine gate_callee (f := 145) rfl ?_); refine gL (some 4) Try.func145 #[.agg #[.int .i64 a0_0, .int .i64 a0_1, .int .i64 a0_2, .int .i64 a0_3]] ?_; (with_reducible refine (spec_IsPath.calls a0_0 a0_1 a0_2 a0_3 true _ A2.out).mono ?_); rintro e w8 ⟨rfl, hb⟩; refine ⟨_, rfl, ?_⟩; replace BK249 := kb BK249 hb; replace HB := bs HB hb; (try clear hb)) | ((with_reducible refine gate_dst (N := 6) rfl ?_); refine Kd.R_lit (Kd.int .i64) _ 3 ?hg (N := 6) ?hd (xs := ([0, 2, 5, 3] : List Int)) (inner := [.int .i64 0, .int .i64 2, .int .i64 5, .int .i64 3]) (ok := fun _ => True) (okp := fun _ => True) ?hr ?hp (fun _ hk => hk) trivial (Below.refl _ _) (Nat.le_refl _) (by simp) ?_; (case hd => rfl); (case hg => rfl); (case hr => first | (go_simp; done) | (go_simp; rfl)); (case hp => exact (Reps.one (show Kd.M (Kd.int .i64) _ _ _ 0 [.int .i64 0] from rfl) (Reps.one (show Kd.M (Kd.int .i64) _ _ _ 2 [.int .i64 2] from rfl) (Reps.one (show Kd.M (Kd.int .i64) _ _ _ 5 [.int .i64 5] from rfl) (Reps.one (show Kd.M (Kd.int .i64) _ _ _ 3 [.int .i64 3] from rfl) (Reps.none _ _)))))); intro v252 w9 ho10 hb hg_ hnew_; clear hg_ hnew_; (first | rw [← Ny251.out] at ho10 | (simp only [Int.reduceToNat] at ho10; rw [← Ny251.out] at ho10)); have HO253 := rl w ho10; replace BK249 := kb BK249 hb; replace HB := bs HB hb; clear hb ho10; obtain ⟨_, _, _, _, _, _, _, _⟩ := blkc4 BK249; obtain ⟨Ao12, co12, eo12⟩ := Kd.R_slice HO253.out; subst eo12; have p254 : 0 ≤ (a0_1 : Int) := dA; have q254 : a0_1 < (y251.length : Int) := dA; obtain ⟨ad254, e254, hx254_0⟩ := Kd.at_int (Kd.R_reads' HO253.out).2.2 a0_1 p254 q254; cases e254; replace p254 := eq_true p254; replace q254 := eq_true q254))
  go_ret
  exact ⟨rA, bG⟩
 replace c3 := Bool.eq_false_iff.mpr c3
 subst c3
 have H1 : (some 0) = some r := by rw [if_neg (show ¬ (false = true) by decide)] at H; exact H
 clear H
 have H := H1
 clear H1
 obtain rfl := Option.some.inj H
 go_enter Try.func132, Try.ntmps132
 go_wp2_with (first | ((with_reducible refine gate_dst (N := 1) rfl ?_); refine bE (N := 1) (cs := #[.int .i64 a0_0, .int .i64 a0_1, .int .i64 a0_2, .int .i64 a0_3]) (t := 89) ?_; intro gb249 hg w13 hbox hb; have BK249 := Aside0.mk (hbox); have GW249 := gw w hg; have GE249 := gw w hg; replace HB := bs HB hb; clear hb hbox hg; obtain ⟨_, _, _, _, _, _, _, _⟩ := blkc4 BK249) | ((with_reducible refine gate_callee (f := 145) rfl ?_); refine gL (some 4) Try.func145 #[.agg #[.int .i64 a0_0, .int .i64 a0_1, .int .i64 a0_2, .int .i64 a0_3]] ?_; (with_reducible refine (spec_IsPath.calls a0_0 a0_1 a0_2 a0_3 false _ A2.out).mono ?_); rintro e w15 ⟨rfl, hb⟩; refine ⟨_, rfl, ?_⟩; replace BK249 := kb BK249 hb; replace HB := bs HB hb; (try clear hb)))
 go_ret
 exact ⟨rA, bG⟩

/-! ### spec_ClearBetween: function 84 -/
mutual
def spec_ClearBetween.l0 : Nat → List (S89) → List Int → List Int → Int → List Int → List Int → Int → Option (Int)
 | 0, _, _, _, _, _, _, _ => none
 | k + 1, x0, x1, x2, x7, x8, x9, x10 => if x10 < (x8.length : Int) then ((spec_IsTogether.f k x0 x1).bind fun t261 => (if t261 = true then ((spec_IsTogether.f k x0 x2).bind fun t262 => (spec_ClearBetween.j1 k x0 x1 x2 x7 x8 x9 x10 t262)) else (spec_ClearBetween.j1 k x0 x1 x2 x7 x8 x9 x10 false))) else (spec_ClearBetween.j1 k x0 x1 x2 x7 x8 x9 x10 false)
def spec_ClearBetween.j1 : Nat → List (S89) → List Int → List Int → Int → List Int → List Int → Int → Bool → Option (Int)
 | 0, _, _, _, _, _, _, _, _ => none
 | k + 1, x0, x1, x2, x7, x8, x9, x10, x32 => if x32 = true then (spec_ClearBetween.l1 k x0 x1 x2 x7 x8 x9 x10 0) else (some x7)
def spec_ClearBetween.l1 : Nat → List (S89) → List Int → List Int → Int → List Int → List Int → Int → Int → Option (Int)
 | 0, _, _, _, _, _, _, _, _ => none
 | k + 1, x0, x1, x2, x7, x8, x9, x10, x11 => if x11 < (x9.length : Int) then (if 0 ≤ x10 then (if x10 < (x8.length : Int) then ((spec_FindPath.f k x0 (rd x8 x10)).bind fun t264 => (if 0 ≤ t264 then (if t264 < (x0.length : Int) then (if 0 ≤ x11 then ((spec_FindPath.f k x0 (rd x9 x11)).bind fun t268 => (if 0 ≤ t268 then (if t268 < (x0.length : Int) then ((spec_Conflict.f k ((rd_T89 x0 t264).f0) ((rd_T89 x0 t264).f1) ((rd_T89 x0 t264).f2) ((rd_T89 x0 t264).f3) ((rd_T89 x0 t268).f0) ((rd_T89 x0 t268).f1) ((rd_T89 x0 t268).f2) ((rd_T89 x0 t268).f3)).bind fun t270 => (if t270 = true then ((spec_ClearOf.f ((rd_T89 x0 t264).f0) ((rd_T89 x0 t264).f1) ((rd_T89 x0 t264).f2) ((rd_T89 x0 t264).f3)).bind fun t271 => ((spec_Max.f x7 t271).bind fun t272 => (spec_ClearBetween.l1 k x0 x1 x2 t272 x8 x9 x10 (wrap64 (x11 + 1))))) else (spec_ClearBetween.l1 k x0 x1 x2 x7 x8 x9 x10 (wrap64 (x11 + 1))))) else (none)) else (none))) else (none)) else (none)) else (none))) else (none)) else (none)) else (spec_ClearBetween.l0 k x0 x1 x2 x7 x8 x9 (wrap64 (x10 + 1)))
end
def spec_ClearBetween.f (k : Nat) (l0 : List (S89)) (l1 : List Int) (l2 : List Int) : Option (Int) := (spec_Closes.f k l1 l2).bind fun t255 => ((spec_Closes.f k l2 l1).bind fun t258 => (spec_ClearBetween.l0 k l0 l1 l2 0 t255 t258 0))
theorem spec_ClearBetween.mono_l : ∀ k, (∀ y0 y1 y2 y3 y4 y5 y6, LeO (spec_ClearBetween.l0 k y0 y1 y2 y3 y4 y5 y6) (spec_ClearBetween.l0 (k + 1) y0 y1 y2 y3 y4 y5 y6)) ∧ (∀ y0 y1 y2 y3 y4 y5 y6 y7, LeO (spec_ClearBetween.j1 k y0 y1 y2 y3 y4 y5 y6 y7) (spec_ClearBetween.j1 (k + 1) y0 y1 y2 y3 y4 y5 y6 y7)) ∧ (∀ y0 y1 y2 y3 y4 y5 y6 y7, LeO (spec_ClearBetween.l1 k y0 y1 y2 y3 y4 y5 y6 y7) (spec_ClearBetween.l1 (k + 1) y0 y1 y2 y3 y4 y5 y6 y7))
 | 0 => ⟨fun _ _ _ _ _ _ _ r h => by simp [spec_ClearBetween.l0] at h, fun _ _ _ _ _ _ _ _ r h => by simp [spec_ClearBetween.j1] at h, fun _ _ _ _ _ _ _ _ r h => by simp [spec_ClearBetween.l1] at h⟩
 | k + 1 => by
  obtain ⟨ih0, ih1, ih2⟩ := spec_ClearBetween.mono_l k
  refine ⟨?_, ?_, ?_⟩
  ·
   intro y0 y1 y2 y3 y4 y5 y6
   unfold spec_ClearBetween.l0
   exact mz7 ih0 ih1 ih2 spec_Closes.mono spec_Conflict.mono spec_FindPath.mono spec_IsTogether.mono
  ·
   intro y0 y1 y2 y3 y4 y5 y6 y7
   unfold spec_ClearBetween.j1
   exact mz7 ih0 ih1 ih2 spec_Closes.mono spec_Conflict.mono spec_FindPath.mono spec_IsTogether.mono
  ·
   intro y0 y1 y2 y3 y4 y5 y6 y7
   unfold spec_ClearBetween.l1
   exact mz7 ih0 ih1 ih2 spec_Closes.mono spec_Conflict.mono spec_FindPath.mono spec_IsTogether.mono
theorem spec_ClearBetween.mono : ∀ a0 a1 a2 k, LeO (spec_ClearBetween.f k a0 a1 a2) (spec_ClearBetween.f (k + 1) a0 a1 a2) := by
 intro a0 a1 a2 k
 obtain ⟨ih0, ih1, ih2⟩ := spec_ClearBetween.mono_l k
 unfold spec_ClearBetween.f
 exact mz7 ih0 ih1 ih2 spec_Closes.mono spec_Conflict.mono spec_FindPath.mono spec_IsTogether.mono
def spec_ClearBetween.T11 : Bool × List (List Nat × List Nat) := (true, [([], []), ([], []), ([], []), ([], []), ([], []), ([3, 4], [3, 4]), ([5], [5]), ([2, 6], [2, 6]), ([1, 7], [1, 7]), ([8], [8]), ([0, 9, 7], [0, 9])])
def spec_ClearBetween.B11 : List Nat := [0, 0, 0, 0, 0, 24, 56, 124, 254, 510, 1023]
theorem spec_ClearBetween.tab11 : rtab .any (opsOf Try.f84 11) = spec_ClearBetween.T11 := by kernel_rfl
theorem spec_ClearBetween.bits11 : waitsOk spec_ClearBetween.T11.2 spec_ClearBetween.B11 = true := by kernel_rfl
set_option maxHeartbeats 8000000 in
set_option maxRecDepth 100000 in
theorem spec_ClearBetween.calls (k : Nat) (A0 : Option Addr) (c0 : Nat) (l0 : List (S89)) (A1 : Option Addr) (c1 : Nat) (l1 : List Int) (A2 : Option Addr) (c2 : Nat) (l2 : List Int) (r : Int) (w : World) (hr0 : Kd.C k89 w A0 l0.length l0) (hc0 : l0.length ≤ c0) (hr1 : Kd.C (Kd.int .i64) w A1 l1.length l1) (hc1 : l1.length ≤ c1) (hr2 : Kd.C (Kd.int .i64) w A2 l2.length l2) (hc2 : l2.length ≤ c2) (h : spec_ClearBetween.f k l0 l1 l2 = some r) :
  Calls Try.prog 84 #[.slice A0 l0.length c0, .slice A1 l1.length c1, .slice A2 l2.length c2] w fun e w' => e = .returned (.int .i64 r) ∧ Below w.heap.size w w' := by
 have hu89 := Try.underlying89
 have HR0 := Aside0.mk hr0
 have HC0 := Aside0.mk hc0
 clear hr0 hc0
 have HR1 := Aside0.mk hr1
 have HC1 := Aside0.mk hc1
 clear hr1 hc1
 have HR2 := Aside0.mk hr2
 have HC2 := Aside0.mk hc2
 clear hr2 hc2
 have HB := Aside0.mk (Below.refl w.heap.size w)
 have H : ((spec_Closes.f k l1 l2).bind fun t255 => ((spec_Closes.f k l2 l1).bind fun t258 => (spec_ClearBetween.l0 k l0 l1 l2 0 t255 t258 0))) = some r := h
 clear h
 obtain ⟨t255, A4, H⟩ := bindE H
 try dsimp only at H
 obtain ⟨t258, A5, H⟩ := bindE H
 try dsimp only at H
 have H' := Aside0.mk H
 clear H
 go_enter Try.func84, Try.ntmps84
 go_wp2_with (first | ((with_reducible refine gate_callee (f := 130) rfl ?_); refine gL (some 15) Try.func130 #[.slice A1 l1.length c1, .slice A2 l2.length c2] ?_; (with_reducible refine (spec_Closes.calls k _ _ l1 _ _ l2 t255 _ ?_ ?_ ?_ ?_ A4.out).mono ?_); exact cO HR1; exact HC1.out; exact cO HR2; exact HC2.out; rintro e w6 ⟨v256, rfl, ho0, hb⟩; refine ⟨_, rfl, ?_⟩; have HO257 := rl w ho0; replace HB := bs HB hb; (try clear hb); (try clear ho0)) | ((with_reducible refine gate_callee (f := 130) rfl ?_); refine gL (some 18) Try.func130 #[.slice A2 l2.length c2, .slice A1 l1.length c1] ?_; (with_reducible refine (spec_Closes.calls k _ _ l2 _ _ l1 t258 _ ?_ ?_ ?_ ?_ A5.out).mono ?_); exact cB HR2; exact HC2.out; exact cB HR1; exact HC1.out; rintro e w7 ⟨v259, rfl, ho0, hb⟩; refine ⟨_, rfl, ?_⟩; have HO260 := rl w (rn ho0 HO257); replace HO257 := re HO257 ho0 hb; replace HB := bs HB hb; (try clear hb); (try clear ho0)))
 go_loopg [7, 10] k (fun kq v7 v10 w' => ∃ (x7_1 : Int) (x10_1 : Int), v7 = .int .i64 x7_1 ∧ v10 = .int .i64 x10_1 ∧ Aside0 (spec_ClearBetween.l0 kq l0 l1 l2 x7_1 t255 t258 x10_1 = some r) ∧ Aside0 (kq ≤ k) ∧ Aside0 (Kd.R (Kd.int .i64) 3 w' w.heap.size (n1 v259) v256 t255) ∧ Aside0 (Kd.R (Kd.int .i64) 3 w' w.heap.size (n1 v256) v259 t258) ∧ Aside0 (Below w.heap.size w w'))
 case atStart => exact ⟨(0), (0), rS, rS, H', ⟨Nat.le_refl _⟩, ⟨rm HO257 (fun _ hk => hk.2)⟩, ⟨rm HO260 (fun _ hk => hk.2)⟩, ⟨bA⟩⟩
 case round =>
  clear H'
  obtain ⟨x7_1, x10_1, rfl, rfl, HA, HK1, HO_8, HO_9, HB⟩ := hrel
  cases gk with
  | zero => exact absurd HA.out (by simp [spec_ClearBetween.l0])
  | succ k1 =>
   have H := HA.out
   clear HA
   simp only [spec_ClearBetween.l0] at H
   have HC8 := Aside0.mk H
   clear H
   go_upto_region 5 with (fail)
   go_cut [32] (fun v32 wc => ∃ (kq : Nat) (x32_7 : Bool), v32 = .bool x32_7 ∧ Aside0 (spec_ClearBetween.j1 kq l0 l1 l2 x7_1 t255 t258 x10_1 x32_7 = some r) ∧ Aside0 (kq ≤ k1) ∧ Aside0 (Kd.R (Kd.int .i64) 3 wc w.heap.size (n1 v259) v256 t255) ∧ Aside0 (Kd.R (Kd.int .i64) 3 wc w.heap.size (n1 v256) v259 t258) ∧ Aside0 (Below w.heap.size w wc))
   case first =>
    have H := HC8.out
    clear HC8
    by_cases c9 : x10_1 < (t255.length : Int)
    ·
     rw [if_pos c9] at H
     have c9b0 := decide_eq_true c9
     clear c9
     (first | rw [c9b0] | (simp only [i64_w, i32_w]; rw [c9b0]) | skip)
     obtain ⟨t261, A10, H⟩ := bindE H
     try dsimp only at H
     by_cases c11 : t261 = true
     ·
      subst c11
      have H1 : ((spec_IsTogether.f k1 l0 l2).bind fun t262 => (spec_ClearBetween.j1 k1 l0 l1 l2 x7_1 t255 t258 x10_1 t262)) = some r := by rw [if_pos rfl] at H; exact H
      clear H
      have H := H1
      clear H1
      obtain ⟨t262, A12, H⟩ := bindE H
      try dsimp only at H
      have H' := Aside0.mk H
      clear H
      obtain ⟨Ao13, co13, eo13⟩ := Kd.R_slice HO_8.out
      subst eo13
      go_wp2_with (first | (go_at_call 82; (with_reducible refine (spec_IsTogether.calls k1 _ _ l0 _ _ l1 true _ ?_ ?_ ?_ ?_ A10.out).mono ?_); exact cB HR0; exact HC0.out; exact cB HR1; exact HC1.out; rintro e w14 ⟨rfl, hb⟩; replace HO_8 := rb HO_8 hb; replace HO_9 := rb HO_9 hb; replace HB := bs HB hb; (try clear hb)) | (go_at_call 82; (with_reducible refine (spec_IsTogether.calls k1 _ _ l0 _ _ l2 t262 _ ?_ ?_ ?_ ?_ A12.out).mono ?_); exact cB HR0; exact HC0.out; exact cB HR2; exact HC2.out; rintro e w15 ⟨rfl, hb⟩; replace HO_8 := rb HO_8 hb; replace HO_9 := rb HO_9 hb; replace HB := bs HB hb; (try clear hb)))
      go_meet
      case rel => exact ⟨_, (t262), rS, H', ⟨by have := HK1.out; first | omega | exact Nat.le_refl _⟩, ⟨rK HO_8⟩, ⟨rK HO_9⟩, ⟨bA⟩⟩
     replace c11 := Bool.eq_false_iff.mpr c11
     subst c11
     have H1 : (spec_ClearBetween.j1 k1 l0 l1 l2 x7_1 t255 t258 x10_1 false) = some r := by rw [if_neg (show ¬ (false = true) by decide)] at H; exact H
     clear H
     have H := H1
     clear H1
     have H' := Aside0.mk H
     clear H
     obtain ⟨Ao16, co16, eo16⟩ := Kd.R_slice HO_8.out
     subst eo16
     go_wp2_with (first | (go_at_call 82; (with_reducible refine (spec_IsTogether.calls k1 _ _ l0 _ _ l1 false _ ?_ ?_ ?_ ?_ A10.out).mono ?_); exact cB HR0; exact HC0.out; exact cB HR1; exact HC1.out; rintro e w17 ⟨rfl, hb⟩; replace HO_8 := rb HO_8 hb; replace HO_9 := rb HO_9 hb; replace HB := bs HB hb; (try clear hb)))
     go_meet
     case rel => exact ⟨_, (false), rS, H', ⟨by have := HK1.out; first | omega | exact Nat.le_refl _⟩, ⟨rK HO_8⟩, ⟨rK HO_9⟩, ⟨bA⟩⟩
    rw [if_neg c9] at H
    have c9b0 := decide_eq_false c9
    clear c9
    (first | rw [c9b0] | (simp only [i64_w, i32_w]; rw [c9b0]) | skip)
    have H' := Aside0.mk H
    clear H
    obtain ⟨Ao18, co18, eo18⟩ := Kd.R_slice HO_8.out
    subst eo18
    go_wp2
    go_meet
    case rel => exact ⟨_, (false), rS, H', ⟨by have := HK1.out; first | omega | exact Nat.le_refl _⟩, ⟨rK HO_8⟩, ⟨rK HO_9⟩, ⟨bA⟩⟩
   case rest =>
    clear HC8
    obtain ⟨kq, x32_7, rfl, HA, HJ7, HO_8, HO_9, HB⟩ := hcut
    cases kq with
    | zero => exact absurd HA.out (by simp [spec_ClearBetween.j1])
    | succ kj7 =>
     have H := HA.out
     clear HA
     simp only [spec_ClearBetween.j1] at H
     by_cases c19 : x32_7 = true
     ·
      subst c19
      have H1 : (spec_ClearBetween.l1 kj7 l0 l1 l2 x7_1 t255 t258 x10_1 0) = some r := by rw [if_pos rfl] at H; exact H
      clear H
      have H := H1
      clear H1
      have H' := Aside0.mk H
      clear H
      go_wp2
      go_loopg [7, 11] kj7 (fun kq v7 v11 w' => ∃ (x7_3 : Int) (x11_3 : Int), v7 = .int .i64 x7_3 ∧ v11 = .int .i64 x11_3 ∧ Aside0 (spec_ClearBetween.l1 kq l0 l1 l2 x7_3 t255 t258 x10_1 x11_3 = some r) ∧ Aside0 (kq ≤ kj7) ∧ Aside0 (Kd.R (Kd.int .i64) 3 w' w.heap.size (n1 v259) v256 t255) ∧ Aside0 (Kd.R (Kd.int .i64) 3 w' w.heap.size (n1 v256) v259 t258) ∧ Aside0 (Below w.heap.size w w'))
      case atStart => exact ⟨(x7_1), (0), rS, rS, H', ⟨Nat.le_refl _⟩, ⟨rK HO_8⟩, ⟨rK HO_9⟩, ⟨bA⟩⟩
      case round =>
       clear H'
       obtain ⟨x7_3, x11_3, rfl, rfl, HA, HK3, HO_8, HO_9, HB⟩ := hrel
       cases gk with
       | zero => exact absurd HA.out (by simp [spec_ClearBetween.l1])
       | succ k3 =>
        have H := HA.out
        clear HA
        simp only [spec_ClearBetween.l1] at H
        by_cases c20 : x11_3 < (t258.length : Int)
        ·
         rw [if_pos c20] at H
         have c20b0 := decide_eq_true c20
         clear c20
         have c21 : 0 ≤ x10_1 := ifN H
         replace H := ifT H
         have c21b0 := decide_eq_true c21
         clear c21
         have c22 : x10_1 < (t255.length : Int) := ifN H
         replace H := ifT H
         have c22b0 := decide_eq_true c22
         clear c22
         obtain ⟨t264, A23, H⟩ := bindE H
         try dsimp only at H
         have c24 : 0 ≤ t264 := ifN H
         replace H := ifT H
         have c24b0 := decide_eq_true c24
         clear c24
         have c25 : t264 < (l0.length : Int) := ifN H
         replace H := ifT H
         have c25b0 := decide_eq_true c25
         clear c25
         have c26 : 0 ≤ x11_3 := ifN H
         replace H := ifT H
         have c26b0 := decide_eq_true c26
         clear c26
         obtain ⟨t268, A27, H⟩ := bindE H
         try dsimp only at H
         have c28 : 0 ≤ t268 := ifN H
         replace H := ifT H
         have c28b0 := decide_eq_true c28
         clear c28
         have c29 : t268 < (l0.length : Int) := ifN H
         replace H := ifT H
         have c29b0 := decide_eq_true c29
         clear c29
         obtain ⟨t270, A30, H⟩ := bindE H
         try dsimp only at H
         by_cases c31 : t270 = true
         ·
          subst c31
          have H1 : ((spec_ClearOf.f ((rd_T89 l0 t264).f0) ((rd_T89 l0 t264).f1) ((rd_T89 l0 t264).f2) ((rd_T89 l0 t264).f3)).bind fun t271 => ((spec_Max.f x7_3 t271).bind fun t272 => (spec_ClearBetween.l1 k3 l0 l1 l2 t272 t255 t258 x10_1 (wrap64 (x11_3 + 1))))) = some r := by rw [if_pos rfl] at H; exact H
          clear H
          have H := H1
          clear H1
          obtain ⟨t271, A32, H⟩ := bindE H
          try dsimp only at H
          obtain ⟨t272, A33, H⟩ := bindE H
          try dsimp only at H
          have H' := Aside0.mk H
          clear H
          obtain ⟨Ao34, co34, eo34⟩ := Kd.R_slice HO_9.out
          subst eo34
          obtain ⟨Ao35, co35, eo35⟩ := Kd.R_slice HO_8.out
          subst eo35
          obtain ⟨p263, q263⟩ : 0 ≤ (x10_1 : Int) ∧ x10_1 < (t255.length : Int) := ⟨dA, dA⟩
          obtain ⟨ad263, e263, hx263_0⟩ := Kd.at_int (Kd.R_reads' HO_8.out).2.2 x10_1 p263 q263
          cases e263
          obtain ⟨p263, q263⟩ := eT p263 q263
          try go_wp2_with (first | ((with_reducible refine gate_callee (f := 116) rfl ?_); refine gL (some 47) Try.func116 #[.slice A0 l0.length c0, .int .i64 (rd t255 x10_1)] ?_; (with_reducible refine (spec_FindPath.calls k3 _ _ l0 (rd t255 x10_1) t264 _ ?_ ?_ A23.out).mono ?_); exact cB HR0; exact HC0.out; rintro e w' ⟨rfl, ⟨nd, rfl⟩⟩; refine ⟨_, rfl, ?_⟩; (try (rw [drewN_self wr]; generalize hq_ : World.drewN wr _ = wr; have n0_ : Aside0 (Kd.R (Kd.int .i64) 3 wr w.heap.size (n1 (.slice Ao34 t258.length co34)) (.slice (some ad263) t255.length co35) t255) := ⟨by rw [← hq_]; exact (rK HO_8)⟩; have n1_ : Aside0 (Kd.R (Kd.int .i64) 3 wr w.heap.size (n1 (.slice (some ad263) t255.length co35)) (.slice Ao34 t258.length co34) t258) := ⟨by rw [← hq_]; exact (rK HO_9)⟩; have n2_ : Aside0 (Below w.heap.size w wr) := ⟨by rw [← hq_]; exact bA⟩; clear HO_8 HO_9 HB hq_; have HO_8 := n0_; have HO_9 := n1_; have HB := n2_; clear n0_ n1_ n2_)); have p265 : 0 ≤ (t264 : Int) := dA; have q265 : t264 < (l0.length : Int) := dA; obtain ⟨ad265, e265, hx265_0, hx265_1, hx265_2, hx265_3⟩ := at_T89 HR0.out t264 p265 q265; cases e265; replace hx265_0 := hC HB hx265_0; replace hx265_1 := hC HB hx265_1; replace hx265_2 := hC HB hx265_2; replace hx265_3 := hC HB hx265_3; replace p265 := eq_true p265; replace q265 := eq_true q265) | ((with_reducible refine gate_dst (N := 12) rfl ?_); refine bE (N := 12) (cs := #[.int .i64 0, .int .i64 0, .int .i64 0, .int .i64 0]) (t := 89) ?_; intro gb266 hg w36 hbox hb; replace HO_8 := rb HO_8 hb; replace HO_9 := rb HO_9 hb; have BK266 := Aside0.mk (hbox); have GW266 := gw w hg; have GE266 := gw w hg; replace HB := bs HB hb; clear hb hbox hg; obtain ⟨_, _, _, _, _, _, _, _⟩ := blkc4 BK266))
          have n0_ : Aside0 (Kd.R (Kd.int .i64) 3 ((((w36.setCell ⟨gb266, 0, none⟩ (.int .i64 ((rd_T89 l0 t264).f0))).setCell ⟨gb266, 1, none⟩ (.int .i64 ((rd_T89 l0 t264).f1))).setCell ⟨gb266, 2, none⟩ (.int .i64 ((rd_T89 l0 t264).f2))).setCell ⟨gb266, 3, none⟩ (.int .i64 ((rd_T89 l0 t264).f3))) w.heap.size (n1 (.slice Ao34 t258.length co34)) (.slice (some ad263) t255.length co35) t255) := ⟨rf HO_8 BK266⟩
          have n1_ : Aside0 (Kd.R (Kd.int .i64) 3 ((((w36.setCell ⟨gb266, 0, none⟩ (.int .i64 ((rd_T89 l0 t264).f0))).setCell ⟨gb266, 1, none⟩ (.int .i64 ((rd_T89 l0 t264).f1))).setCell ⟨gb266, 2, none⟩ (.int .i64 ((rd_T89 l0 t264).f2))).setCell ⟨gb266, 3, none⟩ (.int .i64 ((rd_T89 l0 t264).f3))) w.heap.size (n1 (.slice (some ad263) t255.length co35)) (.slice Ao34 t258.length co34) t258) := ⟨rf HO_9 BK266⟩
          have n2_ : Aside0 (((((w36.setCell ⟨gb266, 0, none⟩ (.int .i64 ((rd_T89 l0 t264).f0))).setCell ⟨gb266, 1, none⟩ (.int .i64 ((rd_T89 l0 t264).f1))).setCell ⟨gb266, 2, none⟩ (.int .i64 ((rd_T89 l0 t264).f2))).setCell ⟨gb266, 3, none⟩ (.int .i64 ((rd_T89 l0 t264).f3))).heap[gb266]? = some (.cells #[.int .i64 ((rd_T89 l0 t264).f0), .int .i64 ((rd_T89 l0 t264).f1), .int .i64 ((rd_T89 l0 t264).f2), .int .i64 ((rd_T89 l0 t264).f3)] 89 (0, 0))) := ⟨kp BK266⟩
          have n3_ : Aside0 (Below w.heap.size w ((((w36.setCell ⟨gb266, 0, none⟩ (.int .i64 ((rd_T89 l0 t264).f0))).setCell ⟨gb266, 1, none⟩ (.int .i64 ((rd_T89 l0 t264).f1))).setCell ⟨gb266, 2, none⟩ (.int .i64 ((rd_T89 l0 t264).f2))).setCell ⟨gb266, 3, none⟩ (.int .i64 ((rd_T89 l0 t264).f3)))) := ⟨bG⟩
          (try clear HO_8)
          (try clear HO_9)
          (try clear BK266)
          (try clear HB)
          generalize ((((w36.setCell ⟨gb266, 0, none⟩ (.int .i64 ((rd_T89 l0 t264).f0))).setCell ⟨gb266, 1, none⟩ (.int .i64 ((rd_T89 l0 t264).f1))).setCell ⟨gb266, 2, none⟩ (.int .i64 ((rd_T89 l0 t264).f2))).setCell ⟨gb266, 3, none⟩ (.int .i64 ((rd_T89 l0 t264).f3))) = w38 at n0_ n1_ n2_ n3_ ⊢
          have HO_8 := n0_
          have HO_9 := n1_
          have BK266 := n2_
          have HB := n3_
          clear n0_ n1_ n2_ n3_
          replace HO_8 := dr HO_8
          replace HO_9 := dr HO_9
          replace BK266 := dk BK266
          have HBo := HB
          replace HB := db HB
          obtain ⟨p267, q267⟩ : 0 ≤ (x11_3 : Int) ∧ x11_3 < (t258.length : Int) := ⟨dA, dA⟩
          obtain ⟨ad267, e267, hx267_0⟩ := Kd.at_int (Kd.R_reads' HO_9.out).2.2 x11_3 p267 q267
          cases e267
          obtain ⟨p267, q267⟩ := eT p267 q267
          obtain ⟨p269, q269⟩ : 0 ≤ (t268 : Int) ∧ t268 < (l0.length : Int) := ⟨dA, dA⟩
          obtain ⟨ad269, e269, hx269_0, hx269_1, hx269_2, hx269_3⟩ := at_T89 HR0.out t268 p269 q269
          have hw269_3 := hx269_3
          have hw269_2 := hx269_2
          have hw269_1 := hx269_1
          have hw269_0 := hx269_0
          obtain rfl : ad265 = ad269 := (by injection e269)
          replace hx269_0 := hC HB hx269_0
          replace hx269_1 := hC HB hx269_1
          replace hx269_2 := hC HB hx269_2
          replace hx269_3 := hC HB hx269_3
          obtain ⟨p269, q269⟩ := eT p269 q269
          refine sw (ds := []) 11 (mb 11 0) spec_ClearBetween.tab11 spec_ClearBetween.bits11 (h4c BK266 (h1c hx267_0 (h1c (hC HB hw269_0) (h1c (hC HB hw269_1) (h1c (hC HB hw269_2) (h1 (hC HB hw269_3))))))) (fun hHeld HT_ HW_ => ?_)
          generalize w38.drew = w39 at HO_8 HO_9 BK266 HB hx267_0 hx269_0 hx269_1 hx269_2 hx269_3 hHeld ⊢
          refine pa 1 51 (mb 11 2) HT_ ?_
          refine pa 2 52 (mb 11 6) HT_ ?_
          refine pa 3 53 (mb 11 14) HT_ ?_
          refine pa 4 54 (mb 11 30) HT_ ?_
          refine pa 5 55 (mb 11 62) HT_ ?_
          refine ta9 0 50 (mb 11 63) HT_ HW_ hHeld ?_
          refine ta9 6 56 (mb 11 127) HT_ HW_ hHeld ?_
          refine oa 7 57 (mb 11 255) HT_ (fun K hK => ?_)
          refine gA Try.func116 #[.slice (some ad265) l0.length c0, .int .i64 (rd t258 x11_3)] ?_
          with_reducible refine (spec_FindPath.calls k3 _ _ l0 (rd t258 x11_3) t268 _ ?side1 ?side2 A27.out).mono ?_
          (case side1 => exact cB HR0)
          (case side2 => exact HC0.out)
          rintro e w' ⟨rfl, ⟨nd, rfl⟩⟩
          refine ⟨_, rfl, ?_⟩
          refine hK.out _ _ (cm4 BK266 ⟨hHeld.2.2.2.2.1, (hC HB hw269_0), (hC HB hw269_1), (hC HB hw269_2), (hC HB hw269_3)⟩) (fun hHeld => ?_)
          clear hK K
          refine nB ?_
          refine pa 8 58 (mb 11 511) HT_ ?_
          refine ta9 9 59 (mb 11 1023) HT_ HW_ hHeld ?_
          refine oa 10 60 (mb 11 2047) HT_ (fun K hK => ?_)
          refine gA Try.func129 #[.agg #[.int .i64 ((rd_T89 l0 t264).f0), .int .i64 ((rd_T89 l0 t264).f1), .int .i64 ((rd_T89 l0 t264).f2), .int .i64 ((rd_T89 l0 t264).f3)], .agg #[.int .i64 ((rd_T89 l0 t268).f0), .int .i64 ((rd_T89 l0 t268).f1), .int .i64 ((rd_T89 l0 t268).f2), .int .i64 ((rd_T89 l0 t268).f3)]] ?_
          with_reducible refine (spec_Conflict.calls k3 ((rd_T89 l0 t264).f0) ((rd_T89 l0 t264).f1) ((rd_T89 l0 t264).f2) ((rd_T89 l0 t264).f3) ((rd_T89 l0 t268).f0) ((rd_T89 l0 t268).f1) ((rd_T89 l0 t268).f2) ((rd_T89 l0 t268).f3) true _ A30.out).mono ?_
          rintro e w40 ⟨rfl, hb⟩
          have HS4_ := (hb.cell (World.block_lt_of_cell? _ _ (hHeld.2.2.2.2.1))).trans (hHeld.2.2.2.2.1)
          refine ⟨_, rfl, ?_⟩
          replace HO_8 := rb HO_8 hb
          replace HO_9 := rb HO_9 hb
          replace BK266 := kb BK266 hb
          replace HB := bs HB hb
          (try clear hb)
          (try clear hb2)
          (try clear hk)
          (try clear hi)
          refine hK.out _ _ (cm4 BK266 ⟨HS4_, (hC HB hw269_0), (hC HB hw269_1), (hC HB hw269_2), (hC HB hw269_3)⟩) (fun hHeld => ?_)
          clear hK K
          refine nB ?_
          refine eA HT_ ?_
          obtain ⟨_, _, _, _, _, _, _, _⟩ := blkc4 BK266
          try go_wp2_with (first | ((with_reducible refine gate_callee (f := 132) rfl ?_); refine gL (some 63) Try.func132 #[.agg #[.int .i64 ((rd_T89 l0 t264).f0), .int .i64 ((rd_T89 l0 t264).f1), .int .i64 ((rd_T89 l0 t264).f2), .int .i64 ((rd_T89 l0 t264).f3)]] ?_; (with_reducible refine (spec_ClearOf.calls ((rd_T89 l0 t264).f0) ((rd_T89 l0 t264).f1) ((rd_T89 l0 t264).f2) ((rd_T89 l0 t264).f3) t271 _ A32.out).mono ?_); rintro e w42 ⟨rfl, hb⟩; refine ⟨_, rfl, ?_⟩; replace HO_8 := rb HO_8 hb; replace HO_9 := rb HO_9 hb; replace BK266 := kb BK266 hb; replace HB := bs HB hb; (try clear hb)) | ((with_reducible refine gate_callee (f := 131) rfl ?_); refine gL (some 64) Try.func131 #[.int .i64 x7_3, .int .i64 t271] ?_; (with_reducible refine (spec_Max.calls x7_3 t271 t272 _ A33.out).mono ?_); rintro e w' ⟨rfl, ⟨nd, rfl⟩⟩; refine ⟨_, rfl, ?_⟩))
          go_roundg k3
          case measure => have := HK1.out; have := HJ7.out; have := HK3.out; omega
          case rel => exact ⟨(t272), (wrap64 (x11_3 + 1)), rS, rS, H', ⟨by have := HK1.out; have := HJ7.out; have := HK3.out; omega⟩, ⟨rK HO_8⟩, ⟨rK HO_9⟩, ⟨bG⟩⟩
         replace c31 := Bool.eq_false_iff.mpr c31
         subst c31
         have H1 : (spec_ClearBetween.l1 k3 l0 l1 l2 x7_3 t255 t258 x10_1 (wrap64 (x11_3 + 1))) = some r := by rw [if_neg (show ¬ (false = true) by decide)] at H; exact H
         clear H
         have H := H1
         clear H1
         have H' := Aside0.mk H
         clear H
         obtain ⟨Ao43, co43, eo43⟩ := Kd.R_slice HO_9.out
         subst eo43
         obtain ⟨Ao44, co44, eo44⟩ := Kd.R_slice HO_8.out
         subst eo44
         obtain ⟨p263, q263⟩ : 0 ≤ (x10_1 : Int) ∧ x10_1 < (t255.length : Int) := ⟨dA, dA⟩
         obtain ⟨ad263, e263, hx263_0⟩ := Kd.at_int (Kd.R_reads' HO_8.out).2.2 x10_1 p263 q263
         cases e263
         obtain ⟨p263, q263⟩ := eT p263 q263
         try go_wp2_with (first | ((with_reducible refine gate_callee (f := 116) rfl ?_); refine gL (some 47) Try.func116 #[.slice A0 l0.length c0, .int .i64 (rd t255 x10_1)] ?_; (with_reducible refine (spec_FindPath.calls k3 _ _ l0 (rd t255 x10_1) t264 _ ?_ ?_ A23.out).mono ?_); exact cB HR0; exact HC0.out; rintro e w' ⟨rfl, ⟨nd, rfl⟩⟩; refine ⟨_, rfl, ?_⟩; (try (rw [drewN_self wr]; generalize hq_ : World.drewN wr _ = wr; have n0_ : Aside0 (Kd.R (Kd.int .i64) 3 wr w.heap.size (n1 (.slice Ao43 t258.length co43)) (.slice (some ad263) t255.length co44) t255) := ⟨by rw [← hq_]; exact (rK HO_8)⟩; have n1_ : Aside0 (Kd.R (Kd.int .i64) 3 wr w.heap.size (n1 (.slice (some ad263) t255.length co44)) (.slice Ao43 t258.length co43) t258) := ⟨by rw [← hq_]; exact (rK HO_9)⟩; have n2_ : Aside0 (Below w.heap.size w wr) := ⟨by rw [← hq_]; exact bA⟩; clear HO_8 HO_9 HB hq_; have HO_8 := n0_; have HO_9 := n1_; have HB := n2_; clear n0_ n1_ n2_)); have p265 : 0 ≤ (t264 : Int) := dA; have q265 : t264 < (l0.length : Int) := dA; obtain ⟨ad265, e265, hx265_0, hx265_1, hx265_2, hx265_3⟩ := at_T89 HR0.out t264 p265 q265; cases e265; replace hx265_0 := hC HB hx265_0; replace hx265_1 := hC HB hx265_1; replace hx265_2 := hC HB hx265_2; replace hx265_3 := hC HB hx265_3; replace p265 := eq_true p265; replace q265 := eq_true q265) | ((with_reducible refine gate_dst (N := 12) rfl ?_); refine bE (N := 12) (cs := #[.int .i64 0, .int .i64 0, .int .i64 0, .int .i64 0]) (t := 89) ?_; intro gb266 hg w45 hbox hb; replace HO_8 := rb HO_8 hb; replace HO_9 := rb HO_9 hb; have BK266 := Aside0.mk (hbox); have GW266 := gw w hg; have GE266 := gw w hg; replace HB := bs HB hb; clear hb hbox hg; obtain ⟨_, _, _, _, _, _, _, _⟩ := blkc4 BK266))
         have n0_ : Aside0 (Kd.R (Kd.int .i64) 3 ((((w45.setCell ⟨gb266, 0, none⟩ (.int .i64 ((rd_T89 l0 t264).f0))).setCell ⟨gb266, 1, none⟩ (.int .i64 ((rd_T89 l0 t264).f1))).setCell ⟨gb266, 2, none⟩ (.int .i64 ((rd_T89 l0 t264).f2))).setCell ⟨gb266, 3, none⟩ (.int .i64 ((rd_T89 l0 t264).f3))) w.heap.size (n1 (.slice Ao43 t258.length co43)) (.slice (some ad263) t255.length co44) t255) := ⟨rf HO_8 BK266⟩
         have n1_ : Aside0 (Kd.R (Kd.int .i64) 3 ((((w45.setCell ⟨gb266, 0, none⟩ (.int .i64 ((rd_T89 l0 t264).f0))).setCell ⟨gb266, 1, none⟩ (.int .i64 ((rd_T89 l0 t264).f1))).setCell ⟨gb266, 2, none⟩ (.int .i64 ((rd_T89 l0 t264).f2))).setCell ⟨gb266, 3, none⟩ (.int .i64 ((rd_T89 l0 t264).f3))) w.heap.size (n1 (.slice (some ad263) t255.length co44)) (.slice Ao43 t258.length co43) t258) := ⟨rf HO_9 BK266⟩
         have n2_ : Aside0 (((((w45.setCell ⟨gb266, 0, none⟩ (.int .i64 ((rd_T89 l0 t264).f0))).setCell ⟨gb266, 1, none⟩ (.int .i64 ((rd_T89 l0 t264).f1))).setCell ⟨gb266, 2, none⟩ (.int .i64 ((rd_T89 l0 t264).f2))).setCell ⟨gb266, 3, none⟩ (.int .i64 ((rd_T89 l0 t264).f3))).heap[gb266]? = some (.cells #[.int .i64 ((rd_T89 l0 t264).f0), .int .i64 ((rd_T89 l0 t264).f1), .int .i64 ((rd_T89 l0 t264).f2), .int .i64 ((rd_T89 l0 t264).f3)] 89 (0, 0))) := ⟨kp BK266⟩
         have n3_ : Aside0 (Below w.heap.size w ((((w45.setCell ⟨gb266, 0, none⟩ (.int .i64 ((rd_T89 l0 t264).f0))).setCell ⟨gb266, 1, none⟩ (.int .i64 ((rd_T89 l0 t264).f1))).setCell ⟨gb266, 2, none⟩ (.int .i64 ((rd_T89 l0 t264).f2))).setCell ⟨gb266, 3, none⟩ (.int .i64 ((rd_T89 l0 t264).f3)))) := ⟨bG⟩
         (try clear HO_8)
         (try clear HO_9)
         (try clear BK266)
         (try clear HB)
         generalize ((((w45.setCell ⟨gb266, 0, none⟩ (.int .i64 ((rd_T89 l0 t264).f0))).setCell ⟨gb266, 1, none⟩ (.int .i64 ((rd_T89 l0 t264).f1))).setCell ⟨gb266, 2, none⟩ (.int .i64 ((rd_T89 l0 t264).f2))).setCell ⟨gb266, 3, none⟩ (.int .i64 ((rd_T89 l0 t264).f3))) = w47 at n0_ n1_ n2_ n3_ ⊢
         have HO_8 := n0_
         have HO_9 := n1_
         have BK266 := n2_
         have HB := n3_
         clear n0_ n1_ n2_ n3_
         replace HO_8 := dr HO_8
         replace HO_9 := dr HO_9
         replace BK266 := dk BK266
         have HBo := HB
         replace HB := db HB
         obtain ⟨p267, q267⟩ : 0 ≤ (x11_3 : Int) ∧ x11_3 < (t258.length : Int) := ⟨dA, dA⟩
         obtain ⟨ad267, e267, hx267_0⟩ := Kd.at_int (Kd.R_reads' HO_9.out).2.2 x11_3 p267 q267
         cases e267
         obtain ⟨p267, q267⟩ := eT p267 q267
         obtain ⟨p269, q269⟩ : 0 ≤ (t268 : Int) ∧ t268 < (l0.length : Int) := ⟨dA, dA⟩
         obtain ⟨ad269, e269, hx269_0, hx269_1, hx269_2, hx269_3⟩ := at_T89 HR0.out t268 p269 q269
         have hw269_3 := hx269_3
         have hw269_2 := hx269_2
         have hw269_1 := hx269_1
         have hw269_0 := hx269_0
         obtain rfl : ad265 = ad269 := (by injection e269)
         replace hx269_0 := hC HB hx269_0
         replace hx269_1 := hC HB hx269_1
         replace hx269_2 := hC HB hx269_2
         replace hx269_3 := hC HB hx269_3
         obtain ⟨p269, q269⟩ := eT p269 q269
         refine sw (ds := []) 11 (mb 11 0) spec_ClearBetween.tab11 spec_ClearBetween.bits11 (h4c BK266 (h1c hx267_0 (h1c (hC HB hw269_0) (h1c (hC HB hw269_1) (h1c (hC HB hw269_2) (h1 (hC HB hw269_3))))))) (fun hHeld HT_ HW_ => ?_)
         generalize w47.drew = w48 at HO_8 HO_9 BK266 HB hx267_0 hx269_0 hx269_1 hx269_2 hx269_3 hHeld ⊢
         refine pa 1 51 (mb 11 2) HT_ ?_
         refine pa 2 52 (mb 11 6) HT_ ?_
         refine pa 3 53 (mb 11 14) HT_ ?_
         refine pa 4 54 (mb 11 30) HT_ ?_
         refine pa 5 55 (mb 11 62) HT_ ?_
         refine ta9 0 50 (mb 11 63) HT_ HW_ hHeld ?_
         refine ta9 6 56 (mb 11 127) HT_ HW_ hHeld ?_
         refine oa 7 57 (mb 11 255) HT_ (fun K hK => ?_)
         refine gA Try.func116 #[.slice (some ad265) l0.length c0, .int .i64 (rd t258 x11_3)] ?_
         with_reducible refine (spec_FindPath.calls k3 _ _ l0 (rd t258 x11_3) t268 _ ?side1 ?side2 A27.out).mono ?_
         (case side1 => exact cB HR0)
         (case side2 => exact HC0.out)
         rintro e w' ⟨rfl, ⟨nd, rfl⟩⟩
         refine ⟨_, rfl, ?_⟩
         refine hK.out _ _ (cm4 BK266 ⟨hHeld.2.2.2.2.1, (hC HB hw269_0), (hC HB hw269_1), (hC HB hw269_2), (hC HB hw269_3)⟩) (fun hHeld => ?_)
         clear hK K
         refine nB ?_
         refine pa 8 58 (mb 11 511) HT_ ?_
         refine ta9 9 59 (mb 11 1023) HT_ HW_ hHeld ?_
         refine oa 10 60 (mb 11 2047) HT_ (fun K hK => ?_)
         refine gA Try.func129 #[.agg #[.int .i64 ((rd_T89 l0 t264).f0), .int .i64 ((rd_T89 l0 t264).f1), .int .i64 ((rd_T89 l0 t264).f2), .int .i64 ((rd_T89 l0 t264).f3)], .agg #[.int .i64 ((rd_T89 l0 t268).f0), .int .i64 ((rd_T89 l0 t268).f1), .int .i64 ((rd_T89 l0 t268).f2), .int .i64 ((rd_T89 l0 t268).f3)]] ?_
         with_reducible refine (spec_Conflict.calls k3 ((rd_T89 l0 t264).f0) ((rd_T89 l0 t264).f1) ((rd_T89 l0 t264).f2) ((rd_T89 l0 t264).f3) ((rd_T89 l0 t268).f0) ((rd_T89 l0 t268).f1) ((rd_T89 l0 t268).f2) ((rd_T89 l0 t268).f3) false _ A30.out).mono ?_
         rintro e w49 ⟨rfl, hb⟩
         have HS4_ := (hb.cell (World.block_lt_of_cell? _ _ (hHeld.2.2.2.2.1))).trans (hHeld.2.2.2.2.1)
         refine ⟨_, rfl, ?_⟩
         replace HO_8 := rb HO_8 hb
         replace HO_9 := rb HO_9 hb
         replace BK266 := kb BK266 hb
         replace HB := bs HB hb
         (try clear hb)
         (try clear hb2)
         (try clear hk)
         (try clear hi)
         refine hK.out _ _ (cm4 BK266 ⟨HS4_, (hC HB hw269_0), (hC HB hw269_1), (hC HB hw269_2), (hC HB hw269_3)⟩) (fun hHeld => ?_)
         clear hK K
         refine nB ?_
         refine eA HT_ ?_
         try go_wp2
         go_roundg k3
         case measure => have := HK1.out; have := HJ7.out; have := HK3.out; omega
         case rel => exact ⟨(x7_3), (wrap64 (x11_3 + 1)), rS, rS, H', ⟨by have := HK1.out; have := HJ7.out; have := HK3.out; omega⟩, ⟨rK HO_8⟩, ⟨rK HO_9⟩, ⟨bG⟩⟩
        rw [if_neg c20] at H
        have c20b0 := decide_eq_false c20
        clear c20
        have H' := Aside0.mk H
        clear H
        obtain ⟨Ao50, co50, eo50⟩ := Kd.R_slice HO_9.out
        subst eo50
        go_wp2
        go_roundg k3
        case measure => have := HK1.out; have := HJ7.out; have := HK3.out; omega
        case rel => exact ⟨(x7_3), (wrap64 (x10_1 + 1)), rS, rS, H', ⟨by have := HK1.out; have := HJ7.out; have := HK3.out; omega⟩, ⟨rK HO_8⟩, ⟨rK HO_9⟩, ⟨bA⟩⟩
     replace c19 := Bool.eq_false_iff.mpr c19
     subst c19
     have H1 : (some x7_1) = some r := by rw [if_neg (show ¬ (false = true) by decide)] at H; exact H
     clear H
     have H := H1
     clear H1
     obtain rfl := Option.some.inj H
     go_wp2
     go_ret
     exact ⟨rA, bA⟩

/-! ### spec_SpareGreen: function 106 -/
mutual
def spec_SpareGreen.j0 : Nat → List (S89) → List (S92) → Int → Bool → Option (Int)
 | 0, _, _, _, _ => none
 | k + 1, x0, x1, x2, x17 => if x17 = true then (some (-1)) else (spec_SpareGreen.l0 k x0 x1 x2 0)
def spec_SpareGreen.l0 : Nat → List (S89) → List (S92) → Int → Int → Option (Int)
 | 0, _, _, _, _ => none
 | k + 1, x0, x1, x7, x8 => if x8 < (x1.length : Int) then (if 0 ≤ x8 then ((spec_LeastGreen.f k x0 ((rd_T92 x1 x8).f0)).bind fun t276 => (if (x1.length : Int) = 0 then (none) else (if 0 ≤ (Int.tmod (wrap64 (x8 + 1)) (x1.length : Int)) then (if (Int.tmod (wrap64 (x8 + 1)) (x1.length : Int)) < (x1.length : Int) then ((spec_ClearBetween.f k x0 ((rd_T92 x1 x8).f0) ((rd_T92 x1 (Int.tmod (wrap64 (x8 + 1)) (x1.length : Int))).f0)).bind fun t279 => (spec_SpareGreen.l0 k x0 x1 (wrap64 ((wrap64 (x7 - t276)) - t279)) (wrap64 (x8 + 1)))) else (none)) else (none)))) else (none)) else ((spec_Max.f (-1) x7).bind fun t280 => (some t280))
end
def spec_SpareGreen.f (k : Nat) (l0 : List (S89)) (l1 : List (S92)) (a2 : Int) : Option (Int) := (spec_IsPlan.f k l0 l1).bind fun t273 => (if t273 = true then ((spec_l1In.f a2 1 1000).bind fun t274 => (spec_SpareGreen.j0 k l0 l1 a2 (!t274))) else (spec_SpareGreen.j0 k l0 l1 a2 true))
theorem spec_SpareGreen.mono_l : ∀ k, (∀ y0 y1 y2 y3, LeO (spec_SpareGreen.j0 k y0 y1 y2 y3) (spec_SpareGreen.j0 (k + 1) y0 y1 y2 y3)) ∧ (∀ y0 y1 y2 y3, LeO (spec_SpareGreen.l0 k y0 y1 y2 y3) (spec_SpareGreen.l0 (k + 1) y0 y1 y2 y3))
 | 0 => ⟨fun _ _ _ _ r h => by simp [spec_SpareGreen.j0] at h, fun _ _ _ _ r h => by simp [spec_SpareGreen.l0] at h⟩
 | k + 1 => by
  obtain ⟨ih0, ih1⟩ := spec_SpareGreen.mono_l k
  refine ⟨?_, ?_⟩
  ·
   intro y0 y1 y2 y3
   unfold spec_SpareGreen.j0
   exact mz5 ih0 ih1 spec_ClearBetween.mono spec_IsPlan.mono spec_LeastGreen.mono
  ·
   intro y0 y1 y2 y3
   unfold spec_SpareGreen.l0
   exact mz5 ih0 ih1 spec_ClearBetween.mono spec_IsPlan.mono spec_LeastGreen.mono
theorem spec_SpareGreen.mono : ∀ a0 a1 a2 k, LeO (spec_SpareGreen.f k a0 a1 a2) (spec_SpareGreen.f (k + 1) a0 a1 a2) := by
 intro a0 a1 a2 k
 obtain ⟨ih0, ih1⟩ := spec_SpareGreen.mono_l k
 unfold spec_SpareGreen.f
 exact mz5 ih0 ih1 spec_ClearBetween.mono spec_IsPlan.mono spec_LeastGreen.mono
def spec_SpareGreen.T7 : Bool × List (List Nat × List Nat) := (true, [([], []), ([], []), ([], []), ([], []), ([2, 3], [2, 3]), ([4], [4]), ([5], [5]), ([1, 6], [1, 6]), ([0, 7], [0, 7]), ([], []), ([], []), ([], []), ([10, 11], [10, 11]), ([12], [12]), ([13], [13]), ([], []), ([], []), ([16], [16]), ([], []), ([18], [18]), ([17, 19], [17, 19]), ([15, 20], [15, 20]), ([21], [21]), ([22], [22]), ([9, 14, 23, 7], [9, 14, 23]), ([8, 24], [8, 24]), ([25, 24, 0, 1, 2, 3, 4, 5, 6, 7, 8, 9, 10, 11, 12, 13, 14, 15, 16, 17, 18, 19, 20, 21, 22, 23, 24, 25], [0, 25])])
def spec_SpareGreen.B7 : List Nat := [0, 0, 0, 0, 12, 28, 60, 126, 255, 0, 0, 0, 3072, 7168, 15360, 0, 0, 65536, 0, 262144, 983040, 2064384, 4161536, 8355840, 16776958, 33554431, 67108863]
theorem spec_SpareGreen.tab7 : rtab .any (opsOf Try.f106 7) = spec_SpareGreen.T7 := by kernel_rfl
theorem spec_SpareGreen.bits7 : waitsOk spec_SpareGreen.T7.2 spec_SpareGreen.B7 = true := by kernel_rfl
set_option maxHeartbeats 8000000 in
set_option maxRecDepth 100000 in
theorem spec_SpareGreen.calls (k : Nat) (A0 : Option Addr) (c0 : Nat) (l0 : List (S89)) (A1 : Option Addr) (c1 : Nat) (l1 : List (S92)) (a2 : Int) (r : Int) (w : World) (hr0 : Kd.C k89 w A0 l0.length l0) (hc0 : l0.length ≤ c0) (hr1 : Kd.C k92 w A1 l1.length l1) (hc1 : l1.length ≤ c1) (h : spec_SpareGreen.f k l0 l1 a2 = some r) :
  Calls Try.prog 106 #[.slice A0 l0.length c0, .slice A1 l1.length c1, .int .i64 a2] w fun e w' => e = .returned (.int .i64 r) ∧ Below w.heap.size w w' := by
 have HR0 := Aside0.mk hr0
 have HC0 := Aside0.mk hc0
 clear hr0 hc0
 have HR1 := Aside0.mk hr1
 have HC1 := Aside0.mk hc1
 clear hr1 hc1
 have HB := Aside0.mk (Below.refl w.heap.size w)
 have H : ((spec_IsPlan.f k l0 l1).bind fun t273 => (if t273 = true then ((spec_l1In.f a2 1 1000).bind fun t274 => (spec_SpareGreen.j0 k l0 l1 a2 (!t274))) else (spec_SpareGreen.j0 k l0 l1 a2 true))) = some r := h
 clear h
 have HC4 := Aside0.mk H
 clear H
 go_enter Try.func106, Try.ntmps106
 go_upto_region 1 with (fail)
 go_cut [17] (fun v17 wc => ∃ (kq : Nat) (x17_3 : Bool), v17 = .bool x17_3 ∧ Aside0 (spec_SpareGreen.j0 kq l0 l1 a2 x17_3 = some r) ∧ Aside0 (kq ≤ k) ∧ Aside0 (Below w.heap.size w wc))
 case first =>
  have H := HC4.out
  clear HC4
  obtain ⟨t273, A5, H⟩ := bindE H
  try dsimp only at H
  by_cases c6 : t273 = true
  ·
   subst c6
   have H1 : ((spec_l1In.f a2 1 1000).bind fun t274 => (spec_SpareGreen.j0 k l0 l1 a2 (!t274))) = some r := by rw [if_pos rfl] at H; exact H
   clear H
   have H := H1
   clear H1
   obtain ⟨t274, A7, H⟩ := bindE H
   try dsimp only at H
   have H' := Aside0.mk H
   clear H
   go_wp2_with (first | ((with_reducible refine gate_callee (f := 75) rfl ?_); refine gL (some 11) Try.func75 #[.slice A0 l0.length c0, .slice A1 l1.length c1] ?_; (with_reducible refine (spec_IsPlan.calls k _ _ l0 _ _ l1 true _ ?_ ?_ ?_ ?_ A5.out).mono ?_); exact cB HR0; exact HC0.out; exact cB HR1; exact HC1.out; rintro e w8 ⟨rfl, hb⟩; refine ⟨_, rfl, ?_⟩; replace HB := bs HB hb; (try clear hb)) | (go_at_call 62; (with_reducible refine (spec_l1In.calls a2 1 1000 t274 _ A7.out).mono ?_); rintro e w' ⟨rfl, ⟨nd, rfl⟩⟩))
   go_meet
   case rel => exact ⟨_, (!t274), rS, H', ⟨oL⟩, ⟨bA⟩⟩
  replace c6 := Bool.eq_false_iff.mpr c6
  subst c6
  have H1 : (spec_SpareGreen.j0 k l0 l1 a2 true) = some r := by rw [if_neg (show ¬ (false = true) by decide)] at H; exact H
  clear H
  have H := H1
  clear H1
  have H' := Aside0.mk H
  clear H
  go_wp2_with (first | ((with_reducible refine gate_callee (f := 75) rfl ?_); refine gL (some 11) Try.func75 #[.slice A0 l0.length c0, .slice A1 l1.length c1] ?_; (with_reducible refine (spec_IsPlan.calls k _ _ l0 _ _ l1 false _ ?_ ?_ ?_ ?_ A5.out).mono ?_); exact cB HR0; exact HC0.out; exact cB HR1; exact HC1.out; rintro e w9 ⟨rfl, hb⟩; refine ⟨_, rfl, ?_⟩; replace HB := bs HB hb; (try clear hb)))
  go_meet
  case rel => exact ⟨_, (true), rS, H', ⟨oL⟩, ⟨bA⟩⟩
 case rest =>
  clear HC4
  obtain ⟨kq, x17_3, rfl, HA, HJ3, HB⟩ := hcut
  cases kq with
  | zero => exact absurd HA.out (by simp [spec_SpareGreen.j0])
  | succ kj3 =>
   have H := HA.out
   clear HA
   simp only [spec_SpareGreen.j0] at H
   by_cases c10 : x17_3 = true
   ·
    subst c10
    have H1 : (some (-1)) = some r := by rw [if_pos rfl] at H; exact H
    clear H
    have H := H1
    clear H1
    obtain rfl := Option.some.inj H
    go_wp2
    go_ret
    exact ⟨rA, bA⟩
   replace c10 := Bool.eq_false_iff.mpr c10
   subst c10
   have H1 : (spec_SpareGreen.l0 kj3 l0 l1 a2 0) = some r := by rw [if_neg (show ¬ (false = true) by decide)] at H; exact H
   clear H
   have H := H1
   clear H1
   have H' := Aside0.mk H
   clear H
   go_wp2
   go_loopg [7, 8] kj3 (fun kq v7 v8 w' => ∃ (x7_2 : Int) (x8_2 : Int), v7 = .int .i64 x7_2 ∧ v8 = .int .i64 x8_2 ∧ Aside0 (spec_SpareGreen.l0 kq l0 l1 x7_2 x8_2 = some r) ∧ Aside0 (kq ≤ kj3) ∧ Aside0 (Below w.heap.size w w'))
   case atStart => exact ⟨(a2), (0), rS, rS, H', ⟨Nat.le_refl _⟩, ⟨bA⟩⟩
   case round =>
    clear H'
    obtain ⟨x7_2, x8_2, rfl, rfl, HA, HK2, HB⟩ := hrel
    cases gk with
    | zero => exact absurd HA.out (by simp [spec_SpareGreen.l0])
    | succ k2 =>
     have H := HA.out
     clear HA
     simp only [spec_SpareGreen.l0] at H
     by_cases c11 : x8_2 < (l1.length : Int)
     ·
      rw [if_pos c11] at H
      have c11b0 := decide_eq_true c11
      clear c11
      have c12 : 0 ≤ x8_2 := ifN H
      replace H := ifT H
      have c12b0 := decide_eq_true c12
      clear c12
      obtain ⟨t276, A13, H⟩ := bindE H
      try dsimp only at H
      have c14 : ¬ ((l1.length : Int) = 0) := ifN' H
      replace H := ifT' H
      have c14b0 : ((l1.length : Int) == 0) = false := beq_eq_false_iff_ne.mpr c14
      have c14b1 : ((l1.length : Int) != 0) = true := bne_iff_ne.mpr c14
      have c14b2 : ¬ (l1 = []) := fun h_ => c14 (by rw [h_]; rfl)
      obtain ⟨ji15, hji15⟩ : ∃ j_ : Int, (Int.tmod (wrap64 (x8_2 + 1)) (l1.length : Int)) = j_ := ⟨_, rfl⟩
      replace H : (if 0 ≤ (ji15) then (if (ji15) < (l1.length : Int) then ((spec_ClearBetween.f k2 l0 ((rd_T92 l1 x8_2).f0) ((rd_T92 l1 (ji15)).f0)).bind fun t279 => (spec_SpareGreen.l0 k2 l0 l1 (wrap64 ((wrap64 (x7_2 - t276)) - t279)) (wrap64 (x8_2 + 1)))) else (none)) else (none)) = some r := by first | (rw [hji15] at H; exact H) | (simp only [hji15] at H ⊢; exact H)
      (try rw [hji15] at A13)
      have c16 : 0 ≤ (ji15) := ifN H
      replace H := ifT H
      have c16b0 := decide_eq_true c16
      clear c16
      have c17 : (ji15) < (l1.length : Int) := ifN H
      replace H := ifT H
      have c17b0 := decide_eq_true c17
      clear c17
      obtain ⟨t279, A18, H⟩ := bindE H
      try dsimp only at H
      have H' := Aside0.mk H
      clear H
      try go_wp2
      have HBo := HB
      replace HB := db HB
      obtain ⟨p275, q275⟩ : 0 ≤ (x8_2 : Int) ∧ x8_2 < (l1.length : Int) := ⟨dA, dA⟩
      obtain ⟨ad275, A275_0, c275_0, e275, hx275_0, hx275_1, hl275_0, hi275_0⟩ := at_T92 HR1.out x8_2 p275 q275
      have hw275_1 := hx275_1
      have hw275_0 := hx275_0
      cases e275
      replace hx275_0 := hC HB hx275_0
      replace hx275_1 := hC HB hx275_1
      have HR275_0 := Aside0.mk hi275_0
      have HC275_0 := Aside0.mk hl275_0
      clear hi275_0 hl275_0
      obtain ⟨p275, q275⟩ := eT p275 q275
      obtain ⟨p277, q277⟩ : 0 ≤ (x8_2 : Int) ∧ x8_2 < (l1.length : Int) := ⟨dA, dA⟩
      obtain ⟨ad277, A277_0, c277_0, e277, hx277_0, hx277_1, hl277_0, hi277_0⟩ := at_T92 HR1.out x8_2 p277 q277
      have hw277_1 := hx277_1
      have hw277_0 := hx277_0
      obtain rfl : ad275 = ad277 := (by injection e277)
      replace hx277_0 := hC HB hx277_0
      replace hx277_1 := hC HB hx277_1
      have HR277_0 := Aside0.mk hi277_0
      have HC277_0 := Aside0.mk hl277_0
      clear hi277_0 hl277_0
      obtain ⟨p277, q277⟩ := eT p277 q277
      have ea_ := Option.some.inj (hx275_0.symm.trans hx277_0)
      injection ea_ with ea_ en_ ec_
      subst ea_
      subst ec_
      clear en_
      obtain ⟨p278, q278⟩ : 0 ≤ ((ji15) : Int) ∧ (ji15) < (l1.length : Int) := ⟨dA, dA⟩
      obtain ⟨ad278, A278_0, c278_0, e278, hx278_0, hx278_1, hl278_0, hi278_0⟩ := at_T92 HR1.out (ji15) p278 q278
      have hw278_1 := hx278_1
      have hw278_0 := hx278_0
      obtain rfl : ad275 = ad278 := (by injection e278)
      replace hx278_0 := hC HB hx278_0
      replace hx278_1 := hC HB hx278_1
      have HR278_0 := Aside0.mk hi278_0
      have HC278_0 := Aside0.mk hl278_0
      clear hi278_0 hl278_0
      obtain ⟨p278, q278⟩ := eT p278 q278
      refine sw (ds := []) 27 (mb 27 0) spec_SpareGreen.tab7 spec_SpareGreen.bits7 (h1c (hC HB hw275_0) (h1c (hC HB hw275_1) (h1c (hC HB hw277_0) (h1c (hC HB hw277_1) (h1c (hC HB hw278_0) (h1 (hC HB hw278_1))))))) (fun hHeld HT_ HW_ => ?_)
      generalize wr.drew = w19 at HB HR275_0 HR277_0 HR278_0 hx275_0 hx275_1 hx277_0 hx277_1 hx278_0 hx278_1 hHeld ⊢
      refine pa 0 25 (mb 27 1) HT_ ?_
      refine pa 1 26 (mb 27 3) HT_ ?_
      refine pa 2 27 (mb 27 7) HT_ ?_
      refine pa 3 28 (mb 27 15) HT_ ?_
      refine pa 4 29 (mb 27 31) HT_ ?_
      refine pa 5 30 (mb 27 63) HT_ ?_
      refine pa 9 34 (mb 27 575) HT_ ?_
      refine pa 10 35 (mb 27 1599) HT_ ?_
      refine pa 11 36 (mb 27 3647) HT_ ?_
      refine pa 12 37 (mb 27 7743) HT_ ?_
      refine pa 13 38 (mb 27 15935) HT_ ?_
      refine pa 15 40 (mb 27 48703) HT_ ?_
      refine pa 16 41 (mb 27 114239) HT_ ?_
      refine pa 17 42 (mb 27 245311) HT_ ?_
      refine pa 18 43 (mb 27 507455) HT_ ?_
      refine pa 19 44 (mb 27 1031743) HT_ ?_
      refine pa 20 45 (mb 27 2080319) HT_ ?_
      refine pa 21 46 (mb 27 4177471) HT_ ?_
      refine pa 22 47 (mb 27 8371775) HT_ ?_
      refine ta6 6 31 (mb 27 8371839) HT_ HW_ hHeld ?_
      refine ta6 14 39 (mb 27 8388223) HT_ HW_ hHeld ?_
      refine ta6 23 48 (mb 27 16776831) HT_ HW_ hHeld ?_
      refine oa 7 32 (mb 27 16776959) HT_ (fun K hK => ?_)
      refine gA Try.func74 #[.slice A0 l0.length c0, .slice A275_0 ((rd_T92 l1 x8_2).f0).length c275_0] ?_
      with_reducible refine (spec_LeastGreen.calls k2 _ _ l0 _ _ ((rd_T92 l1 x8_2).f0) t276 _ ?side1 ?side2 ?side3 ?side4 A13.out).mono ?_
      (case side1 => exact cB HR0)
      (case side2 => exact HC0.out)
      (case side3 => exact cB HR275_0)
      (case side4 => exact HC275_0.out)
      rintro e w' ⟨rfl, ⟨nd, rfl⟩⟩
      refine ⟨_, rfl, ?_⟩
      refine hK.out _ _ ⟨(hC HB hw275_0), (hC HB hw275_1), (hC HB hw277_0), (hC HB hw277_1), (hC HB hw278_0), (hC HB hw278_1)⟩ (fun hHeld => ?_)
      clear hK K
      refine nB ?_
      refine pa 8 33 (mb 27 16777215) HT_ ?_
      refine oa 24 49 (mb 27 33554431) HT_ (fun K hK => ?_)
      refine goes_ Try.func84 (by kernel_rfl) rfl #[.slice A0 l0.length c0, .slice A275_0 ((rd_T92 l1 x8_2).f0).length c275_0, .slice A278_0 ((rd_T92 l1 (ji15)).f0).length c278_0] (by rfl) rfl rfl (by (try simp only [List.map_toArray, List.map_cons, List.map_nil]); first | done | (simp only [hji15]; rfl) | rfl | (simp only [List.length_drop, List.length_take]; rfl)) ?_
      with_reducible refine (spec_ClearBetween.calls k2 _ _ l0 _ _ ((rd_T92 l1 x8_2).f0) _ _ ((rd_T92 l1 (ji15)).f0) t279 _ ?side1 ?side2 ?side3 ?side4 ?side5 ?side6 A18.out).mono ?_
      (case side1 => exact cG HR0)
      (case side2 => exact HC0.out)
      (case side3 => exact cG HR277_0)
      (case side4 => exact HC277_0.out)
      (case side5 => exact cG HR278_0)
      (case side6 => exact HC278_0.out)
      rintro e w20 ⟨rfl, hb⟩
      refine ⟨_, rfl, ?_⟩
      replace HB := bs HB hb
      (try clear hb)
      (try clear hb2)
      (try clear hk)
      (try clear hi)
      refine hK.out _ _ ⟨(hC HB hw275_0), (hC HB hw275_1), (hC HB hw277_0), (hC HB hw277_1), (hC HB hw278_0), (hC HB hw278_1)⟩ (fun hHeld => ?_)
      clear hK K
      refine nB ?_
      refine pa 25 50 (mb 27 67108863) HT_ ?_
      refine pa 26 7 (mb 27 134217727) HT_ ?_
      refine eA HT_ ?_
      try go_wp2
      go_roundg k2
      case measure => have := HJ3.out; have := HK2.out; omega
      case rel => exact ⟨(wrap64 ((wrap64 (x7_2 - t276)) - t279)), (wrap64 (x8_2 + 1)), rS, rS, H', ⟨by have := HJ3.out; have := HK2.out; omega⟩, ⟨bA⟩⟩
     rw [if_neg c11] at H
     have c11b0 := decide_eq_false c11
     clear c11
     obtain ⟨t280, A21, H⟩ := bindE H
     try dsimp only at H
     obtain rfl := Option.some.inj H
     go_wp2_with (first | ((with_reducible refine gate_callee (f := 131) rfl ?_); refine gL (some 52) Try.func131 #[.int .i64 (-1), .int .i64 x7_2] ?_; (with_reducible refine (spec_Max.calls (-1) x7_2 t280 _ A21.out).mono ?_); rintro e w' ⟨rfl, ⟨nd, rfl⟩⟩; refine ⟨_, rfl, ?_⟩))
     go_ret
     exact ⟨rA, bA⟩

/-! ### spec_AreDetectors: function 107 -/
mutual
def spec_AreDetectors.l0 : Nat → List (S89) → List (S128) → Int → Option (Bool)
 | 0, _, _, _ => none
 | k + 1, x0, x1, x5 => if x5 < (x1.length : Int) then (if 0 ≤ x5 then ((spec_FindPath.f k x0 ((rd_T128 x1 x5).f0)).bind fun t283 => (if t283 < 0 then (spec_AreDetectors.j1 k x0 x1 x5 true) else ((spec_l1In.f ((rd_T128 x1 x5).f1) 0 1000).bind fun t285 => (if t285 = true then ((spec_l1In.f ((rd_T128 x1 x5).f2) 0 100000).bind fun t287 => (spec_AreDetectors.j1 k x0 x1 x5 (!t287))) else (spec_AreDetectors.j1 k x0 x1 x5 true))))) else (none)) else ((spec_ArePaths.f k x0).bind fun t281 => (if t281 = true then (some (decide ((x1.length : Int) ≤ 12))) else (some false)))
def spec_AreDetectors.j1 : Nat → List (S89) → List (S128) → Int → Bool → Option (Bool)
 | 0, _, _, _, _ => none
 | k + 1, x0, x1, x5, x38 => if x38 = true then (some false) else (spec_AreDetectors.l1 k x0 x1 x5 0)
def spec_AreDetectors.l1 : Nat → List (S89) → List (S128) → Int → Int → Option (Bool)
 | 0, _, _, _, _ => none
 | k + 1, x0, x1, x5, x6 => if x6 < x5 then (if 0 ≤ x6 then (if x6 < (x1.length : Int) then (if 0 ≤ x5 then (if x5 < (x1.length : Int) then (if ((rd_T128 x1 x6).f0) = ((rd_T128 x1 x5).f0) then (some false) else (spec_AreDetectors.l1 k x0 x1 x5 (wrap64 (x6 + 1)))) else (none)) else (none)) else (none)) else (none)) else (spec_AreDetectors.l0 k x0 x1 (wrap64 (x5 + 1)))
end
def spec_AreDetectors.f (k : Nat) (l0 : List (S89)) (l1 : List (S128)) : Option (Bool) := spec_AreDetectors.l0 k l0 l1 0
theorem spec_AreDetectors.mono_l : ∀ k, (∀ y0 y1 y2, LeO (spec_AreDetectors.l0 k y0 y1 y2) (spec_AreDetectors.l0 (k + 1) y0 y1 y2)) ∧ (∀ y0 y1 y2 y3, LeO (spec_AreDetectors.j1 k y0 y1 y2 y3) (spec_AreDetectors.j1 (k + 1) y0 y1 y2 y3)) ∧ (∀ y0 y1 y2 y3, LeO (spec_AreDetectors.l1 k y0 y1 y2 y3) (spec_AreDetectors.l1 (k + 1) y0 y1 y2 y3))
 | 0 => ⟨fun _ _ _ r h => by simp [spec_AreDetectors.l0] at h, fun _ _ _ _ r h => by simp [spec_AreDetectors.j1] at h, fun _ _ _ _ r h => by simp [spec_AreDetectors.l1] at h⟩
 | k + 1 => by
  obtain ⟨ih0, ih1, ih2⟩ := spec_AreDetectors.mono_l k
  refine ⟨?_, ?_, ?_⟩
  ·
   intro y0 y1 y2
   unfold spec_AreDetectors.l0
   exact mz5 ih0 ih1 ih2 spec_ArePaths.mono spec_FindPath.mono
  ·
   intro y0 y1 y2 y3
   unfold spec_AreDetectors.j1
   exact mz5 ih0 ih1 ih2 spec_ArePaths.mono spec_FindPath.mono
  ·
   intro y0 y1 y2 y3
   unfold spec_AreDetectors.l1
   exact mz5 ih0 ih1 ih2 spec_ArePaths.mono spec_FindPath.mono
theorem spec_AreDetectors.mono : ∀ a0 a1 k, LeO (spec_AreDetectors.f k a0 a1) (spec_AreDetectors.f (k + 1) a0 a1) := by
 intro a0 a1 k
 obtain ⟨ih0, ih1, ih2⟩ := spec_AreDetectors.mono_l k
 unfold spec_AreDetectors.f
 exact mz5 ih0 ih1 ih2 spec_ArePaths.mono spec_FindPath.mono
set_option maxHeartbeats 8000000 in
set_option maxRecDepth 100000 in
theorem spec_AreDetectors.calls (k : Nat) (A0 : Option Addr) (c0 : Nat) (l0 : List (S89)) (A1 : Option Addr) (c1 : Nat) (l1 : List (S128)) (r : Bool) (w : World) (hr0 : Kd.C k89 w A0 l0.length l0) (hc0 : l0.length ≤ c0) (hr1 : Kd.C k128 w A1 l1.length l1) (hc1 : l1.length ≤ c1) (h : spec_AreDetectors.f k l0 l1 = some r) :
  Calls Try.prog 107 #[.slice A0 l0.length c0, .slice A1 l1.length c1] w fun e w' => e = .returned (.bool r) ∧ Below w.heap.size w w' := by
 have HR0 := Aside0.mk hr0
 have HC0 := Aside0.mk hc0
 clear hr0 hc0
 have HR1 := Aside0.mk hr1
 have HC1 := Aside0.mk hc1
 clear hr1 hc1
 have HB := Aside0.mk (Below.refl w.heap.size w)
 have H : (spec_AreDetectors.l0 k l0 l1 0) = some r := h
 clear h
 have H' := Aside0.mk H
 clear H
 go_enter Try.func107, Try.ntmps107
 go_wp2
 repeat (go_quiet (fail); try go_wp2)
 go_loopg [5] k (fun kq v5 w' => ∃ (x5_1 : Int), v5 = .int .i64 x5_1 ∧ Aside0 (spec_AreDetectors.l0 kq l0 l1 x5_1 = some r) ∧ Aside0 (kq ≤ k) ∧ Aside0 (Below w.heap.size w w'))
 case atStart => exact ⟨(0), rS, H', ⟨Nat.le_refl _⟩, ⟨bA⟩⟩
 case round =>
  clear H'
  obtain ⟨x5_1, rfl, HA, HK1, HB⟩ := hrel
  cases gk with
  | zero => exact absurd HA.out (by simp [spec_AreDetectors.l0])
  | succ k1 =>
   have H := HA.out
   clear HA
   simp only [spec_AreDetectors.l0] at H
   by_cases c3 : x5_1 < (l1.length : Int)
   ·
    rw [if_pos c3] at H
    have c3b0 := decide_eq_true c3
    clear c3
    have HC4 := Aside0.mk H
    clear H
    go_upto_region 4 with (fail)
    repeat (go_quiet (fail); go_upto_region 4 with (fail))
    go_cut [38] (fun v38 wc => ∃ (kq : Nat) (x38_3 : Bool), v38 = .bool x38_3 ∧ Aside0 (spec_AreDetectors.j1 kq l0 l1 x5_1 x38_3 = some r) ∧ Aside0 (kq ≤ k1) ∧ Aside0 (Below w.heap.size w wc))
    case first =>
     have H := HC4.out
     clear HC4
     have c5 : 0 ≤ x5_1 := ifN H
     replace H := ifT H
     have c5b0 := decide_eq_true c5
     clear c5
     (first | rw [c5b0] | (simp only [i64_w, i32_w]; rw [c5b0]) | skip)
     obtain ⟨t283, A6, H⟩ := bindE H
     try dsimp only at H
     by_cases c7 : t283 < 0
     ·
      rw [if_pos c7] at H
      have c7b0 := decide_eq_true c7
      clear c7
      have H' := Aside0.mk H
      clear H
      obtain ⟨p282, q282⟩ : 0 ≤ (x5_1 : Int) ∧ x5_1 < (l1.length : Int) := ⟨dA, dA⟩
      obtain ⟨ad282, e282, hx282_0, hx282_1, hx282_2, hx282_3⟩ := at_T128 (Kd.C_below HR1.out HB.out) x5_1 p282 q282
      cases e282
      obtain ⟨p282, q282⟩ := eT p282 q282
      go_wp2_with (first | (go_at_call 116; (with_reducible refine (spec_FindPath.calls k1 _ _ l0 ((rd_T128 l1 x5_1).f0) t283 _ ?_ ?_ A6.out).mono ?_); exact cB HR0; exact HC0.out; rintro e w' ⟨rfl, ⟨nd, rfl⟩⟩; (try first | exact ⟨rfl, _, World.drewN_drewN _ _ _⟩ | exact ⟨rfl, _, Eq.trans (World.drewN_drewN _ _ _) (congrArg (World.drewN _) (Nat.add_assoc _ _ _))⟩)))
      repeat (go_quiet (first | (go_at_call 116; (with_reducible refine (spec_FindPath.calls k1 _ _ l0 ((rd_T128 l1 x5_1).f0) t283 _ ?_ ?_ A6.out).mono ?_); exact cB HR0; exact HC0.out; rintro e w' ⟨rfl, ⟨nd, rfl⟩⟩; (try first | exact ⟨rfl, _, World.drewN_drewN _ _ _⟩ | exact ⟨rfl, _, Eq.trans (World.drewN_drewN _ _ _) (congrArg (World.drewN _) (Nat.add_assoc _ _ _))⟩))); try go_wp2_with (first | (go_at_call 116; (with_reducible refine (spec_FindPath.calls k1 _ _ l0 ((rd_T128 l1 x5_1).f0) t283 _ ?_ ?_ A6.out).mono ?_); exact cB HR0; exact HC0.out; rintro e w' ⟨rfl, ⟨nd, rfl⟩⟩; (try first | exact ⟨rfl, _, World.drewN_drewN _ _ _⟩ | exact ⟨rfl, _, Eq.trans (World.drewN_drewN _ _ _) (congrArg (World.drewN _) (Nat.add_assoc _ _ _))⟩))))
      go_meet
      case rel => exact ⟨_, (true), rS, H', ⟨by have := HK1.out; first | omega | exact Nat.le_refl _⟩, ⟨bA⟩⟩
     rw [if_neg c7] at H
     have c7b0 := decide_eq_false c7
     clear c7
     obtain ⟨t285, A8, H⟩ := bindE H
     try dsimp only at H
     by_cases c9 : t285 = true
     ·
      subst c9
      have H1 : ((spec_l1In.f ((rd_T128 l1 x5_1).f2) 0 100000).bind fun t287 => (spec_AreDetectors.j1 k1 l0 l1 x5_1 (!t287))) = some r := by rw [if_pos rfl] at H; exact H
      clear H
      have H := H1
      clear H1
      obtain ⟨t287, A10, H⟩ := bindE H
      try dsimp only at H
      have H' := Aside0.mk H
      clear H
      obtain ⟨p282, q282⟩ : 0 ≤ (x5_1 : Int) ∧ x5_1 < (l1.length : Int) := ⟨dA, dA⟩
      obtain ⟨ad282, e282, hx282_0, hx282_1, hx282_2, hx282_3⟩ := at_T128 (Kd.C_below HR1.out HB.out) x5_1 p282 q282
      cases e282
      obtain ⟨p282, q282⟩ := eT p282 q282
      go_wp2_with (first | (go_at_call 116; (with_reducible refine (spec_FindPath.calls k1 _ _ l0 ((rd_T128 l1 x5_1).f0) t283 _ ?_ ?_ A6.out).mono ?_); exact cB HR0; exact HC0.out; rintro e w' ⟨rfl, ⟨nd, rfl⟩⟩; (try first | exact ⟨rfl, _, World.drewN_drewN _ _ _⟩ | exact ⟨rfl, _, Eq.trans (World.drewN_drewN _ _ _) (congrArg (World.drewN _) (Nat.add_assoc _ _ _))⟩); have p284 : 0 ≤ (x5_1 : Int) := dA; have q284 : x5_1 < (l1.length : Int) := dA; obtain ⟨ad284, e284, hx284_0, hx284_1, hx284_2, hx284_3⟩ := at_T128 HR1.out x5_1 p284 q284; obtain rfl : ad282 = ad284 := (by injection e284); replace hx284_0 := hC HB hx284_0; replace hx284_1 := hC HB hx284_1; replace hx284_2 := hC HB hx284_2; replace hx284_3 := hC HB hx284_3; replace p284 := eq_true p284; replace q284 := eq_true q284) | (go_at_call 62; (with_reducible refine (spec_l1In.calls ((rd_T128 l1 x5_1).f1) 0 1000 true _ A8.out).mono ?_); rintro e w' ⟨rfl, ⟨nd, rfl⟩⟩; (try first | exact ⟨rfl, _, World.drewN_drewN _ _ _⟩ | exact ⟨rfl, _, Eq.trans (World.drewN_drewN _ _ _) (congrArg (World.drewN _) (Nat.add_assoc _ _ _))⟩); have p286 : 0 ≤ (x5_1 : Int) := dA; have q286 : x5_1 < (l1.length : Int) := dA; obtain ⟨ad286, e286, hx286_0, hx286_1, hx286_2, hx286_3⟩ := at_T128 HR1.out x5_1 p286 q286; obtain rfl : ad282 = ad286 := (by injection e286); replace hx286_0 := hC HB hx286_0; replace hx286_1 := hC HB hx286_1; replace hx286_2 := hC HB hx286_2; replace hx286_3 := hC HB hx286_3; replace p286 := eq_true p286; replace q286 := eq_true q286) | (go_at_call 62; (with_reducible refine (spec_l1In.calls ((rd_T128 l1 x5_1).f2) 0 100000 t287 _ A10.out).mono ?_); rintro e w' ⟨rfl, ⟨nd, rfl⟩⟩; (try first | exact ⟨rfl, _, World.drewN_drewN _ _ _⟩ | exact ⟨rfl, _, Eq.trans (World.drewN_drewN _ _ _) (congrArg (World.drewN _) (Nat.add_assoc _ _ _))⟩)))
      repeat (go_quiet (first | (go_at_call 116; (with_reducible refine (spec_FindPath.calls k1 _ _ l0 ((rd_T128 l1 x5_1).f0) t283 _ ?_ ?_ A6.out).mono ?_); exact cB HR0; exact HC0.out; rintro e w' ⟨rfl, ⟨nd, rfl⟩⟩; (try first | exact ⟨rfl, _, World.drewN_drewN _ _ _⟩ | exact ⟨rfl, _, Eq.trans (World.drewN_drewN _ _ _) (congrArg (World.drewN _) (Nat.add_assoc _ _ _))⟩); have p284 : 0 ≤ (x5_1 : Int) := dA; have q284 : x5_1 < (l1.length : Int) := dA; obtain ⟨ad284, e284, hx284_0, hx284_1, hx284_2, hx284_3⟩ := at_T128 HR1.out x5_1 p284 q284; obtain rfl : ad282 = ad284 := (by injection e284); replace hx284_0 := hC HB hx284_0; replace hx284_1 := hC HB hx284_1; replace hx284_2 := hC HB hx284_2; replace hx284_3 := hC HB hx284_3; replace p284 := eq_true p284; replace q284 := eq_true q284) | (go_at_call 62; (with_reducible refine (spec_l1In.calls ((rd_T128 l1 x5_1).f1) 0 1000 true _ A8.out).mono ?_); rintro e w' ⟨rfl, ⟨nd, rfl⟩⟩; (try first | exact ⟨rfl, _, World.drewN_drewN _ _ _⟩ | exact ⟨rfl, _, Eq.trans (World.drewN_drewN _ _ _) (congrArg (World.drewN _) (Nat.add_assoc _ _ _))⟩); have p286 : 0 ≤ (x5_1 : Int) := dA; have q286 : x5_1 < (l1.length : Int) := dA; obtain ⟨ad286, e286, hx286_0, hx286_1, hx286_2, hx286_3⟩ := at_T128 HR1.out x5_1 p286 q286; obtain rfl : ad282 = ad286 := (by injection e286); replace hx286_0 := hC HB hx286_0; replace hx286_1 := hC HB hx286_1; replace hx286_2 := hC HB hx286_2; replace hx286_3 := hC HB hx286_3; replace p286 := eq_true p286; replace q286 := eq_true q286) | (go_at_call 62; (with_reducible refine (spec_l1In.calls ((rd_T128 l1 x5_1).f2) 0 100000 t287 _ A10.out).mono ?_); rintro e w' ⟨rfl, ⟨nd, rfl⟩⟩; (try first | exact ⟨rfl, _, World.drewN_drewN _ _ _⟩ | exact ⟨rfl, _, Eq.trans (World.drewN_drewN _ _ _) (congrArg (World.drewN _) (Nat.add_assoc _ _ _))⟩))); try go_wp2_with (first | (go_at_call 116; (with_reducible refine (spec_FindPath.calls k1 _ _ l0 ((rd_T128 l1 x5_1).f0) t283 _ ?_ ?_ A6.out).mono ?_); exact cB HR0; exact HC0.out; rintro e w' ⟨rfl, ⟨nd, rfl⟩⟩; (try first | exact ⟨rfl, _, World.drewN_drewN _ _ _⟩ | exact ⟨rfl, _, Eq.trans (World.drewN_drewN _ _ _) (congrArg (World.drewN _) (Nat.add_assoc _ _ _))⟩); have p284 : 0 ≤ (x5_1 : Int) := dA; have q284 : x5_1 < (l1.length : Int) := dA; obtain ⟨ad284, e284, hx284_0, hx284_1, hx284_2, hx284_3⟩ := at_T128 HR1.out x5_1 p284 q284; obtain rfl : ad282 = ad284 := (by injection e284); replace hx284_0 := hC HB hx284_0; replace hx284_1 := hC HB hx284_1; replace hx284_2 := hC HB hx284_2; replace hx284_3 := hC HB hx284_3; replace p284 := eq_true p284; replace q284 := eq_true q284) | (go_at_call 62; (with_reducible refine (spec_l1In.calls ((rd_T128 l1 x5_1).f1) 0 1000 true _ A8.out).mono ?_); rintro e w' ⟨rfl, ⟨nd, rfl⟩⟩; (try first | exact ⟨rfl, _, World.drewN_drewN _ _ _⟩ | exact ⟨rfl, _, Eq.trans (World.drewN_drewN _ _ _) (congrArg (World.drewN _) (Nat.add_assoc _ _ _))⟩); have p286 : 0 ≤ (x5_1 : Int) := dA; have q286 : x5_1 < (l1.length : Int) := dA; obtain ⟨ad286, e286, hx286_0, hx286_1, hx286_2, hx286_3⟩ := at_T128 HR1.out x5_1 p286 q286; obtain rfl : ad282 = ad286 := (by injection e286); replace hx286_0 := hC HB hx286_0; replace hx286_1 := hC HB hx286_1; replace hx286_2 := hC HB hx286_2; replace hx286_3 := hC HB hx286_3; replace p286 := eq_true p286; replace q286 := eq_true q286) | (go_at_call 62; (with_reducible refine (spec_l1In.calls ((rd_T128 l1 x5_1).f2) 0 100000 t287 _ A10.out).mono ?_); rintro e w' ⟨rfl, ⟨nd, rfl⟩⟩; (try first | exact ⟨rfl, _, World.drewN_drewN _ _ _⟩ | exact ⟨rfl, _, Eq.trans (World.drewN_drewN _ _ _) (congrArg (World.drewN _) (Nat.add_assoc _ _ _))⟩))))
      go_meet
      case rel => exact ⟨_, (!t287), rS, H', ⟨by have := HK1.out; first | omega | exact Nat.le_refl _⟩, ⟨bA⟩⟩
     replace c9 := Bool.eq_false_iff.mpr c9
     subst c9
     have H1 : (spec_AreDetectors.j1 k1 l0 l1 x5_1 true) = some r := by rw [if_neg (show ¬ (false = true) by decide)] at H; exact H
     clear H
     have H := H1
     clear H1
     have H' := Aside0.mk H
     clear H
     obtain ⟨p282, q282⟩ : 0 ≤ (x5_1 : Int) ∧ x5_1 < (l1.length : Int) := ⟨dA, dA⟩
     obtain ⟨ad282, e282, hx282_0, hx282_1, hx282_2, hx282_3⟩ := at_T128 (Kd.C_below HR1.out HB.out) x5_1 p282 q282
     cases e282
     obtain ⟨p282, q282⟩ := eT p282 q282
     go_wp2_with (first | (go_at_call 116; (with_reducible refine (spec_FindPath.calls k1 _ _ l0 ((rd_T128 l1 x5_1).f0) t283 _ ?_ ?_ A6.out).mono ?_); exact cB HR0; exact HC0.out; rintro e w' ⟨rfl, ⟨nd, rfl⟩⟩; (try first | exact ⟨rfl, _, World.drewN_drewN _ _ _⟩ | exact ⟨rfl, _, Eq.trans (World.drewN_drewN _ _ _) (congrArg (World.drewN _) (Nat.add_assoc _ _ _))⟩); have p284 : 0 ≤ (x5_1 : Int) := dA; have q284 : x5_1 < (l1.length : Int) := dA; obtain ⟨ad284, e284, hx284_0, hx284_1, hx284_2, hx284_3⟩ := at_T128 HR1.out x5_1 p284 q284; obtain rfl : ad282 = ad284 := (by injection e284); replace hx284_0 := hC HB hx284_0; replace hx284_1 := hC HB hx284_1; replace hx284_2 := hC HB hx284_2; replace hx284_3 := hC HB hx284_3; replace p284 := eq_true p284; replace q284 := eq_true q284) | (go_at_call 62; (with_reducible refine (spec_l1In.calls ((rd_T128 l1 x5_1).f1) 0 1000 false _ A8.out).mono ?_); rintro e w' ⟨rfl, ⟨nd, rfl⟩⟩; (try first | exact ⟨rfl, _, World.drewN_drewN _ _ _⟩ | exact ⟨rfl, _, Eq.trans (World.drewN_drewN _ _ _) (congrArg (World.drewN _) (Nat.add_assoc _ _ _))⟩)))
     repeat (go_quiet (first | (go_at_call 116; (with_reducible refine (spec_FindPath.calls k1 _ _ l0 ((rd_T128 l1 x5_1).f0) t283 _ ?_ ?_ A6.out).mono ?_); exact cB HR0; exact HC0.out; rintro e w' ⟨rfl, ⟨nd, rfl⟩⟩; (try first | exact ⟨rfl, _, World.drewN_drewN _ _ _⟩ | exact ⟨rfl, _, Eq.trans (World.drewN_drewN _ _ _) (congrArg (World.drewN _) (Nat.add_assoc _ _ _))⟩); have p284 : 0 ≤ (x5_1 : Int) := dA; have q284 : x5_1 < (l1.length : Int) := dA; obtain ⟨ad284, e284, hx284_0, hx284_1, hx284_2, hx284_3⟩ := at_T128 HR1.out x5_1 p284 q284; obtain rfl : ad282 = ad284 := (by injection e284); replace hx284_0 := hC HB hx284_0; replace hx284_1 := hC HB hx284_1; replace hx284_2 := hC HB hx284_2; replace hx284_3 := hC HB hx284_3; replace p284 := eq_true p284; replace q284 := eq_true q284) | (go_at_call 62; (with_reducible refine (spec_l1In.calls ((rd_T128 l1 x5_1).f1) 0 1000 false _ A8.out).mono ?_); rintro e w' ⟨rfl, ⟨nd, rfl⟩⟩; (try first | exact ⟨rfl, _, World.drewN_drewN _ _ _⟩ | exact ⟨rfl, _, Eq.trans (World.drewN_drewN _ _ _) (congrArg (World.drewN _) (Nat.add_assoc _ _ _))⟩))); try go_wp2_with (first | (go_at_call 116; (with_reducible refine (spec_FindPath.calls k1 _ _ l0 ((rd_T128 l1 x5_1).f0) t283 _ ?_ ?_ A6.out).mono ?_); exact cB HR0; exact HC0.out; rintro e w' ⟨rfl, ⟨nd, rfl⟩⟩; (try first | exact ⟨rfl, _, World.drewN_drewN _ _ _⟩ | exact ⟨rfl, _, Eq.trans (World.drewN_drewN _ _ _) (congrArg (World.drewN _) (Nat.add_assoc _ _ _))⟩); have p284 : 0 ≤ (x5_1 : Int) := dA; have q284 : x5_1 < (l1.length : Int) := dA; obtain ⟨ad284, e284, hx284_0, hx284_1, hx284_2, hx284_3⟩ := at_T128 HR1.out x5_1 p284 q284; obtain rfl : ad282 = ad284 := (by injection e284); replace hx284_0 := hC HB hx284_0; replace hx284_1 := hC HB hx284_1; replace hx284_2 := hC HB hx284_2; replace hx284_3 := hC HB hx284_3; replace p284 := eq_true p284; replace q284 := eq_true q284) | (go_at_call 62; (with_reducible refine (spec_l1In.calls ((rd_T128 l1 x5_1).f1) 0 1000 false _ A8.out).mono ?_); rintro e w' ⟨rfl, ⟨nd, rfl⟩⟩; (try first | exact ⟨rfl, _, World.drewN_drewN _ _ _⟩ | exact ⟨rfl, _, Eq.trans (World.drewN_drewN _ _ _) (congrArg (World.drewN _) (Nat.add_assoc _ _ _))⟩))))
     go_meet
     case rel => exact ⟨_, (true), rS, H', ⟨by have := HK1.out; first | omega | exact Nat.le_refl _⟩, ⟨bA⟩⟩
    case rest =>
     clear HC4
     obtain ⟨kq, x38_3, rfl, HA, HJ3, HB⟩ := hcut
     cases kq with
     | zero => exact absurd HA.out (by simp [spec_AreDetectors.j1])
     | succ kj3 =>
      have H := HA.out
      clear HA
      simp only [spec_AreDetectors.j1] at H
      by_cases c11 : x38_3 = true
      ·
       subst c11
       have H1 : (some false) = some r := by rw [if_pos rfl] at H; exact H
       clear H
       have H := H1
       clear H1
       obtain rfl := Option.some.inj H
       go_wp2
       repeat (go_quiet (fail); try go_wp2)
       go_ret
       exact ⟨rA, bA⟩
      replace c11 := Bool.eq_false_iff.mpr c11
      subst c11
      have H1 : (spec_AreDetectors.l1 kj3 l0 l1 x5_1 0) = some r := by rw [if_neg (show ¬ (false = true) by decide)] at H; exact H
      clear H
      have H := H1
      clear H1
      have H' := Aside0.mk H
      clear H
      go_wp2
      repeat (go_quiet (fail); try go_wp2)
      go_loopg [6] kj3 (fun kq v6 w' => ∃ (x6_3 : Int), v6 = .int .i64 x6_3 ∧ Aside0 (spec_AreDetectors.l1 kq l0 l1 x5_1 x6_3 = some r) ∧ Aside0 (kq ≤ kj3) ∧ Aside0 (Below w.heap.size w w'))
      case atStart => exact ⟨(0), rS, H', ⟨Nat.le_refl _⟩, ⟨bA⟩⟩
      case round =>
       clear H'
       obtain ⟨x6_3, rfl, HA, HK3, HB⟩ := hrel
       cases gk with
       | zero => exact absurd HA.out (by simp [spec_AreDetectors.l1])
       | succ k3 =>
        have H := HA.out
        clear HA
        simp only [spec_AreDetectors.l1] at H
        by_cases c12 : x6_3 < x5_1
        ·
         rw [if_pos c12] at H
         have c12b0 := decide_eq_true c12
         clear c12
         have c13 : 0 ≤ x6_3 := ifN H
         replace H := ifT H
         have c13b0 := decide_eq_true c13
         clear c13
         have c14 : x6_3 < (l1.length : Int) := ifN H
         replace H := ifT H
         have c14b0 := decide_eq_true c14
         clear c14
         have c15 : 0 ≤ x5_1 := ifN H
         replace H := ifT H
         have c15b0 := decide_eq_true c15
         clear c15
         have c16 : x5_1 < (l1.length : Int) := ifN H
         replace H := ifT H
         have c16b0 := decide_eq_true c16
         clear c16
         by_cases c17 : ((rd_T128 l1 x6_3).f0) = ((rd_T128 l1 x5_1).f0)
         ·
          rw [if_pos c17] at H
          have c17b0 : (((rd_T128 l1 x6_3).f0) == ((rd_T128 l1 x5_1).f0)) = true := beq_iff_eq.mpr c17
          have c17b1 : (((rd_T128 l1 x6_3).f0) != ((rd_T128 l1 x5_1).f0)) = false := bne_eq_false_iff_eq.mpr c17
          clear c17
          obtain rfl := Option.some.inj H
          obtain ⟨p288, q288⟩ : 0 ≤ (x6_3 : Int) ∧ x6_3 < (l1.length : Int) := ⟨dA, dA⟩
          obtain ⟨ad288, e288, hx288_0, hx288_1, hx288_2, hx288_3⟩ := at_T128 (Kd.C_below HR1.out HB.out) x6_3 p288 q288
          cases e288
          obtain ⟨p288, q288⟩ := eT p288 q288
          obtain ⟨p289, q289⟩ : 0 ≤ (x5_1 : Int) ∧ x5_1 < (l1.length : Int) := ⟨dA, dA⟩
          obtain ⟨ad289, e289, hx289_0, hx289_1, hx289_2, hx289_3⟩ := at_T128 (Kd.C_below HR1.out HB.out) x5_1 p289 q289
          obtain rfl : ad288 = ad289 := (by injection e289)
          obtain ⟨p289, q289⟩ := eT p289 q289
          go_wp2
          repeat (go_quiet (fail); try go_wp2)
          go_ret
          exact ⟨rA, bA⟩
         rw [if_neg c17] at H
         have c17b0 : (((rd_T128 l1 x6_3).f0) == ((rd_T128 l1 x5_1).f0)) = false := beq_eq_false_iff_ne.mpr c17
         have c17b1 : (((rd_T128 l1 x6_3).f0) != ((rd_T128 l1 x5_1).f0)) = true := bne_iff_ne.mpr c17
         have H' := Aside0.mk H
         clear H
         obtain ⟨p288, q288⟩ : 0 ≤ (x6_3 : Int) ∧ x6_3 < (l1.length : Int) := ⟨dA, dA⟩
         obtain ⟨ad288, e288, hx288_0, hx288_1, hx288_2, hx288_3⟩ := at_T128 (Kd.C_below HR1.out HB.out) x6_3 p288 q288
         cases e288
         obtain ⟨p288, q288⟩ := eT p288 q288
         obtain ⟨p289, q289⟩ : 0 ≤ (x5_1 : Int) ∧ x5_1 < (l1.length : Int) := ⟨dA, dA⟩
         obtain ⟨ad289, e289, hx289_0, hx289_1, hx289_2, hx289_3⟩ := at_T128 (Kd.C_below HR1.out HB.out) x5_1 p289 q289
         obtain rfl : ad288 = ad289 := (by injection e289)
         obtain ⟨p289, q289⟩ := eT p289 q289
         go_wp2
         repeat (go_quiet (fail); try go_wp2)
         go_roundg k3
         case measure => have := HK1.out; have := HJ3.out; have := HK3.out; omega
         case rel => exact ⟨(wrap64 (x6_3 + 1)), rS, H', ⟨by have := HK1.out; have := HJ3.out; have := HK3.out; omega⟩, ⟨bA⟩⟩
        rw [if_neg c12] at H
        have c12b0 := decide_eq_false c12
        clear c12
        have H' := Aside0.mk H
        clear H
        go_wp2
        repeat (go_quiet (fail); try go_wp2)
        go_roundg k3
        case measure => have := HK1.out; have := HJ3.out; have := HK3.out; omega
        case rel => exact ⟨(wrap64 (x5_1 + 1)), rS, H', ⟨by have := HK1.out; have := HJ3.out; have := HK3.out; omega⟩, ⟨bA⟩⟩
   rw [if_neg c3] at H
   have c3b0 := decide_eq_false c3
   clear c3
   obtain ⟨t281, A18, H⟩ := bindE H
   try dsimp only at H
   by_cases c19 : t281 = true
   ·
    subst c19
    have H1 : (some (decide ((l1.length : Int) ≤ 12))) = some r := by rw [if_pos rfl] at H; exact H
    clear H
    have H := H1
    clear H1
    obtain rfl := Option.some.inj H
    go_wp2_with (first | (go_at_call 122; (with_reducible refine (spec_ArePaths.calls k1 _ _ l0 true _ ?_ ?_ A18.out).mono ?_); exact cB HR0; exact HC0.out; rintro e w20 ⟨rfl, hb⟩; replace HB := bs HB hb; (try clear hb)))
    repeat (go_quiet (first | (go_at_call 122; (with_reducible refine (spec_ArePaths.calls k1 _ _ l0 true _ ?_ ?_ A18.out).mono ?_); exact cB HR0; exact HC0.out; rintro e w20 ⟨rfl, hb⟩; replace HB := bs HB hb; (try clear hb))); try go_wp2_with (first | (go_at_call 122; (with_reducible refine (spec_ArePaths.calls k1 _ _ l0 true _ ?_ ?_ A18.out).mono ?_); exact cB HR0; exact HC0.out; rintro e w20 ⟨rfl, hb⟩; replace HB := bs HB hb; (try clear hb))))
    go_ret
    exact ⟨rA, bA⟩
   replace c19 := Bool.eq_false_iff.mpr c19
   subst c19
   have H1 : (some false) = some r := by rw [if_neg (show ¬ (false = true) by decide)] at H; exact H
   clear H
   have H := H1
   clear H1
   obtain rfl := Option.some.inj H
   go_wp2_with (first | (go_at_call 122; (with_reducible refine (spec_ArePaths.calls k1 _ _ l0 false _ ?_ ?_ A18.out).mono ?_); exact cB HR0; exact HC0.out; rintro e w21 ⟨rfl, hb⟩; replace HB := bs HB hb; (try clear hb)))
   repeat (go_quiet (first | (go_at_call 122; (with_reducible refine (spec_ArePaths.calls k1 _ _ l0 false _ ?_ ?_ A18.out).mono ?_); exact cB HR0; exact HC0.out; rintro e w21 ⟨rfl, hb⟩; replace HB := bs HB hb; (try clear hb))); try go_wp2_with (first | (go_at_call 122; (with_reducible refine (spec_ArePaths.calls k1 _ _ l0 false _ ?_ ?_ A18.out).mono ?_); exact cB HR0; exact HC0.out; rintro e w21 ⟨rfl, hb⟩; replace HB := bs HB hb; (try clear hb))))
   go_ret
   exact ⟨rA, bA⟩

/-! ### spec_IsTrusted: function 167 -/
def spec_IsTrusted.f (a0_0 : Int) (a0_1 : Int) (a0_2 : Int) (a0_3 : Bool) : Option (Bool) := if a0_3 = true then (some false) else (some (decide (a0_2 ≤ 900)))
set_option maxHeartbeats 8000000 in
set_option maxRecDepth 100000 in
theorem spec_IsTrusted.calls (a0_0 : Int) (a0_1 : Int) (a0_2 : Int) (a0_3 : Bool) (r : Bool) (w : World) (h : spec_IsTrusted.f a0_0 a0_1 a0_2 a0_3 = some r) :
  Calls Try.prog 167 #[.agg #[.int .i64 a0_0, .int .i64 a0_1, .int .i64 a0_2, .bool a0_3]] w fun e w' => e = .returned (.bool r) ∧ Below w.heap.size w w' := by
 have hu128 := Try.underlying128
 have HB := Aside0.mk (Below.refl w.heap.size w)
 have H : (if a0_3 = true then (some false) else (some (decide (a0_2 ≤ 900)))) = some r := h
 clear h
 by_cases c2 : a0_3 = true
 ·
  subst c2
  have H1 : (some false) = some r := by rw [if_pos rfl] at H; exact H
  clear H
  have H := H1
  clear H1
  obtain rfl := Option.some.inj H
  go_enter Try.func167, Try.ntmps167
  go_wp2_with (first | ((with_reducible refine gate_dst (N := 1) rfl ?_); refine bE (N := 1) (cs := #[.int .i64 a0_0, .int .i64 a0_1, .int .i64 a0_2, .bool true]) (t := 128) ?_; intro gb290 hg w3 hbox hb; have BK290 := Aside0.mk (hbox); have GW290 := gw w hg; have GE290 := gw w hg; replace HB := bs HB hb; clear hb hbox hg; obtain ⟨_, _, _, _, _, _, _, _⟩ := blkc4 BK290))
  go_ret
  exact ⟨rA, bG⟩
 replace c2 := Bool.eq_false_iff.mpr c2
 subst c2
 have H1 : (some (decide (a0_2 ≤ 900))) = some r := by rw [if_neg (show ¬ (false = true) by decide)] at H; exact H
 clear H
 have H := H1
 clear H1
 obtain rfl := Option.some.inj H
 go_enter Try.func167, Try.ntmps167
 go_wp2_with (first | ((with_reducible refine gate_dst (N := 1) rfl ?_); refine bE (N := 1) (cs := #[.int .i64 a0_0, .int .i64 a0_1, .int .i64 a0_2, .bool false]) (t := 128) ?_; intro gb290 hg w5 hbox hb; have BK290 := Aside0.mk (hbox); have GW290 := gw w hg; have GE290 := gw w hg; replace HB := bs HB hb; clear hb hbox hg; obtain ⟨_, _, _, _, _, _, _, _⟩ := blkc4 BK290))
 go_ret
 exact ⟨rA, bG⟩

/-! ### spec_l10Count: function 158 -/
def spec_l10Count.l0 : Nat → List (S128) → Int → Int → Option (Int × Bool)
 | 0, _, _, _ => none
 | k + 1, x0, x1, x6 => if x6 < (x0.length : Int) then (if 0 ≤ x6 then (if ((rd_T128 x0 x6).f0) = x1 then ((spec_IsTrusted.f ((rd_T128 x0 x6).f0) ((rd_T128 x0 x6).f1) ((rd_T128 x0 x6).f2) ((rd_T128 x0 x6).f3)).bind fun t293 => (if t293 = true then (some ((rd_T128 x0 x6).f1, true)) else (spec_l10Count.l0 k x0 x1 (wrap64 (x6 + 1))))) else (spec_l10Count.l0 k x0 x1 (wrap64 (x6 + 1)))) else (none)) else (some (0, false))
def spec_l10Count.f (k : Nat) (l0 : List (S128)) (a1 : Int) : Option (Int × Bool) := spec_l10Count.l0 k l0 a1 0
theorem spec_l10Count.mono_l : ∀ k, (∀ y0 y1 y2, LeO (spec_l10Count.l0 k y0 y1 y2) (spec_l10Count.l0 (k + 1) y0 y1 y2))
 | 0 => fun _ _ _ r h => by simp [spec_l10Count.l0] at h
 | k + 1 => by
  have ih0 := spec_l10Count.mono_l k
  ·
   intro y0 y1 y2
   unfold spec_l10Count.l0
   exact mz1 ih0
theorem spec_l10Count.mono : ∀ a0 a1 k, LeO (spec_l10Count.f k a0 a1) (spec_l10Count.f (k + 1) a0 a1) := by
 intro a0 a1 k
 have ih0 := spec_l10Count.mono_l k
 unfold spec_l10Count.f
 exact mz1 ih0
set_option maxHeartbeats 8000000 in
set_option maxRecDepth 100000 in
theorem spec_l10Count.calls (k : Nat) (A0 : Option Addr) (c0 : Nat) (l0 : List (S128)) (a1 : Int) (r1 : Int) (r2 : Bool) (w : World) (hr0 : Kd.C k128 w A0 l0.length l0) (hc0 : l0.length ≤ c0) (h : spec_l10Count.f k l0 a1 = some (r1, r2)) :
  Calls Try.prog 158 #[.slice A0 l0.length c0, .int .i64 a1] w fun e w' => e = .returned (.tuple #[.int .i64 r1, .bool r2]) ∧ Below w.heap.size w w' := by
 have hu128 := Try.underlying128
 have HR0 := Aside0.mk hr0
 have HC0 := Aside0.mk hc0
 clear hr0 hc0
 have HB := Aside0.mk (Below.refl w.heap.size w)
 have H : (spec_l10Count.l0 k l0 a1 0) = some (r1, r2) := h
 clear h
 have H' := Aside0.mk H
 clear H
 go_enter Try.func158, Try.ntmps158
 go_wp2
 go_loopg [6] k (fun kq v6 w' => ∃ (x6_1 : Int), v6 = .int .i64 x6_1 ∧ Aside0 (spec_l10Count.l0 kq l0 a1 x6_1 = some (r1, r2)) ∧ Aside0 (kq ≤ k) ∧ Aside0 (Below w.heap.size w w'))
 case atStart => exact ⟨(0), rS, H', ⟨Nat.le_refl _⟩, ⟨bA⟩⟩
 case round =>
  clear H'
  obtain ⟨x6_1, rfl, HA, HK1, HB⟩ := hrel
  cases gk with
  | zero => exact absurd HA.out (by simp [spec_l10Count.l0])
  | succ k1 =>
   have H := HA.out
   clear HA
   simp only [spec_l10Count.l0] at H
   by_cases c3 : x6_1 < (l0.length : Int)
   ·
    rw [if_pos c3] at H
    have c3b0 := decide_eq_true c3
    clear c3
    have c4 : 0 ≤ x6_1 := ifN H
    replace H := ifT H
    have c4b0 := decide_eq_true c4
    clear c4
    by_cases c5 : ((rd_T128 l0 x6_1).f0) = a1
    ·
     rw [if_pos c5] at H
     have c5b0 : (((rd_T128 l0 x6_1).f0) == a1) = true := beq_iff_eq.mpr c5
     have c5b1 : (((rd_T128 l0 x6_1).f0) != a1) = false := bne_eq_false_iff_eq.mpr c5
     clear c5
     obtain ⟨t293, A6, H⟩ := bindE H
     try dsimp only at H
     by_cases c7 : t293 = true
     ·
      subst c7
      have H1 : (some ((rd_T128 l0 x6_1).f1, true)) = some (r1, r2) := by rw [if_pos rfl] at H; exact H
      clear H
      have H := H1
      clear H1
      simp only [Option.some.injEq, Prod.mk.injEq] at H
      obtain ⟨rfl, rfl⟩ := H
      obtain ⟨p291, q291⟩ : 0 ≤ (x6_1 : Int) ∧ x6_1 < (l0.length : Int) := ⟨dA, dA⟩
      obtain ⟨ad291, e291, hx291_0, hx291_1, hx291_2, hx291_3⟩ := at_T128 (Kd.C_below HR0.out HB.out) x6_1 p291 q291
      cases e291
      obtain ⟨p291, q291⟩ := eT p291 q291
      obtain ⟨p292, q292⟩ : 0 ≤ (x6_1 : Int) ∧ x6_1 < (l0.length : Int) := ⟨dA, dA⟩
      obtain ⟨ad292, e292, hx292_0, hx292_1, hx292_2, hx292_3⟩ := at_T128 (Kd.C_below HR0.out HB.out) x6_1 p292 q292
      obtain rfl : ad291 = ad292 := (by injection e292)
      obtain ⟨p292, q292⟩ := eT p292 q292
      go_wp2_with (first | (go_at_call 167; (with_reducible refine (spec_IsTrusted.calls ((rd_T128 l0 x6_1).f0) ((rd_T128 l0 x6_1).f1) ((rd_T128 l0 x6_1).f2) ((rd_T128 l0 x6_1).f3) true _ A6.out).mono ?_); rintro e w8 ⟨rfl, hb⟩; replace HB := bs HB hb; (try clear hb); have p294 : 0 ≤ (x6_1 : Int) := dA; have q294 : x6_1 < (l0.length : Int) := dA; obtain ⟨ad294, e294, hx294_0, hx294_1, hx294_2, hx294_3⟩ := at_T128 HR0.out x6_1 p294 q294; obtain rfl : ad291 = ad294 := (by injection e294); replace hx294_0 := hC HB hx294_0; replace hx294_1 := hC HB hx294_1; replace hx294_2 := hC HB hx294_2; replace hx294_3 := hC HB hx294_3; replace p294 := eq_true p294; replace q294 := eq_true q294))
      go_ret2
      exact ⟨rA, bA⟩
     replace c7 := Bool.eq_false_iff.mpr c7
     subst c7
     have H1 : (spec_l10Count.l0 k1 l0 a1 (wrap64 (x6_1 + 1))) = some (r1, r2) := by rw [if_neg (show ¬ (false = true) by decide)] at H; exact H
     clear H
     have H := H1
     clear H1
     have H' := Aside0.mk H
     clear H
     obtain ⟨p291, q291⟩ : 0 ≤ (x6_1 : Int) ∧ x6_1 < (l0.length : Int) := ⟨dA, dA⟩
     obtain ⟨ad291, e291, hx291_0, hx291_1, hx291_2, hx291_3⟩ := at_T128 (Kd.C_below HR0.out HB.out) x6_1 p291 q291
     cases e291
     obtain ⟨p291, q291⟩ := eT p291 q291
     obtain ⟨p292, q292⟩ : 0 ≤ (x6_1 : Int) ∧ x6_1 < (l0.length : Int) := ⟨dA, dA⟩
     obtain ⟨ad292, e292, hx292_0, hx292_1, hx292_2, hx292_3⟩ := at_T128 (Kd.C_below HR0.out HB.out) x6_1 p292 q292
     obtain rfl : ad291 = ad292 := (by injection e292)
     obtain ⟨p292, q292⟩ := eT p292 q292
     go_wp2_with (first | (go_at_call 167; (with_reducible refine (spec_IsTrusted.calls ((rd_T128 l0 x6_1).f0) ((rd_T128 l0 x6_1).f1) ((rd_T128 l0 x6_1).f2) ((rd_T128 l0 x6_1).f3) false _ A6.out).mono ?_); rintro e w9 ⟨rfl, hb⟩; replace HB := bs HB hb; (try clear hb)))
     go_roundg k1
     case measure => have := HK1.out; omega
     case rel => exact ⟨(wrap64 (x6_1 + 1)), rS, H', ⟨by have := HK1.out; omega⟩, ⟨bA⟩⟩
    rw [if_neg c5] at H
    have c5b0 : (((rd_T128 l0 x6_1).f0) == a1) = false := beq_eq_false_iff_ne.mpr c5
    have c5b1 : (((rd_T128 l0 x6_1).f0) != a1) = true := bne_iff_ne.mpr c5
    have H' := Aside0.mk H
    clear H
    obtain ⟨p291, q291⟩ : 0 ≤ (x6_1 : Int) ∧ x6_1 < (l0.length : Int) := ⟨dA, dA⟩
    obtain ⟨ad291, e291, hx291_0, hx291_1, hx291_2, hx291_3⟩ := at_T128 (Kd.C_below HR0.out HB.out) x6_1 p291 q291
    cases e291
    obtain ⟨p291, q291⟩ := eT p291 q291
    go_wp2
    go_roundg k1
    case measure => have := HK1.out; omega
    case rel => exact ⟨(wrap64 (x6_1 + 1)), rS, H', ⟨by have := HK1.out; omega⟩, ⟨bA⟩⟩
   rw [if_neg c3] at H
   have c3b0 := decide_eq_false c3
   clear c3
   simp only [Option.some.injEq, Prod.mk.injEq] at H
   obtain ⟨rfl, rfl⟩ := H
   go_wp2
   go_ret2
   exact ⟨rA, bA⟩

/-! ### spec_LowDemand: function 139 -/
def spec_LowDemand.f (k : Nat) (l0 : List (S128)) (a1 : Int) : Option (Int) := (spec_l10Count.f k l0 a1).bind fun bt295 => (some bt295.1)
theorem spec_LowDemand.mono : ∀ a0 a1 k, LeO (spec_LowDemand.f k a0 a1) (spec_LowDemand.f (k + 1) a0 a1) := by
 intro a0 a1 k
 unfold spec_LowDemand.f
 exact mz1 spec_l10Count.mono
set_option maxHeartbeats 8000000 in
set_option maxRecDepth 100000 in
theorem spec_LowDemand.calls (k : Nat) (A0 : Option Addr) (c0 : Nat) (l0 : List (S128)) (a1 : Int) (r : Int) (w : World) (hr0 : Kd.C k128 w A0 l0.length l0) (hc0 : l0.length ≤ c0) (h : spec_LowDemand.f k l0 a1 = some r) :
  Calls Try.prog 139 #[.slice A0 l0.length c0, .int .i64 a1] w fun e w' => e = .returned (.int .i64 r) ∧ Below w.heap.size w w' := by
 have HR0 := Aside0.mk hr0
 have HC0 := Aside0.mk hc0
 clear hr0 hc0
 have HB := Aside0.mk (Below.refl w.heap.size w)
 have H : ((spec_l10Count.f k l0 a1).bind fun bt295 => (some bt295.1)) = some r := h
 clear h
 obtain ⟨⟨t295, t296⟩, A3, H⟩ := bindE H
 try dsimp only at H
 obtain rfl := Option.some.inj H
 go_enter Try.func139, Try.ntmps139
 go_wp2_with (first | ((with_reducible refine gate_callee (f := 158) rfl ?_); refine gL (some 10) Try.func158 #[.slice A0 l0.length c0, .int .i64 a1] ?_; (with_reducible refine (spec_l10Count.calls k _ _ l0 a1 t295 t296 _ ?_ ?_ A3.out).mono ?_); exact cO HR0; exact HC0.out; rintro e w4 ⟨rfl, hb⟩; refine ⟨_, rfl, ?_⟩; replace HB := bs HB hb; (try clear hb)))
 go_ret
 exact ⟨rA, bA⟩

/-! ### spec_StageDemand: function 108 -/
def spec_StageDemand.l0 : Nat → List (S128) → List Int → Int → Int → Option (Int)
 | 0, _, _, _, _ => none
 | k + 1, x0, x1, x5, x6 => if x6 < (x1.length : Int) then (if x6 = 0 then (if 0 ≤ x6 then ((spec_LowDemand.f k x0 (rd x1 x6)).bind fun t298 => (spec_StageDemand.l0 k x0 x1 t298 (wrap64 (x6 + 1)))) else (none)) else (if 0 ≤ x6 then ((spec_LowDemand.f k x0 (rd x1 x6)).bind fun t300 => (if t300 > x5 then ((spec_LowDemand.f k x0 (rd x1 x6)).bind fun t302 => (spec_StageDemand.l0 k x0 x1 t302 (wrap64 (x6 + 1)))) else (spec_StageDemand.l0 k x0 x1 x5 (wrap64 (x6 + 1))))) else (none))) else (some x5)
def spec_StageDemand.f (k : Nat) (l0 : List (S128)) (l1 : List Int) : Option (Int) := spec_StageDemand.l0 k l0 l1 0 0
theorem spec_StageDemand.mono_l : ∀ k, (∀ y0 y1 y2 y3, LeO (spec_StageDemand.l0 k y0 y1 y2 y3) (spec_StageDemand.l0 (k + 1) y0 y1 y2 y3))
 | 0 => fun _ _ _ _ r h => by simp [spec_StageDemand.l0] at h
 | k + 1 => by
  have ih0 := spec_StageDemand.mono_l k
  ·
   intro y0 y1 y2 y3
   unfold spec_StageDemand.l0
   exact mz2 ih0 spec_LowDemand.mono
theorem spec_StageDemand.mono : ∀ a0 a1 k, LeO (spec_StageDemand.f k a0 a1) (spec_StageDemand.f (k + 1) a0 a1) := by
 intro a0 a1 k
 have ih0 := spec_StageDemand.mono_l k
 unfold spec_StageDemand.f
 exact mz2 ih0 spec_LowDemand.mono
set_option maxHeartbeats 8000000 in
set_option maxRecDepth 100000 in
theorem spec_StageDemand.calls (k : Nat) (A0 : Option Addr) (c0 : Nat) (l0 : List (S128)) (A1 : Option Addr) (c1 : Nat) (l1 : List Int) (r : Int) (w : World) (hr0 : Kd.C k128 w A0 l0.length l0) (hc0 : l0.length ≤ c0) (hr1 : Kd.C (Kd.int .i64) w A1 l1.length l1) (hc1 : l1.length ≤ c1) (h : spec_StageDemand.f k l0 l1 = some r) :
  Calls Try.prog 108 #[.slice A0 l0.length c0, .slice A1 l1.length c1] w fun e w' => e = .returned (.int .i64 r) ∧ Below w.heap.size w w' := by
 have HR0 := Aside0.mk hr0
 have HC0 := Aside0.mk hc0
 clear hr0 hc0
 have HR1 := Aside0.mk hr1
 have HC1 := Aside0.mk hc1
 clear hr1 hc1
 have HB := Aside0.mk (Below.refl w.heap.size w)
 have H : (spec_StageDemand.l0 k l0 l1 0 0) = some r := h
 clear h
 have H' := Aside0.mk H
 clear H
 go_enter Try.func108, Try.ntmps108
 go_wp2
 go_loopg [5, 6] k (fun kq v5 v6 w' => ∃ (x5_1 : Int) (x6_1 : Int), v5 = .int .i64 x5_1 ∧ v6 = .int .i64 x6_1 ∧ Aside0 (spec_StageDemand.l0 kq l0 l1 x5_1 x6_1 = some r) ∧ Aside0 (kq ≤ k) ∧ Aside0 (Below w.heap.size w w'))
 case atStart => exact ⟨(0), (0), rS, rS, H', ⟨Nat.le_refl _⟩, ⟨bA⟩⟩
 case round =>
  clear H'
  obtain ⟨x5_1, x6_1, rfl, rfl, HA, HK1, HB⟩ := hrel
  cases gk with
  | zero => exact absurd HA.out (by simp [spec_StageDemand.l0])
  | succ k1 =>
   have H := HA.out
   clear HA
   simp only [spec_StageDemand.l0] at H
   by_cases c3 : x6_1 < (l1.length : Int)
   ·
    rw [if_pos c3] at H
    have c3b0 := decide_eq_true c3
    clear c3
    by_cases c4 : x6_1 = 0
    ·
     rw [if_pos c4] at H
     have c4b0 : (x6_1 == 0) = true := beq_iff_eq.mpr c4
     have c4b1 : (x6_1 != 0) = false := bne_eq_false_iff_eq.mpr c4
     clear c4
     have c5 : 0 ≤ x6_1 := ifN H
     replace H := ifT H
     have c5b0 := decide_eq_true c5
     clear c5
     obtain ⟨t298, A6, H⟩ := bindE H
     try dsimp only at H
     have H' := Aside0.mk H
     clear H
     obtain ⟨p297, q297⟩ : 0 ≤ (x6_1 : Int) ∧ x6_1 < (l1.length : Int) := ⟨dA, dA⟩
     obtain ⟨ad297, e297, hx297_0⟩ := Kd.at_int (Kd.C_below HR1.out HB.out) x6_1 p297 q297
     cases e297
     obtain ⟨p297, q297⟩ := eT p297 q297
     go_wp2_with (first | ((with_reducible refine gate_callee (f := 139) rfl ?_); refine gL (some 30) Try.func139 #[.slice A0 l0.length c0, .int .i64 (rd l1 x6_1)] ?_; (with_reducible refine (spec_LowDemand.calls k1 _ _ l0 (rd l1 x6_1) t298 _ ?_ ?_ A6.out).mono ?_); exact cB HR0; exact HC0.out; rintro e w7 ⟨rfl, hb⟩; refine ⟨_, rfl, ?_⟩; replace HB := bs HB hb; (try clear hb)))
     go_roundg k1
     case measure => have := HK1.out; omega
     case rel => exact ⟨(t298), (wrap64 (x6_1 + 1)), rS, rS, H', ⟨by have := HK1.out; omega⟩, ⟨bA⟩⟩
    rw [if_neg c4] at H
    have c4b0 : (x6_1 == 0) = false := beq_eq_false_iff_ne.mpr c4
    have c4b1 : (x6_1 != 0) = true := bne_iff_ne.mpr c4
    have c8 : 0 ≤ x6_1 := ifN H
    replace H := ifT H
    have c8b0 := decide_eq_true c8
    clear c8
    obtain ⟨t300, A9, H⟩ := bindE H
    try dsimp only at H
    by_cases c10 : t300 > x5_1
    ·
     rw [if_pos c10] at H
     have c10b0 := decide_eq_true c10
     clear c10
     obtain ⟨t302, A11, H⟩ := bindE H
     try dsimp only at H
     have H' := Aside0.mk H
     clear H
     obtain ⟨p299, q299⟩ : 0 ≤ (x6_1 : Int) ∧ x6_1 < (l1.length : Int) := ⟨dA, dA⟩
     obtain ⟨ad299, e299, hx299_0⟩ := Kd.at_int (Kd.C_below HR1.out HB.out) x6_1 p299 q299
     cases e299
     obtain ⟨p299, q299⟩ := eT p299 q299
     go_wp2_with (first | (go_at_call 139; (with_reducible refine (spec_LowDemand.calls k1 _ _ l0 (rd l1 x6_1) t300 _ ?_ ?_ A9.out).mono ?_); exact cB HR0; exact HC0.out; rintro e w12 ⟨rfl, hb⟩; replace HB := bs HB hb; (try clear hb); have p301 : 0 ≤ (x6_1 : Int) := dA; have q301 : x6_1 < (l1.length : Int) := dA; obtain ⟨ad301, e301, hx301_0⟩ := Kd.at_int HR1.out x6_1 p301 q301; obtain rfl : ad299 = ad301 := (by injection e301); replace hx301_0 := hC HB hx301_0; replace p301 := eq_true p301; replace q301 := eq_true q301) | ((with_reducible refine gate_callee (f := 139) rfl ?_); refine gL (some 30) Try.func139 #[.slice A0 l0.length c0, .int .i64 (rd l1 x6_1)] ?_; (with_reducible refine (spec_LowDemand.calls k1 _ _ l0 (rd l1 x6_1) t302 _ ?_ ?_ A11.out).mono ?_); exact cB HR0; exact HC0.out; rintro e w13 ⟨rfl, hb⟩; refine ⟨_, rfl, ?_⟩; replace HB := bs HB hb; (try clear hb)))
     go_roundg k1
     case measure => have := HK1.out; omega
     case rel => exact ⟨(t302), (wrap64 (x6_1 + 1)), rS, rS, H', ⟨by have := HK1.out; omega⟩, ⟨bA⟩⟩
    rw [if_neg c10] at H
    have c10b0 := decide_eq_false c10
    clear c10
    have H' := Aside0.mk H
    clear H
    obtain ⟨p299, q299⟩ : 0 ≤ (x6_1 : Int) ∧ x6_1 < (l1.length : Int) := ⟨dA, dA⟩
    obtain ⟨ad299, e299, hx299_0⟩ := Kd.at_int (Kd.C_below HR1.out HB.out) x6_1 p299 q299
    cases e299
    obtain ⟨p299, q299⟩ := eT p299 q299
    go_wp2_with (first | (go_at_call 139; (with_reducible refine (spec_LowDemand.calls k1 _ _ l0 (rd l1 x6_1) t300 _ ?_ ?_ A9.out).mono ?_); exact cB HR0; exact HC0.out; rintro e w14 ⟨rfl, hb⟩; replace HB := bs HB hb; (try clear hb)))
    go_roundg k1
    case measure => have := HK1.out; omega
    case rel => exact ⟨(x5_1), (wrap64 (x6_1 + 1)), rS, rS, H', ⟨by have := HK1.out; omega⟩, ⟨bA⟩⟩
   rw [if_neg c3] at H
   have c3b0 := decide_eq_false c3
   clear c3
   obtain rfl := Option.some.inj H
   go_wp2
   go_ret
   exact ⟨rA, bA⟩

/-! ### spec_Min: function 109 -/
def spec_Min.f (a0 : Int) (a1 : Int) : Option (Int) := if a1 < a0 then (some a1) else (some a0)
set_option maxHeartbeats 8000000 in
set_option maxRecDepth 100000 in
theorem spec_Min.calls (a0 : Int) (a1 : Int) (r : Int) (w : World) (h : spec_Min.f a0 a1 = some r) :
  Calls Try.prog 109 #[.int .i64 a0, .int .i64 a1] w fun e w' => e = .returned (.int .i64 r) ∧ Drawn0 w w' := by
 have H : (if a1 < a0 then (some a1) else (some a0)) = some r := h
 clear h
 by_cases c3 : a1 < a0
 ·
  rw [if_pos c3] at H
  have c3b0 := decide_eq_true c3
  clear c3
  obtain rfl := Option.some.inj H
  go_enter Try.func109, Try.ntmps109
  go_wp2
  go_ret
  exact ⟨rS, dD⟩
 rw [if_neg c3] at H
 have c3b0 := decide_eq_false c3
 clear c3
 obtain rfl := Option.some.inj H
 go_enter Try.func109, Try.ntmps109
 go_wp2
 go_ret
 exact ⟨rS, dD⟩

/-! ### spec_ShareGreen: function 55 -/
mutual
def spec_ShareGreen.j0 : Nat → List (S89) → List (S92) → List (S128) → List (S92) → Int → Bool → Option ((List (S92)) × Bool)
 | 0, _, _, _, _, _, _ => none
 | k + 1, x0, x1, x2, x10, x11, x31 => if x31 = true then (some (x10, false)) else (spec_ShareGreen.l0 k x0 x1 x2 x10 x11 0 0)
def spec_ShareGreen.l0 : Nat → List (S89) → List (S92) → List (S128) → List (S92) → Int → Int → Int → Option ((List (S92)) × Bool)
 | 0, _, _, _, _, _, _, _ => none
 | k + 1, x0, x1, x2, x10, x11, x12, x13 => if x13 < (x1.length : Int) then (if 0 ≤ x13 then ((spec_StageDemand.f k x2 ((rd_T92 x1 x13).f0)).bind fun t309 => (spec_ShareGreen.l0 k x0 x1 x2 x10 x11 (wrap64 ((wrap64 (x12 + t309)) + 1)) (wrap64 (x13 + 1)))) else (none)) else (spec_ShareGreen.l1 k x0 x1 x2 x10 x11 x12 x11 0)
def spec_ShareGreen.l1 : Nat → List (S89) → List (S92) → List (S128) → List (S92) → Int → Int → Int → Int → Option ((List (S92)) × Bool)
 | 0, _, _, _, _, _, _, _, _ => none
 | k + 1, x0, x1, x2, x10, x11, x12, x14, x15 => if x15 < (x1.length : Int) then (if 0 ≤ x15 then ((spec_StageDemand.f k x2 ((rd_T92 x1 x15).f0)).bind fun t311 => (if x12 = 0 then (none) else ((spec_LeastGreen.f k x0 ((rd_T92 x1 x15).f0)).bind fun t313 => (if x15 < (x10.length : Int) then (spec_ShareGreen.l1 k x0 x1 x2 (x10.set (x15 : Int).toNat (⟨(rd_T92 x10 x15).f0, wrap64 (t313 + (wrap64 (Int.tdiv (wrap64 (x11 * (wrap64 (t311 + 1)))) x12)))⟩ : S92)) x11 x12 (wrap64 (x14 - (wrap64 (Int.tdiv (wrap64 (x11 * (wrap64 (t311 + 1)))) x12)))) (wrap64 (x15 + 1))) else (none))))) else (none)) else (spec_ShareGreen.l2 k x1 x10 x14 0)
def spec_ShareGreen.l2 : Nat → List (S92) → List (S92) → Int → Int → Option ((List (S92)) × Bool)
 | 0, _, _, _, _ => none
 | k + 1, x1, x10, x14, x17 => if x17 < (x1.length : Int) then (if x17 < x14 then (if 0 ≤ x17 then (if x17 < (x10.length : Int) then ((some (x10.set (x17 : Int).toNat (⟨(rd_T92 x10 x17).f0, wrap64 (((rd_T92 x10 x17).f1) + 1)⟩ : S92) : List (S92))).bind fun y316 => ((spec_Min.f 60 ((rd_T92 y316 x17).f1)).bind fun t318 => (spec_ShareGreen.l2 k x1 (y316.set (x17 : Int).toNat (⟨(rd_T92 y316 x17).f0, t318⟩ : S92)) x14 (wrap64 (x17 + 1))))) else (none)) else (none)) else (if 0 ≤ x17 then (if x17 < (x10.length : Int) then ((spec_Min.f 60 ((rd_T92 x10 x17).f1)).bind fun t321 => (spec_ShareGreen.l2 k x1 (x10.set (x17 : Int).toNat (⟨(rd_T92 x10 x17).f0, t321⟩ : S92)) x14 (wrap64 (x17 + 1)))) else (none)) else (none))) else (some (x10, true))
end
def spec_ShareGreen.f (k : Nat) (l0 : List (S89)) (l1 : List (S92)) (l2 : List (S128)) (a3 : Int) : Option ((List (S92)) × Bool) := (spec_l8Copy.f k l1).bind fun t303 => ((spec_SpareGreen.f k l0 l1 a3).bind fun t306 => (if t306 < 0 then (spec_ShareGreen.j0 k l0 l1 l2 t303 t306 true) else ((spec_AreDetectors.f k l0 l2).bind fun t307 => (spec_ShareGreen.j0 k l0 l1 l2 t303 t306 (!t307)))))
theorem spec_ShareGreen.mono_l : ∀ k, (∀ y0 y1 y2 y3 y4 y5, LeO (spec_ShareGreen.j0 k y0 y1 y2 y3 y4 y5) (spec_ShareGreen.j0 (k + 1) y0 y1 y2 y3 y4 y5)) ∧ (∀ y0 y1 y2 y3 y4 y5 y6, LeO (spec_ShareGreen.l0 k y0 y1 y2 y3 y4 y5 y6) (spec_ShareGreen.l0 (k + 1) y0 y1 y2 y3 y4 y5 y6)) ∧ (∀ y0 y1 y2 y3 y4 y5 y6 y7, LeO (spec_ShareGreen.l1 k y0 y1 y2 y3 y4 y5 y6 y7) (spec_ShareGreen.l1 (k + 1) y0 y1 y2 y3 y4 y5 y6 y7)) ∧ (∀ y0 y1 y2 y3, LeO (spec_ShareGreen.l2 k y0 y1 y2 y3) (spec_ShareGreen.l2 (k + 1) y0 y1 y2 y3))
 | 0 => ⟨fun _ _ _ _ _ _ r h => by simp [spec_ShareGreen.j0] at h, fun _ _ _ _ _ _ _ r h => by simp [spec_ShareGreen.l0] at h, fun _ _ _ _ _ _ _ _ r h => by simp [spec_ShareGreen.l1] at h, fun _ _ _ _ r h => by simp [spec_ShareGreen.l2] at h⟩
 | k + 1 => by
  obtain ⟨ih0, ih1, ih2, ih3⟩ := spec_ShareGreen.mono_l k
  refine ⟨?_, ?_, ?_, ?_⟩
  ·
   intro y0 y1 y2 y3 y4 y5
   unfold spec_ShareGreen.j0
   repeat' first | (with_reducible first | exact LeO.refl _ | exact LeO.none _ | refine LeO.ite ?_ ?_ | refine LeO.bind ?_ (fun _ => ?_) | exact ih0 _ _ _ _ _ _ | exact ih1 _ _ _ _ _ _ _ | exact ih2 _ _ _ _ _ _ _ _ | exact ih3 _ _ _ _ | exact spec_AreDetectors.mono _ _ _ | exact spec_LeastGreen.mono _ _ _ | exact spec_SpareGreen.mono _ _ _ _ | exact spec_StageDemand.mono _ _ _ | exact spec_l8Copy.mono _ _)
  ·
   intro y0 y1 y2 y3 y4 y5 y6
   unfold spec_ShareGreen.l0
   repeat' first | (with_reducible first | exact LeO.refl _ | exact LeO.none _ | refine LeO.ite ?_ ?_ | refine LeO.bind ?_ (fun _ => ?_) | exact ih0 _ _ _ _ _ _ | exact ih1 _ _ _ _ _ _ _ | exact ih2 _ _ _ _ _ _ _ _ | exact ih3 _ _ _ _ | exact spec_AreDetectors.mono _ _ _ | exact spec_LeastGreen.mono _ _ _ | exact spec_SpareGreen.mono _ _ _ _ | exact spec_StageDemand.mono _ _ _ | exact spec_l8Copy.mono _ _)
  ·
   intro y0 y1 y2 y3 y4 y5 y6 y7
   unfold spec_ShareGreen.l1
   repeat' first | (with_reducible first | exact LeO.refl _ | exact LeO.none _ | refine LeO.ite ?_ ?_ | refine LeO.bind ?_ (fun _ => ?_) | exact ih0 _ _ _ _ _ _ | exact ih1 _ _ _ _ _ _ _ | exact ih2 _ _ _ _ _ _ _ _ | exact ih3 _ _ _ _ | exact spec_AreDetectors.mono _ _ _ | exact spec_LeastGreen.mono _ _ _ | exact spec_SpareGreen.mono _ _ _ _ | exact spec_StageDemand.mono _ _ _ | exact spec_l8Copy.mono _ _)
  ·
   intro y0 y1 y2 y3
   unfold spec_ShareGreen.l2
   repeat' first | (with_reducible first | exact LeO.refl _ | exact LeO.none _ | refine LeO.ite ?_ ?_ | refine LeO.bind ?_ (fun _ => ?_) | exact ih0 _ _ _ _ _ _ | exact ih1 _ _ _ _ _ _ _ | exact ih2 _ _ _ _ _ _ _ _ | exact ih3 _ _ _ _ | exact spec_AreDetectors.mono _ _ _ | exact spec_LeastGreen.mono _ _ _ | exact spec_SpareGreen.mono _ _ _ _ | exact spec_StageDemand.mono _ _ _ | exact spec_l8Copy.mono _ _)
theorem spec_ShareGreen.mono : ∀ a0 a1 a2 a3 k, LeO (spec_ShareGreen.f k a0 a1 a2 a3) (spec_ShareGreen.f (k + 1) a0 a1 a2 a3) := by
 intro a0 a1 a2 a3 k
 obtain ⟨ih0, ih1, ih2, ih3⟩ := spec_ShareGreen.mono_l k
 unfold spec_ShareGreen.f
 repeat' first | (with_reducible first | exact LeO.refl _ | exact LeO.none _ | refine LeO.ite ?_ ?_ | refine LeO.bind ?_ (fun _ => ?_) | exact ih0 _ _ _ _ _ _ | exact ih1 _ _ _ _ _ _ _ | exact ih2 _ _ _ _ _ _ _ _ | exact ih3 _ _ _ _ | exact spec_AreDetectors.mono _ _ _ | exact spec_LeastGreen.mono _ _ _ | exact spec_SpareGreen.mono _ _ _ _ | exact spec_StageDemand.mono _ _ _ | exact spec_l8Copy.mono _ _)
set_option maxHeartbeats 8000000 in
set_option maxRecDepth 100000 in
theorem spec_ShareGreen.calls (k : Nat) (A0 : Option Addr) (c0 : Nat) (l0 : List (S89)) (A1 : Option Addr) (c1 : Nat) (l1 : List (S92)) (A2 : Option Addr) (c2 : Nat) (l2 : List (S128)) (a3 : Int) (r1 : List (S92)) (r2 : Bool) (w : World) (hr0 : Kd.C k89 w A0 l0.length l0) (hc0 : l0.length ≤ c0) (hr1 : Kd.C k92 w A1 l1.length l1) (hc1 : l1.length ≤ c1) (hr2 : Kd.C k128 w A2 l2.length l2) (hc2 : l2.length ≤ c2) (h : spec_ShareGreen.f k l0 l1 l2 a3 = some (r1, r2)) :
  Calls Try.prog 55 #[.slice A0 l0.length c0, .slice A1 l1.length c1, .slice A2 l2.length c2, .int .i64 a3] w fun e w' => ∃ v0_ : Value, e = .returned (.tuple #[v0_, .bool r2]) ∧ Kd.S k92 92 w' w.heap.size (fun _ => True) v0_ r1 ∧ Below w.heap.size w w' := by
 have HR0 := Aside0.mk hr0
 have HC0 := Aside0.mk hc0
 clear hr0 hc0
 have HR1 := Aside0.mk hr1
 have HC1 := Aside0.mk hc1
 clear hr1 hc1
 have HR2 := Aside0.mk hr2
 have HC2 := Aside0.mk hc2
 clear hr2 hc2
 have HB := Aside0.mk (Below.refl w.heap.size w)
 have H : ((spec_l8Copy.f k l1).bind fun t303 => ((spec_SpareGreen.f k l0 l1 a3).bind fun t306 => (if t306 < 0 then (spec_ShareGreen.j0 k l0 l1 l2 t303 t306 true) else ((spec_AreDetectors.f k l0 l2).bind fun t307 => (spec_ShareGreen.j0 k l0 l1 l2 t303 t306 (!t307)))))) = some (r1, r2) := h
 clear h
 obtain ⟨t303, A5, H⟩ := bindE H
 try dsimp only at H
 obtain ⟨t306, A6, H⟩ := bindE H
 try dsimp only at H
 have HC7 := Aside0.mk H
 clear H
 go_enter Try.func55, Try.ntmps55
 go_upto_region 3 with (first | ((with_reducible refine gate_callee (f := 105) rfl ?_); refine gL (some 19) Try.func105 #[.slice A1 l1.length c1] ?_; (with_reducible refine (spec_l8Copy.calls k _ _ l1 t303 _ ?_ ?_ A5.out).mono ?_); exact cO HR1; exact HC1.out; rintro e w8 ⟨v304, rfl, ho0, hb⟩; refine ⟨_, rfl, ?_⟩; have HO305 := sl w ho0; replace HB := bs HB hb; (try clear hb); (try clear ho0)) | ((with_reducible refine gate_callee (f := 106) rfl ?_); refine gL (some 23) Try.func106 #[.slice A0 l0.length c0, .slice A1 l1.length c1, .int .i64 a3] ?_; (with_reducible refine (spec_SpareGreen.calls k _ _ l0 _ _ l1 a3 t306 _ ?_ ?_ ?_ ?_ A6.out).mono ?_); exact cB HR0; exact HC0.out; exact cB HR1; exact HC1.out; rintro e w9 ⟨rfl, hb⟩; refine ⟨_, rfl, ?_⟩; replace HO305 := sb HO305 hb; replace HB := bs HB hb; (try clear hb)))
 (try simp only [Act.put, List.setIfInBounds_toArray, List.set_cons_zero, List.set_cons_succ])
 go_cut [31] (fun v31 wc => ∃ (kq : Nat) (x31_6 : Bool), v31 = .bool x31_6 ∧ Aside0 (spec_ShareGreen.j0 kq l0 l1 l2 t303 t306 x31_6 = some (r1, r2)) ∧ Aside0 (kq ≤ k) ∧ Aside0 (Kd.S k92 92 wc w.heap.size (fun _ => True) v304 t303) ∧ Aside0 (Below w.heap.size w wc))
 case first =>
  have H := HC7.out
  clear HC7
  by_cases c10 : t306 < 0
  ·
   rw [if_pos c10] at H
   have c10b0 := decide_eq_true c10
   clear c10
   (first | rw [c10b0] | (simp only [i64_w, i32_w]; rw [c10b0]) | skip)
   have H' := Aside0.mk H
   clear H
   go_wp2
   go_meet
   case rel => exact ⟨_, (true), rS, H', ⟨oL⟩, ⟨sK HO305⟩, ⟨bA⟩⟩
  rw [if_neg c10] at H
  have c10b0 := decide_eq_false c10
  clear c10
  (first | rw [c10b0] | (simp only [i64_w, i32_w]; rw [c10b0]) | skip)
  obtain ⟨t307, A11, H⟩ := bindE H
  try dsimp only at H
  have H' := Aside0.mk H
  clear H
  go_wp2_with (first | (go_at_call 107; (with_reducible refine (spec_AreDetectors.calls k _ _ l0 _ _ l2 t307 _ ?_ ?_ ?_ ?_ A11.out).mono ?_); exact cB HR0; exact HC0.out; exact cB HR2; exact HC2.out; rintro e w12 ⟨rfl, hb⟩; replace HO305 := sb HO305 hb; replace HB := bs HB hb; (try clear hb)))
  go_meet
  case rel => exact ⟨_, (!t307), rS, H', ⟨oL⟩, ⟨sK HO305⟩, ⟨bA⟩⟩
 case rest =>
  clear HC7
  obtain ⟨kq, x31_6, rfl, HA, HJ6, HO_10, HB⟩ := hcut
  cases kq with
  | zero => exact absurd HA.out (by simp [spec_ShareGreen.j0])
  | succ kj6 =>
   have H := HA.out
   clear HA
   simp only [spec_ShareGreen.j0] at H
   by_cases c13 : x31_6 = true
   ·
    subst c13
    have H1 : (some (t303, false)) = some (r1, r2) := by rw [if_pos rfl] at H; exact H
    clear H
    have H := H1
    clear H1
    simp only [Option.some.injEq, Prod.mk.injEq] at H
    obtain ⟨rfl, rfl⟩ := H
    go_wp2
    go_ret2
    exact ⟨_, rA, sK HO_10, bA⟩
   replace c13 := Bool.eq_false_iff.mpr c13
   subst c13
   have H1 : (spec_ShareGreen.l0 kj6 l0 l1 l2 t303 t306 0 0) = some (r1, r2) := by rw [if_neg (show ¬ (false = true) by decide)] at H; exact H
   clear H
   have H := H1
   clear H1
   have H' := Aside0.mk H
   clear H
   go_wp2
   go_loopg [12, 13] kj6 (fun kq v12 v13 w' => ∃ (x12_2 : Int) (x13_2 : Int), v12 = .int .i64 x12_2 ∧ v13 = .int .i64 x13_2 ∧ Aside0 (spec_ShareGreen.l0 kq l0 l1 l2 t303 t306 x12_2 x13_2 = some (r1, r2)) ∧ Aside0 (kq ≤ kj6) ∧ Aside0 (Kd.S k92 92 w' w.heap.size (fun _ => True) v304 t303) ∧ Aside0 (Below w.heap.size w w'))
   case atStart => exact ⟨(0), (0), rS, rS, H', ⟨Nat.le_refl _⟩, ⟨sK HO_10⟩, ⟨bA⟩⟩
   case round =>
    clear H'
    obtain ⟨x12_2, x13_2, rfl, rfl, HA, HK2, HO_10, HB⟩ := hrel
    cases gk with
    | zero => exact absurd HA.out (by simp [spec_ShareGreen.l0])
    | succ k2 =>
     have H := HA.out
     clear HA
     simp only [spec_ShareGreen.l0] at H
     by_cases c14 : x13_2 < (l1.length : Int)
     ·
      rw [if_pos c14] at H
      have c14b0 := decide_eq_true c14
      clear c14
      have c15 : 0 ≤ x13_2 := ifN H
      replace H := ifT H
      have c15b0 := decide_eq_true c15
      clear c15
      obtain ⟨t309, A16, H⟩ := bindE H
      try dsimp only at H
      have H' := Aside0.mk H
      clear H
      obtain ⟨p308, q308⟩ : 0 ≤ (x13_2 : Int) ∧ x13_2 < (l1.length : Int) := ⟨dA, dA⟩
      obtain ⟨ad308, A308_0, c308_0, e308, hx308_0, hx308_1, hl308_0, hi308_0⟩ := at_T92 HR1.out x13_2 p308 q308
      cases e308
      replace hx308_0 := hC HB hx308_0
      replace hx308_1 := hC HB hx308_1
      have HR308_0 := Aside0.mk hi308_0
      have HC308_0 := Aside0.mk hl308_0
      clear hi308_0 hl308_0
      obtain ⟨p308, q308⟩ := eT p308 q308
      go_wp2_with (first | ((with_reducible refine gate_callee (f := 108) rfl ?_); refine gL (some 46) Try.func108 #[.slice A2 l2.length c2, .slice A308_0 ((rd_T92 l1 x13_2).f0).length c308_0] ?_; (with_reducible refine (spec_StageDemand.calls k2 _ _ l2 _ _ ((rd_T92 l1 x13_2).f0) t309 _ ?_ ?_ ?_ ?_ A16.out).mono ?_); exact cB HR2; exact HC2.out; exact cB HR308_0; exact HC308_0.out; rintro e w17 ⟨rfl, hb⟩; refine ⟨_, rfl, ?_⟩; replace HO_10 := sb HO_10 hb; replace HB := bs HB hb; (try clear hb)))
      go_roundg k2
      case measure => have := HJ6.out; have := HK2.out; omega
      case rel => exact ⟨(wrap64 ((wrap64 (x12_2 + t309)) + 1)), (wrap64 (x13_2 + 1)), rS, rS, H', ⟨by have := HJ6.out; have := HK2.out; omega⟩, ⟨sK HO_10⟩, ⟨bA⟩⟩
     rw [if_neg c14] at H
     have c14b0 := decide_eq_false c14
     clear c14
     have H' := Aside0.mk H
     clear H
     go_wp2
     go_loopg [14, 15] k2 (fun kq v14 v15 w' => ∃ (x10_3 : List (S92)) (x14_3 : Int) (x15_3 : Int), v14 = .int .i64 x14_3 ∧ v15 = .int .i64 x15_3 ∧ Aside0 (spec_ShareGreen.l1 kq l0 l1 l2 x10_3 t306 x12_2 x14_3 x15_3 = some (r1, r2)) ∧ Aside0 (kq ≤ k2) ∧ Aside0 (Kd.S k92 92 w' w.heap.size (fun _ => True) v304 x10_3) ∧ Aside0 (Below w.heap.size w w'))
     case atStart => exact ⟨(t303), (t306), (0), rS, rS, H', ⟨Nat.le_refl _⟩, ⟨sK HO_10⟩, ⟨bA⟩⟩
     case round =>
      clear H'
      obtain ⟨x10_3, x14_3, x15_3, rfl, rfl, HA, HK3, HO_10, HB⟩ := hrel
      cases gk with
      | zero => exact absurd HA.out (by simp [spec_ShareGreen.l1])
      | succ k3 =>
       have H := HA.out
       clear HA
       simp only [spec_ShareGreen.l1] at H
       by_cases c18 : x15_3 < (l1.length : Int)
       ·
        rw [if_pos c18] at H
        have c18b0 := decide_eq_true c18
        clear c18
        have c19 : 0 ≤ x15_3 := ifN H
        replace H := ifT H
        have c19b0 := decide_eq_true c19
        clear c19
        obtain ⟨t311, A20, H⟩ := bindE H
        try dsimp only at H
        have c21 : ¬ (x12_2 = 0) := ifN' H
        replace H := ifT' H
        have c21b0 : (x12_2 == 0) = false := beq_eq_false_iff_ne.mpr c21
        have c21b1 : (x12_2 != 0) = true := bne_iff_ne.mpr c21
        obtain ⟨t313, A22, H⟩ := bindE H
        try dsimp only at H
        have c23 : x15_3 < (x10_3.length : Int) := ifN H
        replace H := ifT H
        have c23b0 := decide_eq_true c23
        clear c23
        obtain ⟨y314, hy314⟩ : ∃ y_ : List (S92), y_ = (x10_3.set (x15_3 : Int).toNat (⟨(rd_T92 x10_3 x15_3).f0, wrap64 (t313 + (wrap64 (Int.tdiv (wrap64 (t306 * (wrap64 (t311 + 1)))) x12_2)))⟩ : S92)) := ⟨_, rfl⟩
        replace H : (spec_ShareGreen.l1 k3 l0 l1 l2 y314 t306 x12_2 (wrap64 (x14_3 - (wrap64 (Int.tdiv (wrap64 (t306 * (wrap64 (t311 + 1)))) x12_2)))) (wrap64 (x15_3 + 1))) = some (r1, r2) := rH H hy314
        have Ny314 := Aside0.mk hy314
        clear hy314
        have H' := Aside0.mk H
        clear H
        obtain ⟨p310, q310⟩ : 0 ≤ (x15_3 : Int) ∧ x15_3 < (l1.length : Int) := ⟨dA, dA⟩
        obtain ⟨ad310, A310_0, c310_0, e310, hx310_0, hx310_1, hl310_0, hi310_0⟩ := at_T92 HR1.out x15_3 p310 q310
        cases e310
        have hw310_0 := hx310_0
        replace hx310_0 := hC HB hx310_0
        replace hx310_1 := hC HB hx310_1
        have HR310_0 := Aside0.mk hi310_0
        have HC310_0 := Aside0.mk hl310_0
        clear hi310_0 hl310_0
        obtain ⟨p310, q310⟩ := eT p310 q310
        go_wp2_with (first | ((with_reducible refine gate_callee (f := 108) rfl ?_); refine gL (some 63) Try.func108 #[.slice A2 l2.length c2, .slice A310_0 ((rd_T92 l1 x15_3).f0).length c310_0] ?_; (with_reducible refine (spec_StageDemand.calls k3 _ _ l2 _ _ ((rd_T92 l1 x15_3).f0) t311 _ ?_ ?_ ?_ ?_ A20.out).mono ?_); exact cB HR2; exact HC2.out; exact cB HR310_0; exact HC310_0.out; rintro e w25 ⟨rfl, hb⟩; refine ⟨_, rfl, ?_⟩; replace HO_10 := sb HO_10 hb; replace HB := bs HB hb; (try clear hb); have p312 : 0 ≤ (x15_3 : Int) := dA; have q312 : x15_3 < (l1.length : Int) := dA; obtain ⟨ad312, A312_0, c312_0, e312, hx312_0, hx312_1, hl312_0, hi312_0⟩ := at_T92 HR1.out x15_3 p312 q312; obtain rfl : ad310 = ad312 := (by injection e312); have hw312_0 := hx312_0; replace hx312_0 := hC HB hx312_0; replace hx312_1 := hC HB hx312_1; have HR312_0 := Aside0.mk hi312_0; have HC312_0 := Aside0.mk hl312_0; clear hi312_0 hl312_0; replace p312 := eq_true p312; replace q312 := eq_true q312; first | have ea_ := Option.some.inj (hw310_0.symm.trans hw312_0) | have ea_ := Option.some.inj (hx310_0.symm.trans hx312_0); injection ea_ with ea_ en_ ec_; subst ea_; subst ec_; clear en_) | ((with_reducible refine gate_callee (f := 74) rfl ?_); refine gL (some 76) Try.func74 #[.slice A0 l0.length c0, .slice A310_0 ((rd_T92 l1 x15_3).f0).length c310_0] ?_; (with_reducible refine (spec_LeastGreen.calls k3 _ _ l0 _ _ ((rd_T92 l1 x15_3).f0) t313 _ ?_ ?_ ?_ ?_ A22.out).mono ?_); exact cB HR0; exact HC0.out; exact cB HR312_0; exact HC312_0.out; rintro e w' ⟨rfl, ⟨nd, rfl⟩⟩; refine ⟨_, rfl, ?_⟩; (try (rw [drewN_self w25]; generalize hq_ : World.drewN w25 _ = w25; have n0_ : Aside0 (Kd.S k92 92 w25 w.heap.size (fun _ => True) v304 x10_3) := ⟨by rw [← hq_]; exact (sK HO_10)⟩; have n1_ : Aside0 (Below w.heap.size w w25) := ⟨by rw [← hq_]; exact bA⟩; clear HO_10 HB hq_; have HO_10 := n0_; have HB := n1_; clear n0_ n1_)); have p24 : 0 ≤ (x15_3 : Int) := dA; have q24 : (x15_3 : Int) < ((x10_3.length : Int) : Int) := dA; obtain ⟨go24, co24, eo24, gb24, gl24, cl24, HG24⟩ := Kd.S_form HO_10.out (by omega); (first | cases eo24 | (injection eo24 with ea_ en_ ec_; (first | subst ea_ | (injection ea_ with ea_; subst ea_)); subst ec_; clear en_)); have GB24 := Aside0.mk gb24; have GG24 := Aside0.mk HG24; clear gb24 gl24 HG24; obtain ⟨_, ce24, hcl24, hM24, hcc24, hfr24, _, _⟩ := Kd.S_elem HO_10.out z92 (x15_3 : Int) p24 q24; obtain ⟨ve24_0, rfl, ge24_0⟩ := k92_openM hM24; have hx24_0 : w25.cell? ⟨go24, (x15_3 : Int).toNat * 2, none⟩ = some (ve24_0) := hcc24 0 _ rfl; have hx24_1 : w25.cell? ⟨go24, (x15_3 : Int).toNat * 2 + 1, none⟩ = some (.int .i64 ((rd_T92 x10_3 x15_3).f1)) := hcc24 1 _ rfl; have hf24_0 : w25.frozen? ⟨go24, (x15_3 : Int).toNat * 2, none⟩ = false := hfr24 0; have hf24_1 : w25.frozen? ⟨go24, (x15_3 : Int).toNat * 2 + 1, none⟩ = false := hfr24 1; clear hcl24 hcc24 hfr24 hM24; replace p24 := eq_true p24; replace q24 := eq_true q24; have HX26 := Aside0.mk (show Kd.S k92 92 w25 w.heap.size (fun k_ => ((fun _ => True)) k_ ∧ ¬ ((fun _ => False)) k_) (.slice (some ⟨go24, 0, none⟩) x10_3.length co24) x10_3 from (sm HO_10 (fun k_ hk => ⟨trivial, fun e_ => e_⟩))); obtain ⟨oki26, ce26, hcl26, hM26, hcc26, hfr26, hoki26, hH26⟩ := Kd.S_elem HX26.out z92 (x15_3 : Int) (dA) (by have h_ : (x15_3 : Int) < ((x10_3.length : Int) : Int) := dA; first | exact h_ | (have e_ := (Kd.S_reads' HO_10.out).1; omega) | simpa using h_); obtain ⟨ve26_0, rfl, ge26_0⟩ := k92_openM hM26; have HP26 := Kd.S_seg hH26 (dA) (by have h_ : (x15_3 : Int) < ((x10_3.length : Int) : Int) := dA; first | exact h_ | (have e_ := (Kd.S_reads' HO_10.out).1; omega) | simpa using h_) (seg := [.int .i64 (wrap64 (t313 + (wrap64 (Int.tdiv (wrap64 (t306 * (wrap64 (t311 + 1)))) x12_2))))]) (j := 1) (show 2 ≤ 2 from by decide) (x' := (⟨(rd_T92 x10_3 x15_3).f0, wrap64 (t313 + (wrap64 (Int.tdiv (wrap64 (t306 * (wrap64 (t311 + 1)))) x12_2)))⟩ : S92)) (k92_mkM _ _ _ (⟨(rd_T92 x10_3 x15_3).f0, wrap64 (t313 + (wrap64 (Int.tdiv (wrap64 (t306 * (wrap64 (t311 + 1)))) x12_2)))⟩ : S92) (Kd.R_mono ge26_0 (fun _ h_ => Or.inl h_))) (fun _ hk => hk) (fun k_ hk_ => hk_.elim); have hx26_1 := hcc26 1 _ rfl; (try simp only [show (k92).sz = 2 from rfl, Nat.mul_one, Nat.add_zero] at hx26_1); have hf26_1 := hfr26 1; (try simp only [show (k92).sz = 2 from rfl, Nat.mul_one, Nat.add_zero] at hf26_1); clear hcl26 hcc26 hfr26 hM26 hoki26 hH26) | ((with_reducible refine gate_store (t := 3) (p := 80) rfl ?_); refine store_event (t := 3) (p := 80) (v := ?vo_w27) (w1 := (w25.setCell ⟨go24, (x15_3 : Int).toNat * 2 + 1, none⟩ (.int .i64 (wrap64 (t313 + (wrap64 (Int.tdiv (wrap64 (t306 * (wrap64 (t311 + 1)))) x12_2))))))) ?hg ?ho ?hn ?hr ?_; (case ho => rfl); (case hg => rfl); (case hn => rfl); (case hr => first | (go_simp; done) | (go_simp; rfl)); intro w27 hw; have hg : w25.grownBy w27 (some go24) := (by rw [hw]; exact HP26.2); have hp_ : Kd.S k92 92 w27 w.heap.size (fun _ => True) (.slice (some ⟨go24, 0, none⟩) x10_3.length co24) y314 := (by rw [hw, Ny314.out]; exact HP26.1); clear HP26; have n0_ := Aside0.mk (hp_); have n1_ := Aside0.mk ((by rw [hw]; exact below_set (HB.out) GB24.out : Below w.heap.size w w27)); clear HO_10; clear HB; have HO_10 := n0_; have HB := n1_; clear n0_ n1_; clear hg hw hp_))
        go_roundg k3
        case measure => have := HJ6.out; have := HK2.out; have := HK3.out; omega
        case rel => exact ⟨(y314), (wrap64 (x14_3 - (wrap64 (Int.tdiv (wrap64 (t306 * (wrap64 (t311 + 1)))) x12_2)))), (wrap64 (x15_3 + 1)), rS, rS, H', ⟨by have := HJ6.out; have := HK2.out; have := HK3.out; omega⟩, ⟨sK HO_10⟩, ⟨bA⟩⟩
       rw [if_neg c18] at H
       have c18b0 := decide_eq_false c18
       clear c18
       have H' := Aside0.mk H
       clear H
       go_wp2
       go_loopg [17] k3 (fun kq v17 w' => ∃ (x10_4 : List (S92)) (x17_4 : Int), v17 = .int .i64 x17_4 ∧ Aside0 (spec_ShareGreen.l2 kq l1 x10_4 x14_3 x17_4 = some (r1, r2)) ∧ Aside0 (kq ≤ k3) ∧ Aside0 (Kd.S k92 92 w' w.heap.size (fun _ => True) v304 x10_4) ∧ Aside0 (Below w.heap.size w w'))
       case atStart => exact ⟨(x10_3), (0), rS, H', ⟨Nat.le_refl _⟩, ⟨sK HO_10⟩, ⟨bA⟩⟩
       case round =>
        clear H'
        obtain ⟨x10_4, x17_4, rfl, HA, HK4, HO_10, HB⟩ := hrel
        cases gk with
        | zero => exact absurd HA.out (by simp [spec_ShareGreen.l2])
        | succ k4 =>
         have H := HA.out
         clear HA
         simp only [spec_ShareGreen.l2] at H
         by_cases c28 : x17_4 < (l1.length : Int)
         ·
          rw [if_pos c28] at H
          have c28b0 := decide_eq_true c28
          clear c28
          by_cases c29 : x17_4 < x14_3
          ·
           rw [if_pos c29] at H
           have c29b0 := decide_eq_true c29
           clear c29
           have c30 : 0 ≤ x17_4 := ifN H
           replace H := ifT H
           have c30b0 := decide_eq_true c30
           clear c30
           have c31 : x17_4 < (x10_4.length : Int) := ifN H
           replace H := ifT H
           have c31b0 := decide_eq_true c31
           clear c31
           obtain ⟨y316, hy316⟩ : ∃ y_ : List (S92), y_ = (x10_4.set (x17_4 : Int).toNat (⟨(rd_T92 x10_4 x17_4).f0, wrap64 (((rd_T92 x10_4 x17_4).f1) + 1)⟩ : S92)) := ⟨_, rfl⟩
           replace H : ((spec_Min.f 60 ((rd_T92 y316 x17_4).f1)).bind fun t318 => (spec_ShareGreen.l2 k4 l1 (y316.set (x17_4 : Int).toNat (⟨(rd_T92 y316 x17_4).f0, t318⟩ : S92)) x14_3 (wrap64 (x17_4 + 1)))) = some (r1, r2) := rH H hy316
           have Ny316 := Aside0.mk hy316
           clear hy316
           obtain ⟨t318, A33, H⟩ := bindE H
           try dsimp only at H
           obtain ⟨y319, hy319⟩ : ∃ y_ : List (S92), y_ = (y316.set (x17_4 : Int).toNat (⟨(rd_T92 y316 x17_4).f0, t318⟩ : S92)) := ⟨_, rfl⟩
           replace H : (spec_ShareGreen.l2 k4 l1 y319 x14_3 (wrap64 (x17_4 + 1))) = some (r1, r2) := rH H hy319
           have Ny319 := Aside0.mk hy319
           clear hy319
           have H' := Aside0.mk H
           clear H
           obtain ⟨Ao35, co35, eo35⟩ := Kd.S_slice HO_10.out
           subst eo35
           obtain ⟨p315, q315⟩ : 0 ≤ (x17_4 : Int) ∧ x17_4 < (x10_4.length : Int) := ⟨dA, dA⟩
           obtain ⟨ad315, A315_0, c315_0, e315, hx315_0, hx315_1, hl315_0, hi315_0⟩ := at_T92 (Kd.S_reads' HO_10.out).2.2 x17_4 p315 q315
           cases e315
           obtain ⟨ce315, hce315, hMe315, hcc315⟩ := Kd.S_get HO_10.out z92 x17_4 p315 (by first | exact q315 | exact dA | (have e_ := (Kd.S_reads' HO_10.out).1; omega))
           obtain ⟨ve315_0, rfl, ge315_0⟩ := k92_openM hMe315
           have hv315_0 := hcc315 0 _ rfl
           rw [Nat.add_zero] at hv315_0
           replace hv315_0 := Option.some.inj (hv315_0.symm.trans hx315_0)
           rw [hv315_0] at ge315_0
           have HL315_0 := Aside0.mk (show Kd.R (Kd.int .i64) 3 _ _ _ _ ((rd_T92 x10_4 x17_4).f0) from ge315_0)
           clear hv315_0 ge315_0
           clear hcc315 hce315
           have HR315_0 := Aside0.mk hi315_0
           have HC315_0 := Aside0.mk hl315_0
           clear hi315_0 hl315_0
           obtain ⟨p315, q315⟩ := eT p315 q315
           obtain ⟨p32, q32⟩ : 0 ≤ (x17_4 : Int) ∧ (x17_4 : Int) < ((x10_4.length : Int) : Int) := ⟨dA, dA⟩
           obtain ⟨go32, co32, eo32, gb32, gl32, cl32, HG32⟩ := Kd.S_form HO_10.out (by omega)
           (first | cases eo32 | (injection eo32 with ea_ en_ ec_; (first | subst ea_ | (injection ea_ with ea_; subst ea_)); subst ec_; clear en_))
           have GB32 := Aside0.mk gb32
           have GG32 := Aside0.mk HG32
           clear gb32 gl32 HG32
           (first | simp only [add_plain] at hx315_0 | skip)
           (first | simp only [add_plain] at hx315_1 | skip)
           obtain ⟨_, ce32, hcl32, hM32, hcc32, hfr32, _, _⟩ := Kd.S_elem HO_10.out z92 (x17_4 : Int) p32 q32
           obtain ⟨ve32_0, rfl, ge32_0⟩ := k92_openM hM32
           have hx32_0 : wr.cell? ⟨go32, (x17_4 : Int).toNat * 2, none⟩ = some (ve32_0) := hcc32 0 _ rfl
           have hx32_1 : wr.cell? ⟨go32, (x17_4 : Int).toNat * 2 + 1, none⟩ = some (.int .i64 ((rd_T92 x10_4 x17_4).f1)) := hcc32 1 _ rfl
           have hf32_0 : wr.frozen? ⟨go32, (x17_4 : Int).toNat * 2, none⟩ = false := hfr32 0
           have hf32_1 : wr.frozen? ⟨go32, (x17_4 : Int).toNat * 2 + 1, none⟩ = false := hfr32 1
           clear hcl32 hcc32 hfr32 hM32
           obtain ⟨p32, q32⟩ := eT p32 q32
           have HX36 := Aside0.mk (show Kd.S k92 92 wr w.heap.size (fun k_ => ((fun _ => True)) k_ ∧ ¬ ((fun _ => False)) k_) (.slice (some ⟨go32, 0, none⟩) x10_4.length co35) x10_4 from (sm HO_10 (fun k_ hk => ⟨trivial, fun e_ => e_⟩)))
           obtain ⟨oki36, ce36, hcl36, hM36, hcc36, hfr36, hoki36, hH36⟩ := Kd.S_elem HX36.out z92 (x17_4 : Int) (dA) (by have h_ : (x17_4 : Int) < ((x10_4.length : Int) : Int) := dA; first | exact h_ | (have e_ := (Kd.S_reads' HO_10.out).1; omega) | simpa using h_)
           obtain ⟨ve36_0, rfl, ge36_0⟩ := k92_openM hM36
           have HP36 := Kd.S_seg hH36 (dA) (by have h_ : (x17_4 : Int) < ((x10_4.length : Int) : Int) := dA; first | exact h_ | (have e_ := (Kd.S_reads' HO_10.out).1; omega) | simpa using h_) (seg := [.int .i64 (wrap64 (((rd_T92 x10_4 x17_4).f1) + 1))]) (j := 1) (show 2 ≤ 2 from by decide) (x' := (⟨(rd_T92 x10_4 x17_4).f0, wrap64 (((rd_T92 x10_4 x17_4).f1) + 1)⟩ : S92)) (k92_mkM _ _ _ (⟨(rd_T92 x10_4 x17_4).f0, wrap64 (((rd_T92 x10_4 x17_4).f1) + 1)⟩ : S92) (Kd.R_mono ge36_0 (fun _ h_ => Or.inl h_))) (fun _ hk => hk) (fun k_ hk_ => hk_.elim)
           have hx36_1 := hcc36 1 _ rfl
           (try simp only [show (k92).sz = 2 from rfl, Nat.mul_one, Nat.add_zero] at hx36_1)
           have hf36_1 := hfr36 1
           (try simp only [show (k92).sz = 2 from rfl, Nat.mul_one, Nat.add_zero] at hf36_1)
           clear hcl36 hcc36 hfr36 hM36 hoki36 hH36
           go_wp2_with (first | ((with_reducible refine gate_store (t := 3) (p := 102) rfl ?_); refine store_event (t := 3) (p := 102) (v := ?vo_w37) (w1 := (wr.setCell ⟨go32, (x17_4 : Int).toNat * 2 + 1, none⟩ (.int .i64 (wrap64 (((rd_T92 x10_4 x17_4).f1) + 1))))) ?hg ?ho ?hn ?hr ?_; (case ho => rfl); (case hg => rfl); (case hn => rfl); (case hr => first | (go_simp; done) | (go_simp; rfl)); intro w37 hw; have hg : wr.grownBy w37 (some go32) := (by rw [hw]; exact HP36.2); have hp_ : Kd.S k92 92 w37 w.heap.size (fun _ => True) (.slice (some ⟨go32, 0, none⟩) x10_4.length co35) y316 := (by rw [hw, Ny316.out]; exact HP36.1); clear HP36; have n0_ := Aside0.mk (hp_); have n1_ := Aside0.mk (Kd.R_after (v := (.slice (some ⟨go32, 0, none⟩) x10_4.length co35)) (v1 := (.slice (some ⟨go32, 0, none⟩) x10_4.length co35)) (ok := (fun _ => True)) (by (with_reducible repeat (first | apply Kd.R_alloc | apply Kd.R_drewN | apply Kd.R_drew)); exact HL315_0.out) hg (.inl rfl)); have n2_ := Aside0.mk ((by rw [hw]; exact below_set (HB.out) GB32.out : Below w.heap.size w w37)); clear HO_10; clear HL315_0; clear HB; have HO_10 := n0_; have HL315_0 := n1_; have HB := n2_; clear n0_ n1_ n2_; clear hg hw hp_; have p317 : 0 ≤ (x17_4 : Int) := dA; have q317 : x17_4 < (y316.length : Int) := (by have h_ : (x17_4 : Int) < ((x10_4.length : Int) : Int) := dA; first | (have e_ := (Kd.S_reads' HO_10.out).1; omega) | simpa only [Ny316.out, List.length_set] using h_); have ql317 : ((x17_4 : Int) < ((x10_4.length : Int) : Int)) = True := eq_true (dA); obtain ⟨ad317, A317_0, c317_0, e317, hx317_0, hx317_1, hl317_0, hi317_0⟩ := at_T92 (Kd.S_reads' HO_10.out).2.2 x17_4 p317 q317; obtain rfl : (⟨go32, 0, none⟩ : Addr) = ad317 := (by injection e317); obtain ⟨ce317, hce317, hMe317, hcc317⟩ := Kd.S_get HO_10.out z92 x17_4 p317 (by first | exact q317 | exact dA | (have e_ := (Kd.S_reads' HO_10.out).1; omega)); obtain ⟨ve317_0, rfl, ge317_0⟩ := k92_openM hMe317; have hv317_0 := hcc317 0 _ rfl; rw [Nat.add_zero] at hv317_0; replace hv317_0 := Option.some.inj (hv317_0.symm.trans hx317_0); rw [hv317_0] at ge317_0; have HL317_0 := Aside0.mk (show Kd.R (Kd.int .i64) 3 _ _ _ _ ((rd_T92 y316 x17_4).f0) from ge317_0); clear hv317_0 ge317_0; clear hcc317 hce317; (first | simp only [add_plain] at hx317_0 | simp only [add_at] at hx317_0 | simp only [Addr.add, Nat.zero_add] at hx317_0 | skip); (first | simp only [add_plain] at hx317_1 | simp only [add_at] at hx317_1 | simp only [Addr.add, Nat.zero_add] at hx317_1 | skip); have HR317_0 := Aside0.mk hi317_0; have HC317_0 := Aside0.mk hl317_0; clear hi317_0 hl317_0; replace p317 := eq_true p317; replace q317 := eq_true q317) | ((with_reducible refine gate_callee (f := 109) rfl ?_); refine gL (some 110) Try.func109 #[.int .i64 60, .int .i64 ((rd_T92 y316 x17_4).f1)] ?_; (with_reducible refine (spec_Min.calls 60 ((rd_T92 y316 x17_4).f1) t318 _ A33.out).mono ?_); rintro e w' ⟨rfl, ⟨nd, rfl⟩⟩; refine ⟨_, rfl, ?_⟩; (try (rw [drewN_self w37]; generalize hq_ : World.drewN w37 _ = w37; have n0_ : Aside0 (Kd.R (Kd.int .i64) 3 w37 w.heap.size (n1 (.slice (some ⟨go32, 0, none⟩) x10_4.length co35)) (.slice A315_0 ((rd_T92 x10_4 x17_4).f0).length c315_0) ((rd_T92 x10_4 x17_4).f0)) := ⟨by rw [← hq_]; exact (by (with_reducible repeat (first | apply Kd.R_alloc | apply Kd.R_drewN | apply Kd.R_drew)); exact Kd.R_mono HL315_0.out (fun _ hk => hk.2))⟩; have n1_ : Aside0 (Kd.R (Kd.int .i64) 3 w37 w.heap.size (n1 (.slice (some ⟨go32, 0, none⟩) x10_4.length co35)) (.slice A317_0 ((rd_T92 y316 x17_4).f0).length c317_0) ((rd_T92 y316 x17_4).f0)) := ⟨by rw [← hq_]; exact (by (with_reducible repeat (first | apply Kd.R_alloc | apply Kd.R_drewN | apply Kd.R_drew)); exact Kd.R_mono HL317_0.out (fun _ hk => hk.2))⟩; have n2_ : Aside0 (Kd.S k92 92 w37 w.heap.size (fun _ => True) (.slice (some ⟨go32, 0, none⟩) x10_4.length co35) y316) := ⟨by rw [← hq_]; exact (sK HO_10)⟩; have n3_ : Aside0 (Below w.heap.size w w37) := ⟨by rw [← hq_]; exact bA⟩; have n4_ : Aside0 (Kd.C (Kd.int .i64) w37 A317_0 ((rd_T92 y316 x17_4).f0).length ((rd_T92 y316 x17_4).f0)) := ⟨by rw [← hq_]; exact (by repeat (first | (with_reducible exact HR317_0.out) | (with_reducible refine Kd.C_alloc ?_ _) | (with_reducible refine Kd.C_drewN ?_ _) | (with_reducible refine Kd.C_drew ?_) | exact HR317_0.out))⟩; clear HL315_0 HL317_0 HO_10 HB HR317_0 hq_; have HL315_0 := n0_; have HL317_0 := n1_; have HO_10 := n2_; have HB := n3_; have HR317_0 := n4_; clear n0_ n1_ n2_ n3_ n4_)); have p34 : 0 ≤ (x17_4 : Int) := dA; have q34 : (x17_4 : Int) < ((x10_4.length : Int) : Int) := dA; obtain ⟨_, ce34, hcl34, hM34, hcc34, hfr34, _, _⟩ := Kd.S_elem HO_10.out z92 (x17_4 : Int) p34 q34; obtain ⟨ve34_0, rfl, ge34_0⟩ := k92_openM hM34; have hx34_0 : w37.cell? ⟨go32, (x17_4 : Int).toNat * 2, none⟩ = some (ve34_0) := hcc34 0 _ rfl; have hx34_1 : w37.cell? ⟨go32, (x17_4 : Int).toNat * 2 + 1, none⟩ = some (.int .i64 ((rd_T92 y316 x17_4).f1)) := hcc34 1 _ rfl; have hf34_0 : w37.frozen? ⟨go32, (x17_4 : Int).toNat * 2, none⟩ = false := hfr34 0; have hf34_1 : w37.frozen? ⟨go32, (x17_4 : Int).toNat * 2 + 1, none⟩ = false := hfr34 1; clear hcl34 hcc34 hfr34 hM34; replace p34 := eq_true p34; replace q34 := eq_true q34; have HX38 := Aside0.mk (show Kd.S k92 92 w37 w.heap.size (fun k_ => ((fun _ => True)) k_ ∧ ¬ ((fun _ => False)) k_) (.slice (some ⟨go32, 0, none⟩) x10_4.length co35) y316 from (sm HO_10 (fun k_ hk => ⟨trivial, fun e_ => e_⟩))); obtain ⟨oki38, ce38, hcl38, hM38, hcc38, hfr38, hoki38, hH38⟩ := Kd.S_elem HX38.out z92 (x17_4 : Int) (dA) (by have h_ : (x17_4 : Int) < ((x10_4.length : Int) : Int) := dA; first | exact h_ | (have e_ := (Kd.S_reads' HO_10.out).1; omega) | simpa using h_); obtain ⟨ve38_0, rfl, ge38_0⟩ := k92_openM hM38; have HP38 := Kd.S_seg hH38 (dA) (by have h_ : (x17_4 : Int) < ((x10_4.length : Int) : Int) := dA; first | exact h_ | (have e_ := (Kd.S_reads' HO_10.out).1; omega) | simpa using h_) (seg := [.int .i64 t318]) (j := 1) (show 2 ≤ 2 from by decide) (x' := (⟨(rd_T92 y316 x17_4).f0, t318⟩ : S92)) (k92_mkM _ _ _ (⟨(rd_T92 y316 x17_4).f0, t318⟩ : S92) (Kd.R_mono ge38_0 (fun _ h_ => Or.inl h_))) (fun _ hk => hk) (fun k_ hk_ => hk_.elim); have hx38_1 := hcc38 1 _ rfl; (try simp only [show (k92).sz = 2 from rfl, Nat.mul_one, Nat.add_zero] at hx38_1); have hf38_1 := hfr38 1; (try simp only [show (k92).sz = 2 from rfl, Nat.mul_one, Nat.add_zero] at hf38_1); clear hcl38 hcc38 hfr38 hM38 hoki38 hH38) | ((with_reducible refine gate_store (t := 3) (p := 112) rfl ?_); refine store_event (t := 3) (p := 112) (v := ?vo_w39) (w1 := (w37.setCell ⟨go32, (x17_4 : Int).toNat * 2 + 1, none⟩ (.int .i64 t318))) ?hg ?ho ?hn ?hr ?_; (case ho => rfl); (case hg => rfl); (case hn => rfl); (case hr => first | (go_simp; done) | (go_simp; rfl)); intro w39 hw; have hg : w37.grownBy w39 (some go32) := (by rw [hw]; exact HP38.2); have hp_ : Kd.S k92 92 w39 w.heap.size (fun _ => True) (.slice (some ⟨go32, 0, none⟩) x10_4.length co35) y319 := (by rw [hw, Ny319.out]; exact HP38.1); clear HP38; have n0_ := Aside0.mk (hp_); have n1_ := Aside0.mk (Kd.R_after (v := (.slice (some ⟨go32, 0, none⟩) x10_4.length co35)) (v1 := (.slice (some ⟨go32, 0, none⟩) x10_4.length co35)) (ok := (fun _ => True)) (by (with_reducible repeat (first | apply Kd.R_alloc | apply Kd.R_drewN | apply Kd.R_drew)); first | exact HL315_0.out | exact Kd.R_mono HL315_0.out (fun _ hk => ⟨trivial, hk⟩)) hg (.inl rfl)); have n2_ := Aside0.mk (Kd.R_after (v := (.slice (some ⟨go32, 0, none⟩) x10_4.length co35)) (v1 := (.slice (some ⟨go32, 0, none⟩) x10_4.length co35)) (ok := (fun _ => True)) (by (with_reducible repeat (first | apply Kd.R_alloc | apply Kd.R_drewN | apply Kd.R_drew)); first | exact HL317_0.out | exact Kd.R_mono HL317_0.out (fun _ hk => ⟨trivial, hk⟩)) hg (.inl rfl)); have n3_ := Aside0.mk ((by rw [hw]; exact below_set (HB.out) GB32.out : Below w.heap.size w w39)); clear HO_10; clear HL315_0; clear HL317_0; clear HB; have HO_10 := n0_; have HL315_0 := n1_; have HL317_0 := n2_; have HB := n3_; clear n0_ n1_ n2_ n3_; clear hg hw hp_))
           go_roundg k4
           case measure => have := HJ6.out; have := HK2.out; have := HK3.out; have := HK4.out; omega
           case rel => exact ⟨(y319), (wrap64 (x17_4 + 1)), rS, H', ⟨by have := HJ6.out; have := HK2.out; have := HK3.out; have := HK4.out; omega⟩, ⟨sK HO_10⟩, ⟨bA⟩⟩
          rw [if_neg c29] at H
          have c29b0 := decide_eq_false c29
          clear c29
          have c40 : 0 ≤ x17_4 := ifN H
          replace H := ifT H
          have c40b0 := decide_eq_true c40
          clear c40
          have c41 : x17_4 < (x10_4.length : Int) := ifN H
          replace H := ifT H
          have c41b0 := decide_eq_true c41
          clear c41
          obtain ⟨t321, A42, H⟩ := bindE H
          try dsimp only at H
          obtain ⟨y322, hy322⟩ : ∃ y_ : List (S92), y_ = (x10_4.set (x17_4 : Int).toNat (⟨(rd_T92 x10_4 x17_4).f0, t321⟩ : S92)) := ⟨_, rfl⟩
          replace H : (spec_ShareGreen.l2 k4 l1 y322 x14_3 (wrap64 (x17_4 + 1))) = some (r1, r2) := rH H hy322
          have Ny322 := Aside0.mk hy322
          clear hy322
          have H' := Aside0.mk H
          clear H
          obtain ⟨Ao44, co44, eo44⟩ := Kd.S_slice HO_10.out
          subst eo44
          obtain ⟨p320, q320⟩ : 0 ≤ (x17_4 : Int) ∧ x17_4 < (x10_4.length : Int) := ⟨dA, dA⟩
          obtain ⟨ad320, A320_0, c320_0, e320, hx320_0, hx320_1, hl320_0, hi320_0⟩ := at_T92 (Kd.S_reads' HO_10.out).2.2 x17_4 p320 q320
          cases e320
          obtain ⟨ce320, hce320, hMe320, hcc320⟩ := Kd.S_get HO_10.out z92 x17_4 p320 (by first | exact q320 | exact dA | (have e_ := (Kd.S_reads' HO_10.out).1; omega))
          obtain ⟨ve320_0, rfl, ge320_0⟩ := k92_openM hMe320
          have hv320_0 := hcc320 0 _ rfl
          rw [Nat.add_zero] at hv320_0
          replace hv320_0 := Option.some.inj (hv320_0.symm.trans hx320_0)
          rw [hv320_0] at ge320_0
          have HL320_0 := Aside0.mk (show Kd.R (Kd.int .i64) 3 _ _ _ _ ((rd_T92 x10_4 x17_4).f0) from ge320_0)
          clear hv320_0 ge320_0
          clear hcc320 hce320
          have HR320_0 := Aside0.mk hi320_0
          have HC320_0 := Aside0.mk hl320_0
          clear hi320_0 hl320_0
          obtain ⟨p320, q320⟩ := eT p320 q320
          go_wp2_with (first | ((with_reducible refine gate_callee (f := 109) rfl ?_); refine gL (some 110) Try.func109 #[.int .i64 60, .int .i64 ((rd_T92 x10_4 x17_4).f1)] ?_; (with_reducible refine (spec_Min.calls 60 ((rd_T92 x10_4 x17_4).f1) t321 _ A42.out).mono ?_); rintro e w' ⟨rfl, ⟨nd, rfl⟩⟩; refine ⟨_, rfl, ?_⟩; (try (rw [drewN_self wr]; generalize hq_ : World.drewN wr _ = wr; have n0_ : Aside0 (Kd.R (Kd.int .i64) 3 wr w.heap.size (n1 (.slice (some ad320) x10_4.length co44)) (.slice A320_0 ((rd_T92 x10_4 x17_4).f0).length c320_0) ((rd_T92 x10_4 x17_4).f0)) := ⟨by rw [← hq_]; exact (by (with_reducible repeat (first | apply Kd.R_alloc | apply Kd.R_drewN | apply Kd.R_drew)); exact Kd.R_mono HL320_0.out (fun _ hk => hk.2))⟩; have n1_ : Aside0 (Kd.S k92 92 wr w.heap.size (fun _ => True) (.slice (some ad320) x10_4.length co44) x10_4) := ⟨by rw [← hq_]; exact (sK HO_10)⟩; have n2_ : Aside0 (Below w.heap.size w wr) := ⟨by rw [← hq_]; exact bA⟩; have n3_ : Aside0 (Kd.C (Kd.int .i64) wr A320_0 ((rd_T92 x10_4 x17_4).f0).length ((rd_T92 x10_4 x17_4).f0)) := ⟨by rw [← hq_]; exact (by repeat (first | (with_reducible exact HR320_0.out) | (with_reducible refine Kd.C_alloc ?_ _) | (with_reducible refine Kd.C_drewN ?_ _) | (with_reducible refine Kd.C_drew ?_) | exact HR320_0.out))⟩; clear HL320_0 HO_10 HB HR320_0 hq_; have HL320_0 := n0_; have HO_10 := n1_; have HB := n2_; have HR320_0 := n3_; clear n0_ n1_ n2_ n3_)); have p43 : 0 ≤ (x17_4 : Int) := dA; have q43 : (x17_4 : Int) < ((x10_4.length : Int) : Int) := dA; obtain ⟨go43, co43, eo43, gb43, gl43, cl43, HG43⟩ := Kd.S_form HO_10.out (by omega); (first | cases eo43 | (injection eo43 with ea_ en_ ec_; (first | subst ea_ | (injection ea_ with ea_; subst ea_)); subst ec_; clear en_)); have GB43 := Aside0.mk gb43; have GG43 := Aside0.mk HG43; clear gb43 gl43 HG43; (first | simp only [add_plain] at hx320_0 | skip); (first | simp only [add_plain] at hx320_1 | skip); obtain ⟨_, ce43, hcl43, hM43, hcc43, hfr43, _, _⟩ := Kd.S_elem HO_10.out z92 (x17_4 : Int) p43 q43; obtain ⟨ve43_0, rfl, ge43_0⟩ := k92_openM hM43; have hx43_0 : wr.cell? ⟨go43, (x17_4 : Int).toNat * 2, none⟩ = some (ve43_0) := hcc43 0 _ rfl; have hx43_1 : wr.cell? ⟨go43, (x17_4 : Int).toNat * 2 + 1, none⟩ = some (.int .i64 ((rd_T92 x10_4 x17_4).f1)) := hcc43 1 _ rfl; have hf43_0 : wr.frozen? ⟨go43, (x17_4 : Int).toNat * 2, none⟩ = false := hfr43 0; have hf43_1 : wr.frozen? ⟨go43, (x17_4 : Int).toNat * 2 + 1, none⟩ = false := hfr43 1; clear hcl43 hcc43 hfr43 hM43; replace p43 := eq_true p43; replace q43 := eq_true q43; have HX45 := Aside0.mk (show Kd.S k92 92 wr w.heap.size (fun k_ => ((fun _ => True)) k_ ∧ ¬ ((fun _ => False)) k_) (.slice (some ⟨go43, 0, none⟩) x10_4.length co44) x10_4 from (sm HO_10 (fun k_ hk => ⟨trivial, fun e_ => e_⟩))); obtain ⟨oki45, ce45, hcl45, hM45, hcc45, hfr45, hoki45, hH45⟩ := Kd.S_elem HX45.out z92 (x17_4 : Int) (dA) (by have h_ : (x17_4 : Int) < ((x10_4.length : Int) : Int) := dA; first | exact h_ | (have e_ := (Kd.S_reads' HO_10.out).1; omega) | simpa using h_); obtain ⟨ve45_0, rfl, ge45_0⟩ := k92_openM hM45; have HP45 := Kd.S_seg hH45 (dA) (by have h_ : (x17_4 : Int) < ((x10_4.length : Int) : Int) := dA; first | exact h_ | (have e_ := (Kd.S_reads' HO_10.out).1; omega) | simpa using h_) (seg := [.int .i64 t321]) (j := 1) (show 2 ≤ 2 from by decide) (x' := (⟨(rd_T92 x10_4 x17_4).f0, t321⟩ : S92)) (k92_mkM _ _ _ (⟨(rd_T92 x10_4 x17_4).f0, t321⟩ : S92) (Kd.R_mono ge45_0 (fun _ h_ => Or.inl h_))) (fun _ hk => hk) (fun k_ hk_ => hk_.elim); have hx45_1 := hcc45 1 _ rfl; (try simp only [show (k92).sz = 2 from rfl, Nat.mul_one, Nat.add_zero] at hx45_1); have hf45_1 := hfr45 1; (try simp only [show (k92).sz = 2 from rfl, Nat.mul_one, Nat.add_zero] at hf45_1); clear hcl45 hcc45 hfr45 hM45 hoki45 hH45) | ((with_reducible refine gate_store (t := 3) (p := 112) rfl ?_); refine store_event (t := 3) (p := 112) (v := ?vo_w46) (w1 := (wr.setCell ⟨go43, (x17_4 : Int).toNat * 2 + 1, none⟩ (.int .i64 t321))) ?hg ?ho ?hn ?hr ?_; (case ho => rfl); (case hg => rfl); (case hn => rfl); (case hr => first | (go_simp; done) | (go_simp; rfl)); intro w46 hw; have hg : wr.grownBy w46 (some go43) := (by rw [hw]; exact HP45.2); have hp_ : Kd.S k92 92 w46 w.heap.size (fun _ => True) (.slice (some ⟨go43, 0, none⟩) x10_4.length co44) y322 := (by rw [hw, Ny322.out]; exact HP45.1); clear HP45; have n0_ := Aside0.mk (hp_); have n1_ := Aside0.mk (Kd.R_after (v := (.slice (some ⟨go43, 0, none⟩) x10_4.length co44)) (v1 := (.slice (some ⟨go43, 0, none⟩) x10_4.length co44)) (ok := (fun _ => True)) (by (with_reducible repeat (first | apply Kd.R_alloc | apply Kd.R_drewN | apply Kd.R_drew)); first | exact HL320_0.out | exact Kd.R_mono HL320_0.out (fun _ hk => ⟨trivial, hk⟩)) hg (.inl rfl)); have n2_ := Aside0.mk ((by rw [hw]; exact below_set (HB.out) GB43.out : Below w.heap.size w w46)); clear HO_10; clear HL320_0; clear HB; have HO_10 := n0_; have HL320_0 := n1_; have HB := n2_; clear n0_ n1_ n2_; clear hg hw hp_))
          go_roundg k4
          case measure => have := HJ6.out; have := HK2.out; have := HK3.out; have := HK4.out; omega
          case rel => exact ⟨(y322), (wrap64 (x17_4 + 1)), rS, H', ⟨by have := HJ6.out; have := HK2.out; have := HK3.out; have := HK4.out; omega⟩, ⟨sK HO_10⟩, ⟨bA⟩⟩
         rw [if_neg c28] at H
         have c28b0 := decide_eq_false c28
         clear c28
         simp only [Option.some.injEq, Prod.mk.injEq] at H
         obtain ⟨rfl, rfl⟩ := H
         go_wp2
         go_ret2
         exact ⟨_, rA, sK HO_10, bA⟩

/-! ### laws_toDetector: function 110 -/
def laws_toDetector.f (a0_0 : Int) (a0_1 : Int) (a0_2 : Int) (a0_3 : Bool) : Option (Int × Int × Int × Bool) := some (a0_0, a0_1, a0_2, a0_3)
set_option maxHeartbeats 8000000 in
set_option maxRecDepth 100000 in
theorem laws_toDetector.calls (a0_0 : Int) (a0_1 : Int) (a0_2 : Int) (a0_3 : Bool) (r1 : Int) (r2 : Int) (r3 : Int) (r4 : Bool) (w : World) (h : laws_toDetector.f a0_0 a0_1 a0_2 a0_3 = some (r1, r2, r3, r4)) :
  Calls Try.prog 110 #[.agg #[.int .i64 a0_0, .int .i64 a0_1, .int .i64 a0_2, .bool a0_3]] w fun e w' => e = .returned (.agg #[.int .i64 r1, .int .i64 r2, .int .i64 r3, .bool r4]) ∧ Below w.heap.size w w' := by
 have hu130 := Try.underlying130
 have hu128 := Try.underlying128
 have HB := Aside0.mk (Below.refl w.heap.size w)
 have H : (some (a0_0, a0_1, a0_2, a0_3)) = some (r1, r2, r3, r4) := h
 clear h
 simp only [Option.some.injEq, Prod.mk.injEq] at H
 obtain ⟨rfl, rfl, rfl, rfl⟩ := H
 go_enter Try.func110, Try.ntmps110
 go_wp2_with (first | ((with_reducible refine gate_dst (N := 1) rfl ?_); refine bE (N := 1) (cs := #[.int .i64 a0_0, .int .i64 a0_1, .int .i64 a0_2, .bool a0_3]) (t := 130) ?_; intro gb323 hg w2 hbox hb; have BK323 := Aside0.mk (hbox); have GW323 := gw w hg; have GE323 := gw w hg; replace HB := bs HB hb; clear hb hbox hg) | ((with_reducible refine gate_dst (N := 2) rfl ?_); refine bE (N := 2) (cs := #[.int .i64 0, .int .i64 0, .int .i64 0, .bool false]) (t := 128) ?_; intro gb324 hg w3 hbox hb; have BK324 := Aside0.mk (hbox); have GW324 := gw w hg; have GE324 := gw w hg; replace HB := bs HB hb; have NB323_324 := nl BK323 hg; have NB324_323 := nr BK323 hg; replace BK323 := kb BK323 hb; clear hb hbox hg) | ((with_reducible refine gate_dst (N := 3) rfl ?_); refine bE (N := 3) (cs := #[.int .i64 0, .int .i64 0, .int .i64 0, .bool false]) (t := 128) ?_; intro gb325 hg w4 hbox hb; have BK325 := Aside0.mk (hbox); have GW325 := gw w hg; have GE325 := gw w hg; replace HB := bs HB hb; have NB323_325 := nl BK323 hg; have NB325_323 := nr BK323 hg; replace BK323 := kb BK323 hb; have NB324_325 := nl BK324 hg; have NB325_324 := nr BK324 hg; replace BK324 := kb BK324 hb; clear hb hbox hg; have hnb5 := NB323_324.out; have hnc5 := NB324_323.out; have hnb6 := NB323_325.out; have hnc6 := NB325_323.out; obtain ⟨_, _, _, _, _, _, _, _⟩ := blkc4 BK323; have hnb8 := NB325_324.out; have hnc8 := NB324_325.out; obtain ⟨_, _, _, _, _, _, _, _⟩ := blkc4 BK325; obtain ⟨_, _, _, _, _, _, _, _⟩ := blkc4 BK324))
 refine bodyPost_ret (results_cell_row rfl _ _ gb324 128 #[.int .i64 a0_0, .int .i64 a0_1, .int .i64 a0_2, .bool a0_3] (0, 0) _ rfl (kP BK324 NB324_325) Try.underlying128 rfl (by kernel_rfl)) rfl ?_
 exact ⟨rA, bG⟩

/-! ### laws_toDetectorS: function 56 -/
def laws_toDetectorS.l0 : Nat → List (S130) → List (S128) → Int → Option ((List (S128)))
 | 0, _, _, _ => none
 | k + 1, x0, x3, x4 => if x4 < (x0.length : Int) then (if 0 ≤ x4 then ((laws_toDetector.f ((rd_T130 x0 x4).f0) ((rd_T130 x0 x4).f1) ((rd_T130 x0 x4).f2) ((rd_T130 x0 x4).f3)).bind fun bt330 => (if x4 < (x3.length : Int) then (laws_toDetectorS.l0 k x0 (x3.set (x4 : Int).toNat (⟨bt330.1, bt330.2.1, bt330.2.2.1, bt330.2.2.2⟩ : S128)) (wrap64 (x4 + 1))) else (none))) else (none)) else (some x3)
def laws_toDetectorS.f (k : Nat) (l0 : List (S130)) : Option ((List (S128))) := if 0 ≤ (l0.length : Int) then (if ((l0.length : Int) : Int).toNat ≤ 8796093022208 then (laws_toDetectorS.l0 k l0 (List.replicate ((l0.length : Int) : Int).toNat z128) 0) else (none)) else (none)
theorem laws_toDetectorS.mono_l : ∀ k, (∀ y0 y1 y2, LeO (laws_toDetectorS.l0 k y0 y1 y2) (laws_toDetectorS.l0 (k + 1) y0 y1 y2))
 | 0 => fun _ _ _ r h => by simp [laws_toDetectorS.l0] at h
 | k + 1 => by
  have ih0 := laws_toDetectorS.mono_l k
  ·
   intro y0 y1 y2
   unfold laws_toDetectorS.l0
   exact mz1 ih0
theorem laws_toDetectorS.mono : ∀ a0 k, LeO (laws_toDetectorS.f k a0) (laws_toDetectorS.f (k + 1) a0) := by
 intro a0 k
 have ih0 := laws_toDetectorS.mono_l k
 unfold laws_toDetectorS.f
 exact mz1 ih0
set_option maxHeartbeats 8000000 in
set_option maxRecDepth 100000 in
theorem laws_toDetectorS.calls (k : Nat) (A0 : Option Addr) (c0 : Nat) (l0 : List (S130)) (r : List (S128)) (w : World) (hr0 : Kd.C k130 w A0 l0.length l0) (hc0 : l0.length ≤ c0) (h : laws_toDetectorS.f k l0 = some r) :
  Calls Try.prog 56 #[.slice A0 l0.length c0] w fun e w' => ∃ v0_ : Value, e = .returned (v0_) ∧ Kd.R k128 128 w' w.heap.size (fun _ => True) v0_ r ∧ Below w.heap.size w w' := by
 have hu130 := Try.underlying130
 have hu128 := Try.underlying128
 have HR0 := Aside0.mk hr0
 have HC0 := Aside0.mk hc0
 clear hr0 hc0
 have HB := Aside0.mk (Below.refl w.heap.size w)
 have H : (if 0 ≤ (l0.length : Int) then (if ((l0.length : Int) : Int).toNat ≤ 8796093022208 then (laws_toDetectorS.l0 k l0 (List.replicate ((l0.length : Int) : Int).toNat z128) 0) else (none)) else (none)) = some r := h
 clear h
 have c2 : 0 ≤ (l0.length : Int) := ifN H
 replace H := ifT H
 have c2b0 := eq_true c2
 have c2b1 := decide_eq_true c2
 clear c2
 have c3 : ((l0.length : Int) : Int).toNat ≤ 8796093022208 := ifN H
 replace H := ifT H
 have c3b0 := eq_true c3
 have c3b1 := decide_eq_true c3
 clear c3
 obtain ⟨y326, hy326⟩ : ∃ y_ : List (S128), y_ = (List.replicate ((l0.length : Int) : Int).toNat z128) := ⟨_, rfl⟩
 replace H : (laws_toDetectorS.l0 k l0 y326 0) = some r := rH H hy326
 have Ny326 := Aside0.mk hy326
 clear hy326
 have H' := Aside0.mk H
 clear H
 go_enter Try.func56, Try.ntmps56
 go_wp2_with (first | ((with_reducible refine gate_dst (N := 7) rfl ?_); refine Kd.R_make k128 _ 128 rfl (N := 7) rfl 78 _ _ rfl (l0.length : Int) rfl rfl Try.underlying78 (.agg #[(.int .i64 0), (.int .i64 0), (.int .i64 0), (.bool false)]) 32 info128 rfl (by decide) (by omega) z128 (ok := fun _ => True) (okp := fun _ => True) (k128_mkM _ _ _ z128 ) (fun _ hk => hk) trivial (dA) (Nat.le_trans (Nat.mul_le_mul_right _ (dA : (l0.length : Int).toNat ≤ 8796093022208)) (by omega)) (Below.refl _ _) (Nat.le_refl _) ?_; intro v327 w4 ho5 hb hg_ hnew_; clear hg_ hnew_; (first | rw [← Ny326.out] at ho5 | (simp only [Int.reduceToNat] at ho5; rw [← Ny326.out] at ho5)); have HO328 := rl w ho5; replace HB := bs HB hb; clear hb ho5))
 go_loopg [4] k (fun kq v4 w' => ∃ (x3_1 : List (S128)) (x4_1 : Int), v4 = .int .i64 x4_1 ∧ Aside0 (laws_toDetectorS.l0 kq l0 x3_1 x4_1 = some r) ∧ Aside0 (kq ≤ k) ∧ Aside0 (Kd.R k128 128 w' w.heap.size (fun _ => True) v327 x3_1) ∧ Aside0 (Below w.heap.size w w'))
 case atStart => exact ⟨(y326), (0), rS, H', ⟨Nat.le_refl _⟩, ⟨rK HO328⟩, ⟨bA⟩⟩
 case round =>
  clear H'
  obtain ⟨x3_1, x4_1, rfl, HA, HK1, HO_3, HB⟩ := hrel
  cases gk with
  | zero => exact absurd HA.out (by simp [laws_toDetectorS.l0])
  | succ k1 =>
   have H := HA.out
   clear HA
   simp only [laws_toDetectorS.l0] at H
   by_cases c6 : x4_1 < (l0.length : Int)
   ·
    rw [if_pos c6] at H
    have c6b0 := decide_eq_true c6
    clear c6
    have c7 : 0 ≤ x4_1 := ifN H
    replace H := ifT H
    have c7b0 := decide_eq_true c7
    clear c7
    obtain ⟨⟨t330, t331, t332, t333⟩, A8, H⟩ := bindE H
    try dsimp only at H
    have c9 : x4_1 < (x3_1.length : Int) := ifN H
    replace H := ifT H
    have c9b0 := decide_eq_true c9
    clear c9
    obtain ⟨y334, hy334⟩ : ∃ y_ : List (S128), y_ = (x3_1.set (x4_1 : Int).toNat (⟨t330, t331, t332, t333⟩ : S128)) := ⟨_, rfl⟩
    replace H : (laws_toDetectorS.l0 k1 l0 y334 (wrap64 (x4_1 + 1))) = some r := rH H hy334
    have Ny334 := Aside0.mk hy334
    clear hy334
    have H' := Aside0.mk H
    clear H
    obtain ⟨p329, q329⟩ : 0 ≤ (x4_1 : Int) ∧ x4_1 < (l0.length : Int) := ⟨dA, dA⟩
    obtain ⟨ad329, e329, hx329_0, hx329_1, hx329_2, hx329_3⟩ := at_T130 (Kd.C_below HR0.out HB.out) x4_1 p329 q329
    cases e329
    obtain ⟨p329, q329⟩ := eT p329 q329
    go_wp2_with (first | ((with_reducible refine gate_callee (f := 110) rfl ?_); refine gL (some 20) Try.func110 #[.agg #[.int .i64 ((rd_T130 l0 x4_1).f0), .int .i64 ((rd_T130 l0 x4_1).f1), .int .i64 ((rd_T130 l0 x4_1).f2), .bool ((rd_T130 l0 x4_1).f3)]] ?_; (with_reducible refine (laws_toDetector.calls ((rd_T130 l0 x4_1).f0) ((rd_T130 l0 x4_1).f1) ((rd_T130 l0 x4_1).f2) ((rd_T130 l0 x4_1).f3) t330 t331 t332 t333 _ A8.out).mono ?_); rintro e w11 ⟨rfl, hb⟩; refine ⟨_, rfl, ?_⟩; replace HO_3 := rb HO_3 hb; replace HB := bs HB hb; (try clear hb); have p10 : 0 ≤ (x4_1 : Int) := dA; have q10 : (x4_1 : Int) < ((x3_1.length : Int) : Int) := dA; obtain ⟨go10, co10, eo10, gb10, gl10, cl10, HG10⟩ := Kd.R_form HO_3.out (by omega); (first | cases eo10 | (injection eo10 with ea_ en_ ec_; (first | subst ea_ | (injection ea_ with ea_; subst ea_)); subst ec_; clear en_)); have GB10 := Aside0.mk gb10; have GG10 := Aside0.mk HG10; clear gb10 gl10 HG10; obtain ⟨ce10, hcl10, hM10, hcc10, hfr10⟩ := Kd.R_elem HO_3.out z128 (x4_1 : Int) p10 q10; obtain rfl := k128_openM hM10; have hx10_0 : w11.cell? ⟨go10, (x4_1 : Int).toNat * 4, none⟩ = some (.int .i64 ((rd_T128 x3_1 x4_1).f0)) := hcc10 0 _ rfl; have hx10_1 : w11.cell? ⟨go10, (x4_1 : Int).toNat * 4 + 1, none⟩ = some (.int .i64 ((rd_T128 x3_1 x4_1).f1)) := hcc10 1 _ rfl; have hx10_2 : w11.cell? ⟨go10, (x4_1 : Int).toNat * 4 + 2, none⟩ = some (.int .i64 ((rd_T128 x3_1 x4_1).f2)) := hcc10 2 _ rfl; have hx10_3 : w11.cell? ⟨go10, (x4_1 : Int).toNat * 4 + 3, none⟩ = some (.bool ((rd_T128 x3_1 x4_1).f3)) := hcc10 3 _ rfl; have hf10_0 : w11.frozen? ⟨go10, (x4_1 : Int).toNat * 4, none⟩ = false := hfr10 0; have hf10_1 : w11.frozen? ⟨go10, (x4_1 : Int).toNat * 4 + 1, none⟩ = false := hfr10 1; have hf10_2 : w11.frozen? ⟨go10, (x4_1 : Int).toNat * 4 + 2, none⟩ = false := hfr10 2; have hf10_3 : w11.frozen? ⟨go10, (x4_1 : Int).toNat * 4 + 3, none⟩ = false := hfr10 3; clear hcl10 hcc10 hfr10 hM10; replace p10 := eq_true p10; replace q10 := eq_true q10; have HX12 := Aside0.mk (show Kd.R k128 128 w11 w.heap.size (fun _ => True) (.slice (some ⟨go10, 0, none⟩) x3_1.length co10) x3_1 from (rK HO_3)); obtain ⟨ce12, hcl12, hM12, hcc12, hfr12⟩ := Kd.R_elem HX12.out z128 (x4_1 : Int) (dA) (by have h_ : (x4_1 : Int) < ((x3_1.length : Int) : Int) := dA; first | exact h_ | (have e_ := (Kd.R_reads' HO_3.out).1; omega) | simpa using h_); obtain rfl := k128_openM hM12; have HP12 := Kd.R_seg HX12.out (x4_1 : Int) (dA) (by have h_ : (x4_1 : Int) < ((x3_1.length : Int) : Int) := dA; first | exact h_ | (have e_ := (Kd.R_reads' HO_3.out).1; omega) | simpa using h_) (seg := [.int .i64 t330, .int .i64 t331, .int .i64 t332, .bool t333]) (j := 0) hcl12 hcc12 (show 4 ≤ 4 from by decide) (x' := (⟨t330, t331, t332, t333⟩ : S128)) (k128_mkM _ _ _ (⟨t330, t331, t332, t333⟩ : S128) ) (fun _ hk => hk); have hx12_0 := hcc12 0 _ rfl; (try simp only [show (k128).sz = 4 from rfl, Nat.mul_one, Nat.add_zero] at hx12_0); have hf12_0 := hfr12 0; (try simp only [show (k128).sz = 4 from rfl, Nat.mul_one, Nat.add_zero] at hf12_0); have hx12_1 := hcc12 1 _ rfl; (try simp only [show (k128).sz = 4 from rfl, Nat.mul_one, Nat.add_zero] at hx12_1); have hf12_1 := hfr12 1; (try simp only [show (k128).sz = 4 from rfl, Nat.mul_one, Nat.add_zero] at hf12_1); have hx12_2 := hcc12 2 _ rfl; (try simp only [show (k128).sz = 4 from rfl, Nat.mul_one, Nat.add_zero] at hx12_2); have hf12_2 := hfr12 2; (try simp only [show (k128).sz = 4 from rfl, Nat.mul_one, Nat.add_zero] at hf12_2); have hx12_3 := hcc12 3 _ rfl; (try simp only [show (k128).sz = 4 from rfl, Nat.mul_one, Nat.add_zero] at hx12_3); have hf12_3 := hfr12 3; (try simp only [show (k128).sz = 4 from rfl, Nat.mul_one, Nat.add_zero] at hf12_3); clear hcl12 hcc12 hfr12 hM12) | ((with_reducible refine gate_store (t := 128) (p := 21) rfl ?_); refine store_event (t := 128) (p := 21) (v := ?vo_w13) (w1 := ((((w11.setCell ⟨go10, (x4_1 : Int).toNat * 4, none⟩ (.int .i64 t330)).setCell ⟨go10, (x4_1 : Int).toNat * 4 + 1, none⟩ (.int .i64 t331)).setCell ⟨go10, (x4_1 : Int).toNat * 4 + 2, none⟩ (.int .i64 t332)).setCell ⟨go10, (x4_1 : Int).toNat * 4 + 3, none⟩ (.bool t333))) ?hg ?ho ?hn ?hr ?_; (case ho => rfl); (case hg => rfl); (case hn => rfl); (case hr => first | (go_simp; done) | (go_simp; rfl)); intro w13 hw; have hg : w11.grownBy w13 (some go10) := (by rw [hw]; exact HP12.2); have hp_ : Kd.R k128 128 w13 w.heap.size (fun _ => True) (.slice (some ⟨go10, 0, none⟩) x3_1.length co10) y334 := (by rw [hw, Ny334.out]; exact HP12.1); clear HP12; have n0_ := Aside0.mk (hp_); have n1_ := Aside0.mk ((by rw [hw]; exact below_set (below_set (below_set (below_set (HB.out) GB10.out) GB10.out) GB10.out) GB10.out : Below w.heap.size w w13)); clear HO_3; clear HB; have HO_3 := n0_; have HB := n1_; clear n0_ n1_; clear hg hw hp_))
    go_roundg k1
    case measure => have := HK1.out; omega
    case rel => exact ⟨(y334), (wrap64 (x4_1 + 1)), rS, H', ⟨by have := HK1.out; omega⟩, ⟨rK HO_3⟩, ⟨bA⟩⟩
   rw [if_neg c6] at H
   have c6b0 := decide_eq_false c6
   clear c6
   obtain rfl := Option.some.inj H
   go_wp2
   go_ret
   exact ⟨_, rA, rK HO_3, bA⟩

end Go.Proofs.Ytdkmmefmhfbgkaa.P
