/- Printed by myprint.py (wip/tools) over the kit's print: what Go's functions compute, and that they do. Lean checks it. -/
import Derived.Test.YtbpnbflfpgakmaaF0
import Derived.Test.YtbpnbflfpgakmaaFX00
namespace Go.Proofs.Ytbpnbflfpgakmaa.P
open Go.RowKit Go.Proofs.YtbpnbflfpgakmaaW.PrintWords Go.Proofs.YtbpnbflfpgakmaaW.PrintLast Go.Proofs.YtbpnbflfpgakmaaW.PrintMore Go.Proofs.Ytbpnbflfpgakmaa.Sq
attribute [local go_sem] max2_int min2_int max_two min_two max_three min_three max_four min_four
set_option linter.unusedVariables false
set_option linter.unusedSimpArgs false

/-! ### spec_IsTogether: function 52 -/
mutual
def spec_IsTogether.l0 : Nat → List (S58) → List Int → Int → Option (Bool)
 | 0, _, _, _ => none
 | k + 1, x0, x1, x5 => if x5 < (x1.length : Int) then (if 0 ≤ x5 then ((spec_FindPath.f k x0 (rd x1 x5)).bind fun t180 => (if t180 < 0 then (spec_IsTogether.j1 k x0 x1 x5 t180 true) else (if x5 > 0 then (if 0 ≤ (wrap64 (x5 - 1)) then (if (wrap64 (x5 - 1)) < (x1.length : Int) then (spec_IsTogether.j1 k x0 x1 x5 t180 (decide ((rd x1 (wrap64 (x5 - 1))) ≥ (rd x1 x5)))) else (none)) else (none)) else (spec_IsTogether.j1 k x0 x1 x5 t180 false)))) else (none)) else ((spec_ArePaths.f k x0).bind fun t178 => (some t178))
def spec_IsTogether.j1 : Nat → List (S58) → List Int → Int → Int → Bool → Option (Bool)
 | 0, _, _, _, _, _ => none
 | k + 1, x0, x1, x5, x6, x37 => if x37 = true then (some false) else (spec_IsTogether.l1 k x0 x1 x5 x6 0)
def spec_IsTogether.l1 : Nat → List (S58) → List Int → Int → Int → Int → Option (Bool)
 | 0, _, _, _, _, _ => none
 | k + 1, x0, x1, x5, x6, x7 => if x7 < x5 then (if 0 ≤ x6 then (if x6 < (x0.length : Int) then (if 0 ≤ x7 then (if x7 < (x1.length : Int) then ((spec_FindPath.f k x0 (rd x1 x7)).bind fun t185 => (if 0 ≤ t185 then (if t185 < (x0.length : Int) then ((spec_Conflict.f k ((rd_T58 x0 x6).f0) ((rd_T58 x0 x6).f1) ((rd_T58 x0 x6).f2) ((rd_T58 x0 x6).f3) ((rd_T58 x0 t185).f0) ((rd_T58 x0 t185).f1) ((rd_T58 x0 t185).f2) ((rd_T58 x0 t185).f3)).bind fun t187 => (if t187 = true then (some false) else (spec_IsTogether.l1 k x0 x1 x5 x6 (wrap64 (x7 + 1))))) else (none)) else (none))) else (none)) else (none)) else (none)) else (none)) else (spec_IsTogether.l0 k x0 x1 (wrap64 (x5 + 1)))
end
def spec_IsTogether.f (k : Nat) (l0 : List (S58)) (l1 : List Int) : Option (Bool) := spec_IsTogether.l0 k l0 l1 0
theorem spec_IsTogether.mono_l : ∀ k, (∀ y0 y1 y2, LeO (spec_IsTogether.l0 k y0 y1 y2) (spec_IsTogether.l0 (k + 1) y0 y1 y2)) ∧ (∀ y0 y1 y2 y3 y4, LeO (spec_IsTogether.j1 k y0 y1 y2 y3 y4) (spec_IsTogether.j1 (k + 1) y0 y1 y2 y3 y4)) ∧ (∀ y0 y1 y2 y3 y4, LeO (spec_IsTogether.l1 k y0 y1 y2 y3 y4) (spec_IsTogether.l1 (k + 1) y0 y1 y2 y3 y4))
 | 0 => ⟨fun _ _ _ r h => by simp [spec_IsTogether.l0] at h, fun _ _ _ _ _ r h => by simp [spec_IsTogether.j1] at h, fun _ _ _ _ _ r h => by simp [spec_IsTogether.l1] at h⟩
 | k + 1 => by
  obtain ⟨ih0, ih1, ih2⟩ := spec_IsTogether.mono_l k
  refine ⟨?_, ?_, ?_⟩
  ·
   intro y0 y1 y2
   unfold spec_IsTogether.l0
   repeat' first | (with_reducible first | exact LeO.refl _ | exact LeO.none _ | refine LeO.ite ?_ ?_ | refine LeO.bind ?_ (fun _ => ?_) | exact ih0 _ _ _ | exact ih1 _ _ _ _ _ | exact ih2 _ _ _ _ _ | exact spec_ArePaths.mono _ _ | exact spec_Conflict.mono _ _ _ _ _ _ _ _ _ | exact spec_FindPath.mono _ _ _) | exact LeO.none _ | refine LeO.ite ?_ ?_ | refine LeO.bind ?_ (fun _ => ?_) | exact ih0 _ _ _ | exact ih1 _ _ _ _ _ | exact ih2 _ _ _ _ _ | exact spec_ArePaths.mono _ _ | exact spec_Conflict.mono _ _ _ _ _ _ _ _ _ | exact spec_FindPath.mono _ _ _
  ·
   intro y0 y1 y2 y3 y4
   unfold spec_IsTogether.j1
   repeat' first | (with_reducible first | exact LeO.refl _ | exact LeO.none _ | refine LeO.ite ?_ ?_ | refine LeO.bind ?_ (fun _ => ?_) | exact ih0 _ _ _ | exact ih1 _ _ _ _ _ | exact ih2 _ _ _ _ _ | exact spec_ArePaths.mono _ _ | exact spec_Conflict.mono _ _ _ _ _ _ _ _ _ | exact spec_FindPath.mono _ _ _) | exact LeO.none _ | refine LeO.ite ?_ ?_ | refine LeO.bind ?_ (fun _ => ?_) | exact ih0 _ _ _ | exact ih1 _ _ _ _ _ | exact ih2 _ _ _ _ _ | exact spec_ArePaths.mono _ _ | exact spec_Conflict.mono _ _ _ _ _ _ _ _ _ | exact spec_FindPath.mono _ _ _
  ·
   intro y0 y1 y2 y3 y4
   unfold spec_IsTogether.l1
   repeat' first | (with_reducible first | exact LeO.refl _ | exact LeO.none _ | refine LeO.ite ?_ ?_ | refine LeO.bind ?_ (fun _ => ?_) | exact ih0 _ _ _ | exact ih1 _ _ _ _ _ | exact ih2 _ _ _ _ _ | exact spec_ArePaths.mono _ _ | exact spec_Conflict.mono _ _ _ _ _ _ _ _ _ | exact spec_FindPath.mono _ _ _) | exact LeO.none _ | refine LeO.ite ?_ ?_ | refine LeO.bind ?_ (fun _ => ?_) | exact ih0 _ _ _ | exact ih1 _ _ _ _ _ | exact ih2 _ _ _ _ _ | exact spec_ArePaths.mono _ _ | exact spec_Conflict.mono _ _ _ _ _ _ _ _ _ | exact spec_FindPath.mono _ _ _
theorem spec_IsTogether.mono : ∀ a0 a1 k, LeO (spec_IsTogether.f k a0 a1) (spec_IsTogether.f (k + 1) a0 a1) := by
 intro a0 a1 k
 obtain ⟨ih0, ih1, ih2⟩ := spec_IsTogether.mono_l k
 unfold spec_IsTogether.f
 repeat' first | (with_reducible first | exact LeO.refl _ | exact LeO.none _ | refine LeO.ite ?_ ?_ | refine LeO.bind ?_ (fun _ => ?_) | exact ih0 _ _ _ | exact ih1 _ _ _ _ _ | exact ih2 _ _ _ _ _ | exact spec_ArePaths.mono _ _ | exact spec_Conflict.mono _ _ _ _ _ _ _ _ _ | exact spec_FindPath.mono _ _ _) | exact LeO.none _ | refine LeO.ite ?_ ?_ | refine LeO.bind ?_ (fun _ => ?_) | exact ih0 _ _ _ | exact ih1 _ _ _ _ _ | exact ih2 _ _ _ _ _ | exact spec_ArePaths.mono _ _ | exact spec_Conflict.mono _ _ _ _ _ _ _ _ _ | exact spec_FindPath.mono _ _ _
def spec_IsTogether.T5 : Bool × List (List Nat × List Nat) := (true, [([], []), ([0], [0]), ([1], [1]), ([2], [2]), ([3, 2], [2, 3]), ([4, 2, 2], [2, 4]), ([5], [5]), ([5], [5]), ([7, 5], [5, 7]), ([6, 8, 5], [5, 6, 8]), ([9, 5], [5, 9]), ([5], [5]), ([5], [5]), ([11, 12, 5], [5, 11, 12]), ([13, 5], [5, 13]), ([10, 14, 5], [5, 10, 14]), ([5, 15, 2], [2, 5, 15]), ([2, 16], [2, 16])])
def spec_IsTogether.B5 : List Nat := [0, 1, 3, 7, 15, 31, 63, 63, 191, 511, 1023, 63, 63, 6207, 14399, 32767, 65535, 131071]
theorem spec_IsTogether.tab5 : rtab .any (opsOf Try.f52 5) = spec_IsTogether.T5 := by kernel_rfl
theorem spec_IsTogether.bits5 : waitsOk spec_IsTogether.T5.2 spec_IsTogether.B5 = true := by kernel_rfl
def spec_IsTogether.T10 : Bool × List (List Nat × List Nat) := (true, [([], []), ([], []), ([0, 1], [0, 1]), ([2], [2]), ([], []), ([], []), ([], []), ([], []), ([6, 7], [6, 7]), ([8], [8]), ([5, 9], [5, 9]), ([4, 10], [4, 10]), ([11], [11]), ([3, 12, 10], [3, 12])])
def spec_IsTogether.B10 : List Nat := [0, 0, 3, 7, 0, 0, 0, 0, 192, 448, 992, 2032, 4080, 8191]
theorem spec_IsTogether.tab10 : rtab .any (opsOf Try.f52 10) = spec_IsTogether.T10 := by kernel_rfl
theorem spec_IsTogether.bits10 : waitsOk spec_IsTogether.T10.2 spec_IsTogether.B10 = true := by kernel_rfl
set_option maxHeartbeats 8000000 in
set_option maxRecDepth 100000 in
theorem spec_IsTogether.calls (k : Nat) (A0 : Option Addr) (c0 : Nat) (l0 : List (S58)) (A1 : Option Addr) (c1 : Nat) (l1 : List Int) (r : Bool) (w : World) (hr0 : Kd.C k58 w A0 l0.length l0) (hc0 : l0.length ≤ c0) (hr1 : Kd.C (Kd.int .i64) w A1 l1.length l1) (hc1 : l1.length ≤ c1) (h : spec_IsTogether.f k l0 l1 = some r) :
  Calls Try.prog 52 #[.slice A0 l0.length c0, .slice A1 l1.length c1] w fun e w' => e = .returned (.bool r) ∧ Below w.heap.size w w' := by
 have hu58 := Try.underlying58
 have HR0 := Aside0.mk hr0
 have HC0 := Aside0.mk hc0
 clear hr0 hc0
 have HR1 := Aside0.mk hr1
 have HC1 := Aside0.mk hc1
 clear hr1 hc1
 have HB := Aside0.mk (Below.refl w.heap.size w)
 have H : (spec_IsTogether.l0 k l0 l1 0) = some r := h
 clear h
 have H' := Aside0.mk H
 clear H
 go_enter Try.func52, Try.ntmps52
 go_wp2
 go_loopg [5] k (fun kq v5 w' => ∃ (x5_1 : Int), v5 = .int .i64 x5_1 ∧ Aside0 (spec_IsTogether.l0 kq l0 l1 x5_1 = some r) ∧ Aside0 (kq ≤ k) ∧ Aside0 (Below w.heap.size w w'))
 case atStart => exact ⟨(0), rS, H', ⟨Nat.le_refl _⟩, ⟨bA⟩⟩
 case round =>
  clear H'
  try clear c1
  try clear p2
  obtain ⟨x5_1, rfl, HA, HK1, HB⟩ := hrel
  cases gk with
  | zero => exact absurd HA.out (by simp [spec_IsTogether.l0])
  | succ k1 =>
   have H := HA.out
   clear HA
   simp only [spec_IsTogether.l0] at H
   by_cases c3 : x5_1 < (l1.length : Int)
   ·
    rw [if_pos c3] at H
    have c3b0 : decide (x5_1 < (l1.length : Int)) = true := decide_eq_true c3
    clear c3
    have c4 : 0 ≤ x5_1 := ifN H
    replace H := ifT H
    have c4b0 : decide (0 ≤ x5_1) = true := decide_eq_true c4
    clear c4
    obtain ⟨t180, A5, H⟩ := bindE H
    try dsimp only at H
    have HC6 := Aside0.mk H
    clear H
    have p179 : 0 ≤ (x5_1 : Int) := dA
    have q179 : x5_1 < (l1.length : Int) := dA
    obtain ⟨ad179, e179, hx179_0⟩ := Kd.at_int HR1.out x5_1 p179 q179
    cases e179
    replace hx179_0 := hC HB hx179_0
    replace p179 := eq_true p179
    replace q179 := eq_true q179
    go_upto_region 5 with (first | ((with_reducible refine gate_callee (f := 68) rfl ?_); refine gL (some 19) Try.func68 #[.slice A0 l0.length c0, .int .i64 (rd l1 x5_1)] ?_; (with_reducible refine (spec_FindPath.calls k1 _ _ l0 (rd l1 x5_1) t180 _ ?side1 ?side2 A5.out).mono ?_); (case side1 => exact cB HR0); (case side2 => exact HC0.out); rintro e w' ⟨rfl, ⟨nd, rfl⟩⟩; refine ⟨_, rfl, ?_⟩))
    (try simp only [Act.put, List.setIfInBounds_toArray, List.set_cons_zero, List.set_cons_succ])
    go_cut [37] (fun v37 wc => ∃ (kq : Nat) (x37_5 : Bool), v37 = .bool x37_5 ∧ Aside0 (spec_IsTogether.j1 kq l0 l1 x5_1 t180 x37_5 = some r) ∧ Aside0 (kq ≤ k1) ∧ Aside0 (Below w.heap.size w wc))
    case first =>
     have H := HC6.out
     clear HC6
     by_cases c7 : t180 < 0
     ·
      rw [if_pos c7] at H
      have c7b0 : decide (t180 < 0) = true := decide_eq_true c7
      clear c7
      (first | rw [c7b0] | (simp only [i64_w, i32_w]; rw [c7b0]) | skip)
      have H' := Aside0.mk H
      clear H
      try go_wp2
      have HBo := HB
      replace HB := Aside0.mk (below_drew1 HB.out)
      refine start_ (n := 18) (S := fun w' => True) (ds := []) (mb 18 0) (by kernel_rfl) rfl rfl trivial (fun hHeld => ?_); refine with_tabW spec_IsTogether.tab5 spec_IsTogether.bits5 (fun HT_ HW_ => ?_)
      generalize wr.drew = w8 at HB hHeld ⊢
      refine pA (i := 0) (N := some 20) (mb 18 1) HT_ ?_
      refine pA (i := 1) (N := some 21) (mb 18 3) HT_ ?_
      refine pA (i := 2) (N := some 22) (mb 18 7) HT_ ?_
      refine pU (i := 3) (N := some 23) (mb 18 15) HT_ ?_
      refine pU (i := 4) (N := some 24) (mb 18 31) HT_ ?_
      refine pU (i := 5) (N := some 25) (mb 18 63) HT_ ?_
      refine pU (i := 6) (N := some 26) (mb 18 127) HT_ ?_
      refine pU (i := 7) (N := some 27) (mb 18 255) HT_ ?_
      refine pU (i := 8) (N := some 28) (mb 18 511) HT_ ?_
      refine pU (i := 9) (N := some 29) (mb 18 1023) HT_ ?_
      refine pU (i := 10) (N := some 30) (mb 18 2047) HT_ ?_
      refine pU (i := 11) (N := some 31) (mb 18 4095) HT_ ?_
      refine pU (i := 12) (N := some 32) (mb 18 8191) HT_ ?_
      refine pU (i := 13) (N := some 33) (mb 18 16383) HT_ ?_
      refine pU (i := 14) (N := some 34) (mb 18 32767) HT_ ?_
      refine pU (i := 15) (N := some 35) (mb 18 65535) HT_ ?_
      refine pU (i := 16) (N := some 36) (mb 18 131071) HT_ ?_
      refine pA (i := 17) (N := some 37) (mb 18 262143) HT_ ?_
      refine eA HT_ ?_
      try go_wp2
      go_meet
      case rel => exact ⟨_, (true), rS, H', ⟨by have := HK1.out; first | omega | exact Nat.le_refl _⟩, ⟨bA⟩⟩
     ·
      rw [if_neg c7] at H
      have c7b0 : decide (t180 < 0) = false := decide_eq_false c7
      clear c7
      (first | rw [c7b0] | (simp only [i64_w, i32_w]; rw [c7b0]) | skip)
      by_cases c9 : x5_1 > 0
      ·
       rw [if_pos c9] at H
       have c9b0 : decide (0 < x5_1) = true := decide_eq_true c9
       clear c9
       obtain ⟨ji10, hji10⟩ : ∃ j_ : Int, (wrap64 (x5_1 - 1)) = j_ := ⟨_, rfl⟩
       replace H : (if 0 ≤ (ji10) then (if (ji10) < (l1.length : Int) then (spec_IsTogether.j1 k1 l0 l1 x5_1 t180 (decide ((rd l1 (ji10)) ≥ (rd l1 x5_1)))) else (none)) else (none)) = some r := by first | (rw [hji10] at H; exact H) | (simp only [hji10] at H ⊢; exact H)
       have hji10w : (IntKind.i64.wrap (x5_1 - 1)) = ji10 := (i64_w _).trans hji10
       have c11 : 0 ≤ (ji10) := ifN H
       replace H := ifT H
       have c11b0 : decide (0 ≤ (ji10)) = true := decide_eq_true c11
       clear c11
       have c12 : (ji10) < (l1.length : Int) := ifN H
       replace H := ifT H
       have c12b0 : decide ((ji10) < (l1.length : Int)) = true := decide_eq_true c12
       clear c12
       have H' := Aside0.mk H
       clear H
       try go_wp2
       have HBo := HB
       replace HB := Aside0.mk (below_drew1 HB.out)
       have p181 : 0 ≤ ((ji10) : Int) := dA
       have q181 : (ji10) < (l1.length : Int) := dA
       obtain ⟨ad181, e181, hx181_0⟩ := Kd.at_int HR1.out (ji10) p181 q181
       have hw181_0 := hx181_0
       obtain rfl : ad179 = ad181 := (by injection e181)
       replace hx181_0 := hC HB hx181_0
       replace p181 := eq_true p181
       replace q181 := eq_true q181
       have p182 : 0 ≤ (x5_1 : Int) := dA
       have q182 : x5_1 < (l1.length : Int) := dA
       obtain ⟨ad182, e182, hx182_0⟩ := Kd.at_int HR1.out x5_1 p182 q182
       have hw182_0 := hx182_0
       obtain rfl : ad179 = ad182 := (by injection e182)
       replace hx182_0 := hC HB hx182_0
       replace p182 := eq_true p182
       replace q182 := eq_true q182
       refine start_ (n := 18) (S := fun w' => w'.cell? (ad179.add ((ji10)).toNat) = some (.int .i64 (rd l1 (ji10))) ∧ w'.cell? (ad179.add (x5_1).toNat) = some (.int .i64 (rd l1 x5_1))) (ds := []) (mb 18 0) (by kernel_rfl) rfl rfl ⟨(hC HB hw181_0), (hC HB hw182_0)⟩ (fun hHeld => ?_); refine with_tabW spec_IsTogether.tab5 spec_IsTogether.bits5 (fun HT_ HW_ => ?_)
       generalize wr.drew = w13 at HB hx181_0 hx182_0 hHeld ⊢
       refine pA (i := 0) (N := some 20) (mb 18 1) HT_ ?_
       refine pA (i := 1) (N := some 21) (mb 18 3) HT_ ?_
       refine pA (i := 2) (N := some 22) (mb 18 7) HT_ ?_
       refine pA (i := 3) (N := some 23) (mb 18 15) HT_ ?_
       refine pA (i := 4) (N := some 24) (mb 18 31) HT_ ?_
       refine pA (i := 5) (N := some 25) (mb 18 63) HT_ ?_
       refine pA (i := 6) (N := some 26) (mb 18 127) HT_ ?_
       refine pA (i := 7) (N := some 27) (mb 18 255) HT_ ?_
       refine pA (i := 8) (N := some 28) (mb 18 511) HT_ ?_
       refine pA (i := 9) (N := some 29) (mb 18 1023) HT_ ?_
       refine pA (i := 11) (N := some 31) (mb 18 3071) HT_ ?_
       refine pA (i := 12) (N := some 32) (mb 18 7167) HT_ ?_
       refine pA (i := 13) (N := some 33) (mb 18 15359) HT_ ?_
       refine tA2 (i := 10) (N := some 30) (mb 18 16383) HT_ HW_ hHeld ?_
       refine tA2 (i := 14) (N := some 34) (mb 18 32767) HT_ HW_ hHeld ?_
       refine pA (i := 15) (N := some 35) (mb 18 65535) HT_ ?_
       refine pA (i := 16) (N := some 36) (mb 18 131071) HT_ ?_
       refine pA (i := 17) (N := some 37) (mb 18 262143) HT_ ?_
       refine eA HT_ ?_
       try go_wp2
       go_meet
       case rel => exact ⟨_, (decide ((rd l1 (ji10)) ≥ (rd l1 x5_1))), (by first | rfl | (simp; done) | (simp only [← hji10] <;> (first | rfl | simp)) | (simp [*]; done)), H', ⟨by have := HK1.out; first | omega | exact Nat.le_refl _⟩, ⟨bA⟩⟩
      ·
       rw [if_neg c9] at H
       have c9b0 : decide (0 < x5_1) = false := decide_eq_false c9
       clear c9
       have H' := Aside0.mk H
       clear H
       try go_wp2
       have HBo := HB
       replace HB := Aside0.mk (below_drew1 HB.out)
       refine start_ (n := 18) (S := fun w' => True) (ds := []) (mb 18 0) (by kernel_rfl) rfl rfl trivial (fun hHeld => ?_); refine with_tabW spec_IsTogether.tab5 spec_IsTogether.bits5 (fun HT_ HW_ => ?_)
       generalize wr.drew = w14 at HB hHeld ⊢
       refine pA (i := 0) (N := some 20) (mb 18 1) HT_ ?_
       refine pA (i := 1) (N := some 21) (mb 18 3) HT_ ?_
       refine pA (i := 2) (N := some 22) (mb 18 7) HT_ ?_
       refine pA (i := 3) (N := some 23) (mb 18 15) HT_ ?_
       refine pA (i := 4) (N := some 24) (mb 18 31) HT_ ?_
       refine pA (i := 5) (N := some 25) (mb 18 63) HT_ ?_
       refine pU (i := 6) (N := some 26) (mb 18 127) HT_ ?_
       refine pU (i := 7) (N := some 27) (mb 18 255) HT_ ?_
       refine pU (i := 8) (N := some 28) (mb 18 511) HT_ ?_
       refine pU (i := 9) (N := some 29) (mb 18 1023) HT_ ?_
       refine pU (i := 10) (N := some 30) (mb 18 2047) HT_ ?_
       refine pU (i := 11) (N := some 31) (mb 18 4095) HT_ ?_
       refine pU (i := 12) (N := some 32) (mb 18 8191) HT_ ?_
       refine pU (i := 13) (N := some 33) (mb 18 16383) HT_ ?_
       refine pU (i := 14) (N := some 34) (mb 18 32767) HT_ ?_
       refine pU (i := 15) (N := some 35) (mb 18 65535) HT_ ?_
       refine pA (i := 16) (N := some 36) (mb 18 131071) HT_ ?_
       refine pA (i := 17) (N := some 37) (mb 18 262143) HT_ ?_
       refine eA HT_ ?_
       try go_wp2
       go_meet
       case rel => exact ⟨_, (false), rS, H', ⟨by have := HK1.out; first | omega | exact Nat.le_refl _⟩, ⟨bA⟩⟩
    case rest =>
     clear HC6
     try clear c1
     try clear p1
     try clear q1
     try clear hx1
     try clear p2
     try clear c3
     try clear c3b0
     try clear c4
     try clear c4b0
     try clear c5
     try clear c6
     try clear p6
     try clear c7
     try clear c7b0
     try clear c9
     try clear c9b0
     try clear c11
     try clear c11b0
     try clear c12
     try clear c12b0
     try clear hx179_0
     try clear hx181_0
     try clear hx182_0
     try clear p179
     try clear p181
     try clear p182
     try clear p2
     try clear q179
     try clear q181
     try clear q182
     obtain ⟨kq, x37_5, rfl, HA, HJ5, HB⟩ := hcut
     cases kq with
     | zero => exact absurd HA.out (by simp [spec_IsTogether.j1])
     | succ kj5 =>
      have H := HA.out
      clear HA
      simp only [spec_IsTogether.j1] at H
      by_cases c15 : x37_5 = true
      ·
       subst c15
       have H1 : (some false) = some r := by rw [if_pos rfl] at H; exact H
       clear H
       have H := H1
       clear H1
       obtain rfl := Option.some.inj H
       go_wp2
       go_ret
       exact ⟨rA, bA⟩
      ·
       replace c15 := Bool.eq_false_iff.mpr c15
       subst c15
       have H1 : (spec_IsTogether.l1 kj5 l0 l1 x5_1 t180 0) = some r := by rw [if_neg (show ¬ (false = true) by decide)] at H; exact H
       clear H
       have H := H1
       clear H1
       have H' := Aside0.mk H
       clear H
       go_wp2
       go_loopg [7] kj5 (fun kq v7 w' => ∃ (x7_3 : Int), v7 = .int .i64 x7_3 ∧ Aside0 (spec_IsTogether.l1 kq l0 l1 x5_1 t180 x7_3 = some r) ∧ Aside0 (kq ≤ kj5) ∧ Aside0 (Below w.heap.size w w'))
       case atStart => exact ⟨(0), rS, H', ⟨Nat.le_refl _⟩, ⟨bA⟩⟩
       case round =>
        clear H'
        try clear c1
        try clear p1
        try clear q1
        try clear hx1
        try clear p2
        try clear c3
        try clear c3b0
        try clear c4
        try clear c4b0
        try clear c5
        try clear c6
        try clear p6
        try clear c7
        try clear c7b0
        try clear c9
        try clear c9b0
        try clear c11
        try clear c11b0
        try clear c12
        try clear c12b0
        try clear c15
        try clear hx179_0
        try clear hx181_0
        try clear hx182_0
        try clear p1
        try clear p179
        try clear p181
        try clear p182
        try clear p2
        try clear p6
        try clear q1
        try clear q179
        try clear q181
        try clear q182
        obtain ⟨x7_3, rfl, HA, HK3, HB⟩ := hrel
        cases gk with
        | zero => exact absurd HA.out (by simp [spec_IsTogether.l1])
        | succ k3 =>
         have H := HA.out
         clear HA
         simp only [spec_IsTogether.l1] at H
         by_cases c16 : x7_3 < x5_1
         ·
          rw [if_pos c16] at H
          have c16b0 : decide (x7_3 < x5_1) = true := decide_eq_true c16
          clear c16
          have c17 : 0 ≤ t180 := ifN H
          replace H := ifT H
          have c17b0 : decide (0 ≤ t180) = true := decide_eq_true c17
          clear c17
          have c18 : t180 < (l0.length : Int) := ifN H
          replace H := ifT H
          have c18b0 : decide (t180 < (l0.length : Int)) = true := decide_eq_true c18
          clear c18
          have c19 : 0 ≤ x7_3 := ifN H
          replace H := ifT H
          have c19b0 : decide (0 ≤ x7_3) = true := decide_eq_true c19
          clear c19
          have c20 : x7_3 < (l1.length : Int) := ifN H
          replace H := ifT H
          have c20b0 : decide (x7_3 < (l1.length : Int)) = true := decide_eq_true c20
          clear c20
          obtain ⟨t185, A21, H⟩ := bindE H
          try dsimp only at H
          have c22 : 0 ≤ t185 := ifN H
          replace H := ifT H
          have c22b0 : decide (0 ≤ t185) = true := decide_eq_true c22
          clear c22
          have c23 : t185 < (l0.length : Int) := ifN H
          replace H := ifT H
          have c23b0 : decide (t185 < (l0.length : Int)) = true := decide_eq_true c23
          clear c23
          obtain ⟨t187, A24, H⟩ := bindE H
          try dsimp only at H
          by_cases c25 : t187 = true
          ·
           subst c25
           have H1 : (some false) = some r := by rw [if_pos rfl] at H; exact H
           clear H
           have H := H1
           clear H1
           obtain rfl := Option.some.inj H
           try go_wp2
           have HBo := HB
           replace HB := Aside0.mk (below_drew1 HB.out)
           have p183 : 0 ≤ (t180 : Int) := dA
           have q183 : t180 < (l0.length : Int) := dA
           obtain ⟨ad183, e183, hx183_0, hx183_1, hx183_2, hx183_3⟩ := at_T58 HR0.out t180 p183 q183
           have hw183_3 := hx183_3
           have hw183_2 := hx183_2
           have hw183_1 := hx183_1
           have hw183_0 := hx183_0
           cases e183
           replace hx183_0 := hC HB hx183_0
           replace hx183_1 := hC HB hx183_1
           replace hx183_2 := hC HB hx183_2
           replace hx183_3 := hC HB hx183_3
           replace p183 := eq_true p183
           replace q183 := eq_true q183
           have p184 : 0 ≤ (x7_3 : Int) := dA
           have q184 : x7_3 < (l1.length : Int) := dA
           obtain ⟨ad184, e184, hx184_0⟩ := Kd.at_int HR1.out x7_3 p184 q184
           have hw184_0 := hx184_0
           obtain rfl : ad179 = ad184 := (by injection e184)
           replace hx184_0 := hC HB hx184_0
           replace p184 := eq_true p184
           replace q184 := eq_true q184
           have p186 : 0 ≤ (t185 : Int) := dA
           have q186 : t185 < (l0.length : Int) := dA
           obtain ⟨ad186, e186, hx186_0, hx186_1, hx186_2, hx186_3⟩ := at_T58 HR0.out t185 p186 q186
           have hw186_3 := hx186_3
           have hw186_2 := hx186_2
           have hw186_1 := hx186_1
           have hw186_0 := hx186_0
           obtain rfl : ad183 = ad186 := (by injection e186)
           replace hx186_0 := hC HB hx186_0
           replace hx186_1 := hC HB hx186_1
           replace hx186_2 := hC HB hx186_2
           replace hx186_3 := hC HB hx186_3
           replace p186 := eq_true p186
           replace q186 := eq_true q186
           refine start_ (n := 14) (S := fun w' => w'.cell? (ad183.add ((t180).toNat * 4)) = some (.int .i64 ((rd_T58 l0 t180).f0)) ∧ w'.cell? ⟨(ad183.add ((t180).toNat * 4)).block, (ad183.add ((t180).toNat * 4)).off + 1, none⟩ = some (.int .i64 ((rd_T58 l0 t180).f1)) ∧ w'.cell? ⟨(ad183.add ((t180).toNat * 4)).block, (ad183.add ((t180).toNat * 4)).off + 2, none⟩ = some (.int .i64 ((rd_T58 l0 t180).f2)) ∧ w'.cell? ⟨(ad183.add ((t180).toNat * 4)).block, (ad183.add ((t180).toNat * 4)).off + 3, none⟩ = some (.int .i64 ((rd_T58 l0 t180).f3)) ∧ w'.cell? (ad179.add (x7_3).toNat) = some (.int .i64 (rd l1 x7_3)) ∧ w'.cell? (ad183.add ((t185).toNat * 4)) = some (.int .i64 ((rd_T58 l0 t185).f0)) ∧ w'.cell? ⟨(ad183.add ((t185).toNat * 4)).block, (ad183.add ((t185).toNat * 4)).off + 1, none⟩ = some (.int .i64 ((rd_T58 l0 t185).f1)) ∧ w'.cell? ⟨(ad183.add ((t185).toNat * 4)).block, (ad183.add ((t185).toNat * 4)).off + 2, none⟩ = some (.int .i64 ((rd_T58 l0 t185).f2)) ∧ w'.cell? ⟨(ad183.add ((t185).toNat * 4)).block, (ad183.add ((t185).toNat * 4)).off + 3, none⟩ = some (.int .i64 ((rd_T58 l0 t185).f3))) (ds := []) (mb 14 0) (by kernel_rfl) rfl rfl ⟨(hC HB hw183_0), (hC HB hw183_1), (hC HB hw183_2), (hC HB hw183_3), (hC HB hw184_0), (hC HB hw186_0), (hC HB hw186_1), (hC HB hw186_2), (hC HB hw186_3)⟩ (fun hHeld => ?_); refine with_tabW spec_IsTogether.tab10 spec_IsTogether.bits10 (fun HT_ HW_ => ?_)
           generalize wr.drew = w26 at HB hx183_0 hx183_1 hx183_2 hx183_3 hx184_0 hx186_0 hx186_1 hx186_2 hx186_3 hHeld ⊢
           refine pA (i := 0) (N := some 43) (mb 14 1) HT_ ?_
           refine pA (i := 1) (N := some 44) (mb 14 3) HT_ ?_
           refine pA (i := 2) (N := some 45) (mb 14 7) HT_ ?_
           refine pA (i := 4) (N := some 47) (mb 14 23) HT_ ?_
           refine pA (i := 5) (N := some 48) (mb 14 55) HT_ ?_
           refine pA (i := 6) (N := some 49) (mb 14 119) HT_ ?_
           refine pA (i := 7) (N := some 50) (mb 14 247) HT_ ?_
           refine pA (i := 8) (N := some 51) (mb 14 503) HT_ ?_
           refine tA9 (i := 3) (N := some 46) (mb 14 511) HT_ HW_ hHeld ?_
           refine tA9 (i := 9) (N := some 52) (mb 14 1023) HT_ HW_ hHeld ?_
           refine oA (i := 10) (N := some 53) (mb 14 2047) HT_ (fun K hK => ?_)
           refine gA Try.func68 #[.slice (some ad183) l0.length c0, .int .i64 (rd l1 x7_3)] ?_
           with_reducible refine (spec_FindPath.calls k3 _ _ l0 (rd l1 x7_3) t185 _ ?side1 ?side2 A21.out).mono ?_
           (case side1 => exact cB HR0)
           (case side2 => exact HC0.out)
           rintro e w' ⟨rfl, ⟨nd, rfl⟩⟩
           refine ⟨_, rfl, ?_⟩
           refine hK.out _ _ ⟨(hC HB hw183_0), (hC HB hw183_1), (hC HB hw183_2), (hC HB hw183_3), (hC HB hw184_0), (hC HB hw186_0), (hC HB hw186_1), (hC HB hw186_2), (hC HB hw186_3)⟩ (fun hHeld => ?_)
           clear hK K
           refine nB ?_
           refine pA (i := 11) (N := some 54) (mb 14 4095) HT_ ?_
           refine tA9 (i := 12) (N := some 55) (mb 14 8191) HT_ HW_ hHeld ?_
           refine oA (i := 13) (N := some 56) (mb 14 16383) HT_ (fun K hK => ?_)
           refine gA Try.func76 #[.agg #[.int .i64 ((rd_T58 l0 t180).f0), .int .i64 ((rd_T58 l0 t180).f1), .int .i64 ((rd_T58 l0 t180).f2), .int .i64 ((rd_T58 l0 t180).f3)], .agg #[.int .i64 ((rd_T58 l0 t185).f0), .int .i64 ((rd_T58 l0 t185).f1), .int .i64 ((rd_T58 l0 t185).f2), .int .i64 ((rd_T58 l0 t185).f3)]] ?_
           with_reducible refine (spec_Conflict.calls k3 ((rd_T58 l0 t180).f0) ((rd_T58 l0 t180).f1) ((rd_T58 l0 t180).f2) ((rd_T58 l0 t180).f3) ((rd_T58 l0 t185).f0) ((rd_T58 l0 t185).f1) ((rd_T58 l0 t185).f2) ((rd_T58 l0 t185).f3) true _ A24.out).mono ?_
           rintro e w27 ⟨rfl, hb⟩
           refine ⟨_, rfl, ?_⟩
           replace HB := Aside0.mk (below_step bA hb)
           (try clear hb)
           (try clear hb2)
           (try clear hk)
           (try clear hi)
           refine hK.out _ _ ⟨(hC HB hw183_0), (hC HB hw183_1), (hC HB hw183_2), (hC HB hw183_3), (hC HB hw184_0), (hC HB hw186_0), (hC HB hw186_1), (hC HB hw186_2), (hC HB hw186_3)⟩ (fun hHeld => ?_)
           clear hK K
           refine nB ?_
           refine eA HT_ ?_
           try go_wp2
           go_ret
           exact ⟨rA, bA⟩
          ·
           replace c25 := Bool.eq_false_iff.mpr c25
           subst c25
           have H1 : (spec_IsTogether.l1 k3 l0 l1 x5_1 t180 (wrap64 (x7_3 + 1))) = some r := by rw [if_neg (show ¬ (false = true) by decide)] at H; exact H
           clear H
           have H := H1
           clear H1
           have H' := Aside0.mk H
           clear H
           try go_wp2
           have HBo := HB
           replace HB := Aside0.mk (below_drew1 HB.out)
           have p183 : 0 ≤ (t180 : Int) := dA
           have q183 : t180 < (l0.length : Int) := dA
           obtain ⟨ad183, e183, hx183_0, hx183_1, hx183_2, hx183_3⟩ := at_T58 HR0.out t180 p183 q183
           have hw183_3 := hx183_3
           have hw183_2 := hx183_2
           have hw183_1 := hx183_1
           have hw183_0 := hx183_0
           cases e183
           replace hx183_0 := hC HB hx183_0
           replace hx183_1 := hC HB hx183_1
           replace hx183_2 := hC HB hx183_2
           replace hx183_3 := hC HB hx183_3
           replace p183 := eq_true p183
           replace q183 := eq_true q183
           have p184 : 0 ≤ (x7_3 : Int) := dA
           have q184 : x7_3 < (l1.length : Int) := dA
           obtain ⟨ad184, e184, hx184_0⟩ := Kd.at_int HR1.out x7_3 p184 q184
           have hw184_0 := hx184_0
           obtain rfl : ad179 = ad184 := (by injection e184)
           replace hx184_0 := hC HB hx184_0
           replace p184 := eq_true p184
           replace q184 := eq_true q184
           have p186 : 0 ≤ (t185 : Int) := dA
           have q186 : t185 < (l0.length : Int) := dA
           obtain ⟨ad186, e186, hx186_0, hx186_1, hx186_2, hx186_3⟩ := at_T58 HR0.out t185 p186 q186
           have hw186_3 := hx186_3
           have hw186_2 := hx186_2
           have hw186_1 := hx186_1
           have hw186_0 := hx186_0
           obtain rfl : ad183 = ad186 := (by injection e186)
           replace hx186_0 := hC HB hx186_0
           replace hx186_1 := hC HB hx186_1
           replace hx186_2 := hC HB hx186_2
           replace hx186_3 := hC HB hx186_3
           replace p186 := eq_true p186
           replace q186 := eq_true q186
           refine start_ (n := 14) (S := fun w' => w'.cell? (ad183.add ((t180).toNat * 4)) = some (.int .i64 ((rd_T58 l0 t180).f0)) ∧ w'.cell? ⟨(ad183.add ((t180).toNat * 4)).block, (ad183.add ((t180).toNat * 4)).off + 1, none⟩ = some (.int .i64 ((rd_T58 l0 t180).f1)) ∧ w'.cell? ⟨(ad183.add ((t180).toNat * 4)).block, (ad183.add ((t180).toNat * 4)).off + 2, none⟩ = some (.int .i64 ((rd_T58 l0 t180).f2)) ∧ w'.cell? ⟨(ad183.add ((t180).toNat * 4)).block, (ad183.add ((t180).toNat * 4)).off + 3, none⟩ = some (.int .i64 ((rd_T58 l0 t180).f3)) ∧ w'.cell? (ad179.add (x7_3).toNat) = some (.int .i64 (rd l1 x7_3)) ∧ w'.cell? (ad183.add ((t185).toNat * 4)) = some (.int .i64 ((rd_T58 l0 t185).f0)) ∧ w'.cell? ⟨(ad183.add ((t185).toNat * 4)).block, (ad183.add ((t185).toNat * 4)).off + 1, none⟩ = some (.int .i64 ((rd_T58 l0 t185).f1)) ∧ w'.cell? ⟨(ad183.add ((t185).toNat * 4)).block, (ad183.add ((t185).toNat * 4)).off + 2, none⟩ = some (.int .i64 ((rd_T58 l0 t185).f2)) ∧ w'.cell? ⟨(ad183.add ((t185).toNat * 4)).block, (ad183.add ((t185).toNat * 4)).off + 3, none⟩ = some (.int .i64 ((rd_T58 l0 t185).f3))) (ds := []) (mb 14 0) (by kernel_rfl) rfl rfl ⟨(hC HB hw183_0), (hC HB hw183_1), (hC HB hw183_2), (hC HB hw183_3), (hC HB hw184_0), (hC HB hw186_0), (hC HB hw186_1), (hC HB hw186_2), (hC HB hw186_3)⟩ (fun hHeld => ?_); refine with_tabW spec_IsTogether.tab10 spec_IsTogether.bits10 (fun HT_ HW_ => ?_)
           generalize wr.drew = w28 at HB hx183_0 hx183_1 hx183_2 hx183_3 hx184_0 hx186_0 hx186_1 hx186_2 hx186_3 hHeld ⊢
           refine pA (i := 0) (N := some 43) (mb 14 1) HT_ ?_
           refine pA (i := 1) (N := some 44) (mb 14 3) HT_ ?_
           refine pA (i := 2) (N := some 45) (mb 14 7) HT_ ?_
           refine pA (i := 4) (N := some 47) (mb 14 23) HT_ ?_
           refine pA (i := 5) (N := some 48) (mb 14 55) HT_ ?_
           refine pA (i := 6) (N := some 49) (mb 14 119) HT_ ?_
           refine pA (i := 7) (N := some 50) (mb 14 247) HT_ ?_
           refine pA (i := 8) (N := some 51) (mb 14 503) HT_ ?_
           refine tA9 (i := 3) (N := some 46) (mb 14 511) HT_ HW_ hHeld ?_
           refine tA9 (i := 9) (N := some 52) (mb 14 1023) HT_ HW_ hHeld ?_
           refine oA (i := 10) (N := some 53) (mb 14 2047) HT_ (fun K hK => ?_)
           refine gA Try.func68 #[.slice (some ad183) l0.length c0, .int .i64 (rd l1 x7_3)] ?_
           with_reducible refine (spec_FindPath.calls k3 _ _ l0 (rd l1 x7_3) t185 _ ?side1 ?side2 A21.out).mono ?_
           (case side1 => exact cB HR0)
           (case side2 => exact HC0.out)
           rintro e w' ⟨rfl, ⟨nd, rfl⟩⟩
           refine ⟨_, rfl, ?_⟩
           refine hK.out _ _ ⟨(hC HB hw183_0), (hC HB hw183_1), (hC HB hw183_2), (hC HB hw183_3), (hC HB hw184_0), (hC HB hw186_0), (hC HB hw186_1), (hC HB hw186_2), (hC HB hw186_3)⟩ (fun hHeld => ?_)
           clear hK K
           refine nB ?_
           refine pA (i := 11) (N := some 54) (mb 14 4095) HT_ ?_
           refine tA9 (i := 12) (N := some 55) (mb 14 8191) HT_ HW_ hHeld ?_
           refine oA (i := 13) (N := some 56) (mb 14 16383) HT_ (fun K hK => ?_)
           refine gA Try.func76 #[.agg #[.int .i64 ((rd_T58 l0 t180).f0), .int .i64 ((rd_T58 l0 t180).f1), .int .i64 ((rd_T58 l0 t180).f2), .int .i64 ((rd_T58 l0 t180).f3)], .agg #[.int .i64 ((rd_T58 l0 t185).f0), .int .i64 ((rd_T58 l0 t185).f1), .int .i64 ((rd_T58 l0 t185).f2), .int .i64 ((rd_T58 l0 t185).f3)]] ?_
           with_reducible refine (spec_Conflict.calls k3 ((rd_T58 l0 t180).f0) ((rd_T58 l0 t180).f1) ((rd_T58 l0 t180).f2) ((rd_T58 l0 t180).f3) ((rd_T58 l0 t185).f0) ((rd_T58 l0 t185).f1) ((rd_T58 l0 t185).f2) ((rd_T58 l0 t185).f3) false _ A24.out).mono ?_
           rintro e w29 ⟨rfl, hb⟩
           refine ⟨_, rfl, ?_⟩
           replace HB := Aside0.mk (below_step bA hb)
           (try clear hb)
           (try clear hb2)
           (try clear hk)
           (try clear hi)
           refine hK.out _ _ ⟨(hC HB hw183_0), (hC HB hw183_1), (hC HB hw183_2), (hC HB hw183_3), (hC HB hw184_0), (hC HB hw186_0), (hC HB hw186_1), (hC HB hw186_2), (hC HB hw186_3)⟩ (fun hHeld => ?_)
           clear hK K
           refine nB ?_
           refine eA HT_ ?_
           try go_wp2
           go_roundg k3
           case measure => have := HK1.out; have := HJ5.out; have := HK3.out; omega
           case rel => exact ⟨(wrap64 (x7_3 + 1)), rS, H', ⟨by have := HK1.out; have := HJ5.out; have := HK3.out; omega⟩, ⟨bA⟩⟩
         ·
          rw [if_neg c16] at H
          have c16b0 : decide (x7_3 < x5_1) = false := decide_eq_false c16
          clear c16
          have H' := Aside0.mk H
          clear H
          go_wp2
          go_roundg k3
          case measure => have := HK1.out; have := HJ5.out; have := HK3.out; omega
          case rel => exact ⟨(wrap64 (x5_1 + 1)), rS, H', ⟨by have := HK1.out; have := HJ5.out; have := HK3.out; omega⟩, ⟨bA⟩⟩
   ·
    rw [if_neg c3] at H
    have c3b0 : decide (x5_1 < (l1.length : Int)) = false := decide_eq_false c3
    clear c3
    obtain ⟨t178, A30, H⟩ := bindE H
    try dsimp only at H
    obtain rfl := Option.some.inj H
    go_wp2_with (first | ((with_reducible refine gate_callee (f := 77) rfl ?_); refine gL (some 58) Try.func77 #[.slice A0 l0.length c0] ?_; (with_reducible refine (spec_ArePaths.calls k1 _ _ l0 t178 _ ?side1 ?side2 A30.out).mono ?_); (case side1 => exact cB HR0); (case side2 => exact HC0.out); rintro e w31 ⟨rfl, hb⟩; refine ⟨_, rfl, ?_⟩; replace HB := Aside0.mk (below_step bA hb); (try clear hb); (try clear hb2); (try clear hk); (try clear hi)))
    go_ret
    exact ⟨rA, bA⟩

/-! ### spec_LeastGreen: function 53 -/
def spec_LeastGreen.l0 : Nat → List (S58) → List Int → Int → Option (Int)
 | 0, _, _, _ => none
 | k + 1, x0, x1, x5 => if x5 < (x1.length : Int) then (if 0 ≤ x5 then ((spec_FindPath.f k x0 (rd x1 x5)).bind fun t189 => (if t189 ≥ 0 then (if 0 ≤ t189 then (if t189 < (x0.length : Int) then (if ((rd_T58 x0 t189).f1) = 2 then (some 7) else (spec_LeastGreen.l0 k x0 x1 (wrap64 (x5 + 1)))) else (none)) else (none)) else (spec_LeastGreen.l0 k x0 x1 (wrap64 (x5 + 1))))) else (none)) else (some 5)
def spec_LeastGreen.f (k : Nat) (l0 : List (S58)) (l1 : List Int) : Option (Int) := spec_LeastGreen.l0 k l0 l1 0
theorem spec_LeastGreen.mono_l : ∀ k, (∀ y0 y1 y2, LeO (spec_LeastGreen.l0 k y0 y1 y2) (spec_LeastGreen.l0 (k + 1) y0 y1 y2))
 | 0 => fun _ _ _ r h => by simp [spec_LeastGreen.l0] at h
 | k + 1 => by
  have ih0 := spec_LeastGreen.mono_l k
  ·
   intro y0 y1 y2
   unfold spec_LeastGreen.l0
   repeat' first | (with_reducible first | exact LeO.refl _ | exact LeO.none _ | refine LeO.ite ?_ ?_ | refine LeO.bind ?_ (fun _ => ?_) | exact ih0 _ _ _ | exact spec_FindPath.mono _ _ _) | exact LeO.none _ | refine LeO.ite ?_ ?_ | refine LeO.bind ?_ (fun _ => ?_) | exact ih0 _ _ _ | exact spec_FindPath.mono _ _ _
theorem spec_LeastGreen.mono : ∀ a0 a1 k, LeO (spec_LeastGreen.f k a0 a1) (spec_LeastGreen.f (k + 1) a0 a1) := by
 intro a0 a1 k
 have ih0 := spec_LeastGreen.mono_l k
 unfold spec_LeastGreen.f
 repeat' first | (with_reducible first | exact LeO.refl _ | exact LeO.none _ | refine LeO.ite ?_ ?_ | refine LeO.bind ?_ (fun _ => ?_) | exact ih0 _ _ _ | exact spec_FindPath.mono _ _ _) | exact LeO.none _ | refine LeO.ite ?_ ?_ | refine LeO.bind ?_ (fun _ => ?_) | exact ih0 _ _ _ | exact spec_FindPath.mono _ _ _
set_option maxHeartbeats 8000000 in
set_option maxRecDepth 100000 in
theorem spec_LeastGreen.calls (k : Nat) (A0 : Option Addr) (c0 : Nat) (l0 : List (S58)) (A1 : Option Addr) (c1 : Nat) (l1 : List Int) (r : Int) (w : World) (hr0 : Kd.C k58 w A0 l0.length l0) (hc0 : l0.length ≤ c0) (hr1 : Kd.C (Kd.int .i64) w A1 l1.length l1) (hc1 : l1.length ≤ c1) (h : spec_LeastGreen.f k l0 l1 = some r) :
  Calls Try.prog 53 #[.slice A0 l0.length c0, .slice A1 l1.length c1] w fun e w' => e = .returned (.int .i64 r) ∧ Drawn0 w w' := by
 have HR0 := Aside0.mk hr0
 have HC0 := Aside0.mk hc0
 clear hr0 hc0
 have HR1 := Aside0.mk hr1
 have HC1 := Aside0.mk hc1
 clear hr1 hc1
 have H : (spec_LeastGreen.l0 k l0 l1 0) = some r := h
 clear h
 have H' := Aside0.mk H
 clear H
 go_enter Try.func53, Try.ntmps53
 go_wp2
 go_loopg [5] k (fun kq v5 w' => ∃ (x5_1 : Int), v5 = .int .i64 x5_1 ∧ Aside0 (spec_LeastGreen.l0 kq l0 l1 x5_1 = some r) ∧ Aside0 (kq ≤ k) ∧ Drawn0 w w')
 case atStart => exact ⟨(0), rS, H', ⟨Nat.le_refl _⟩, by repeat (first | exact Drawn0.refl _ | apply Drawn0.step)⟩
 case round =>
  clear H'
  try clear c1
  try clear p2
  obtain ⟨x5_1, rfl, HA, HK1, ⟨m1, rfl⟩⟩ := hrel
  cases gk with
  | zero => exact absurd HA.out (by simp [spec_LeastGreen.l0])
  | succ k1 =>
   have H := HA.out
   clear HA
   simp only [spec_LeastGreen.l0] at H
   by_cases c3 : x5_1 < (l1.length : Int)
   ·
    rw [if_pos c3] at H
    have c3b0 : decide (x5_1 < (l1.length : Int)) = true := decide_eq_true c3
    clear c3
    have c4 : 0 ≤ x5_1 := ifN H
    replace H := ifT H
    have c4b0 : decide (0 ≤ x5_1) = true := decide_eq_true c4
    clear c4
    obtain ⟨t189, A5, H⟩ := bindE H
    try dsimp only at H
    by_cases c6 : t189 ≥ 0
    ·
     rw [if_pos c6] at H
     have c6b0 : decide (0 ≤ t189) = true := decide_eq_true c6
     clear c6
     have c7 : 0 ≤ t189 := ifN H
     replace H := ifT H
     have c7b0 : decide (0 ≤ t189) = true := decide_eq_true c7
     clear c7
     have c8 : t189 < (l0.length : Int) := ifN H
     replace H := ifT H
     have c8b0 : decide (t189 < (l0.length : Int)) = true := decide_eq_true c8
     clear c8
     by_cases c9 : ((rd_T58 l0 t189).f1) = 2
     ·
      rw [if_pos c9] at H
      have c9b0 : (((rd_T58 l0 t189).f1) == 2) = true := beq_iff_eq.mpr c9
      have c9b1 : (((rd_T58 l0 t189).f1) != 2) = false := bne_eq_false_iff_eq.mpr c9
      clear c9
      obtain rfl := Option.some.inj H
      have p188 : 0 ≤ (x5_1 : Int) := dA
      have q188 : x5_1 < (l1.length : Int) := dA
      obtain ⟨ad188, e188, hx188_0⟩ := Kd.at_int HR1.out x5_1 p188 q188
      cases e188
      replace p188 := eq_true p188
      replace q188 := eq_true q188
      go_wp2_with (first | ((with_reducible refine gate_callee (f := 68) rfl ?_); refine gL (some 18) Try.func68 #[.slice A0 l0.length c0, .int .i64 (rd l1 x5_1)] ?_; (with_reducible refine (spec_FindPath.calls k1 _ _ l0 (rd l1 x5_1) t189 _ ?side1 ?side2 A5.out).mono ?_); (case side1 => exact cO HR0); (case side2 => exact HC0.out); rintro e w' ⟨rfl, ⟨nd, rfl⟩⟩; refine ⟨_, rfl, ?_⟩; have p190 : 0 ≤ (t189 : Int) := dA; have q190 : t189 < (l0.length : Int) := dA; obtain ⟨ad190, e190, hx190_0, hx190_1, hx190_2, hx190_3⟩ := at_T58 HR0.out t189 p190 q190; cases e190; replace p190 := eq_true p190; replace q190 := eq_true q190))
      go_ret
      exact ⟨by first | rfl | (simp; done) | (simp [*]; done), by repeat (first | exact Drawn0.refl _ | apply Drawn0.step)⟩
     ·
      rw [if_neg c9] at H
      have c9b0 : (((rd_T58 l0 t189).f1) == 2) = false := beq_eq_false_iff_ne.mpr c9
      have c9b1 : (((rd_T58 l0 t189).f1) != 2) = true := bne_iff_ne.mpr c9
      have H' := Aside0.mk H
      clear H
      have p188 : 0 ≤ (x5_1 : Int) := dA
      have q188 : x5_1 < (l1.length : Int) := dA
      obtain ⟨ad188, e188, hx188_0⟩ := Kd.at_int HR1.out x5_1 p188 q188
      cases e188
      replace p188 := eq_true p188
      replace q188 := eq_true q188
      go_wp2_with (first | ((with_reducible refine gate_callee (f := 68) rfl ?_); refine gL (some 18) Try.func68 #[.slice A0 l0.length c0, .int .i64 (rd l1 x5_1)] ?_; (with_reducible refine (spec_FindPath.calls k1 _ _ l0 (rd l1 x5_1) t189 _ ?side1 ?side2 A5.out).mono ?_); (case side1 => exact cO HR0); (case side2 => exact HC0.out); rintro e w' ⟨rfl, ⟨nd, rfl⟩⟩; refine ⟨_, rfl, ?_⟩; have p190 : 0 ≤ (t189 : Int) := dA; have q190 : t189 < (l0.length : Int) := dA; obtain ⟨ad190, e190, hx190_0, hx190_1, hx190_2, hx190_3⟩ := at_T58 HR0.out t189 p190 q190; cases e190; replace p190 := eq_true p190; replace q190 := eq_true q190))
      go_roundg k1
      case measure => have := HK1.out; omega
      case rel => exact ⟨(wrap64 (x5_1 + 1)), rS, H', ⟨by have := HK1.out; omega⟩, by repeat (first | exact Drawn0.refl _ | apply Drawn0.step)⟩
    ·
     rw [if_neg c6] at H
     have c6b0 : decide (0 ≤ t189) = false := decide_eq_false c6
     clear c6
     have H' := Aside0.mk H
     clear H
     have p188 : 0 ≤ (x5_1 : Int) := dA
     have q188 : x5_1 < (l1.length : Int) := dA
     obtain ⟨ad188, e188, hx188_0⟩ := Kd.at_int HR1.out x5_1 p188 q188
     cases e188
     replace p188 := eq_true p188
     replace q188 := eq_true q188
     go_wp2_with (first | ((with_reducible refine gate_callee (f := 68) rfl ?_); refine gL (some 18) Try.func68 #[.slice A0 l0.length c0, .int .i64 (rd l1 x5_1)] ?_; (with_reducible refine (spec_FindPath.calls k1 _ _ l0 (rd l1 x5_1) t189 _ ?side1 ?side2 A5.out).mono ?_); (case side1 => exact cO HR0); (case side2 => exact HC0.out); rintro e w' ⟨rfl, ⟨nd, rfl⟩⟩; refine ⟨_, rfl, ?_⟩))
     go_roundg k1
     case measure => have := HK1.out; omega
     case rel => exact ⟨(wrap64 (x5_1 + 1)), rS, H', ⟨by have := HK1.out; omega⟩, by repeat (first | exact Drawn0.refl _ | apply Drawn0.step)⟩
   ·
    rw [if_neg c3] at H
    have c3b0 : decide (x5_1 < (l1.length : Int)) = false := decide_eq_false c3
    clear c3
    obtain rfl := Option.some.inj H
    go_wp2
    go_ret
    exact ⟨by first | rfl | (simp; done) | (simp [*]; done), by repeat (first | exact Drawn0.refl _ | apply Drawn0.step)⟩

/-! ### spec_l6Has: function 78 -/
def spec_l6Has.l0 : Nat → List Int → Int → Int → Option (Bool)
 | 0, _, _, _ => none
 | k + 1, x0, x1, x5 => if x5 < (x0.length : Int) then (if 0 ≤ x5 then (if (rd x0 x5) = x1 then (some true) else (spec_l6Has.l0 k x0 x1 (wrap64 (x5 + 1)))) else (none)) else (some false)
def spec_l6Has.f (k : Nat) (l0 : List Int) (a1 : Int) : Option (Bool) := spec_l6Has.l0 k l0 a1 0
theorem spec_l6Has.mono_l : ∀ k, (∀ y0 y1 y2, LeO (spec_l6Has.l0 k y0 y1 y2) (spec_l6Has.l0 (k + 1) y0 y1 y2))
 | 0 => fun _ _ _ r h => by simp [spec_l6Has.l0] at h
 | k + 1 => by
  have ih0 := spec_l6Has.mono_l k
  ·
   intro y0 y1 y2
   unfold spec_l6Has.l0
   repeat' first | (with_reducible first | exact LeO.refl _ | exact LeO.none _ | refine LeO.ite ?_ ?_ | refine LeO.bind ?_ (fun _ => ?_) | exact ih0 _ _ _) | exact LeO.none _ | refine LeO.ite ?_ ?_ | refine LeO.bind ?_ (fun _ => ?_) | exact ih0 _ _ _
theorem spec_l6Has.mono : ∀ a0 a1 k, LeO (spec_l6Has.f k a0 a1) (spec_l6Has.f (k + 1) a0 a1) := by
 intro a0 a1 k
 have ih0 := spec_l6Has.mono_l k
 unfold spec_l6Has.f
 repeat' first | (with_reducible first | exact LeO.refl _ | exact LeO.none _ | refine LeO.ite ?_ ?_ | refine LeO.bind ?_ (fun _ => ?_) | exact ih0 _ _ _) | exact LeO.none _ | refine LeO.ite ?_ ?_ | refine LeO.bind ?_ (fun _ => ?_) | exact ih0 _ _ _
set_option maxHeartbeats 8000000 in
set_option maxRecDepth 100000 in
theorem spec_l6Has.calls (k : Nat) (A0 : Option Addr) (c0 : Nat) (l0 : List Int) (a1 : Int) (r : Bool) (w : World) (hr0 : Kd.C (Kd.int .i64) w A0 l0.length l0) (hc0 : l0.length ≤ c0) (h : spec_l6Has.f k l0 a1 = some r) :
  Calls Try.prog 78 #[.slice A0 l0.length c0, .int .i64 a1] w fun e w' => e = .returned (.bool r) ∧ Drawn0 w w' := by
 have HR0 := Aside0.mk hr0
 have HC0 := Aside0.mk hc0
 clear hr0 hc0
 have H : (spec_l6Has.l0 k l0 a1 0) = some r := h
 clear h
 have H' := Aside0.mk H
 clear H
 go_enter Try.func78, Try.ntmps78
 go_wp2
 go_loopg [5] k (fun kq v5 w' => ∃ (x5_1 : Int), v5 = .int .i64 x5_1 ∧ Aside0 (spec_l6Has.l0 kq l0 a1 x5_1 = some r) ∧ Aside0 (kq ≤ k) ∧ Drawn0 w w')
 case atStart => exact ⟨(0), rS, H', ⟨Nat.le_refl _⟩, by repeat (first | exact Drawn0.refl _ | apply Drawn0.step)⟩
 case round =>
  clear H'
  try clear p2
  obtain ⟨x5_1, rfl, HA, HK1, ⟨m1, rfl⟩⟩ := hrel
  cases gk with
  | zero => exact absurd HA.out (by simp [spec_l6Has.l0])
  | succ k1 =>
   have H := HA.out
   clear HA
   simp only [spec_l6Has.l0] at H
   by_cases c3 : x5_1 < (l0.length : Int)
   ·
    rw [if_pos c3] at H
    have c3b0 : decide (x5_1 < (l0.length : Int)) = true := decide_eq_true c3
    clear c3
    have c4 : 0 ≤ x5_1 := ifN H
    replace H := ifT H
    have c4b0 : decide (0 ≤ x5_1) = true := decide_eq_true c4
    clear c4
    by_cases c5 : (rd l0 x5_1) = a1
    ·
     rw [if_pos c5] at H
     have c5b0 : ((rd l0 x5_1) == a1) = true := beq_iff_eq.mpr c5
     have c5b1 : ((rd l0 x5_1) != a1) = false := bne_eq_false_iff_eq.mpr c5
     clear c5
     obtain rfl := Option.some.inj H
     have p191 : 0 ≤ (x5_1 : Int) := dA
     have q191 : x5_1 < (l0.length : Int) := dA
     obtain ⟨ad191, e191, hx191_0⟩ := Kd.at_int HR0.out x5_1 p191 q191
     cases e191
     replace p191 := eq_true p191
     replace q191 := eq_true q191
     go_wp2
     go_ret
     exact ⟨by first | rfl | (simp; done) | (simp [*]; done), by repeat (first | exact Drawn0.refl _ | apply Drawn0.step)⟩
    ·
     rw [if_neg c5] at H
     have c5b0 : ((rd l0 x5_1) == a1) = false := beq_eq_false_iff_ne.mpr c5
     have c5b1 : ((rd l0 x5_1) != a1) = true := bne_iff_ne.mpr c5
     have H' := Aside0.mk H
     clear H
     have p191 : 0 ≤ (x5_1 : Int) := dA
     have q191 : x5_1 < (l0.length : Int) := dA
     obtain ⟨ad191, e191, hx191_0⟩ := Kd.at_int HR0.out x5_1 p191 q191
     cases e191
     replace p191 := eq_true p191
     replace q191 := eq_true q191
     go_wp2
     go_roundg k1
     case measure => have := HK1.out; omega
     case rel => exact ⟨(wrap64 (x5_1 + 1)), rS, H', ⟨by have := HK1.out; omega⟩, by repeat (first | exact Drawn0.refl _ | apply Drawn0.step)⟩
   ·
    rw [if_neg c3] at H
    have c3b0 : decide (x5_1 < (l0.length : Int)) = false := decide_eq_false c3
    clear c3
    obtain rfl := Option.some.inj H
    go_wp2
    go_ret
    exact ⟨by first | rfl | (simp; done) | (simp [*]; done), by repeat (first | exact Drawn0.refl _ | apply Drawn0.step)⟩

/-! ### spec_Covers: function 54 -/
mutual
def spec_Covers.l0 : Nat → List (S58) → List (List Int) → Int → Option (Bool)
 | 0, _, _, _ => none
 | k + 1, x0, x1, x5 => if x5 < (x1.length : Int) then (if 0 ≤ x5 then ((spec_IsTogether.f k x0 (rd_L2 x1 x5)).bind fun t193 => (if t193 = true then (spec_Covers.l0 k x0 x1 (wrap64 (x5 + 1))) else (some false))) else (none)) else (spec_Covers.l1 k x0 x1 0)
def spec_Covers.l1 : Nat → List (S58) → List (List Int) → Int → Option (Bool)
 | 0, _, _, _ => none
 | k + 1, x0, x1, x6 => if x6 < (x0.length : Int) then (spec_Covers.l2 k x0 x1 x6 false 0) else ((spec_ArePaths.f k x0).bind fun t194 => (some t194))
def spec_Covers.l2 : Nat → List (S58) → List (List Int) → Int → Bool → Int → Option (Bool)
 | 0, _, _, _, _, _ => none
 | k + 1, x0, x1, x6, x7, x8 => if x8 < (x1.length : Int) then (if x7 = true then (spec_Covers.l2 k x0 x1 x6 true (wrap64 (x8 + 1))) else (if 0 ≤ x8 then (if 0 ≤ x6 then (if x6 < (x0.length : Int) then ((spec_l6Has.f k (rd_L2 x1 x8) ((rd_T58 x0 x6).f0)).bind fun t197 => (spec_Covers.l2 k x0 x1 x6 t197 (wrap64 (x8 + 1)))) else (none)) else (none)) else (none))) else (if x7 = true then (spec_Covers.l1 k x0 x1 (wrap64 (x6 + 1))) else (some false))
end
def spec_Covers.f (k : Nat) (l0 : List (S58)) (l1 : List (List Int)) : Option (Bool) := spec_Covers.l0 k l0 l1 0
theorem spec_Covers.mono_l : ∀ k, (∀ y0 y1 y2, LeO (spec_Covers.l0 k y0 y1 y2) (spec_Covers.l0 (k + 1) y0 y1 y2)) ∧ (∀ y0 y1 y2, LeO (spec_Covers.l1 k y0 y1 y2) (spec_Covers.l1 (k + 1) y0 y1 y2)) ∧ (∀ y0 y1 y2 y3 y4, LeO (spec_Covers.l2 k y0 y1 y2 y3 y4) (spec_Covers.l2 (k + 1) y0 y1 y2 y3 y4))
 | 0 => ⟨fun _ _ _ r h => by simp [spec_Covers.l0] at h, fun _ _ _ r h => by simp [spec_Covers.l1] at h, fun _ _ _ _ _ r h => by simp [spec_Covers.l2] at h⟩
 | k + 1 => by
  obtain ⟨ih0, ih1, ih2⟩ := spec_Covers.mono_l k
  refine ⟨?_, ?_, ?_⟩
  ·
   intro y0 y1 y2
   unfold spec_Covers.l0
   repeat' first | (with_reducible first | exact LeO.refl _ | exact LeO.none _ | refine LeO.ite ?_ ?_ | refine LeO.bind ?_ (fun _ => ?_) | exact ih0 _ _ _ | exact ih1 _ _ _ | exact ih2 _ _ _ _ _ | exact spec_ArePaths.mono _ _ | exact spec_IsTogether.mono _ _ _ | exact spec_l6Has.mono _ _ _) | exact LeO.none _ | refine LeO.ite ?_ ?_ | refine LeO.bind ?_ (fun _ => ?_) | exact ih0 _ _ _ | exact ih1 _ _ _ | exact ih2 _ _ _ _ _ | exact spec_ArePaths.mono _ _ | exact spec_IsTogether.mono _ _ _ | exact spec_l6Has.mono _ _ _
  ·
   intro y0 y1 y2
   unfold spec_Covers.l1
   repeat' first | (with_reducible first | exact LeO.refl _ | exact LeO.none _ | refine LeO.ite ?_ ?_ | refine LeO.bind ?_ (fun _ => ?_) | exact ih0 _ _ _ | exact ih1 _ _ _ | exact ih2 _ _ _ _ _ | exact spec_ArePaths.mono _ _ | exact spec_IsTogether.mono _ _ _ | exact spec_l6Has.mono _ _ _) | exact LeO.none _ | refine LeO.ite ?_ ?_ | refine LeO.bind ?_ (fun _ => ?_) | exact ih0 _ _ _ | exact ih1 _ _ _ | exact ih2 _ _ _ _ _ | exact spec_ArePaths.mono _ _ | exact spec_IsTogether.mono _ _ _ | exact spec_l6Has.mono _ _ _
  ·
   intro y0 y1 y2 y3 y4
   unfold spec_Covers.l2
   repeat' first | (with_reducible first | exact LeO.refl _ | exact LeO.none _ | refine LeO.ite ?_ ?_ | refine LeO.bind ?_ (fun _ => ?_) | exact ih0 _ _ _ | exact ih1 _ _ _ | exact ih2 _ _ _ _ _ | exact spec_ArePaths.mono _ _ | exact spec_IsTogether.mono _ _ _ | exact spec_l6Has.mono _ _ _) | exact LeO.none _ | refine LeO.ite ?_ ?_ | refine LeO.bind ?_ (fun _ => ?_) | exact ih0 _ _ _ | exact ih1 _ _ _ | exact ih2 _ _ _ _ _ | exact spec_ArePaths.mono _ _ | exact spec_IsTogether.mono _ _ _ | exact spec_l6Has.mono _ _ _
theorem spec_Covers.mono : ∀ a0 a1 k, LeO (spec_Covers.f k a0 a1) (spec_Covers.f (k + 1) a0 a1) := by
 intro a0 a1 k
 obtain ⟨ih0, ih1, ih2⟩ := spec_Covers.mono_l k
 unfold spec_Covers.f
 repeat' first | (with_reducible first | exact LeO.refl _ | exact LeO.none _ | refine LeO.ite ?_ ?_ | refine LeO.bind ?_ (fun _ => ?_) | exact ih0 _ _ _ | exact ih1 _ _ _ | exact ih2 _ _ _ _ _ | exact spec_ArePaths.mono _ _ | exact spec_IsTogether.mono _ _ _ | exact spec_l6Has.mono _ _ _) | exact LeO.none _ | refine LeO.ite ?_ ?_ | refine LeO.bind ?_ (fun _ => ?_) | exact ih0 _ _ _ | exact ih1 _ _ _ | exact ih2 _ _ _ _ _ | exact spec_ArePaths.mono _ _ | exact spec_IsTogether.mono _ _ _ | exact spec_l6Has.mono _ _ _
set_option maxHeartbeats 8000000 in
set_option maxRecDepth 100000 in
theorem spec_Covers.calls (k : Nat) (A0 : Option Addr) (c0 : Nat) (l0 : List (S58)) (A1 : Option Addr) (c1 : Nat) (l1 : List (List Int)) (r : Bool) (w : World) (hr0 : Kd.C k58 w A0 l0.length l0) (hc0 : l0.length ≤ c0) (hr1 : Kd.C (Kd.slice 3 (Kd.int .i64)) w A1 l1.length l1) (hc1 : l1.length ≤ c1) (h : spec_Covers.f k l0 l1 = some r) :
  Calls Try.prog 54 #[.slice A0 l0.length c0, .slice A1 l1.length c1] w fun e w' => e = .returned (.bool r) ∧ Below w.heap.size w w' := by
 have HR0 := Aside0.mk hr0
 have HC0 := Aside0.mk hc0
 clear hr0 hc0
 have HR1 := Aside0.mk hr1
 have HC1 := Aside0.mk hc1
 clear hr1 hc1
 have HB := Aside0.mk (Below.refl w.heap.size w)
 have H : (spec_Covers.l0 k l0 l1 0) = some r := h
 clear h
 have H' := Aside0.mk H
 clear H
 go_enter Try.func54, Try.ntmps54
 go_wp2
 repeat (go_quiet (fail); try go_wp2)
 go_loopg [5] k (fun kq v5 w' => ∃ (x5_1 : Int), v5 = .int .i64 x5_1 ∧ Aside0 (spec_Covers.l0 kq l0 l1 x5_1 = some r) ∧ Aside0 (kq ≤ k) ∧ Aside0 (Below w.heap.size w w'))
 case atStart => exact ⟨(0), rS, H', ⟨Nat.le_refl _⟩, ⟨bA⟩⟩
 case round =>
  clear H'
  try clear c1
  try clear p2
  obtain ⟨x5_1, rfl, HA, HK1, HB⟩ := hrel
  cases gk with
  | zero => exact absurd HA.out (by simp [spec_Covers.l0])
  | succ k1 =>
   have H := HA.out
   clear HA
   simp only [spec_Covers.l0] at H
   by_cases c3 : x5_1 < (l1.length : Int)
   ·
    rw [if_pos c3] at H
    have c3b0 : decide (x5_1 < (l1.length : Int)) = true := decide_eq_true c3
    clear c3
    have c4 : 0 ≤ x5_1 := ifN H
    replace H := ifT H
    have c4b0 : decide (0 ≤ x5_1) = true := decide_eq_true c4
    clear c4
    obtain ⟨t193, A5, H⟩ := bindE H
    try dsimp only at H
    by_cases c6 : t193 = true
    ·
     subst c6
     have H1 : (spec_Covers.l0 k1 l0 l1 (wrap64 (x5_1 + 1))) = some r := by rw [if_pos rfl] at H; exact H
     clear H
     have H := H1
     clear H1
     have H' := Aside0.mk H
     clear H
     have p192 : 0 ≤ (x5_1 : Int) := dA
     have q192 : x5_1 < (l1.length : Int) := dA
     obtain ⟨ad192, A192_0, c192_0, e192, hx192_0, hl192_0, hi192_0⟩ := at_L2 HR1.out x5_1 p192 q192
     cases e192
     replace hx192_0 := hC HB hx192_0
     have HR192_0 := Aside0.mk hi192_0
     have HC192_0 := Aside0.mk hl192_0
     clear hi192_0 hl192_0
     replace p192 := eq_true p192
     replace q192 := eq_true q192
     go_wp2_with (first | (go_at_call 52; (with_reducible refine (spec_IsTogether.calls k1 _ _ l0 _ _ (rd_L2 l1 x5_1) true _ ?side1 ?side2 ?side3 ?side4 A5.out).mono ?_); (case side1 => exact cB HR0); (case side2 => exact HC0.out); (case side3 => exact cB HR192_0); (case side4 => exact HC192_0.out); rintro e w7 ⟨rfl, hb⟩; replace HB := Aside0.mk (below_step bA hb); (try clear hb); (try clear hb2); (try clear hk); (try clear hi)))
     repeat (go_quiet (first | (go_at_call 52; (with_reducible refine (spec_IsTogether.calls k1 _ _ l0 _ _ (rd_L2 l1 x5_1) true _ ?side1 ?side2 ?side3 ?side4 A5.out).mono ?_); (case side1 => exact cB HR0); (case side2 => exact HC0.out); (case side3 => exact cB HR192_0); (case side4 => exact HC192_0.out); rintro e w7 ⟨rfl, hb⟩; replace HB := Aside0.mk (below_step bA hb); (try clear hb); (try clear hb2); (try clear hk); (try clear hi))); try go_wp2_with (first | (go_at_call 52; (with_reducible refine (spec_IsTogether.calls k1 _ _ l0 _ _ (rd_L2 l1 x5_1) true _ ?side1 ?side2 ?side3 ?side4 A5.out).mono ?_); (case side1 => exact cB HR0); (case side2 => exact HC0.out); (case side3 => exact cB HR192_0); (case side4 => exact HC192_0.out); rintro e w7 ⟨rfl, hb⟩; replace HB := Aside0.mk (below_step bA hb); (try clear hb); (try clear hb2); (try clear hk); (try clear hi))))
     go_roundg k1
     case measure => have := HK1.out; omega
     case rel => exact ⟨(wrap64 (x5_1 + 1)), rS, H', ⟨by have := HK1.out; omega⟩, ⟨bA⟩⟩
    ·
     replace c6 := Bool.eq_false_iff.mpr c6
     subst c6
     have H1 : (some false) = some r := by rw [if_neg (show ¬ (false = true) by decide)] at H; exact H
     clear H
     have H := H1
     clear H1
     obtain rfl := Option.some.inj H
     have p192 : 0 ≤ (x5_1 : Int) := dA
     have q192 : x5_1 < (l1.length : Int) := dA
     obtain ⟨ad192, A192_0, c192_0, e192, hx192_0, hl192_0, hi192_0⟩ := at_L2 HR1.out x5_1 p192 q192
     cases e192
     replace hx192_0 := hC HB hx192_0
     have HR192_0 := Aside0.mk hi192_0
     have HC192_0 := Aside0.mk hl192_0
     clear hi192_0 hl192_0
     replace p192 := eq_true p192
     replace q192 := eq_true q192
     go_wp2_with (first | (go_at_call 52; (with_reducible refine (spec_IsTogether.calls k1 _ _ l0 _ _ (rd_L2 l1 x5_1) false _ ?side1 ?side2 ?side3 ?side4 A5.out).mono ?_); (case side1 => exact cB HR0); (case side2 => exact HC0.out); (case side3 => exact cB HR192_0); (case side4 => exact HC192_0.out); rintro e w8 ⟨rfl, hb⟩; replace HB := Aside0.mk (below_step bA hb); (try clear hb); (try clear hb2); (try clear hk); (try clear hi)))
     repeat (go_quiet (first | (go_at_call 52; (with_reducible refine (spec_IsTogether.calls k1 _ _ l0 _ _ (rd_L2 l1 x5_1) false _ ?side1 ?side2 ?side3 ?side4 A5.out).mono ?_); (case side1 => exact cB HR0); (case side2 => exact HC0.out); (case side3 => exact cB HR192_0); (case side4 => exact HC192_0.out); rintro e w8 ⟨rfl, hb⟩; replace HB := Aside0.mk (below_step bA hb); (try clear hb); (try clear hb2); (try clear hk); (try clear hi))); try go_wp2_with (first | (go_at_call 52; (with_reducible refine (spec_IsTogether.calls k1 _ _ l0 _ _ (rd_L2 l1 x5_1) false _ ?side1 ?side2 ?side3 ?side4 A5.out).mono ?_); (case side1 => exact cB HR0); (case side2 => exact HC0.out); (case side3 => exact cB HR192_0); (case side4 => exact HC192_0.out); rintro e w8 ⟨rfl, hb⟩; replace HB := Aside0.mk (below_step bA hb); (try clear hb); (try clear hb2); (try clear hk); (try clear hi))))
     go_ret
     exact ⟨rA, bA⟩
   ·
    rw [if_neg c3] at H
    have c3b0 : decide (x5_1 < (l1.length : Int)) = false := decide_eq_false c3
    clear c3
    have H' := Aside0.mk H
    clear H
    go_wp2
    repeat (go_quiet (fail); try go_wp2)
    go_loopg [6] k1 (fun kq v6 w' => ∃ (x6_2 : Int), v6 = .int .i64 x6_2 ∧ Aside0 (spec_Covers.l1 kq l0 l1 x6_2 = some r) ∧ Aside0 (kq ≤ k1) ∧ Aside0 (Below w.heap.size w w'))
    case atStart => exact ⟨(0), rS, H', ⟨Nat.le_refl _⟩, ⟨bA⟩⟩
    case round =>
     clear H'
     try clear c1
     try clear p1
     try clear q1
     try clear hx1
     try clear p2
     try clear c3
     try clear c3b0
     try clear c4
     try clear c4b0
     try clear c5
     try clear c6
     try clear p6
     try clear hx192_0
     try clear p192
     try clear p2
     try clear q192
     obtain ⟨x6_2, rfl, HA, HK2, HB⟩ := hrel
     cases gk with
     | zero => exact absurd HA.out (by simp [spec_Covers.l1])
     | succ k2 =>
      have H := HA.out
      clear HA
      simp only [spec_Covers.l1] at H
      by_cases c9 : x6_2 < (l0.length : Int)
      ·
       rw [if_pos c9] at H
       have c9b0 : decide (x6_2 < (l0.length : Int)) = true := decide_eq_true c9
       clear c9
       have H' := Aside0.mk H
       clear H
       go_wp2
       repeat (go_quiet (fail); try go_wp2)
       go_loopg [7, 8] k2 (fun kq v7 v8 w' => ∃ (x7_3 : Bool) (x8_3 : Int), v7 = .bool x7_3 ∧ v8 = .int .i64 x8_3 ∧ Aside0 (spec_Covers.l2 kq l0 l1 x6_2 x7_3 x8_3 = some r) ∧ Aside0 (kq ≤ k2) ∧ Aside0 (Below w.heap.size w w'))
       case atStart => exact ⟨(false), (0), rS, rS, H', ⟨Nat.le_refl _⟩, ⟨bA⟩⟩
       case round =>
        clear H'
        try clear c1
        try clear p1
        try clear q1
        try clear hx1
        try clear p2
        try clear c3
        try clear c3b0
        try clear c4
        try clear c4b0
        try clear c5
        try clear c6
        try clear p6
        try clear c9
        try clear c9b0
        try clear hx192_0
        try clear p1
        try clear p192
        try clear p2
        try clear p6
        try clear q1
        try clear q192
        obtain ⟨x7_3, x8_3, rfl, rfl, HA, HK3, HB⟩ := hrel
        cases gk with
        | zero => exact absurd HA.out (by simp [spec_Covers.l2])
        | succ k3 =>
         have H := HA.out
         clear HA
         simp only [spec_Covers.l2] at H
         by_cases c10 : x8_3 < (l1.length : Int)
         ·
          rw [if_pos c10] at H
          have c10b0 : decide (x8_3 < (l1.length : Int)) = true := decide_eq_true c10
          clear c10
          by_cases c11 : x7_3 = true
          ·
           subst c11
           have H1 : (spec_Covers.l2 k3 l0 l1 x6_2 true (wrap64 (x8_3 + 1))) = some r := by rw [if_pos rfl] at H; exact H
           clear H
           have H := H1
           clear H1
           have H' := Aside0.mk H
           clear H
           go_wp2
           repeat (go_quiet (fail); try go_wp2)
           go_roundg k3
           case measure => have := HK1.out; have := HK2.out; have := HK3.out; omega
           case rel => exact ⟨(true), (wrap64 (x8_3 + 1)), rS, rS, H', ⟨by have := HK1.out; have := HK2.out; have := HK3.out; omega⟩, ⟨bA⟩⟩
          ·
           replace c11 := Bool.eq_false_iff.mpr c11
           subst c11
           have H1 : (if 0 ≤ x8_3 then (if 0 ≤ x6_2 then (if x6_2 < (l0.length : Int) then ((spec_l6Has.f k3 (rd_L2 l1 x8_3) ((rd_T58 l0 x6_2).f0)).bind fun t197 => (spec_Covers.l2 k3 l0 l1 x6_2 t197 (wrap64 (x8_3 + 1)))) else (none)) else (none)) else (none)) = some r := by rw [if_neg (show ¬ (false = true) by decide)] at H; exact H
           clear H
           have H := H1
           clear H1
           have c12 : 0 ≤ x8_3 := ifN H
           replace H := ifT H
           have c12b0 : decide (0 ≤ x8_3) = true := decide_eq_true c12
           clear c12
           have c13 : 0 ≤ x6_2 := ifN H
           replace H := ifT H
           have c13b0 : decide (0 ≤ x6_2) = true := decide_eq_true c13
           clear c13
           have c14 : x6_2 < (l0.length : Int) := ifN H
           replace H := ifT H
           have c14b0 : decide (x6_2 < (l0.length : Int)) = true := decide_eq_true c14
           clear c14
           obtain ⟨t197, A15, H⟩ := bindE H
           try dsimp only at H
           have H' := Aside0.mk H
           clear H
           have p195 : 0 ≤ (x8_3 : Int) := dA
           have q195 : x8_3 < (l1.length : Int) := dA
           obtain ⟨ad195, A195_0, c195_0, e195, hx195_0, hl195_0, hi195_0⟩ := at_L2 HR1.out x8_3 p195 q195
           cases e195
           replace hx195_0 := hC HB hx195_0
           have HR195_0 := Aside0.mk hi195_0
           have HC195_0 := Aside0.mk hl195_0
           clear hi195_0 hl195_0
           replace p195 := eq_true p195
           replace q195 := eq_true q195
           have p196 : 0 ≤ (x6_2 : Int) := dA
           have q196 : x6_2 < (l0.length : Int) := dA
           obtain ⟨ad196, e196, hx196_0, hx196_1, hx196_2, hx196_3⟩ := at_T58 HR0.out x6_2 p196 q196
           cases e196
           replace hx196_0 := hC HB hx196_0
           replace hx196_1 := hC HB hx196_1
           replace hx196_2 := hC HB hx196_2
           replace hx196_3 := hC HB hx196_3
           replace p196 := eq_true p196
           replace q196 := eq_true q196
           go_wp2_with (first | (go_at_call 78; (with_reducible refine (spec_l6Has.calls k3 _ _ (rd_L2 l1 x8_3) ((rd_T58 l0 x6_2).f0) t197 _ ?side1 ?side2 A15.out).mono ?_); (case side1 => exact cB HR195_0); (case side2 => exact HC195_0.out); rintro e w' ⟨rfl, ⟨nd, rfl⟩⟩; (try first | exact ⟨rfl, _, World.drewN_drewN _ _ _⟩ | exact ⟨rfl, _, Eq.trans (World.drewN_drewN _ _ _) (congrArg (World.drewN _) (Nat.add_assoc _ _ _))⟩)))
           repeat (go_quiet (first | (go_at_call 78; (with_reducible refine (spec_l6Has.calls k3 _ _ (rd_L2 l1 x8_3) ((rd_T58 l0 x6_2).f0) t197 _ ?side1 ?side2 A15.out).mono ?_); (case side1 => exact cB HR195_0); (case side2 => exact HC195_0.out); rintro e w' ⟨rfl, ⟨nd, rfl⟩⟩; (try first | exact ⟨rfl, _, World.drewN_drewN _ _ _⟩ | exact ⟨rfl, _, Eq.trans (World.drewN_drewN _ _ _) (congrArg (World.drewN _) (Nat.add_assoc _ _ _))⟩))); try go_wp2_with (first | (go_at_call 78; (with_reducible refine (spec_l6Has.calls k3 _ _ (rd_L2 l1 x8_3) ((rd_T58 l0 x6_2).f0) t197 _ ?side1 ?side2 A15.out).mono ?_); (case side1 => exact cB HR195_0); (case side2 => exact HC195_0.out); rintro e w' ⟨rfl, ⟨nd, rfl⟩⟩; (try first | exact ⟨rfl, _, World.drewN_drewN _ _ _⟩ | exact ⟨rfl, _, Eq.trans (World.drewN_drewN _ _ _) (congrArg (World.drewN _) (Nat.add_assoc _ _ _))⟩))))
           go_roundg k3
           case measure => have := HK1.out; have := HK2.out; have := HK3.out; omega
           case rel => exact ⟨(t197), (wrap64 (x8_3 + 1)), rS, rS, H', ⟨by have := HK1.out; have := HK2.out; have := HK3.out; omega⟩, ⟨bA⟩⟩
         ·
          rw [if_neg c10] at H
          have c10b0 : decide (x8_3 < (l1.length : Int)) = false := decide_eq_false c10
          clear c10
          by_cases c16 : x7_3 = true
          ·
           subst c16
           have H1 : (spec_Covers.l1 k3 l0 l1 (wrap64 (x6_2 + 1))) = some r := by rw [if_pos rfl] at H; exact H
           clear H
           have H := H1
           clear H1
           have H' := Aside0.mk H
           clear H
           go_wp2
           repeat (go_quiet (fail); try go_wp2)
           go_roundg k3
           case measure => have := HK1.out; have := HK2.out; have := HK3.out; omega
           case rel => exact ⟨(wrap64 (x6_2 + 1)), rS, H', ⟨by have := HK1.out; have := HK2.out; have := HK3.out; omega⟩, ⟨bA⟩⟩
          ·
           replace c16 := Bool.eq_false_iff.mpr c16
           subst c16
           have H1 : (some false) = some r := by rw [if_neg (show ¬ (false = true) by decide)] at H; exact H
           clear H
           have H := H1
           clear H1
           obtain rfl := Option.some.inj H
           go_wp2
           repeat (go_quiet (fail); try go_wp2)
           go_ret
           exact ⟨rA, bA⟩
      ·
       rw [if_neg c9] at H
       have c9b0 : decide (x6_2 < (l0.length : Int)) = false := decide_eq_false c9
       clear c9
       obtain ⟨t194, A17, H⟩ := bindE H
       try dsimp only at H
       obtain rfl := Option.some.inj H
       go_wp2_with (first | (go_at_call 77; (with_reducible refine (spec_ArePaths.calls k2 _ _ l0 t194 _ ?side1 ?side2 A17.out).mono ?_); (case side1 => exact cB HR0); (case side2 => exact HC0.out); rintro e w18 ⟨rfl, hb⟩; replace HB := Aside0.mk (below_step bA hb); (try clear hb); (try clear hb2); (try clear hk); (try clear hi)))
       repeat (go_quiet (first | (go_at_call 77; (with_reducible refine (spec_ArePaths.calls k2 _ _ l0 t194 _ ?side1 ?side2 A17.out).mono ?_); (case side1 => exact cB HR0); (case side2 => exact HC0.out); rintro e w18 ⟨rfl, hb⟩; replace HB := Aside0.mk (below_step bA hb); (try clear hb); (try clear hb2); (try clear hk); (try clear hi))); try go_wp2_with (first | (go_at_call 77; (with_reducible refine (spec_ArePaths.calls k2 _ _ l0 t194 _ ?side1 ?side2 A17.out).mono ?_); (case side1 => exact cB HR0); (case side2 => exact HC0.out); rintro e w18 ⟨rfl, hb⟩; replace HB := Aside0.mk (below_step bA hb); (try clear hb); (try clear hb2); (try clear hk); (try clear hi))))
       go_ret
       exact ⟨rA, bA⟩

/-! ### spec_l8Stages: function 55 -/
def spec_l8Stages.l0 : Nat → List (S51) → List (List Int) → Int → Option ((List (List Int)))
 | 0, _, _, _ => none
 | k + 1, x0, x3, x4 => if x4 < (x0.length : Int) then (if 0 ≤ x4 then (if x3.length < 5864062014805 then (spec_l8Stages.l0 k x0 (x3 ++ [(rd_T51 x0 x4).f0]) (wrap64 (x4 + 1))) else (none)) else (none)) else (some x3)
def spec_l8Stages.f (k : Nat) (l0 : List (S51)) : Option ((List (List Int))) := spec_l8Stages.l0 k l0 (([] : List (List Int))) 0
theorem spec_l8Stages.mono_l : ∀ k, (∀ y0 y1 y2, LeO (spec_l8Stages.l0 k y0 y1 y2) (spec_l8Stages.l0 (k + 1) y0 y1 y2))
 | 0 => fun _ _ _ r h => by simp [spec_l8Stages.l0] at h
 | k + 1 => by
  have ih0 := spec_l8Stages.mono_l k
  ·
   intro y0 y1 y2
   unfold spec_l8Stages.l0
   repeat' first | (with_reducible first | exact LeO.refl _ | exact LeO.none _ | refine LeO.ite ?_ ?_ | refine LeO.bind ?_ (fun _ => ?_) | exact ih0 _ _ _) | exact LeO.none _ | refine LeO.ite ?_ ?_ | refine LeO.bind ?_ (fun _ => ?_) | exact ih0 _ _ _
theorem spec_l8Stages.mono : ∀ a0 k, LeO (spec_l8Stages.f k a0) (spec_l8Stages.f (k + 1) a0) := by
 intro a0 k
 have ih0 := spec_l8Stages.mono_l k
 unfold spec_l8Stages.f
 repeat' first | (with_reducible first | exact LeO.refl _ | exact LeO.none _ | refine LeO.ite ?_ ?_ | refine LeO.bind ?_ (fun _ => ?_) | exact ih0 _ _ _) | exact LeO.none _ | refine LeO.ite ?_ ?_ | refine LeO.bind ?_ (fun _ => ?_) | exact ih0 _ _ _
set_option maxHeartbeats 8000000 in
set_option maxRecDepth 100000 in
theorem spec_l8Stages.calls (k : Nat) (P0_ : Nat → Prop) (A0 : Option Addr) (c0 : Nat) (l0 : List (S51)) (r : List (List Int)) (w : World) (hs0 : Kd.V k51 51 w w.heap.size (fun k_ => P0_ k_) (.slice A0 l0.length c0) l0) (h : spec_l8Stages.f k l0 = some r) :
  Calls Try.prog 55 #[.slice A0 l0.length c0] w fun e w' => ∃ v0_ : Value, e = .returned (v0_) ∧ Kd.N (Kd.slice 3 (Kd.int .i64)) 41 w' w.heap.size (fun k_ => (P0_ k_ ∨ w.heap.size ≤ k_)) v0_ r ∧ Below w.heap.size w w' := by
 have HO0 := Aside0.mk (show Kd.V k51 51 w w.heap.size (fun k_ => (P0_ k_ ∨ w.heap.size ≤ k_)) (.slice A0 l0.length c0) l0 from Kd.V_mono hs0 (fun k_ hk => .inl hk))
 have HB := Aside0.mk (Below.refl w.heap.size w)
 have H : (spec_l8Stages.l0 k l0 (([] : List (List Int))) 0) = some r := h
 clear h
 obtain ⟨y198, hy198⟩ : ∃ y_ : List (List Int), y_ = (([] : List (List Int))) := ⟨_, rfl⟩
 replace H : (spec_l8Stages.l0 k l0 y198 0) = some r := by first | (rw [hy198]; with_reducible exact H) | (have H2_ := (Option.bind_some _ _).symm.trans H; rw [hy198]; with_reducible exact H2_) | (have H2_ := (Option.bind_some _ _).symm.trans H; with_reducible exact H2_) | with_reducible exact H | (rw [hy198]; exact H) | exact H
 have Ny198 := Aside0.mk hy198
 clear hy198
 have H' := Aside0.mk H
 clear H
 go_enter Try.func55, Try.ntmps55
 go_wp2_with (first | ((with_reducible refine gate_dst (N := 5) rfl ?_); refine Kd.N_lit (Kd.slice 3 (Kd.int .i64)) _ 41 ?hg (N' := 5) ?hd (xs := ([] : List (List Int))) (inner := []) (ok := (fun k_ => (P0_ k_ ∨ w.heap.size ≤ k_))) (okp := (fun k_ => (P0_ k_ ∨ w.heap.size ≤ k_))) ?hr ?hp (fun _ hk => hk) ((show ∀ k_, w.heap.size ≤ k_ → (fun k_ => (P0_ k_ ∨ w.heap.size ≤ k_)) k_ from fun k_ hk => (.inr (Nat.le_trans (below_size bA) hk))) _ (Nat.le_refl _)) (Below.refl _ _) (Nat.le_refl _) (by simp) ?_; (case hd => rfl); (case hg => rfl); (case hr => first | (go_simp; done) | (go_simp; rfl)); (case hp => exact (Reps.none _ _)); intro v199 w2 ho3 hb hg_ hnew_; clear hg_ hnew_; (first | rw [← Ny198.out] at ho3 | (simp only [Int.reduceToNat] at ho3; rw [← Ny198.out] at ho3)); have n0_ := Aside0.mk (Kd.V_elder' (by (with_reducible repeat (first | apply Kd.V_alloc | apply Kd.V_drewN | apply Kd.V_drew)); exact HO0.out) (Kd.N_base ho3) hb); have n1_ := Aside0.mk (Kd.N_lower ho3 (below_size bA)); have n2_ := Aside0.mk (below_step bA hb); clear HO0; clear HB; have HO0 := n0_; have HO200 := n1_; have HB := n2_; clear n0_ n1_ n2_; clear hb ho3))
 go_loopg [3, 4] k (fun kq v3 v4 w' => ∃ (x3_1 : List (List Int)) (x4_1 : Int), v4 = .int .i64 x4_1 ∧ Aside0 (spec_l8Stages.l0 kq l0 x3_1 x4_1 = some r) ∧ Aside0 (kq ≤ k) ∧ Aside0 (Kd.V k51 51 w' w.heap.size (fun k_ => (P0_ k_ ∨ w.heap.size ≤ k_) ∧ some k_ ≠ (v3 : Value).ownBlock) (.slice A0 l0.length c0) l0) ∧ Aside0 (Kd.N (Kd.slice 3 (Kd.int .i64)) 41 w' w.heap.size (fun k_ => (P0_ k_ ∨ w.heap.size ≤ k_)) v3 x3_1) ∧ Aside0 (Below w.heap.size w w'))
 case atStart => exact ⟨(y198), (0), rS, H', ⟨Nat.le_refl _⟩, ⟨by (with_reducible repeat (first | apply Kd.V_alloc | apply Kd.V_drewN | apply Kd.V_drew)); exact HO0.out⟩, ⟨by (with_reducible repeat (first | apply Kd.N_alloc | apply Kd.N_drewN | apply Kd.N_drew)); exact HO200.out⟩, ⟨bA⟩⟩
 case round =>
  clear H'
  try clear p2
  obtain ⟨x3_1, x4_1, rfl, HA, HK1, HO_0, HO_3, HB⟩ := hrel
  cases gk with
  | zero => exact absurd HA.out (by simp [spec_l8Stages.l0])
  | succ k1 =>
   have H := HA.out
   clear HA
   simp only [spec_l8Stages.l0] at H
   by_cases c4 : x4_1 < (l0.length : Int)
   ·
    rw [if_pos c4] at H
    have c4b0 : decide (x4_1 < (l0.length : Int)) = true := decide_eq_true c4
    clear c4
    have c5 : 0 ≤ x4_1 := ifN H
    replace H := ifT H
    have c5b0 : decide (0 ≤ x4_1) = true := decide_eq_true c5
    clear c5
    have c6 : x3_1.length < 5864062014805 := ifN H
    replace H := ifT H
    have LMc6 := Aside0.mk c6
    clear c6
    obtain ⟨y202, hy202⟩ : ∃ y_ : List (List Int), y_ = (x3_1 ++ [(rd_T51 l0 x4_1).f0]) := ⟨_, rfl⟩
    replace H : (spec_l8Stages.l0 k1 l0 y202 (wrap64 (x4_1 + 1))) = some r := by first | (rw [hy202]; with_reducible exact H) | (have H2_ := (Option.bind_some _ _).symm.trans H; rw [hy202]; with_reducible exact H2_) | (have H2_ := (Option.bind_some _ _).symm.trans H; with_reducible exact H2_) | with_reducible exact H | (rw [hy202]; exact H) | exact H
    have Ny202 := Aside0.mk hy202
    clear hy202
    have H' := Aside0.mk H
    clear H
    have p201 : 0 ≤ (x4_1 : Int) := dA
    have q201 : x4_1 < (l0.length : Int) := dA
    obtain ⟨ad201, A201_0, c201_0, e201, hx201_0, hx201_1, hl201_0, hi201_0⟩ := at_T51 (Kd.V_reads' HO_0.out).2.2 x4_1 p201 q201
    cases e201
    obtain ⟨ce201, hce201, hMe201, hcc201⟩ := Kd.V_get HO_0.out z51 x4_1 p201 (by first | exact q201 | exact dA | (have e_ := (Kd.V_reads' HO_0.out).1; omega))
    obtain ⟨ua201_0, uc201_0, rfl, ul201_0, ge201_0⟩ := k51_openF hMe201
    have hv201_0 := hcc201 0 _ rfl
    rw [Nat.add_zero] at hv201_0
    replace hv201_0 := Option.some.inj (hv201_0.symm.trans hx201_0)
    injection hv201_0 with hva_ hvn_ hvc_
    rw [hva_] at ge201_0
    rw [hvc_] at ul201_0
    have HL201_0 := Aside0.mk (show Kd.V (Kd.int .i64) 3 _ w.heap.size _ _ ((rd_T51 l0 x4_1).f0) from Kd.V_mk ul201_0 ge201_0)
    clear hva_ hvn_ hvc_ ge201_0 ul201_0
    clear hcc201 hce201
    have HR201_0 := Aside0.mk hi201_0
    have HC201_0 := Aside0.mk hl201_0
    clear hi201_0 hl201_0
    replace p201 := eq_true p201
    replace q201 := eq_true q201
    go_wp2_with (first | ((with_reducible refine gate_builtin (b := .append) (xs := #[.tmp 12, .tmp 18]) rfl ?_); at_builtin; refine Kd.N_append (Kd.slice 3 (Kd.int .i64)) (w0 := w) w.heap.size rfl (.tmp 12) (.tmp 18) 55 41 (.slice none 0 0) 24 rfl Try.underlying55 info41 rfl (by decide) (by omega) u3 x3_1 ((rd_T51 l0 x4_1).f0) [.slice A201_0 ((rd_T51 l0 x4_1).f0).length c201_0] (fun k_ => (P0_ k_ ∨ w.heap.size ≤ k_)) (fun k_ => ((fun k_ => (P0_ k_ ∨ w.heap.size ≤ k_))) k_ ∧ some k_ ≠ (u3 : Value).ownBlock) rfl rfl ?aP (fun _ hk => hk) ?aF ?aO ?aB ?aS ?aL ?_; (case aP => exact (Kd.FK_slice_mk (Kd.V_reads' (Kd.V_mono (ok' := (fun k_ => ((fun k_ => (P0_ k_ ∨ w.heap.size ≤ k_))) k_ ∧ some k_ ≠ (u3 : Value).ownBlock)) (HL201_0.out) (fun k_ hk => ⟨hk.1, hk.2⟩))).2.1 (Kd.V_F (Kd.V_mono (ok' := (fun k_ => ((fun k_ => (P0_ k_ ∨ w.heap.size ≤ k_))) k_ ∧ some k_ ≠ (u3 : Value).ownBlock)) (HL201_0.out) (fun k_ hk => ⟨hk.1, hk.2⟩))))); (case aB => exact bA); (case aF => exact (fun k_ hk => (.inr (Nat.le_trans (below_size bA) hk)))); (case aO => exact (by (with_reducible repeat (first | apply Kd.N_alloc | apply Kd.N_drewN | apply Kd.N_drew)); exact HO_3.out)); (case aS => exact (below_size bA)); (case aL => have := LMc6.out; omega); intro v203 w7 ho hb hg hat; rw [← Ny202.out] at ho; have n0_ := Aside0.mk (Kd.V_afterv (ok := (fun k_ => (P0_ k_ ∨ w.heap.size ≤ k_))) (by (with_reducible repeat (first | apply Kd.V_alloc | apply Kd.V_drewN | apply Kd.V_drew)); exact HO_0.out) hg hat); have n1_ := Aside0.mk (Kd.V_afterv (ok := (fun k_ => (P0_ k_ ∨ w.heap.size ≤ k_))) (by (with_reducible repeat (first | apply Kd.V_alloc | apply Kd.V_drewN | apply Kd.V_drew)); exact HL201_0.out) hg hat); have n2_ := Aside0.mk (hb); have n3_ := Aside0.mk (ho); clear HO_0; clear HL201_0; clear HB; clear HO_3; have HO_0 := n0_; have HL201_0 := n1_; have HB := n2_; have HO204 := n3_; clear n0_ n1_ n2_ n3_; clear ho hb hg hat))
    go_roundg k1
    case measure => have := HK1.out; omega
    case rel => exact ⟨(y202), (wrap64 (x4_1 + 1)), rS, H', ⟨by have := HK1.out; omega⟩, ⟨by (with_reducible repeat (first | apply Kd.V_alloc | apply Kd.V_drewN | apply Kd.V_drew)); exact HO_0.out⟩, ⟨by (with_reducible repeat (first | apply Kd.N_alloc | apply Kd.N_drewN | apply Kd.N_drew)); exact HO204.out⟩, ⟨bA⟩⟩
   ·
    rw [if_neg c4] at H
    have c4b0 : decide (x4_1 < (l0.length : Int)) = false := decide_eq_false c4
    clear c4
    obtain rfl := Option.some.inj H
    go_wp2
    go_ret
    exact ⟨_, by first | rfl | (simp [errW_none, errW_some] <;> rfl) | (simp [*, errW_none, errW_some] <;> rfl), by (with_reducible repeat (first | apply Kd.N_alloc | apply Kd.N_drewN | apply Kd.N_drew)); exact HO_3.out, bA⟩

/-! ### spec_IsPlan: function 17 -/
def spec_IsPlan.l0 : Nat → List (S58) → List (S51) → Int → Option (Bool)
 | 0, _, _, _ => none
 | k + 1, x0, x1, x5 => if x5 < (x1.length : Int) then (if 0 ≤ x5 then (if (((rd_T51 x1 x5).f0).length : Int) = 0 then (some false) else ((spec_IsTogether.f k x0 ((rd_T51 x1 x5).f0)).bind fun t212 => (if t212 = true then ((spec_LeastGreen.f k x0 ((rd_T51 x1 x5).f0)).bind fun t215 => ((spec_l1In.f ((rd_T51 x1 x5).f1) t215 60).bind fun t216 => (if t216 = true then (spec_IsPlan.l0 k x0 x1 (wrap64 (x5 + 1))) else (some false)))) else (some false)))) else (none)) else ((spec_l8Stages.f k x1).bind fun t206 => ((spec_Covers.f k x0 t206).bind fun t209 => (some t209)))
def spec_IsPlan.f (k : Nat) (l0 : List (S58)) (l1 : List (S51)) : Option (Bool) := (spec_l1In.f (l1.length : Int) 1 6).bind fun t205 => (if t205 = true then (spec_IsPlan.l0 k l0 l1 0) else (some false))
theorem spec_IsPlan.mono_l : ∀ k, (∀ y0 y1 y2, LeO (spec_IsPlan.l0 k y0 y1 y2) (spec_IsPlan.l0 (k + 1) y0 y1 y2))
 | 0 => fun _ _ _ r h => by simp [spec_IsPlan.l0] at h
 | k + 1 => by
  have ih0 := spec_IsPlan.mono_l k
  ·
   intro y0 y1 y2
   unfold spec_IsPlan.l0
   repeat' first | (with_reducible first | exact LeO.refl _ | exact LeO.none _ | refine LeO.ite ?_ ?_ | refine LeO.bind ?_ (fun _ => ?_) | exact ih0 _ _ _ | exact spec_Covers.mono _ _ _ | exact spec_IsTogether.mono _ _ _ | exact spec_LeastGreen.mono _ _ _ | exact spec_l8Stages.mono _ _) | exact LeO.none _ | refine LeO.ite ?_ ?_ | refine LeO.bind ?_ (fun _ => ?_) | exact ih0 _ _ _ | exact spec_Covers.mono _ _ _ | exact spec_IsTogether.mono _ _ _ | exact spec_LeastGreen.mono _ _ _ | exact spec_l8Stages.mono _ _
theorem spec_IsPlan.mono : ∀ a0 a1 k, LeO (spec_IsPlan.f k a0 a1) (spec_IsPlan.f (k + 1) a0 a1) := by
 intro a0 a1 k
 have ih0 := spec_IsPlan.mono_l k
 unfold spec_IsPlan.f
 repeat' first | (with_reducible first | exact LeO.refl _ | exact LeO.none _ | refine LeO.ite ?_ ?_ | refine LeO.bind ?_ (fun _ => ?_) | exact ih0 _ _ _ | exact spec_Covers.mono _ _ _ | exact spec_IsTogether.mono _ _ _ | exact spec_LeastGreen.mono _ _ _ | exact spec_l8Stages.mono _ _) | exact LeO.none _ | refine LeO.ite ?_ ?_ | refine LeO.bind ?_ (fun _ => ?_) | exact ih0 _ _ _ | exact spec_Covers.mono _ _ _ | exact spec_IsTogether.mono _ _ _ | exact spec_LeastGreen.mono _ _ _ | exact spec_l8Stages.mono _ _
def spec_IsPlan.T6 : Bool × List (List Nat × List Nat) := (true, [([], []), ([], []), ([0, 1], [0, 1]), ([2], [2]), ([3], [3]), ([4], [4]), ([5], [5]), ([6], [6]), ([7], [7]), ([7], [7]), ([7], [7]), ([9, 10, 7], [7, 9, 10]), ([11, 7], [7, 11]), ([12, 7], [7, 12]), ([8, 13, 7, 7], [7, 8, 13]), ([14, 7], [7, 14]), ([7, 15], [7, 15]), ([16, 14], [16]), ([17], [17]), ([17], [17]), ([18, 19, 17], [17, 18, 19]), ([20, 17], [17, 20]), ([21, 17], [17, 21]), ([17], [17]), ([17], [17]), ([17], [17]), ([24, 25, 17], [17, 24, 25]), ([26, 17], [17, 26]), ([27, 17], [17, 27]), ([23, 28, 17, 17], [17, 23, 28]), ([22, 29, 29, 17], [17, 22, 29]), ([30, 17], [17, 30]), ([17, 31], [17, 31])])
def spec_IsPlan.B6 : List Nat := [0, 0, 3, 7, 15, 31, 63, 127, 255, 255, 255, 1791, 3839, 7935, 16383, 32767, 65535, 131071, 262143, 262143, 1048575, 2097151, 4194303, 262143, 262143, 262143, 50593791, 117702655, 251920383, 528744447, 1073741823, 2147483647, 4294967295]
theorem spec_IsPlan.tab6 : rtab .any (opsOf Try.f17 6) = spec_IsPlan.T6 := by kernel_rfl
theorem spec_IsPlan.bits6 : waitsOk spec_IsPlan.T6.2 spec_IsPlan.B6 = true := by kernel_rfl
set_option maxHeartbeats 8000000 in
set_option maxRecDepth 100000 in
theorem spec_IsPlan.calls (k : Nat) (A0 : Option Addr) (c0 : Nat) (l0 : List (S58)) (A1 : Option Addr) (c1 : Nat) (l1 : List (S51)) (r : Bool) (w : World) (hr0 : Kd.C k58 w A0 l0.length l0) (hc0 : l0.length ≤ c0) (hr1 : Kd.C k51 w A1 l1.length l1) (hc1 : l1.length ≤ c1) (h : spec_IsPlan.f k l0 l1 = some r) :
  Calls Try.prog 17 #[.slice A0 l0.length c0, .slice A1 l1.length c1] w fun e w' => e = .returned (.bool r) ∧ Below w.heap.size w w' := by
 have HR0 := Aside0.mk hr0
 have HC0 := Aside0.mk hc0
 clear hr0 hc0
 have HR1 := Aside0.mk hr1
 have HC1 := Aside0.mk hc1
 clear hr1 hc1
 have HB := Aside0.mk (Below.refl w.heap.size w)
 have H : ((spec_l1In.f (l1.length : Int) 1 6).bind fun t205 => (if t205 = true then (spec_IsPlan.l0 k l0 l1 0) else (some false))) = some r := h
 clear h
 obtain ⟨t205, A3, H⟩ := bindE H
 try dsimp only at H
 by_cases c4 : t205 = true
 ·
  subst c4
  have H1 : (spec_IsPlan.l0 k l0 l1 0) = some r := by rw [if_pos rfl] at H; exact H
  clear H
  have H := H1
  clear H1
  have H' := Aside0.mk H
  clear H
  go_enter Try.func17, Try.ntmps17
  go_wp2_with (first | ((with_reducible refine gate_callee (f := 51) rfl ?_); refine gL (some 8) Try.func51 #[.int .i64 (l1.length : Int), .int .i64 1, .int .i64 6] ?_; (with_reducible refine (spec_l1In.calls (l1.length : Int) 1 6 true _ A3.out).mono ?_); rintro e w' ⟨rfl, ⟨nd, rfl⟩⟩; refine ⟨_, rfl, ?_⟩))
  go_loopg [5] k (fun kq v5 w' => ∃ (x5_1 : Int), v5 = .int .i64 x5_1 ∧ Aside0 (spec_IsPlan.l0 kq l0 l1 x5_1 = some r) ∧ Aside0 (kq ≤ k) ∧ Aside0 (Below w.heap.size w w'))
  case atStart => exact ⟨(0), rS, H', ⟨Nat.le_refl _⟩, ⟨bA⟩⟩
  case round =>
   clear H'
   try clear c1
   try clear p2
   try clear c4
   obtain ⟨x5_1, rfl, HA, HK1, HB⟩ := hrel
   cases gk with
   | zero => exact absurd HA.out (by simp [spec_IsPlan.l0])
   | succ k1 =>
    have H := HA.out
    clear HA
    simp only [spec_IsPlan.l0] at H
    by_cases c5 : x5_1 < (l1.length : Int)
    ·
     rw [if_pos c5] at H
     have c5b0 : decide (x5_1 < (l1.length : Int)) = true := decide_eq_true c5
     clear c5
     have c6 : 0 ≤ x5_1 := ifN H
     replace H := ifT H
     have c6b0 : decide (0 ≤ x5_1) = true := decide_eq_true c6
     clear c6
     by_cases c7 : (((rd_T51 l1 x5_1).f0).length : Int) = 0
     ·
      rw [if_pos c7] at H
      have c7b0 : ((((rd_T51 l1 x5_1).f0).length : Int) == 0) = true := beq_iff_eq.mpr c7
      have c7b1 : ((((rd_T51 l1 x5_1).f0).length : Int) != 0) = false := bne_eq_false_iff_eq.mpr c7
      clear c7
      obtain rfl := Option.some.inj H
      try go_wp2
      have HBo := HB
      replace HB := Aside0.mk (below_drew1 HB.out)
      have p210 : 0 ≤ (x5_1 : Int) := dA
      have q210 : x5_1 < (l1.length : Int) := dA
      obtain ⟨ad210, A210_0, c210_0, e210, hx210_0, hx210_1, hl210_0, hi210_0⟩ := at_T51 HR1.out x5_1 p210 q210
      have hw210_1 := hx210_1
      have hw210_0 := hx210_0
      cases e210
      replace hx210_0 := hC HB hx210_0
      replace hx210_1 := hC HB hx210_1
      have HR210_0 := Aside0.mk hi210_0
      have HC210_0 := Aside0.mk hl210_0
      clear hi210_0 hl210_0
      replace p210 := eq_true p210
      replace q210 := eq_true q210
      refine start_ (n := 33) (S := fun w' => w'.cell? (ad210.add ((x5_1).toNat * 2)) = some (.slice A210_0 ((rd_T51 l1 x5_1).f0).length c210_0) ∧ w'.cell? ⟨(ad210.add ((x5_1).toNat * 2)).block, (ad210.add ((x5_1).toNat * 2)).off + 1, none⟩ = some (.int .i64 ((rd_T51 l1 x5_1).f1))) (ds := []) (mb 33 0) (by kernel_rfl) rfl rfl ⟨(hC HB hw210_0), (hC HB hw210_1)⟩ (fun hHeld => ?_); refine with_tabW spec_IsPlan.tab6 spec_IsPlan.bits6 (fun HT_ HW_ => ?_)
      generalize wr.drew = w8 at HB HR210_0 hx210_0 hx210_1 hHeld ⊢
      refine pA (i := 0) (N := some 16) (mb 33 1) HT_ ?_
      refine pA (i := 1) (N := some 17) (mb 33 3) HT_ ?_
      refine pA (i := 2) (N := some 18) (mb 33 7) HT_ ?_
      refine pA (i := 3) (N := some 19) (mb 33 15) HT_ ?_
      refine tA2 (i := 4) (N := some 20) (mb 33 31) HT_ HW_ hHeld ?_
      refine pA (i := 5) (N := some 21) (mb 33 63) HT_ ?_
      refine pA (i := 6) (N := some 22) (mb 33 127) HT_ ?_
      refine pA (i := 7) (N := some 23) (mb 33 255) HT_ ?_
      refine pU (i := 8) (N := some 24) (mb 33 511) HT_ ?_
      refine pU (i := 9) (N := some 25) (mb 33 1023) HT_ ?_
      refine pU (i := 10) (N := some 26) (mb 33 2047) HT_ ?_
      refine pU (i := 11) (N := some 27) (mb 33 4095) HT_ ?_
      refine pU (i := 12) (N := some 28) (mb 33 8191) HT_ ?_
      refine pU (i := 13) (N := some 29) (mb 33 16383) HT_ ?_
      refine pU (i := 14) (N := some 30) (mb 33 32767) HT_ ?_
      refine pU (i := 15) (N := some 31) (mb 33 65535) HT_ ?_
      refine pA (i := 16) (N := some 32) (mb 33 131071) HT_ ?_
      refine pA (i := 17) (N := some 33) (mb 33 262143) HT_ ?_
      refine pU (i := 18) (N := some 34) (mb 33 524287) HT_ ?_
      refine pU (i := 19) (N := some 35) (mb 33 1048575) HT_ ?_
      refine pU (i := 20) (N := some 36) (mb 33 2097151) HT_ ?_
      refine pU (i := 21) (N := some 37) (mb 33 4194303) HT_ ?_
      refine pU (i := 22) (N := some 38) (mb 33 8388607) HT_ ?_
      refine pU (i := 23) (N := some 39) (mb 33 16777215) HT_ ?_
      refine pU (i := 24) (N := some 40) (mb 33 33554431) HT_ ?_
      refine pU (i := 25) (N := some 41) (mb 33 67108863) HT_ ?_
      refine pU (i := 26) (N := some 42) (mb 33 134217727) HT_ ?_
      refine pU (i := 27) (N := some 43) (mb 33 268435455) HT_ ?_
      refine pU (i := 28) (N := some 44) (mb 33 536870911) HT_ ?_
      refine pU (i := 29) (N := some 45) (mb 33 1073741823) HT_ ?_
      refine pU (i := 30) (N := some 46) (mb 33 2147483647) HT_ ?_
      refine pU (i := 31) (N := some 47) (mb 33 4294967295) HT_ ?_
      refine pA (i := 32) (N := some 48) (mb 33 8589934591) HT_ ?_
      refine eA HT_ ?_
      try go_wp2
      go_ret
      exact ⟨rA, bA⟩
     ·
      rw [if_neg c7] at H
      have c7b0 : ((((rd_T51 l1 x5_1).f0).length : Int) == 0) = false := beq_eq_false_iff_ne.mpr c7
      have c7b1 : ((((rd_T51 l1 x5_1).f0).length : Int) != 0) = true := bne_iff_ne.mpr c7
      have c7b2 : ¬ (((rd_T51 l1 x5_1).f0) = []) := fun h_ => c7 (by rw [h_]; rfl)
      obtain ⟨t212, A9, H⟩ := bindE H
      try dsimp only at H
      by_cases c10 : t212 = true
      ·
       subst c10
       have H1 : ((spec_LeastGreen.f k1 l0 ((rd_T51 l1 x5_1).f0)).bind fun t215 => ((spec_l1In.f ((rd_T51 l1 x5_1).f1) t215 60).bind fun t216 => (if t216 = true then (spec_IsPlan.l0 k1 l0 l1 (wrap64 (x5_1 + 1))) else (some false)))) = some r := by rw [if_pos rfl] at H; exact H
       clear H
       have H := H1
       clear H1
       obtain ⟨t215, A11, H⟩ := bindE H
       try dsimp only at H
       obtain ⟨t216, A12, H⟩ := bindE H
       try dsimp only at H
       by_cases c13 : t216 = true
       ·
        subst c13
        have H1 : (spec_IsPlan.l0 k1 l0 l1 (wrap64 (x5_1 + 1))) = some r := by rw [if_pos rfl] at H; exact H
        clear H
        have H := H1
        clear H1
        have H' := Aside0.mk H
        clear H
        try go_wp2
        have HBo := HB
        replace HB := Aside0.mk (below_drew1 HB.out)
        have p210 : 0 ≤ (x5_1 : Int) := dA
        have q210 : x5_1 < (l1.length : Int) := dA
        obtain ⟨ad210, A210_0, c210_0, e210, hx210_0, hx210_1, hl210_0, hi210_0⟩ := at_T51 HR1.out x5_1 p210 q210
        have hw210_1 := hx210_1
        have hw210_0 := hx210_0
        cases e210
        replace hx210_0 := hC HB hx210_0
        replace hx210_1 := hC HB hx210_1
        have HR210_0 := Aside0.mk hi210_0
        have HC210_0 := Aside0.mk hl210_0
        clear hi210_0 hl210_0
        replace p210 := eq_true p210
        replace q210 := eq_true q210
        have p211 : 0 ≤ (x5_1 : Int) := dA
        have q211 : x5_1 < (l1.length : Int) := dA
        obtain ⟨ad211, A211_0, c211_0, e211, hx211_0, hx211_1, hl211_0, hi211_0⟩ := at_T51 HR1.out x5_1 p211 q211
        have hw211_1 := hx211_1
        have hw211_0 := hx211_0
        obtain rfl : ad210 = ad211 := (by injection e211)
        replace hx211_0 := hC HB hx211_0
        replace hx211_1 := hC HB hx211_1
        have HR211_0 := Aside0.mk hi211_0
        have HC211_0 := Aside0.mk hl211_0
        clear hi211_0 hl211_0
        replace p211 := eq_true p211
        replace q211 := eq_true q211
        have ea_ := Option.some.inj (hx210_0.symm.trans hx211_0)
        injection ea_ with ea_ en_ ec_
        subst ea_
        subst ec_
        clear en_
        have p213 : 0 ≤ (x5_1 : Int) := dA
        have q213 : x5_1 < (l1.length : Int) := dA
        obtain ⟨ad213, A213_0, c213_0, e213, hx213_0, hx213_1, hl213_0, hi213_0⟩ := at_T51 HR1.out x5_1 p213 q213
        have hw213_1 := hx213_1
        have hw213_0 := hx213_0
        obtain rfl : ad210 = ad213 := (by injection e213)
        replace hx213_0 := hC HB hx213_0
        replace hx213_1 := hC HB hx213_1
        have HR213_0 := Aside0.mk hi213_0
        have HC213_0 := Aside0.mk hl213_0
        clear hi213_0 hl213_0
        replace p213 := eq_true p213
        replace q213 := eq_true q213
        first | have ea_ := Option.some.inj (hw210_0.symm.trans hw213_0) | have ea_ := Option.some.inj (hx210_0.symm.trans hx213_0)
        injection ea_ with ea_ en_ ec_
        subst ea_
        subst ec_
        clear en_
        have p214 : 0 ≤ (x5_1 : Int) := dA
        have q214 : x5_1 < (l1.length : Int) := dA
        obtain ⟨ad214, A214_0, c214_0, e214, hx214_0, hx214_1, hl214_0, hi214_0⟩ := at_T51 HR1.out x5_1 p214 q214
        have hw214_1 := hx214_1
        have hw214_0 := hx214_0
        obtain rfl : ad210 = ad214 := (by injection e214)
        replace hx214_0 := hC HB hx214_0
        replace hx214_1 := hC HB hx214_1
        have HR214_0 := Aside0.mk hi214_0
        have HC214_0 := Aside0.mk hl214_0
        clear hi214_0 hl214_0
        replace p214 := eq_true p214
        replace q214 := eq_true q214
        first | have ea_ := Option.some.inj (hw210_0.symm.trans hw214_0) | have ea_ := Option.some.inj (hx210_0.symm.trans hx214_0)
        injection ea_ with ea_ en_ ec_
        subst ea_
        subst ec_
        clear en_
        refine start_ (n := 33) (S := fun w' => w'.cell? (ad210.add ((x5_1).toNat * 2)) = some (.slice A210_0 ((rd_T51 l1 x5_1).f0).length c210_0) ∧ w'.cell? ⟨(ad210.add ((x5_1).toNat * 2)).block, (ad210.add ((x5_1).toNat * 2)).off + 1, none⟩ = some (.int .i64 ((rd_T51 l1 x5_1).f1)) ∧ w'.cell? (ad210.add ((x5_1).toNat * 2)) = some (.slice A210_0 ((rd_T51 l1 x5_1).f0).length c210_0) ∧ w'.cell? ⟨(ad210.add ((x5_1).toNat * 2)).block, (ad210.add ((x5_1).toNat * 2)).off + 1, none⟩ = some (.int .i64 ((rd_T51 l1 x5_1).f1)) ∧ w'.cell? (ad210.add ((x5_1).toNat * 2)) = some (.slice A210_0 ((rd_T51 l1 x5_1).f0).length c210_0) ∧ w'.cell? ⟨(ad210.add ((x5_1).toNat * 2)).block, (ad210.add ((x5_1).toNat * 2)).off + 1, none⟩ = some (.int .i64 ((rd_T51 l1 x5_1).f1)) ∧ w'.cell? (ad210.add ((x5_1).toNat * 2)) = some (.slice A210_0 ((rd_T51 l1 x5_1).f0).length c210_0) ∧ w'.cell? ⟨(ad210.add ((x5_1).toNat * 2)).block, (ad210.add ((x5_1).toNat * 2)).off + 1, none⟩ = some (.int .i64 ((rd_T51 l1 x5_1).f1))) (ds := []) (mb 33 0) (by kernel_rfl) rfl rfl ⟨(hC HB hw210_0), (hC HB hw210_1), (hC HB hw211_0), (hC HB hw211_1), (hC HB hw213_0), (hC HB hw213_1), (hC HB hw214_0), (hC HB hw214_1)⟩ (fun hHeld => ?_); refine with_tabW spec_IsPlan.tab6 spec_IsPlan.bits6 (fun HT_ HW_ => ?_)
        generalize wr.drew = w14 at HB HR210_0 HR211_0 HR213_0 HR214_0 hx210_0 hx210_1 hx211_0 hx211_1 hx213_0 hx213_1 hx214_0 hx214_1 hHeld ⊢
        refine pA (i := 0) (N := some 16) (mb 33 1) HT_ ?_
        refine pA (i := 1) (N := some 17) (mb 33 3) HT_ ?_
        refine pA (i := 2) (N := some 18) (mb 33 7) HT_ ?_
        refine pA (i := 3) (N := some 19) (mb 33 15) HT_ ?_
        refine tA8 (i := 4) (N := some 20) (mb 33 31) HT_ HW_ hHeld ?_
        refine pA (i := 5) (N := some 21) (mb 33 63) HT_ ?_
        refine pA (i := 6) (N := some 22) (mb 33 127) HT_ ?_
        refine pA (i := 7) (N := some 23) (mb 33 255) HT_ ?_
        refine pA (i := 8) (N := some 24) (mb 33 511) HT_ ?_
        refine pA (i := 9) (N := some 25) (mb 33 1023) HT_ ?_
        refine pA (i := 10) (N := some 26) (mb 33 2047) HT_ ?_
        refine pA (i := 11) (N := some 27) (mb 33 4095) HT_ ?_
        refine pA (i := 12) (N := some 28) (mb 33 8191) HT_ ?_
        refine tA8 (i := 13) (N := some 29) (mb 33 16383) HT_ HW_ hHeld ?_
        refine oA (i := 14) (N := some 30) (mb 33 32767) HT_ (fun K hK => ?_)
        refine gA Try.func52 #[.slice A0 l0.length c0, .slice A210_0 ((rd_T51 l1 x5_1).f0).length c210_0] ?_
        with_reducible refine (spec_IsTogether.calls k1 _ _ l0 _ _ ((rd_T51 l1 x5_1).f0) true _ ?side1 ?side2 ?side3 ?side4 A9.out).mono ?_
        (case side1 => exact cB HR0)
        (case side2 => exact HC0.out)
        (case side3 => exact cB HR211_0)
        (case side4 => exact HC211_0.out)
        rintro e w15 ⟨rfl, hb⟩
        refine ⟨_, rfl, ?_⟩
        replace HB := Aside0.mk (below_step bA hb)
        (try clear hb)
        (try clear hb2)
        (try clear hk)
        (try clear hi)
        refine hK.out _ _ ⟨(hC HB hw210_0), (hC HB hw210_1), (hC HB hw211_0), (hC HB hw211_1), (hC HB hw213_0), (hC HB hw213_1), (hC HB hw214_0), (hC HB hw214_1)⟩ (fun hHeld => ?_)
        clear hK K
        refine nB ?_
        refine pA (i := 15) (N := some 31) (mb 33 65535) HT_ ?_
        refine pA (i := 16) (N := some 32) (mb 33 131071) HT_ ?_
        refine pA (i := 17) (N := some 33) (mb 33 262143) HT_ ?_
        refine pA (i := 18) (N := some 34) (mb 33 524287) HT_ ?_
        refine pA (i := 19) (N := some 35) (mb 33 1048575) HT_ ?_
        refine pA (i := 20) (N := some 36) (mb 33 2097151) HT_ ?_
        refine pA (i := 21) (N := some 37) (mb 33 4194303) HT_ ?_
        refine pA (i := 23) (N := some 39) (mb 33 12582911) HT_ ?_
        refine pA (i := 24) (N := some 40) (mb 33 29360127) HT_ ?_
        refine pA (i := 25) (N := some 41) (mb 33 62914559) HT_ ?_
        refine pA (i := 26) (N := some 42) (mb 33 130023423) HT_ ?_
        refine pA (i := 27) (N := some 43) (mb 33 264241151) HT_ ?_
        refine tA8 (i := 22) (N := some 38) (mb 33 268435455) HT_ HW_ hHeld ?_
        refine tA8 (i := 28) (N := some 44) (mb 33 536870911) HT_ HW_ hHeld ?_
        refine oA (i := 29) (N := some 45) (mb 33 1073741823) HT_ (fun K hK => ?_)
        refine gA Try.func53 #[.slice A0 l0.length c0, .slice A210_0 ((rd_T51 l1 x5_1).f0).length c210_0] ?_
        with_reducible refine (spec_LeastGreen.calls k1 _ _ l0 _ _ ((rd_T51 l1 x5_1).f0) t215 _ ?side1 ?side2 ?side3 ?side4 A11.out).mono ?_
        (case side1 => exact cB HR0)
        (case side2 => exact HC0.out)
        (case side3 => exact cB HR214_0)
        (case side4 => exact HC214_0.out)
        rintro e w' ⟨rfl, ⟨nd, rfl⟩⟩
        refine ⟨_, rfl, ?_⟩
        refine hK.out _ _ ⟨(hC HB hw210_0), (hC HB hw210_1), (hC HB hw211_0), (hC HB hw211_1), (hC HB hw213_0), (hC HB hw213_1), (hC HB hw214_0), (hC HB hw214_1)⟩ (fun hHeld => ?_)
        clear hK K
        refine nB ?_
        refine oA (i := 30) (N := some 46) (mb 33 2147483647) HT_ (fun K hK => ?_)
        refine gA Try.func51 #[.int .i64 ((rd_T51 l1 x5_1).f1), .int .i64 t215, .int .i64 60] ?_
        with_reducible refine (spec_l1In.calls ((rd_T51 l1 x5_1).f1) t215 60 true _ A12.out).mono ?_
        rintro e w' ⟨rfl, ⟨nd, rfl⟩⟩
        refine ⟨_, rfl, ?_⟩
        refine hK.out _ _ ⟨(hC HB hw210_0), (hC HB hw210_1), (hC HB hw211_0), (hC HB hw211_1), (hC HB hw213_0), (hC HB hw213_1), (hC HB hw214_0), (hC HB hw214_1)⟩ (fun hHeld => ?_)
        clear hK K
        refine nB ?_
        refine pA (i := 31) (N := some 47) (mb 33 4294967295) HT_ ?_
        refine pA (i := 32) (N := some 48) (mb 33 8589934591) HT_ ?_
        refine eA HT_ ?_
        try go_wp2
        go_roundg k1
        case measure => have := HK1.out; omega
        case rel => exact ⟨(wrap64 (x5_1 + 1)), rS, H', ⟨by have := HK1.out; omega⟩, ⟨bA⟩⟩
       ·
        replace c13 := Bool.eq_false_iff.mpr c13
        subst c13
        have H1 : (some false) = some r := by rw [if_neg (show ¬ (false = true) by decide)] at H; exact H
        clear H
        have H := H1
        clear H1
        obtain rfl := Option.some.inj H
        try go_wp2
        have HBo := HB
        replace HB := Aside0.mk (below_drew1 HB.out)
        have p210 : 0 ≤ (x5_1 : Int) := dA
        have q210 : x5_1 < (l1.length : Int) := dA
        obtain ⟨ad210, A210_0, c210_0, e210, hx210_0, hx210_1, hl210_0, hi210_0⟩ := at_T51 HR1.out x5_1 p210 q210
        have hw210_1 := hx210_1
        have hw210_0 := hx210_0
        cases e210
        replace hx210_0 := hC HB hx210_0
        replace hx210_1 := hC HB hx210_1
        have HR210_0 := Aside0.mk hi210_0
        have HC210_0 := Aside0.mk hl210_0
        clear hi210_0 hl210_0
        replace p210 := eq_true p210
        replace q210 := eq_true q210
        have p211 : 0 ≤ (x5_1 : Int) := dA
        have q211 : x5_1 < (l1.length : Int) := dA
        obtain ⟨ad211, A211_0, c211_0, e211, hx211_0, hx211_1, hl211_0, hi211_0⟩ := at_T51 HR1.out x5_1 p211 q211
        have hw211_1 := hx211_1
        have hw211_0 := hx211_0
        obtain rfl : ad210 = ad211 := (by injection e211)
        replace hx211_0 := hC HB hx211_0
        replace hx211_1 := hC HB hx211_1
        have HR211_0 := Aside0.mk hi211_0
        have HC211_0 := Aside0.mk hl211_0
        clear hi211_0 hl211_0
        replace p211 := eq_true p211
        replace q211 := eq_true q211
        have ea_ := Option.some.inj (hx210_0.symm.trans hx211_0)
        injection ea_ with ea_ en_ ec_
        subst ea_
        subst ec_
        clear en_
        have p213 : 0 ≤ (x5_1 : Int) := dA
        have q213 : x5_1 < (l1.length : Int) := dA
        obtain ⟨ad213, A213_0, c213_0, e213, hx213_0, hx213_1, hl213_0, hi213_0⟩ := at_T51 HR1.out x5_1 p213 q213
        have hw213_1 := hx213_1
        have hw213_0 := hx213_0
        obtain rfl : ad210 = ad213 := (by injection e213)
        replace hx213_0 := hC HB hx213_0
        replace hx213_1 := hC HB hx213_1
        have HR213_0 := Aside0.mk hi213_0
        have HC213_0 := Aside0.mk hl213_0
        clear hi213_0 hl213_0
        replace p213 := eq_true p213
        replace q213 := eq_true q213
        first | have ea_ := Option.some.inj (hw210_0.symm.trans hw213_0) | have ea_ := Option.some.inj (hx210_0.symm.trans hx213_0)
        injection ea_ with ea_ en_ ec_
        subst ea_
        subst ec_
        clear en_
        have p214 : 0 ≤ (x5_1 : Int) := dA
        have q214 : x5_1 < (l1.length : Int) := dA
        obtain ⟨ad214, A214_0, c214_0, e214, hx214_0, hx214_1, hl214_0, hi214_0⟩ := at_T51 HR1.out x5_1 p214 q214
        have hw214_1 := hx214_1
        have hw214_0 := hx214_0
        obtain rfl : ad210 = ad214 := (by injection e214)
        replace hx214_0 := hC HB hx214_0
        replace hx214_1 := hC HB hx214_1
        have HR214_0 := Aside0.mk hi214_0
        have HC214_0 := Aside0.mk hl214_0
        clear hi214_0 hl214_0
        replace p214 := eq_true p214
        replace q214 := eq_true q214
        first | have ea_ := Option.some.inj (hw210_0.symm.trans hw214_0) | have ea_ := Option.some.inj (hx210_0.symm.trans hx214_0)
        injection ea_ with ea_ en_ ec_
        subst ea_
        subst ec_
        clear en_
        refine start_ (n := 33) (S := fun w' => w'.cell? (ad210.add ((x5_1).toNat * 2)) = some (.slice A210_0 ((rd_T51 l1 x5_1).f0).length c210_0) ∧ w'.cell? ⟨(ad210.add ((x5_1).toNat * 2)).block, (ad210.add ((x5_1).toNat * 2)).off + 1, none⟩ = some (.int .i64 ((rd_T51 l1 x5_1).f1)) ∧ w'.cell? (ad210.add ((x5_1).toNat * 2)) = some (.slice A210_0 ((rd_T51 l1 x5_1).f0).length c210_0) ∧ w'.cell? ⟨(ad210.add ((x5_1).toNat * 2)).block, (ad210.add ((x5_1).toNat * 2)).off + 1, none⟩ = some (.int .i64 ((rd_T51 l1 x5_1).f1)) ∧ w'.cell? (ad210.add ((x5_1).toNat * 2)) = some (.slice A210_0 ((rd_T51 l1 x5_1).f0).length c210_0) ∧ w'.cell? ⟨(ad210.add ((x5_1).toNat * 2)).block, (ad210.add ((x5_1).toNat * 2)).off + 1, none⟩ = some (.int .i64 ((rd_T51 l1 x5_1).f1)) ∧ w'.cell? (ad210.add ((x5_1).toNat * 2)) = some (.slice A210_0 ((rd_T51 l1 x5_1).f0).length c210_0) ∧ w'.cell? ⟨(ad210.add ((x5_1).toNat * 2)).block, (ad210.add ((x5_1).toNat * 2)).off + 1, none⟩ = some (.int .i64 ((rd_T51 l1 x5_1).f1))) (ds := []) (mb 33 0) (by kernel_rfl) rfl rfl ⟨(hC HB hw210_0), (hC HB hw210_1), (hC HB hw211_0), (hC HB hw211_1), (hC HB hw213_0), (hC HB hw213_1), (hC HB hw214_0), (hC HB hw214_1)⟩ (fun hHeld => ?_); refine with_tabW spec_IsPlan.tab6 spec_IsPlan.bits6 (fun HT_ HW_ => ?_)
        generalize wr.drew = w16 at HB HR210_0 HR211_0 HR213_0 HR214_0 hx210_0 hx210_1 hx211_0 hx211_1 hx213_0 hx213_1 hx214_0 hx214_1 hHeld ⊢
        refine pA (i := 0) (N := some 16) (mb 33 1) HT_ ?_
        refine pA (i := 1) (N := some 17) (mb 33 3) HT_ ?_
        refine pA (i := 2) (N := some 18) (mb 33 7) HT_ ?_
        refine pA (i := 3) (N := some 19) (mb 33 15) HT_ ?_
        refine tA8 (i := 4) (N := some 20) (mb 33 31) HT_ HW_ hHeld ?_
        refine pA (i := 5) (N := some 21) (mb 33 63) HT_ ?_
        refine pA (i := 6) (N := some 22) (mb 33 127) HT_ ?_
        refine pA (i := 7) (N := some 23) (mb 33 255) HT_ ?_
        refine pA (i := 8) (N := some 24) (mb 33 511) HT_ ?_
        refine pA (i := 9) (N := some 25) (mb 33 1023) HT_ ?_
        refine pA (i := 10) (N := some 26) (mb 33 2047) HT_ ?_
        refine pA (i := 11) (N := some 27) (mb 33 4095) HT_ ?_
        refine pA (i := 12) (N := some 28) (mb 33 8191) HT_ ?_
        refine tA8 (i := 13) (N := some 29) (mb 33 16383) HT_ HW_ hHeld ?_
        refine oA (i := 14) (N := some 30) (mb 33 32767) HT_ (fun K hK => ?_)
        refine gA Try.func52 #[.slice A0 l0.length c0, .slice A210_0 ((rd_T51 l1 x5_1).f0).length c210_0] ?_
        with_reducible refine (spec_IsTogether.calls k1 _ _ l0 _ _ ((rd_T51 l1 x5_1).f0) true _ ?side1 ?side2 ?side3 ?side4 A9.out).mono ?_
        (case side1 => exact cB HR0)
        (case side2 => exact HC0.out)
        (case side3 => exact cB HR211_0)
        (case side4 => exact HC211_0.out)
        rintro e w17 ⟨rfl, hb⟩
        refine ⟨_, rfl, ?_⟩
        replace HB := Aside0.mk (below_step bA hb)
        (try clear hb)
        (try clear hb2)
        (try clear hk)
        (try clear hi)
        refine hK.out _ _ ⟨(hC HB hw210_0), (hC HB hw210_1), (hC HB hw211_0), (hC HB hw211_1), (hC HB hw213_0), (hC HB hw213_1), (hC HB hw214_0), (hC HB hw214_1)⟩ (fun hHeld => ?_)
        clear hK K
        refine nB ?_
        refine pA (i := 15) (N := some 31) (mb 33 65535) HT_ ?_
        refine pA (i := 16) (N := some 32) (mb 33 131071) HT_ ?_
        refine pA (i := 17) (N := some 33) (mb 33 262143) HT_ ?_
        refine pA (i := 18) (N := some 34) (mb 33 524287) HT_ ?_
        refine pA (i := 19) (N := some 35) (mb 33 1048575) HT_ ?_
        refine pA (i := 20) (N := some 36) (mb 33 2097151) HT_ ?_
        refine pA (i := 21) (N := some 37) (mb 33 4194303) HT_ ?_
        refine pA (i := 23) (N := some 39) (mb 33 12582911) HT_ ?_
        refine pA (i := 24) (N := some 40) (mb 33 29360127) HT_ ?_
        refine pA (i := 25) (N := some 41) (mb 33 62914559) HT_ ?_
        refine pA (i := 26) (N := some 42) (mb 33 130023423) HT_ ?_
        refine pA (i := 27) (N := some 43) (mb 33 264241151) HT_ ?_
        refine tA8 (i := 22) (N := some 38) (mb 33 268435455) HT_ HW_ hHeld ?_
        refine tA8 (i := 28) (N := some 44) (mb 33 536870911) HT_ HW_ hHeld ?_
        refine oA (i := 29) (N := some 45) (mb 33 1073741823) HT_ (fun K hK => ?_)
        refine gA Try.func53 #[.slice A0 l0.length c0, .slice A210_0 ((rd_T51 l1 x5_1).f0).length c210_0] ?_
        with_reducible refine (spec_LeastGreen.calls k1 _ _ l0 _ _ ((rd_T51 l1 x5_1).f0) t215 _ ?side1 ?side2 ?side3 ?side4 A11.out).mono ?_
        (case side1 => exact cB HR0)
        (case side2 => exact HC0.out)
        (case side3 => exact cB HR214_0)
        (case side4 => exact HC214_0.out)
        rintro e w' ⟨rfl, ⟨nd, rfl⟩⟩
        refine ⟨_, rfl, ?_⟩
        refine hK.out _ _ ⟨(hC HB hw210_0), (hC HB hw210_1), (hC HB hw211_0), (hC HB hw211_1), (hC HB hw213_0), (hC HB hw213_1), (hC HB hw214_0), (hC HB hw214_1)⟩ (fun hHeld => ?_)
        clear hK K
        refine nB ?_
        refine oA (i := 30) (N := some 46) (mb 33 2147483647) HT_ (fun K hK => ?_)
        refine gA Try.func51 #[.int .i64 ((rd_T51 l1 x5_1).f1), .int .i64 t215, .int .i64 60] ?_
        with_reducible refine (spec_l1In.calls ((rd_T51 l1 x5_1).f1) t215 60 false _ A12.out).mono ?_
        rintro e w' ⟨rfl, ⟨nd, rfl⟩⟩
        refine ⟨_, rfl, ?_⟩
        refine hK.out _ _ ⟨(hC HB hw210_0), (hC HB hw210_1), (hC HB hw211_0), (hC HB hw211_1), (hC HB hw213_0), (hC HB hw213_1), (hC HB hw214_0), (hC HB hw214_1)⟩ (fun hHeld => ?_)
        clear hK K
        refine nB ?_
        refine pA (i := 31) (N := some 47) (mb 33 4294967295) HT_ ?_
        refine pA (i := 32) (N := some 48) (mb 33 8589934591) HT_ ?_
        refine eA HT_ ?_
        try go_wp2
        go_ret
        exact ⟨rA, bA⟩
      ·
       replace c10 := Bool.eq_false_iff.mpr c10
       subst c10
       have H1 : (some false) = some r := by rw [if_neg (show ¬ (false = true) by decide)] at H; exact H
       clear H
       have H := H1
       clear H1
       obtain rfl := Option.some.inj H
       try go_wp2
       have HBo := HB
       replace HB := Aside0.mk (below_drew1 HB.out)
       have p210 : 0 ≤ (x5_1 : Int) := dA
       have q210 : x5_1 < (l1.length : Int) := dA
       obtain ⟨ad210, A210_0, c210_0, e210, hx210_0, hx210_1, hl210_0, hi210_0⟩ := at_T51 HR1.out x5_1 p210 q210
       have hw210_1 := hx210_1
       have hw210_0 := hx210_0
       cases e210
       replace hx210_0 := hC HB hx210_0
       replace hx210_1 := hC HB hx210_1
       have HR210_0 := Aside0.mk hi210_0
       have HC210_0 := Aside0.mk hl210_0
       clear hi210_0 hl210_0
       replace p210 := eq_true p210
       replace q210 := eq_true q210
       have p211 : 0 ≤ (x5_1 : Int) := dA
       have q211 : x5_1 < (l1.length : Int) := dA
       obtain ⟨ad211, A211_0, c211_0, e211, hx211_0, hx211_1, hl211_0, hi211_0⟩ := at_T51 HR1.out x5_1 p211 q211
       have hw211_1 := hx211_1
       have hw211_0 := hx211_0
       obtain rfl : ad210 = ad211 := (by injection e211)
       replace hx211_0 := hC HB hx211_0
       replace hx211_1 := hC HB hx211_1
       have HR211_0 := Aside0.mk hi211_0
       have HC211_0 := Aside0.mk hl211_0
       clear hi211_0 hl211_0
       replace p211 := eq_true p211
       replace q211 := eq_true q211
       have ea_ := Option.some.inj (hx210_0.symm.trans hx211_0)
       injection ea_ with ea_ en_ ec_
       subst ea_
       subst ec_
       clear en_
       refine start_ (n := 33) (S := fun w' => w'.cell? (ad210.add ((x5_1).toNat * 2)) = some (.slice A210_0 ((rd_T51 l1 x5_1).f0).length c210_0) ∧ w'.cell? ⟨(ad210.add ((x5_1).toNat * 2)).block, (ad210.add ((x5_1).toNat * 2)).off + 1, none⟩ = some (.int .i64 ((rd_T51 l1 x5_1).f1)) ∧ w'.cell? (ad210.add ((x5_1).toNat * 2)) = some (.slice A210_0 ((rd_T51 l1 x5_1).f0).length c210_0) ∧ w'.cell? ⟨(ad210.add ((x5_1).toNat * 2)).block, (ad210.add ((x5_1).toNat * 2)).off + 1, none⟩ = some (.int .i64 ((rd_T51 l1 x5_1).f1))) (ds := []) (mb 33 0) (by kernel_rfl) rfl rfl ⟨(hC HB hw210_0), (hC HB hw210_1), (hC HB hw211_0), (hC HB hw211_1)⟩ (fun hHeld => ?_); refine with_tabW spec_IsPlan.tab6 spec_IsPlan.bits6 (fun HT_ HW_ => ?_)
       generalize wr.drew = w18 at HB HR210_0 HR211_0 hx210_0 hx210_1 hx211_0 hx211_1 hHeld ⊢
       refine pA (i := 0) (N := some 16) (mb 33 1) HT_ ?_
       refine pA (i := 1) (N := some 17) (mb 33 3) HT_ ?_
       refine pA (i := 2) (N := some 18) (mb 33 7) HT_ ?_
       refine pA (i := 3) (N := some 19) (mb 33 15) HT_ ?_
       refine tA4 (i := 4) (N := some 20) (mb 33 31) HT_ HW_ hHeld ?_
       refine pA (i := 5) (N := some 21) (mb 33 63) HT_ ?_
       refine pA (i := 6) (N := some 22) (mb 33 127) HT_ ?_
       refine pA (i := 7) (N := some 23) (mb 33 255) HT_ ?_
       refine pA (i := 8) (N := some 24) (mb 33 511) HT_ ?_
       refine pA (i := 9) (N := some 25) (mb 33 1023) HT_ ?_
       refine pA (i := 10) (N := some 26) (mb 33 2047) HT_ ?_
       refine pA (i := 11) (N := some 27) (mb 33 4095) HT_ ?_
       refine pA (i := 12) (N := some 28) (mb 33 8191) HT_ ?_
       refine tA4 (i := 13) (N := some 29) (mb 33 16383) HT_ HW_ hHeld ?_
       refine oA (i := 14) (N := some 30) (mb 33 32767) HT_ (fun K hK => ?_)
       refine gA Try.func52 #[.slice A0 l0.length c0, .slice A210_0 ((rd_T51 l1 x5_1).f0).length c210_0] ?_
       with_reducible refine (spec_IsTogether.calls k1 _ _ l0 _ _ ((rd_T51 l1 x5_1).f0) false _ ?side1 ?side2 ?side3 ?side4 A9.out).mono ?_
       (case side1 => exact cB HR0)
       (case side2 => exact HC0.out)
       (case side3 => exact cB HR211_0)
       (case side4 => exact HC211_0.out)
       rintro e w19 ⟨rfl, hb⟩
       refine ⟨_, rfl, ?_⟩
       replace HB := Aside0.mk (below_step bA hb)
       (try clear hb)
       (try clear hb2)
       (try clear hk)
       (try clear hi)
       refine hK.out _ _ ⟨(hC HB hw210_0), (hC HB hw210_1), (hC HB hw211_0), (hC HB hw211_1)⟩ (fun hHeld => ?_)
       clear hK K
       refine nB ?_
       refine pA (i := 15) (N := some 31) (mb 33 65535) HT_ ?_
       refine pA (i := 16) (N := some 32) (mb 33 131071) HT_ ?_
       refine pA (i := 17) (N := some 33) (mb 33 262143) HT_ ?_
       refine pU (i := 18) (N := some 34) (mb 33 524287) HT_ ?_
       refine pU (i := 19) (N := some 35) (mb 33 1048575) HT_ ?_
       refine pU (i := 20) (N := some 36) (mb 33 2097151) HT_ ?_
       refine pU (i := 21) (N := some 37) (mb 33 4194303) HT_ ?_
       refine pU (i := 22) (N := some 38) (mb 33 8388607) HT_ ?_
       refine pU (i := 23) (N := some 39) (mb 33 16777215) HT_ ?_
       refine pU (i := 24) (N := some 40) (mb 33 33554431) HT_ ?_
       refine pU (i := 25) (N := some 41) (mb 33 67108863) HT_ ?_
       refine pU (i := 26) (N := some 42) (mb 33 134217727) HT_ ?_
       refine pU (i := 27) (N := some 43) (mb 33 268435455) HT_ ?_
       refine pU (i := 28) (N := some 44) (mb 33 536870911) HT_ ?_
       refine pU (i := 29) (N := some 45) (mb 33 1073741823) HT_ ?_
       refine pU (i := 30) (N := some 46) (mb 33 2147483647) HT_ ?_
       refine pU (i := 31) (N := some 47) (mb 33 4294967295) HT_ ?_
       refine pA (i := 32) (N := some 48) (mb 33 8589934591) HT_ ?_
       refine eA HT_ ?_
       try go_wp2
       go_ret
       exact ⟨rA, bA⟩
    ·
     rw [if_neg c5] at H
     have c5b0 : decide (x5_1 < (l1.length : Int)) = false := decide_eq_false c5
     clear c5
     obtain ⟨t206, A20, H⟩ := bindE H
     try dsimp only at H
     obtain ⟨t209, A21, H⟩ := bindE H
     try dsimp only at H
     obtain rfl := Option.some.inj H
     go_wp2_with (first | ((with_reducible refine gate_callee (f := 55) rfl ?_); refine gL (some 51) Try.func55 #[.slice A1 l1.length c1] ?_; (with_reducible refine (spec_l8Stages.calls k1 (fun k_ => k_ < w.heap.size) _ _ l1 t206 _ ?side1 A20.out).mono ?_); (case side1 => exact Kd.V_mk HC1.out (Kd.F_below (Kd.C_F k51_heap HR1.out) bA)); rintro e w22 ⟨v207, rfl, ho0, hb⟩; refine ⟨_, rfl, ?_⟩; have HO208 := Aside0.mk (Kd.N_lower (Kd.N_mono (ok' := fun k_ => True) ho0 (fun k_ hk_ => trivial)) (below_size bA)); replace HB := Aside0.mk (below_step bA hb); (try clear hb); (try clear hb2); (try clear hk); (try clear hi); (try clear ho0); obtain ⟨Ao23, co23, eo23⟩ := Kd.N_slice HO208.out; subst eo23) | ((with_reducible refine gate_callee (f := 54) rfl ?_); refine gL (some 52) Try.func54 #[.slice A0 l0.length c0, .slice Ao23 t206.length co23] ?_; (with_reducible refine (spec_Covers.calls k1 _ _ l0 _ _ t206 t209 _ ?side1 ?side2 ?side3 ?side4 A21.out).mono ?_); (case side1 => exact cB HR0); (case side2 => exact HC0.out); (case side3 => repeat (first | exact (Kd.N_reads' HO208.out).2.2 | (with_reducible refine Kd.C_alloc ?_ _) | (with_reducible refine Kd.C_drewN ?_ _) | (with_reducible refine Kd.C_drew ?_))); (case side4 => exact (Kd.N_reads' HO208.out).2.1); rintro e w24 ⟨rfl, hb⟩; refine ⟨_, rfl, ?_⟩; have n0_ := Aside0.mk (Kd.N_below (by (with_reducible repeat (first | apply Kd.N_alloc | apply Kd.N_drewN | apply Kd.N_drew)); exact HO208.out) hb); have n1_ := Aside0.mk (below_step bA hb); clear HO208; clear HB; have HO208 := n0_; have HB := n1_; clear n0_ n1_; (try clear hb); (try clear hb2); (try clear hk); (try clear hi)))
     go_ret
     exact ⟨rA, bA⟩
 ·
  replace c4 := Bool.eq_false_iff.mpr c4
  subst c4
  have H1 : (some false) = some r := by rw [if_neg (show ¬ (false = true) by decide)] at H; exact H
  clear H
  have H := H1
  clear H1
  obtain rfl := Option.some.inj H
  go_enter Try.func17, Try.ntmps17
  go_wp2_with (first | ((with_reducible refine gate_callee (f := 51) rfl ?_); refine gL (some 8) Try.func51 #[.int .i64 (l1.length : Int), .int .i64 1, .int .i64 6] ?_; (with_reducible refine (spec_l1In.calls (l1.length : Int) 1 6 false _ A3.out).mono ?_); rintro e w' ⟨rfl, ⟨nd, rfl⟩⟩; refine ⟨_, rfl, ?_⟩))
  go_ret
  exact ⟨rA, bA⟩

/-! ### spec_Max: function 67 -/
def spec_Max.f (a0 : Int) (a1 : Int) : Option (Int) := if a1 > a0 then (some a1) else (some a0)
set_option maxHeartbeats 8000000 in
set_option maxRecDepth 100000 in
theorem spec_Max.calls (a0 : Int) (a1 : Int) (r : Int) (w : World) (h : spec_Max.f a0 a1 = some r) :
  Calls Try.prog 67 #[.int .i64 a0, .int .i64 a1] w fun e w' => e = .returned (.int .i64 r) ∧ Drawn0 w w' := by
 have H : (if a1 > a0 then (some a1) else (some a0)) = some r := h
 clear h
 by_cases c3 : a1 > a0
 ·
  rw [if_pos c3] at H
  have c3b0 : decide (a0 < a1) = true := decide_eq_true c3
  clear c3
  obtain rfl := Option.some.inj H
  go_enter Try.func67, Try.ntmps67
  go_wp2
  go_ret
  exact ⟨by first | rfl | (simp; done) | (simp [*]; done), by repeat (first | exact Drawn0.refl _ | apply Drawn0.step)⟩
 ·
  rw [if_neg c3] at H
  have c3b0 : decide (a0 < a1) = false := decide_eq_false c3
  clear c3
  obtain rfl := Option.some.inj H
  go_enter Try.func67, Try.ntmps67
  go_wp2
  go_ret
  exact ⟨by first | rfl | (simp; done) | (simp [*]; done), by repeat (first | exact Drawn0.refl _ | apply Drawn0.step)⟩

/-! ### spec_Closes: function 85 -/
def spec_Closes.l0 : Nat → List Int → List Int → List Int → Int → Option (List Int)
 | 0, _, _, _, _ => none
 | k + 1, x0, x1, x5, x6 => if x6 < (x0.length : Int) then (if 0 ≤ x6 then ((spec_l6Has.f k x1 (rd x0 x6)).bind fun t221 => (if t221 = true then (spec_Closes.l0 k x0 x1 x5 (wrap64 (x6 + 1))) else (if x5.length < 17592186044416 then (spec_Closes.l0 k x0 x1 (x5 ++ [rd x0 x6]) (wrap64 (x6 + 1))) else (none)))) else (none)) else (some x5)
def spec_Closes.f (k : Nat) (l0 : List Int) (l1 : List Int) : Option (List Int) := spec_Closes.l0 k l0 l1 (([] : List Int)) 0
theorem spec_Closes.mono_l : ∀ k, (∀ y0 y1 y2 y3, LeO (spec_Closes.l0 k y0 y1 y2 y3) (spec_Closes.l0 (k + 1) y0 y1 y2 y3))
 | 0 => fun _ _ _ _ r h => by simp [spec_Closes.l0] at h
 | k + 1 => by
  have ih0 := spec_Closes.mono_l k
  ·
   intro y0 y1 y2 y3
   unfold spec_Closes.l0
   repeat' first | (with_reducible first | exact LeO.refl _ | exact LeO.none _ | refine LeO.ite ?_ ?_ | refine LeO.bind ?_ (fun _ => ?_) | exact ih0 _ _ _ _ | exact spec_l6Has.mono _ _ _) | exact LeO.none _ | refine LeO.ite ?_ ?_ | refine LeO.bind ?_ (fun _ => ?_) | exact ih0 _ _ _ _ | exact spec_l6Has.mono _ _ _
theorem spec_Closes.mono : ∀ a0 a1 k, LeO (spec_Closes.f k a0 a1) (spec_Closes.f (k + 1) a0 a1) := by
 intro a0 a1 k
 have ih0 := spec_Closes.mono_l k
 unfold spec_Closes.f
 repeat' first | (with_reducible first | exact LeO.refl _ | exact LeO.none _ | refine LeO.ite ?_ ?_ | refine LeO.bind ?_ (fun _ => ?_) | exact ih0 _ _ _ _ | exact spec_l6Has.mono _ _ _) | exact LeO.none _ | refine LeO.ite ?_ ?_ | refine LeO.bind ?_ (fun _ => ?_) | exact ih0 _ _ _ _ | exact spec_l6Has.mono _ _ _
set_option maxHeartbeats 8000000 in
set_option maxRecDepth 100000 in
theorem spec_Closes.calls (k : Nat) (A0 : Option Addr) (c0 : Nat) (l0 : List Int) (A1 : Option Addr) (c1 : Nat) (l1 : List Int) (r : List Int) (w : World) (hr0 : Kd.C (Kd.int .i64) w A0 l0.length l0) (hc0 : l0.length ≤ c0) (hr1 : Kd.C (Kd.int .i64) w A1 l1.length l1) (hc1 : l1.length ≤ c1) (h : spec_Closes.f k l0 l1 = some r) :
  Calls Try.prog 85 #[.slice A0 l0.length c0, .slice A1 l1.length c1] w fun e w' => ∃ v0_ : Value, e = .returned (v0_) ∧ Kd.R (Kd.int .i64) 3 w' w.heap.size (fun _ => True) v0_ r ∧ Below w.heap.size w w' := by
 have HR0 := Aside0.mk hr0
 have HC0 := Aside0.mk hc0
 clear hr0 hc0
 have HR1 := Aside0.mk hr1
 have HC1 := Aside0.mk hc1
 clear hr1 hc1
 have HB := Aside0.mk (Below.refl w.heap.size w)
 have H : (spec_Closes.l0 k l0 l1 (([] : List Int)) 0) = some r := h
 clear h
 obtain ⟨y217, hy217⟩ : ∃ y_ : List Int, y_ = (([] : List Int)) := ⟨_, rfl⟩
 replace H : (spec_Closes.l0 k l0 l1 y217 0) = some r := by first | (rw [hy217]; with_reducible exact H) | (have H2_ := (Option.bind_some _ _).symm.trans H; rw [hy217]; with_reducible exact H2_) | (have H2_ := (Option.bind_some _ _).symm.trans H; with_reducible exact H2_) | with_reducible exact H | (rw [hy217]; exact H) | exact H
 have Ny217 := Aside0.mk hy217
 clear hy217
 have H' := Aside0.mk H
 clear H
 go_enter Try.func85, Try.ntmps85
 go_wp2_with (first | ((with_reducible refine gate_dst (N := 7) rfl ?_); refine Kd.R_lit (Kd.int .i64) _ 3 ?hg (N := 7) ?hd (xs := ([] : List Int)) (inner := []) (ok := fun _ => True) (okp := fun _ => True) ?hr ?hp (fun _ hk => hk) trivial (Below.refl _ _) (Nat.le_refl _) (by simp) ?_; (case hd => rfl); (case hg => rfl); (case hr => first | (go_simp; done) | (go_simp; rfl)); (case hp => exact (Reps.none _ _)); intro v218 w3 ho4 hb hg_ hnew_; clear hg_ hnew_; (first | rw [← Ny217.out] at ho4 | (simp only [Int.reduceToNat] at ho4; rw [← Ny217.out] at ho4)); have HO219 := Aside0.mk (Kd.R_lower ho4 (below_size bA)); replace HB := Aside0.mk (below_step bA hb); clear hb ho4))
 go_loopg [5, 6] k (fun kq v5 v6 w' => ∃ (x5_1 : List Int) (x6_1 : Int), v6 = .int .i64 x6_1 ∧ Aside0 (spec_Closes.l0 kq l0 l1 x5_1 x6_1 = some r) ∧ Aside0 (kq ≤ k) ∧ Aside0 (Kd.R (Kd.int .i64) 3 w' w.heap.size (fun _ => True) v5 x5_1) ∧ Aside0 (Below w.heap.size w w'))
 case atStart => exact ⟨(y217), (0), rS, H', ⟨Nat.le_refl _⟩, ⟨rK HO219⟩, ⟨bA⟩⟩
 case round =>
  clear H'
  try clear c1
  try clear p2
  obtain ⟨x5_1, x6_1, rfl, HA, HK1, HO_5, HB⟩ := hrel
  cases gk with
  | zero => exact absurd HA.out (by simp [spec_Closes.l0])
  | succ k1 =>
   have H := HA.out
   clear HA
   simp only [spec_Closes.l0] at H
   by_cases c5 : x6_1 < (l0.length : Int)
   ·
    rw [if_pos c5] at H
    have c5b0 : decide (x6_1 < (l0.length : Int)) = true := decide_eq_true c5
    clear c5
    have c6 : 0 ≤ x6_1 := ifN H
    replace H := ifT H
    have c6b0 : decide (0 ≤ x6_1) = true := decide_eq_true c6
    clear c6
    obtain ⟨t221, A7, H⟩ := bindE H
    try dsimp only at H
    by_cases c8 : t221 = true
    ·
     subst c8
     have H1 : (spec_Closes.l0 k1 l0 l1 x5_1 (wrap64 (x6_1 + 1))) = some r := by rw [if_pos rfl] at H; exact H
     clear H
     have H := H1
     clear H1
     have H' := Aside0.mk H
     clear H
     have p220 : 0 ≤ (x6_1 : Int) := dA
     have q220 : x6_1 < (l0.length : Int) := dA
     obtain ⟨ad220, e220, hx220_0⟩ := Kd.at_int HR0.out x6_1 p220 q220
     cases e220
     replace hx220_0 := hC HB hx220_0
     replace p220 := eq_true p220
     replace q220 := eq_true q220
     go_wp2_with (first | ((with_reducible refine gate_callee (f := 78) rfl ?_); refine gL (some 19) Try.func78 #[.slice A1 l1.length c1, .int .i64 (rd l0 x6_1)] ?_; (with_reducible refine (spec_l6Has.calls k1 _ _ l1 (rd l0 x6_1) true _ ?side1 ?side2 A7.out).mono ?_); (case side1 => exact cB HR1); (case side2 => exact HC1.out); rintro e w' ⟨rfl, ⟨nd, rfl⟩⟩; refine ⟨_, rfl, ?_⟩))
     go_roundg k1
     case measure => have := HK1.out; omega
     case rel => exact ⟨(x5_1), (wrap64 (x6_1 + 1)), rS, H', ⟨by have := HK1.out; omega⟩, ⟨rK HO_5⟩, ⟨bA⟩⟩
    ·
     replace c8 := Bool.eq_false_iff.mpr c8
     subst c8
     have H1 : (if x5_1.length < 17592186044416 then (spec_Closes.l0 k1 l0 l1 (x5_1 ++ [rd l0 x6_1]) (wrap64 (x6_1 + 1))) else (none)) = some r := by rw [if_neg (show ¬ (false = true) by decide)] at H; exact H
     clear H
     have H := H1
     clear H1
     have c9 : x5_1.length < 17592186044416 := ifN H
     replace H := ifT H
     have LMc9 := Aside0.mk c9
     clear c9
     obtain ⟨y223, hy223⟩ : ∃ y_ : List Int, y_ = (x5_1 ++ [rd l0 x6_1]) := ⟨_, rfl⟩
     replace H : (spec_Closes.l0 k1 l0 l1 y223 (wrap64 (x6_1 + 1))) = some r := by first | (rw [hy223]; with_reducible exact H) | (have H2_ := (Option.bind_some _ _).symm.trans H; rw [hy223]; with_reducible exact H2_) | (have H2_ := (Option.bind_some _ _).symm.trans H; with_reducible exact H2_) | with_reducible exact H | (rw [hy223]; exact H) | exact H
     have Ny223 := Aside0.mk hy223
     clear hy223
     have H' := Aside0.mk H
     clear H
     have p220 : 0 ≤ (x6_1 : Int) := dA
     have q220 : x6_1 < (l0.length : Int) := dA
     obtain ⟨ad220, e220, hx220_0⟩ := Kd.at_int HR0.out x6_1 p220 q220
     cases e220
     replace hx220_0 := hC HB hx220_0
     replace p220 := eq_true p220
     replace q220 := eq_true q220
     go_wp2_with (first | ((with_reducible refine gate_callee (f := 78) rfl ?_); refine gL (some 19) Try.func78 #[.slice A1 l1.length c1, .int .i64 (rd l0 x6_1)] ?_; (with_reducible refine (spec_l6Has.calls k1 _ _ l1 (rd l0 x6_1) false _ ?side1 ?side2 A7.out).mono ?_); (case side1 => exact cB HR1); (case side2 => exact HC1.out); rintro e w' ⟨rfl, ⟨nd, rfl⟩⟩; refine ⟨_, rfl, ?_⟩; have p222 : 0 ≤ (x6_1 : Int) := dA; have q222 : x6_1 < (l0.length : Int) := dA; obtain ⟨ad222, e222, hx222_0⟩ := Kd.at_int HR0.out x6_1 p222 q222; obtain rfl : ad220 = ad222 := (by injection e222); replace hx222_0 := hC HB hx222_0; replace p222 := eq_true p222; replace q222 := eq_true q222) | ((with_reducible refine gate_builtin (b := .append) (xs := #[.tmp 21, .tmp 26]) rfl ?_); at_builtin; refine Kd.R_append (Kd.int .i64) (w0 := w) w.heap.size rfl (.tmp 21) (.tmp 26) 41 3 (.int .i64 0) 8 rfl Try.underlying41 info3 rfl (by decide) (by omega) u5 x5_1 (rd l0 x6_1) [.int .i64 (rd l0 x6_1)] (fun _ => True) (fun _ => False) rfl rfl ?aP (fun _ hk => hk.elim) ?aF ?aO ?aB ?aS ?aL ?_; (case aP => exact rfl); (case aB => exact bA); (case aF => exact (fun _ _ => trivial)); (case aO => exact (rK HO_5)); (case aS => exact (below_size bA)); (case aL => have := LMc9.out; omega); intro v224 w10 ho hb hg hat; rw [← Ny223.out] at ho; have n0_ := Aside0.mk (hb); have n1_ := Aside0.mk (ho); clear HB; clear HO_5; have HB := n0_; have HO225 := n1_; clear n0_ n1_; clear ho hb hg hat))
     go_roundg k1
     case measure => have := HK1.out; omega
     case rel => exact ⟨(y223), (wrap64 (x6_1 + 1)), rS, H', ⟨by have := HK1.out; omega⟩, ⟨rK HO225⟩, ⟨bA⟩⟩
   ·
    rw [if_neg c5] at H
    have c5b0 : decide (x6_1 < (l0.length : Int)) = false := decide_eq_false c5
    clear c5
    obtain rfl := Option.some.inj H
    go_wp2
    go_ret
    exact ⟨_, by first | rfl | (simp [errW_none, errW_some] <;> rfl) | (simp [*, errW_none, errW_some] <;> rfl), by (with_reducible repeat (first | apply Kd.R_alloc | apply Kd.R_drewN | apply Kd.R_drew)); exact HO_5.out, bA⟩

/-! ### spec_ClearOf: function 86 -/
def spec_ClearOf.f (a0_0 : Int) (a0_1 : Int) (a0_2 : Int) (a0_3 : Int) : Option (Int) := (spec_IsPath.f a0_0 a0_1 a0_2 a0_3).bind fun t227 => (if t227 = true then ((some (([0, 2, 5, 3] : List Int) : List Int)).bind fun y228 => (if 0 ≤ a0_1 then (if a0_1 < (y228.length : Int) then (some (rd y228 a0_1)) else (none)) else (none))) else (some 0))
set_option maxHeartbeats 8000000 in
set_option maxRecDepth 100000 in
theorem spec_ClearOf.calls (a0_0 : Int) (a0_1 : Int) (a0_2 : Int) (a0_3 : Int) (r : Int) (w : World) (h : spec_ClearOf.f a0_0 a0_1 a0_2 a0_3 = some r) :
  Calls Try.prog 86 #[.agg #[.int .i64 a0_0, .int .i64 a0_1, .int .i64 a0_2, .int .i64 a0_3]] w fun e w' => e = .returned (.int .i64 r) ∧ Below w.heap.size w w' := by
 have hu58 := Try.underlying58
 have HB := Aside0.mk (Below.refl w.heap.size w)
 have H : ((spec_IsPath.f a0_0 a0_1 a0_2 a0_3).bind fun t227 => (if t227 = true then ((some (([0, 2, 5, 3] : List Int) : List Int)).bind fun y228 => (if 0 ≤ a0_1 then (if a0_1 < (y228.length : Int) then (some (rd y228 a0_1)) else (none)) else (none))) else (some 0))) = some r := h
 clear h
 obtain ⟨t227, A2, H⟩ := bindE H
 try dsimp only at H
 by_cases c3 : t227 = true
 ·
  subst c3
  have H1 : ((some (([0, 2, 5, 3] : List Int) : List Int)).bind fun y228 => (if 0 ≤ a0_1 then (if a0_1 < (y228.length : Int) then (some (rd y228 a0_1)) else (none)) else (none))) = some r := by rw [if_pos rfl] at H; exact H
  clear H
  have H := H1
  clear H1
  obtain ⟨y228, hy228⟩ : ∃ y_ : List Int, y_ = (([0, 2, 5, 3] : List Int)) := ⟨_, rfl⟩
  replace H : (if 0 ≤ a0_1 then (if a0_1 < (y228.length : Int) then (some (rd y228 a0_1)) else (none)) else (none)) = some r := by first | (rw [hy228]; with_reducible exact H) | (have H2_ := (Option.bind_some _ _).symm.trans H; rw [hy228]; with_reducible exact H2_) | (have H2_ := (Option.bind_some _ _).symm.trans H; with_reducible exact H2_) | with_reducible exact H | (rw [hy228]; exact H) | exact H
  have Ny228 := Aside0.mk hy228
  clear hy228
  have c4 : 0 ≤ a0_1 := ifN H
  replace H := ifT H
  have c4b0 : decide (0 ≤ a0_1) = true := decide_eq_true c4
  clear c4
  have c5 : a0_1 < (y228.length : Int) := ifN H
  replace H := ifT H
  have c5b0 : decide (a0_1 < (y228.length : Int)) = true := decide_eq_true c5
  clear c5
  obtain rfl := Option.some.inj H
  go_enter Try.func86, Try.ntmps86
  go_wp2_with (first | ((with_reducible refine gate_dst (N := 1) rfl ?_); refine bE (N := 1) (cs := #[.int .i64 a0_0, .int .i64 a0_1, .int .i64 a0_2, .int .i64 a0_3]) (t := 58) ?_; intro gb226 hg w6 hbox hb; have n0_ := Aside0.mk (below_step bA hb); have n1_ := Aside0.mk (hbox); have n2_ := Aside0.mk ((by rw [hg]; exact (below_size bA) : w.heap.size ≤ gb226)); have n3_ := Aside0.mk ((by rw [hg]; exact (below_size bA) : w.heap.size ≤ gb226)); clear HB; have HB := n0_; have BK226 := n1_; have GW226 := n2_; have GE226 := n3_; clear n0_ n1_ n2_ n3_; clear hb hbox hg; have hcz7_0 : w6.cell? ⟨gb226, 0, none⟩ = some (.int .i64 a0_0) := bC BK226 0; have hcz7_1 : w6.cell? ⟨gb226, 1, none⟩ = some (.int .i64 a0_1) := bC BK226 1; have hcz7_2 : w6.cell? ⟨gb226, 2, none⟩ = some (.int .i64 a0_2) := bC BK226 2; have hcz7_3 : w6.cell? ⟨gb226, 3, none⟩ = some (.int .i64 a0_3) := bC BK226 3; have hfz7_0 := blk_frozen BK226.out 0; have hfz7_1 := blk_frozen BK226.out 1; have hfz7_2 := blk_frozen BK226.out 2; have hfz7_3 := blk_frozen BK226.out 3) | ((with_reducible refine gate_callee (f := 91) rfl ?_); refine gL (some 4) Try.func91 #[.agg #[.int .i64 a0_0, .int .i64 a0_1, .int .i64 a0_2, .int .i64 a0_3]] ?_; (with_reducible refine (spec_IsPath.calls a0_0 a0_1 a0_2 a0_3 true _ A2.out).mono ?_); rintro e w8 ⟨rfl, hb⟩; refine ⟨_, rfl, ?_⟩; replace BK226 := Aside0.mk (blk_below (g := gb226) (bK BK226) hb); replace HB := Aside0.mk (below_step bG hb); (try clear hb); (try clear hb2); (try clear hk); (try clear hi)) | ((with_reducible refine gate_dst (N := 6) rfl ?_); refine Kd.R_lit (Kd.int .i64) _ 3 ?hg (N := 6) ?hd (xs := ([0, 2, 5, 3] : List Int)) (inner := [.int .i64 0, .int .i64 2, .int .i64 5, .int .i64 3]) (ok := fun _ => True) (okp := fun _ => True) ?hr ?hp (fun _ hk => hk) trivial (Below.refl _ _) (Nat.le_refl _) (by simp) ?_; (case hd => rfl); (case hg => rfl); (case hr => first | (go_simp; done) | (go_simp; rfl)); (case hp => exact (Reps.one (show Kd.M (Kd.int .i64) _ _ _ 0 [.int .i64 0] from rfl) (Reps.one (show Kd.M (Kd.int .i64) _ _ _ 2 [.int .i64 2] from rfl) (Reps.one (show Kd.M (Kd.int .i64) _ _ _ 5 [.int .i64 5] from rfl) (Reps.one (show Kd.M (Kd.int .i64) _ _ _ 3 [.int .i64 3] from rfl) (Reps.none _ _)))))); intro v229 w9 ho10 hb hg_ hnew_; clear hg_ hnew_; (first | rw [← Ny228.out] at ho10 | (simp only [Int.reduceToNat] at ho10; rw [← Ny228.out] at ho10)); have HO230 := Aside0.mk (Kd.R_lower ho10 (below_size bG)); replace BK226 := Aside0.mk (blk_below (g := gb226) (bK BK226) hb); replace HB := Aside0.mk (below_step bG hb); clear hb ho10; obtain ⟨hcz11_0, hcz11_1, hcz11_2, hcz11_3, hfz11_0, hfz11_1, hfz11_2, hfz11_3⟩ := blkc4 BK226; obtain ⟨Ao12, co12, eo12⟩ := Kd.R_slice HO230.out; subst eo12; have p231 : 0 ≤ (a0_1 : Int) := dA; have q231 : a0_1 < (y228.length : Int) := dA; obtain ⟨ad231, e231, hx231_0⟩ := Kd.at_int (Kd.R_reads' HO230.out).2.2 a0_1 p231 q231; cases e231; replace p231 := eq_true p231; replace q231 := eq_true q231))
  go_ret
  exact ⟨rA, bG⟩
 ·
  replace c3 := Bool.eq_false_iff.mpr c3
  subst c3
  have H1 : (some 0) = some r := by rw [if_neg (show ¬ (false = true) by decide)] at H; exact H
  clear H
  have H := H1
  clear H1
  obtain rfl := Option.some.inj H
  go_enter Try.func86, Try.ntmps86
  go_wp2_with (first | ((with_reducible refine gate_dst (N := 1) rfl ?_); refine bE (N := 1) (cs := #[.int .i64 a0_0, .int .i64 a0_1, .int .i64 a0_2, .int .i64 a0_3]) (t := 58) ?_; intro gb226 hg w13 hbox hb; have n0_ := Aside0.mk (below_step bA hb); have n1_ := Aside0.mk (hbox); have n2_ := Aside0.mk ((by rw [hg]; exact (below_size bA) : w.heap.size ≤ gb226)); have n3_ := Aside0.mk ((by rw [hg]; exact (below_size bA) : w.heap.size ≤ gb226)); clear HB; have HB := n0_; have BK226 := n1_; have GW226 := n2_; have GE226 := n3_; clear n0_ n1_ n2_ n3_; clear hb hbox hg; have hcz14_0 : w13.cell? ⟨gb226, 0, none⟩ = some (.int .i64 a0_0) := bC BK226 0; have hcz14_1 : w13.cell? ⟨gb226, 1, none⟩ = some (.int .i64 a0_1) := bC BK226 1; have hcz14_2 : w13.cell? ⟨gb226, 2, none⟩ = some (.int .i64 a0_2) := bC BK226 2; have hcz14_3 : w13.cell? ⟨gb226, 3, none⟩ = some (.int .i64 a0_3) := bC BK226 3; have hfz14_0 := blk_frozen BK226.out 0; have hfz14_1 := blk_frozen BK226.out 1; have hfz14_2 := blk_frozen BK226.out 2; have hfz14_3 := blk_frozen BK226.out 3) | ((with_reducible refine gate_callee (f := 91) rfl ?_); refine gL (some 4) Try.func91 #[.agg #[.int .i64 a0_0, .int .i64 a0_1, .int .i64 a0_2, .int .i64 a0_3]] ?_; (with_reducible refine (spec_IsPath.calls a0_0 a0_1 a0_2 a0_3 false _ A2.out).mono ?_); rintro e w15 ⟨rfl, hb⟩; refine ⟨_, rfl, ?_⟩; replace BK226 := Aside0.mk (blk_below (g := gb226) (bK BK226) hb); replace HB := Aside0.mk (below_step bG hb); (try clear hb); (try clear hb2); (try clear hk); (try clear hi)))
  go_ret
  exact ⟨rA, bG⟩

/-! ### spec_ClearBetween: function 66 -/
mutual
def spec_ClearBetween.l0 : Nat → List (S58) → List Int → List Int → Int → List Int → List Int → Int → Option (Int)
 | 0, _, _, _, _, _, _, _ => none
 | k + 1, x0, x1, x2, x7, x8, x9, x10 => if x10 < (x8.length : Int) then ((spec_IsTogether.f k x0 x1).bind fun t238 => (if t238 = true then ((spec_IsTogether.f k x0 x2).bind fun t239 => (spec_ClearBetween.j1 k x0 x1 x2 x7 x8 x9 x10 t239)) else (spec_ClearBetween.j1 k x0 x1 x2 x7 x8 x9 x10 false))) else (spec_ClearBetween.j1 k x0 x1 x2 x7 x8 x9 x10 false)
def spec_ClearBetween.j1 : Nat → List (S58) → List Int → List Int → Int → List Int → List Int → Int → Bool → Option (Int)
 | 0, _, _, _, _, _, _, _, _ => none
 | k + 1, x0, x1, x2, x7, x8, x9, x10, x32 => if x32 = true then (spec_ClearBetween.l1 k x0 x1 x2 x7 x8 x9 x10 0) else (some x7)
def spec_ClearBetween.l1 : Nat → List (S58) → List Int → List Int → Int → List Int → List Int → Int → Int → Option (Int)
 | 0, _, _, _, _, _, _, _, _ => none
 | k + 1, x0, x1, x2, x7, x8, x9, x10, x11 => if x11 < (x9.length : Int) then (if 0 ≤ x10 then (if x10 < (x8.length : Int) then ((spec_FindPath.f k x0 (rd x8 x10)).bind fun t241 => (if 0 ≤ t241 then (if t241 < (x0.length : Int) then (if 0 ≤ x11 then ((spec_FindPath.f k x0 (rd x9 x11)).bind fun t245 => (if 0 ≤ t245 then (if t245 < (x0.length : Int) then ((spec_Conflict.f k ((rd_T58 x0 t241).f0) ((rd_T58 x0 t241).f1) ((rd_T58 x0 t241).f2) ((rd_T58 x0 t241).f3) ((rd_T58 x0 t245).f0) ((rd_T58 x0 t245).f1) ((rd_T58 x0 t245).f2) ((rd_T58 x0 t245).f3)).bind fun t247 => (if t247 = true then ((spec_ClearOf.f ((rd_T58 x0 t241).f0) ((rd_T58 x0 t241).f1) ((rd_T58 x0 t241).f2) ((rd_T58 x0 t241).f3)).bind fun t248 => ((spec_Max.f x7 t248).bind fun t249 => (spec_ClearBetween.l1 k x0 x1 x2 t249 x8 x9 x10 (wrap64 (x11 + 1))))) else (spec_ClearBetween.l1 k x0 x1 x2 x7 x8 x9 x10 (wrap64 (x11 + 1))))) else (none)) else (none))) else (none)) else (none)) else (none))) else (none)) else (none)) else (spec_ClearBetween.l0 k x0 x1 x2 x7 x8 x9 (wrap64 (x10 + 1)))
end
def spec_ClearBetween.f (k : Nat) (l0 : List (S58)) (l1 : List Int) (l2 : List Int) : Option (Int) := (spec_Closes.f k l1 l2).bind fun t232 => ((spec_Closes.f k l2 l1).bind fun t235 => (spec_ClearBetween.l0 k l0 l1 l2 0 t232 t235 0))
theorem spec_ClearBetween.mono_l : ∀ k, (∀ y0 y1 y2 y3 y4 y5 y6, LeO (spec_ClearBetween.l0 k y0 y1 y2 y3 y4 y5 y6) (spec_ClearBetween.l0 (k + 1) y0 y1 y2 y3 y4 y5 y6)) ∧ (∀ y0 y1 y2 y3 y4 y5 y6 y7, LeO (spec_ClearBetween.j1 k y0 y1 y2 y3 y4 y5 y6 y7) (spec_ClearBetween.j1 (k + 1) y0 y1 y2 y3 y4 y5 y6 y7)) ∧ (∀ y0 y1 y2 y3 y4 y5 y6 y7, LeO (spec_ClearBetween.l1 k y0 y1 y2 y3 y4 y5 y6 y7) (spec_ClearBetween.l1 (k + 1) y0 y1 y2 y3 y4 y5 y6 y7))
 | 0 => ⟨fun _ _ _ _ _ _ _ r h => by simp [spec_ClearBetween.l0] at h, fun _ _ _ _ _ _ _ _ r h => by simp [spec_ClearBetween.j1] at h, fun _ _ _ _ _ _ _ _ r h => by simp [spec_ClearBetween.l1] at h⟩
 | k + 1 => by
  obtain ⟨ih0, ih1, ih2⟩ := spec_ClearBetween.mono_l k
  refine ⟨?_, ?_, ?_⟩
  ·
   intro y0 y1 y2 y3 y4 y5 y6
   unfold spec_ClearBetween.l0
   repeat' first | (with_reducible first | exact LeO.refl _ | exact LeO.none _ | refine LeO.ite ?_ ?_ | refine LeO.bind ?_ (fun _ => ?_) | exact ih0 _ _ _ _ _ _ _ | exact ih1 _ _ _ _ _ _ _ _ | exact ih2 _ _ _ _ _ _ _ _ | exact spec_Closes.mono _ _ _ | exact spec_Conflict.mono _ _ _ _ _ _ _ _ _ | exact spec_FindPath.mono _ _ _ | exact spec_IsTogether.mono _ _ _) | exact LeO.none _ | refine LeO.ite ?_ ?_ | refine LeO.bind ?_ (fun _ => ?_) | exact ih0 _ _ _ _ _ _ _ | exact ih1 _ _ _ _ _ _ _ _ | exact ih2 _ _ _ _ _ _ _ _ | exact spec_Closes.mono _ _ _ | exact spec_Conflict.mono _ _ _ _ _ _ _ _ _ | exact spec_FindPath.mono _ _ _ | exact spec_IsTogether.mono _ _ _
  ·
   intro y0 y1 y2 y3 y4 y5 y6 y7
   unfold spec_ClearBetween.j1
   repeat' first | (with_reducible first | exact LeO.refl _ | exact LeO.none _ | refine LeO.ite ?_ ?_ | refine LeO.bind ?_ (fun _ => ?_) | exact ih0 _ _ _ _ _ _ _ | exact ih1 _ _ _ _ _ _ _ _ | exact ih2 _ _ _ _ _ _ _ _ | exact spec_Closes.mono _ _ _ | exact spec_Conflict.mono _ _ _ _ _ _ _ _ _ | exact spec_FindPath.mono _ _ _ | exact spec_IsTogether.mono _ _ _) | exact LeO.none _ | refine LeO.ite ?_ ?_ | refine LeO.bind ?_ (fun _ => ?_) | exact ih0 _ _ _ _ _ _ _ | exact ih1 _ _ _ _ _ _ _ _ | exact ih2 _ _ _ _ _ _ _ _ | exact spec_Closes.mono _ _ _ | exact spec_Conflict.mono _ _ _ _ _ _ _ _ _ | exact spec_FindPath.mono _ _ _ | exact spec_IsTogether.mono _ _ _
  ·
   intro y0 y1 y2 y3 y4 y5 y6 y7
   unfold spec_ClearBetween.l1
   repeat' first | (with_reducible first | exact LeO.refl _ | exact LeO.none _ | refine LeO.ite ?_ ?_ | refine LeO.bind ?_ (fun _ => ?_) | exact ih0 _ _ _ _ _ _ _ | exact ih1 _ _ _ _ _ _ _ _ | exact ih2 _ _ _ _ _ _ _ _ | exact spec_Closes.mono _ _ _ | exact spec_Conflict.mono _ _ _ _ _ _ _ _ _ | exact spec_FindPath.mono _ _ _ | exact spec_IsTogether.mono _ _ _) | exact LeO.none _ | refine LeO.ite ?_ ?_ | refine LeO.bind ?_ (fun _ => ?_) | exact ih0 _ _ _ _ _ _ _ | exact ih1 _ _ _ _ _ _ _ _ | exact ih2 _ _ _ _ _ _ _ _ | exact spec_Closes.mono _ _ _ | exact spec_Conflict.mono _ _ _ _ _ _ _ _ _ | exact spec_FindPath.mono _ _ _ | exact spec_IsTogether.mono _ _ _
theorem spec_ClearBetween.mono : ∀ a0 a1 a2 k, LeO (spec_ClearBetween.f k a0 a1 a2) (spec_ClearBetween.f (k + 1) a0 a1 a2) := by
 intro a0 a1 a2 k
 obtain ⟨ih0, ih1, ih2⟩ := spec_ClearBetween.mono_l k
 unfold spec_ClearBetween.f
 repeat' first | (with_reducible first | exact LeO.refl _ | exact LeO.none _ | refine LeO.ite ?_ ?_ | refine LeO.bind ?_ (fun _ => ?_) | exact ih0 _ _ _ _ _ _ _ | exact ih1 _ _ _ _ _ _ _ _ | exact ih2 _ _ _ _ _ _ _ _ | exact spec_Closes.mono _ _ _ | exact spec_Conflict.mono _ _ _ _ _ _ _ _ _ | exact spec_FindPath.mono _ _ _ | exact spec_IsTogether.mono _ _ _) | exact LeO.none _ | refine LeO.ite ?_ ?_ | refine LeO.bind ?_ (fun _ => ?_) | exact ih0 _ _ _ _ _ _ _ | exact ih1 _ _ _ _ _ _ _ _ | exact ih2 _ _ _ _ _ _ _ _ | exact spec_Closes.mono _ _ _ | exact spec_Conflict.mono _ _ _ _ _ _ _ _ _ | exact spec_FindPath.mono _ _ _ | exact spec_IsTogether.mono _ _ _
def spec_ClearBetween.T11 : Bool × List (List Nat × List Nat) := (true, [([], []), ([], []), ([], []), ([], []), ([], []), ([3, 4], [3, 4]), ([5], [5]), ([2, 6], [2, 6]), ([1, 7], [1, 7]), ([8], [8]), ([0, 9, 7], [0, 9])])
def spec_ClearBetween.B11 : List Nat := [0, 0, 0, 0, 0, 24, 56, 124, 254, 510, 1023]
theorem spec_ClearBetween.tab11 : rtab .any (opsOf Try.f66 11) = spec_ClearBetween.T11 := by kernel_rfl
theorem spec_ClearBetween.bits11 : waitsOk spec_ClearBetween.T11.2 spec_ClearBetween.B11 = true := by kernel_rfl
set_option maxHeartbeats 8000000 in
set_option maxRecDepth 100000 in
theorem spec_ClearBetween.calls (k : Nat) (A0 : Option Addr) (c0 : Nat) (l0 : List (S58)) (A1 : Option Addr) (c1 : Nat) (l1 : List Int) (A2 : Option Addr) (c2 : Nat) (l2 : List Int) (r : Int) (w : World) (hr0 : Kd.C k58 w A0 l0.length l0) (hc0 : l0.length ≤ c0) (hr1 : Kd.C (Kd.int .i64) w A1 l1.length l1) (hc1 : l1.length ≤ c1) (hr2 : Kd.C (Kd.int .i64) w A2 l2.length l2) (hc2 : l2.length ≤ c2) (h : spec_ClearBetween.f k l0 l1 l2 = some r) :
  Calls Try.prog 66 #[.slice A0 l0.length c0, .slice A1 l1.length c1, .slice A2 l2.length c2] w fun e w' => e = .returned (.int .i64 r) ∧ Below w.heap.size w w' := by
 have hu58 := Try.underlying58
 have HR0 := Aside0.mk hr0
 have HC0 := Aside0.mk hc0
 clear hr0 hc0
 have HR1 := Aside0.mk hr1
 have HC1 := Aside0.mk hc1
 clear hr1 hc1
 have HR2 := Aside0.mk hr2
 have HC2 := Aside0.mk hc2
 clear hr2 hc2
 have HB := Aside0.mk (Below.refl w.heap.size w)
 have H : ((spec_Closes.f k l1 l2).bind fun t232 => ((spec_Closes.f k l2 l1).bind fun t235 => (spec_ClearBetween.l0 k l0 l1 l2 0 t232 t235 0))) = some r := h
 clear h
 obtain ⟨t232, A4, H⟩ := bindE H
 try dsimp only at H
 obtain ⟨t235, A5, H⟩ := bindE H
 try dsimp only at H
 have H' := Aside0.mk H
 clear H
 go_enter Try.func66, Try.ntmps66
 go_wp2_with (first | ((with_reducible refine gate_callee (f := 85) rfl ?_); refine gL (some 15) Try.func85 #[.slice A1 l1.length c1, .slice A2 l2.length c2] ?_; (with_reducible refine (spec_Closes.calls k _ _ l1 _ _ l2 t232 _ ?side1 ?side2 ?side3 ?side4 A4.out).mono ?_); (case side1 => exact cO HR1); (case side2 => exact HC1.out); (case side3 => exact cO HR2); (case side4 => exact HC2.out); rintro e w6 ⟨v233, rfl, ho0, hb⟩; refine ⟨_, rfl, ?_⟩; have HO234 := Aside0.mk (Kd.R_lower ho0 (below_size bA)); replace HB := Aside0.mk (below_step bA hb); (try clear hb); (try clear hb2); (try clear hk); (try clear hi); (try clear ho0)) | ((with_reducible refine gate_callee (f := 85) rfl ?_); refine gL (some 18) Try.func85 #[.slice A2 l2.length c2, .slice A1 l1.length c1] ?_; (with_reducible refine (spec_Closes.calls k _ _ l2 _ _ l1 t235 _ ?side1 ?side2 ?side3 ?side4 A5.out).mono ?_); (case side1 => exact cB HR2); (case side2 => exact HC2.out); (case side3 => exact cB HR1); (case side4 => exact HC1.out); rintro e w7 ⟨v236, rfl, ho0, hb⟩; refine ⟨_, rfl, ?_⟩; have HO237 := Aside0.mk (Kd.R_lower (Kd.R_new' ho0 (Kd.R_lt (rK HO234))) (below_size bA)); replace HO234 := Aside0.mk (Kd.R_elder' (rK HO234) (Kd.R_base ho0) hb); replace HB := Aside0.mk (below_step bA hb); (try clear hb); (try clear hb2); (try clear hk); (try clear hi); (try clear ho0)))
 go_loopg [7, 10] k (fun kq v7 v10 w' => ∃ (x7_1 : Int) (x10_1 : Int), v7 = .int .i64 x7_1 ∧ v10 = .int .i64 x10_1 ∧ Aside0 (spec_ClearBetween.l0 kq l0 l1 l2 x7_1 t232 t235 x10_1 = some r) ∧ Aside0 (kq ≤ k) ∧ Aside0 (Kd.R (Kd.int .i64) 3 w' w.heap.size (fun k_ => some k_ ≠ (v236 : Value).ownBlock) v233 t232) ∧ Aside0 (Kd.R (Kd.int .i64) 3 w' w.heap.size (fun k_ => some k_ ≠ (v233 : Value).ownBlock) v236 t235) ∧ Aside0 (Below w.heap.size w w'))
 case atStart => exact ⟨(0), (0), rS, rS, H', ⟨Nat.le_refl _⟩, ⟨by (with_reducible repeat (first | apply Kd.R_alloc | apply Kd.R_drewN | apply Kd.R_drew)); exact Kd.R_mono HO234.out (fun _ hk => hk.2)⟩, ⟨by (with_reducible repeat (first | apply Kd.R_alloc | apply Kd.R_drewN | apply Kd.R_drew)); exact Kd.R_mono HO237.out (fun _ hk => hk.2)⟩, ⟨bA⟩⟩
 case round =>
  clear H'
  try clear c1
  try clear c2
  try clear p2
  try clear c6
  obtain ⟨x7_1, x10_1, rfl, rfl, HA, HK1, HO_8, HO_9, HB⟩ := hrel
  cases gk with
  | zero => exact absurd HA.out (by simp [spec_ClearBetween.l0])
  | succ k1 =>
   have H := HA.out
   clear HA
   simp only [spec_ClearBetween.l0] at H
   have HC8 := Aside0.mk H
   clear H
   go_upto_region 5 with (fail)
   go_cut [32] (fun v32 wc => ∃ (kq : Nat) (x32_7 : Bool), v32 = .bool x32_7 ∧ Aside0 (spec_ClearBetween.j1 kq l0 l1 l2 x7_1 t232 t235 x10_1 x32_7 = some r) ∧ Aside0 (kq ≤ k1) ∧ Aside0 (Kd.R (Kd.int .i64) 3 wc w.heap.size (fun k_ => some k_ ≠ (v236 : Value).ownBlock) v233 t232) ∧ Aside0 (Kd.R (Kd.int .i64) 3 wc w.heap.size (fun k_ => some k_ ≠ (v233 : Value).ownBlock) v236 t235) ∧ Aside0 (Below w.heap.size w wc))
   case first =>
    have H := HC8.out
    clear HC8
    by_cases c9 : x10_1 < (t232.length : Int)
    ·
     rw [if_pos c9] at H
     have c9b0 : decide (x10_1 < (t232.length : Int)) = true := decide_eq_true c9
     clear c9
     (first | rw [c9b0] | (simp only [i64_w, i32_w]; rw [c9b0]) | skip)
     obtain ⟨t238, A10, H⟩ := bindE H
     try dsimp only at H
     by_cases c11 : t238 = true
     ·
      subst c11
      have H1 : ((spec_IsTogether.f k1 l0 l2).bind fun t239 => (spec_ClearBetween.j1 k1 l0 l1 l2 x7_1 t232 t235 x10_1 t239)) = some r := by rw [if_pos rfl] at H; exact H
      clear H
      have H := H1
      clear H1
      obtain ⟨t239, A12, H⟩ := bindE H
      try dsimp only at H
      have H' := Aside0.mk H
      clear H
      obtain ⟨Ao13, co13, eo13⟩ := Kd.R_slice HO_8.out
      subst eo13
      go_wp2_with (first | (go_at_call 52; (with_reducible refine (spec_IsTogether.calls k1 _ _ l0 _ _ l1 true _ ?side1 ?side2 ?side3 ?side4 A10.out).mono ?_); (case side1 => exact cB HR0); (case side2 => exact HC0.out); (case side3 => exact cB HR1); (case side4 => exact HC1.out); rintro e w14 ⟨rfl, hb⟩; replace HO_8 := Aside0.mk (Kd.R_below (rK HO_8) hb); replace HO_9 := Aside0.mk (Kd.R_below (rK HO_9) hb); replace HB := Aside0.mk (below_step bA hb); (try clear hb); (try clear hb2); (try clear hk); (try clear hi)) | (go_at_call 52; (with_reducible refine (spec_IsTogether.calls k1 _ _ l0 _ _ l2 t239 _ ?side1 ?side2 ?side3 ?side4 A12.out).mono ?_); (case side1 => exact cB HR0); (case side2 => exact HC0.out); (case side3 => exact cB HR2); (case side4 => exact HC2.out); rintro e w15 ⟨rfl, hb⟩; replace HO_8 := Aside0.mk (Kd.R_below (rK HO_8) hb); replace HO_9 := Aside0.mk (Kd.R_below (rK HO_9) hb); replace HB := Aside0.mk (below_step bA hb); (try clear hb); (try clear hb2); (try clear hk); (try clear hi)))
      go_meet
      case rel => exact ⟨_, (t239), rS, H', ⟨by have := HK1.out; first | omega | exact Nat.le_refl _⟩, ⟨rK HO_8⟩, ⟨rK HO_9⟩, ⟨bA⟩⟩
     ·
      replace c11 := Bool.eq_false_iff.mpr c11
      subst c11
      have H1 : (spec_ClearBetween.j1 k1 l0 l1 l2 x7_1 t232 t235 x10_1 false) = some r := by rw [if_neg (show ¬ (false = true) by decide)] at H; exact H
      clear H
      have H := H1
      clear H1
      have H' := Aside0.mk H
      clear H
      obtain ⟨Ao16, co16, eo16⟩ := Kd.R_slice HO_8.out
      subst eo16
      go_wp2_with (first | (go_at_call 52; (with_reducible refine (spec_IsTogether.calls k1 _ _ l0 _ _ l1 false _ ?side1 ?side2 ?side3 ?side4 A10.out).mono ?_); (case side1 => exact cB HR0); (case side2 => exact HC0.out); (case side3 => exact cB HR1); (case side4 => exact HC1.out); rintro e w17 ⟨rfl, hb⟩; replace HO_8 := Aside0.mk (Kd.R_below (rK HO_8) hb); replace HO_9 := Aside0.mk (Kd.R_below (rK HO_9) hb); replace HB := Aside0.mk (below_step bA hb); (try clear hb); (try clear hb2); (try clear hk); (try clear hi)))
      go_meet
      case rel => exact ⟨_, (false), rS, H', ⟨by have := HK1.out; first | omega | exact Nat.le_refl _⟩, ⟨rK HO_8⟩, ⟨rK HO_9⟩, ⟨bA⟩⟩
    ·
     rw [if_neg c9] at H
     have c9b0 : decide (x10_1 < (t232.length : Int)) = false := decide_eq_false c9
     clear c9
     (first | rw [c9b0] | (simp only [i64_w, i32_w]; rw [c9b0]) | skip)
     have H' := Aside0.mk H
     clear H
     obtain ⟨Ao18, co18, eo18⟩ := Kd.R_slice HO_8.out
     subst eo18
     go_wp2
     go_meet
     case rel => exact ⟨_, (false), rS, H', ⟨by have := HK1.out; first | omega | exact Nat.le_refl _⟩, ⟨rK HO_8⟩, ⟨rK HO_9⟩, ⟨bA⟩⟩
   case rest =>
    clear HC8
    try clear c1
    try clear c2
    try clear p2
    try clear c6
    try clear c8
    try clear c9
    try clear c9b0
    try clear c11
    try clear p2
    obtain ⟨kq, x32_7, rfl, HA, HJ7, HO_8, HO_9, HB⟩ := hcut
    cases kq with
    | zero => exact absurd HA.out (by simp [spec_ClearBetween.j1])
    | succ kj7 =>
     have H := HA.out
     clear HA
     simp only [spec_ClearBetween.j1] at H
     by_cases c19 : x32_7 = true
     ·
      subst c19
      have H1 : (spec_ClearBetween.l1 kj7 l0 l1 l2 x7_1 t232 t235 x10_1 0) = some r := by rw [if_pos rfl] at H; exact H
      clear H
      have H := H1
      clear H1
      have H' := Aside0.mk H
      clear H
      go_wp2
      go_loopg [7, 11] kj7 (fun kq v7 v11 w' => ∃ (x7_3 : Int) (x11_3 : Int), v7 = .int .i64 x7_3 ∧ v11 = .int .i64 x11_3 ∧ Aside0 (spec_ClearBetween.l1 kq l0 l1 l2 x7_3 t232 t235 x10_1 x11_3 = some r) ∧ Aside0 (kq ≤ kj7) ∧ Aside0 (Kd.R (Kd.int .i64) 3 w' w.heap.size (fun k_ => some k_ ≠ (v236 : Value).ownBlock) v233 t232) ∧ Aside0 (Kd.R (Kd.int .i64) 3 w' w.heap.size (fun k_ => some k_ ≠ (v233 : Value).ownBlock) v236 t235) ∧ Aside0 (Below w.heap.size w w'))
      case atStart => exact ⟨(x7_1), (0), rS, rS, H', ⟨Nat.le_refl _⟩, ⟨rK HO_8⟩, ⟨rK HO_9⟩, ⟨bA⟩⟩
      case round =>
       clear H'
       try clear c1
       try clear c2
       try clear p2
       try clear c6
       try clear c8
       try clear c9
       try clear c9b0
       try clear c11
       try clear c19
       try clear p2
       obtain ⟨x7_3, x11_3, rfl, rfl, HA, HK3, HO_8, HO_9, HB⟩ := hrel
       cases gk with
       | zero => exact absurd HA.out (by simp [spec_ClearBetween.l1])
       | succ k3 =>
        have H := HA.out
        clear HA
        simp only [spec_ClearBetween.l1] at H
        by_cases c20 : x11_3 < (t235.length : Int)
        ·
         rw [if_pos c20] at H
         have c20b0 : decide (x11_3 < (t235.length : Int)) = true := decide_eq_true c20
         clear c20
         have c21 : 0 ≤ x10_1 := ifN H
         replace H := ifT H
         have c21b0 : decide (0 ≤ x10_1) = true := decide_eq_true c21
         clear c21
         have c22 : x10_1 < (t232.length : Int) := ifN H
         replace H := ifT H
         have c22b0 : decide (x10_1 < (t232.length : Int)) = true := decide_eq_true c22
         clear c22
         obtain ⟨t241, A23, H⟩ := bindE H
         try dsimp only at H
         have c24 : 0 ≤ t241 := ifN H
         replace H := ifT H
         have c24b0 : decide (0 ≤ t241) = true := decide_eq_true c24
         clear c24
         have c25 : t241 < (l0.length : Int) := ifN H
         replace H := ifT H
         have c25b0 : decide (t241 < (l0.length : Int)) = true := decide_eq_true c25
         clear c25
         have c26 : 0 ≤ x11_3 := ifN H
         replace H := ifT H
         have c26b0 : decide (0 ≤ x11_3) = true := decide_eq_true c26
         clear c26
         obtain ⟨t245, A27, H⟩ := bindE H
         try dsimp only at H
         have c28 : 0 ≤ t245 := ifN H
         replace H := ifT H
         have c28b0 : decide (0 ≤ t245) = true := decide_eq_true c28
         clear c28
         have c29 : t245 < (l0.length : Int) := ifN H
         replace H := ifT H
         have c29b0 : decide (t245 < (l0.length : Int)) = true := decide_eq_true c29
         clear c29
         obtain ⟨t247, A30, H⟩ := bindE H
         try dsimp only at H
         by_cases c31 : t247 = true
         ·
          subst c31
          have H1 : ((spec_ClearOf.f ((rd_T58 l0 t241).f0) ((rd_T58 l0 t241).f1) ((rd_T58 l0 t241).f2) ((rd_T58 l0 t241).f3)).bind fun t248 => ((spec_Max.f x7_3 t248).bind fun t249 => (spec_ClearBetween.l1 k3 l0 l1 l2 t249 t232 t235 x10_1 (wrap64 (x11_3 + 1))))) = some r := by rw [if_pos rfl] at H; exact H
          clear H
          have H := H1
          clear H1
          obtain ⟨t248, A32, H⟩ := bindE H
          try dsimp only at H
          obtain ⟨t249, A33, H⟩ := bindE H
          try dsimp only at H
          have H' := Aside0.mk H
          clear H
          obtain ⟨Ao34, co34, eo34⟩ := Kd.R_slice HO_9.out
          subst eo34
          obtain ⟨Ao35, co35, eo35⟩ := Kd.R_slice HO_8.out
          subst eo35
          have p240 : 0 ≤ (x10_1 : Int) := dA
          have q240 : x10_1 < (t232.length : Int) := dA
          obtain ⟨ad240, e240, hx240_0⟩ := Kd.at_int (Kd.R_reads' HO_8.out).2.2 x10_1 p240 q240
          cases e240
          replace p240 := eq_true p240
          replace q240 := eq_true q240
          try go_wp2_with (first | ((with_reducible refine gate_callee (f := 68) rfl ?_); refine gL (some 47) Try.func68 #[.slice A0 l0.length c0, .int .i64 (rd t232 x10_1)] ?_; (with_reducible refine (spec_FindPath.calls k3 _ _ l0 (rd t232 x10_1) t241 _ ?side1 ?side2 A23.out).mono ?_); (case side1 => exact cB HR0); (case side2 => exact HC0.out); rintro e w' ⟨rfl, ⟨nd, rfl⟩⟩; refine ⟨_, rfl, ?_⟩; (try (rw [drewN_self wr]; generalize hq_ : World.drewN wr _ = wr; have n0_ : Aside0 (Kd.R (Kd.int .i64) 3 wr w.heap.size (fun k_ => some k_ ≠ (.slice Ao34 t235.length co34 : Value).ownBlock) (.slice (some ad240) t232.length co35) t232) := ⟨by rw [← hq_]; exact (rK HO_8)⟩; have n1_ : Aside0 (Kd.R (Kd.int .i64) 3 wr w.heap.size (fun k_ => some k_ ≠ (.slice (some ad240) t232.length co35 : Value).ownBlock) (.slice Ao34 t235.length co34) t235) := ⟨by rw [← hq_]; exact (rK HO_9)⟩; have n2_ : Aside0 (Below w.heap.size w wr) := ⟨by rw [← hq_]; exact bA⟩; clear HO_8 HO_9 HB hq_; have HO_8 := n0_; have HO_9 := n1_; have HB := n2_; clear n0_ n1_ n2_)); have p242 : 0 ≤ (t241 : Int) := dA; have q242 : t241 < (l0.length : Int) := dA; obtain ⟨ad242, e242, hx242_0, hx242_1, hx242_2, hx242_3⟩ := at_T58 HR0.out t241 p242 q242; cases e242; replace hx242_0 := hC HB hx242_0; replace hx242_1 := hC HB hx242_1; replace hx242_2 := hC HB hx242_2; replace hx242_3 := hC HB hx242_3; replace p242 := eq_true p242; replace q242 := eq_true q242) | ((with_reducible refine gate_dst (N := 12) rfl ?_); refine bE (N := 12) (cs := #[.int .i64 0, .int .i64 0, .int .i64 0, .int .i64 0]) (t := 58) ?_; intro gb243 hg w36 hbox hb; have n0_ := Aside0.mk (Kd.R_below (rK HO_8) hb); have n1_ := Aside0.mk (Kd.R_below (rK HO_9) hb); have n2_ := Aside0.mk (below_step bA hb); have n3_ := Aside0.mk (hbox); have n4_ := Aside0.mk ((by rw [hg]; exact (below_size bA) : w.heap.size ≤ gb243)); have n5_ := Aside0.mk ((by rw [hg]; exact (below_size bA) : w.heap.size ≤ gb243)); clear HO_8; clear HO_9; clear HB; have HO_8 := n0_; have HO_9 := n1_; have HB := n2_; have BK243 := n3_; have GW243 := n4_; have GE243 := n5_; clear n0_ n1_ n2_ n3_ n4_ n5_; clear hb hbox hg; obtain ⟨hcz37_0, hcz37_1, hcz37_2, hcz37_3, hfz37_0, hfz37_1, hfz37_2, hfz37_3⟩ := blkc4 BK243))
          have n0_ : Aside0 (Kd.R (Kd.int .i64) 3 ((((w36.setCell ⟨gb243, 0, none⟩ (.int .i64 ((rd_T58 l0 t241).f0))).setCell ⟨gb243, 1, none⟩ (.int .i64 ((rd_T58 l0 t241).f1))).setCell ⟨gb243, 2, none⟩ (.int .i64 ((rd_T58 l0 t241).f2))).setCell ⟨gb243, 3, none⟩ (.int .i64 ((rd_T58 l0 t241).f3))) w.heap.size (fun k_ => some k_ ≠ (.slice Ao34 t235.length co34 : Value).ownBlock) (.slice (some ad240) t232.length co35) t232) := ⟨by (with_reducible repeat (first | apply Kd.R_alloc | apply Kd.R_drewN | apply Kd.R_drew)); exact Kd.R_mono (Kd.R_far (p := ⟨gb243, 3, none⟩) (Kd.R_far (p := ⟨gb243, 2, none⟩) (Kd.R_far (p := ⟨gb243, 1, none⟩) (Kd.R_far (p := ⟨gb243, 0, none⟩) (Kd.R_types HO_8.out BK243.out (by decide)) (fun _ hk => hk.2) (.int .i64 ((rd_T58 l0 t241).f0))) (fun _ hk => hk.2) (.int .i64 ((rd_T58 l0 t241).f1))) (fun _ hk => hk.2) (.int .i64 ((rd_T58 l0 t241).f2))) (fun _ hk => hk.2) (.int .i64 ((rd_T58 l0 t241).f3))) (fun _ hk => hk.1)⟩
          have n1_ : Aside0 (Kd.R (Kd.int .i64) 3 ((((w36.setCell ⟨gb243, 0, none⟩ (.int .i64 ((rd_T58 l0 t241).f0))).setCell ⟨gb243, 1, none⟩ (.int .i64 ((rd_T58 l0 t241).f1))).setCell ⟨gb243, 2, none⟩ (.int .i64 ((rd_T58 l0 t241).f2))).setCell ⟨gb243, 3, none⟩ (.int .i64 ((rd_T58 l0 t241).f3))) w.heap.size (fun k_ => some k_ ≠ (.slice (some ad240) t232.length co35 : Value).ownBlock) (.slice Ao34 t235.length co34) t235) := ⟨by (with_reducible repeat (first | apply Kd.R_alloc | apply Kd.R_drewN | apply Kd.R_drew)); exact Kd.R_mono (Kd.R_far (p := ⟨gb243, 3, none⟩) (Kd.R_far (p := ⟨gb243, 2, none⟩) (Kd.R_far (p := ⟨gb243, 1, none⟩) (Kd.R_far (p := ⟨gb243, 0, none⟩) (Kd.R_types HO_9.out BK243.out (by decide)) (fun _ hk => hk.2) (.int .i64 ((rd_T58 l0 t241).f0))) (fun _ hk => hk.2) (.int .i64 ((rd_T58 l0 t241).f1))) (fun _ hk => hk.2) (.int .i64 ((rd_T58 l0 t241).f2))) (fun _ hk => hk.2) (.int .i64 ((rd_T58 l0 t241).f3))) (fun _ hk => hk.1)⟩
          have n2_ : Aside0 (((((w36.setCell ⟨gb243, 0, none⟩ (.int .i64 ((rd_T58 l0 t241).f0))).setCell ⟨gb243, 1, none⟩ (.int .i64 ((rd_T58 l0 t241).f1))).setCell ⟨gb243, 2, none⟩ (.int .i64 ((rd_T58 l0 t241).f2))).setCell ⟨gb243, 3, none⟩ (.int .i64 ((rd_T58 l0 t241).f3))).heap[gb243]? = some (.cells #[.int .i64 ((rd_T58 l0 t241).f0), .int .i64 ((rd_T58 l0 t241).f1), .int .i64 ((rd_T58 l0 t241).f2), .int .i64 ((rd_T58 l0 t241).f3)] 58 (0, 0))) := ⟨by (with_reducible repeat (first | refine blk_drewN ?_ _ | refine blk_drew ?_ | refine blk_alloc ?_ _)); refine blk_put (cs := #[.int .i64 ((rd_T58 l0 t241).f0), .int .i64 ((rd_T58 l0 t241).f1), .int .i64 ((rd_T58 l0 t241).f2), .int .i64 0]) ?_ 3 _ rfl; (with_reducible repeat (first | refine blk_drewN ?_ _ | refine blk_drew ?_ | refine blk_alloc ?_ _)); refine blk_put (cs := #[.int .i64 ((rd_T58 l0 t241).f0), .int .i64 ((rd_T58 l0 t241).f1), .int .i64 0, .int .i64 0]) ?_ 2 _ rfl; (with_reducible repeat (first | refine blk_drewN ?_ _ | refine blk_drew ?_ | refine blk_alloc ?_ _)); refine blk_put (cs := #[.int .i64 ((rd_T58 l0 t241).f0), .int .i64 0, .int .i64 0, .int .i64 0]) ?_ 1 _ rfl; (with_reducible repeat (first | refine blk_drewN ?_ _ | refine blk_drew ?_ | refine blk_alloc ?_ _)); refine blk_put (cs := #[.int .i64 0, .int .i64 0, .int .i64 0, .int .i64 0]) ?_ 0 _ rfl; (with_reducible repeat (first | refine blk_drewN ?_ _ | refine blk_drew ?_ | refine blk_alloc ?_ _)); exact BK243.out⟩
          have n3_ : Aside0 (Below w.heap.size w ((((w36.setCell ⟨gb243, 0, none⟩ (.int .i64 ((rd_T58 l0 t241).f0))).setCell ⟨gb243, 1, none⟩ (.int .i64 ((rd_T58 l0 t241).f1))).setCell ⟨gb243, 2, none⟩ (.int .i64 ((rd_T58 l0 t241).f2))).setCell ⟨gb243, 3, none⟩ (.int .i64 ((rd_T58 l0 t241).f3)))) := ⟨bG⟩
          (try clear HO_8)
          (try clear HO_9)
          (try clear BK243)
          (try clear HB)
          generalize ((((w36.setCell ⟨gb243, 0, none⟩ (.int .i64 ((rd_T58 l0 t241).f0))).setCell ⟨gb243, 1, none⟩ (.int .i64 ((rd_T58 l0 t241).f1))).setCell ⟨gb243, 2, none⟩ (.int .i64 ((rd_T58 l0 t241).f2))).setCell ⟨gb243, 3, none⟩ (.int .i64 ((rd_T58 l0 t241).f3))) = w38 at n0_ n1_ n2_ n3_ ⊢
          have HO_8 := n0_
          have HO_9 := n1_
          have BK243 := n2_
          have HB := n3_
          clear n0_ n1_ n2_ n3_
          replace HO_8 := Aside0.mk (Kd.R_drew HO_8.out)
          replace HO_9 := Aside0.mk (Kd.R_drew HO_9.out)
          replace BK243 := Aside0.mk (blk_drew BK243.out)
          have HBo := HB
          replace HB := Aside0.mk (below_drew1 HB.out)
          have p244 : 0 ≤ (x11_3 : Int) := dA
          have q244 : x11_3 < (t235.length : Int) := dA
          obtain ⟨ad244, e244, hx244_0⟩ := Kd.at_int (Kd.R_reads' HO_9.out).2.2 x11_3 p244 q244
          cases e244
          replace p244 := eq_true p244
          replace q244 := eq_true q244
          have p246 : 0 ≤ (t245 : Int) := dA
          have q246 : t245 < (l0.length : Int) := dA
          obtain ⟨ad246, e246, hx246_0, hx246_1, hx246_2, hx246_3⟩ := at_T58 HR0.out t245 p246 q246
          have hw246_3 := hx246_3
          have hw246_2 := hx246_2
          have hw246_1 := hx246_1
          have hw246_0 := hx246_0
          obtain rfl : ad242 = ad246 := (by injection e246)
          replace hx246_0 := hC HB hx246_0
          replace hx246_1 := hC HB hx246_1
          replace hx246_2 := hC HB hx246_2
          replace hx246_3 := hC HB hx246_3
          replace p246 := eq_true p246
          replace q246 := eq_true q246
          refine start_ (n := 11) (S := fun w' => w'.cell? ⟨gb243, 0, none⟩ = some (.int .i64 ((rd_T58 l0 t241).f0)) ∧ w'.cell? ⟨gb243, 1, none⟩ = some (.int .i64 ((rd_T58 l0 t241).f1)) ∧ w'.cell? ⟨gb243, 2, none⟩ = some (.int .i64 ((rd_T58 l0 t241).f2)) ∧ w'.cell? ⟨gb243, 3, none⟩ = some (.int .i64 ((rd_T58 l0 t241).f3)) ∧ w'.cell? (ad244.add (x11_3).toNat) = some (.int .i64 (rd t235 x11_3)) ∧ w'.cell? (ad242.add ((t245).toNat * 4)) = some (.int .i64 ((rd_T58 l0 t245).f0)) ∧ w'.cell? ⟨(ad242.add ((t245).toNat * 4)).block, (ad242.add ((t245).toNat * 4)).off + 1, none⟩ = some (.int .i64 ((rd_T58 l0 t245).f1)) ∧ w'.cell? ⟨(ad242.add ((t245).toNat * 4)).block, (ad242.add ((t245).toNat * 4)).off + 2, none⟩ = some (.int .i64 ((rd_T58 l0 t245).f2)) ∧ w'.cell? ⟨(ad242.add ((t245).toNat * 4)).block, (ad242.add ((t245).toNat * 4)).off + 3, none⟩ = some (.int .i64 ((rd_T58 l0 t245).f3))) (ds := []) (mb 11 0) (by kernel_rfl) rfl rfl ⟨bC BK243 0, bC BK243 1, bC BK243 2, bC BK243 3, hx244_0, (hC HB hw246_0), (hC HB hw246_1), (hC HB hw246_2), (hC HB hw246_3)⟩ (fun hHeld => ?_); refine with_tabW spec_ClearBetween.tab11 spec_ClearBetween.bits11 (fun HT_ HW_ => ?_)
          generalize w38.drew = w39 at HO_8 HO_9 BK243 HB hx244_0 hx246_0 hx246_1 hx246_2 hx246_3 hHeld ⊢
          refine pA (i := 1) (N := some 51) (mb 11 2) HT_ ?_
          refine pA (i := 2) (N := some 52) (mb 11 6) HT_ ?_
          refine pA (i := 3) (N := some 53) (mb 11 14) HT_ ?_
          refine pA (i := 4) (N := some 54) (mb 11 30) HT_ ?_
          refine pA (i := 5) (N := some 55) (mb 11 62) HT_ ?_
          refine tA9 (i := 0) (N := some 50) (mb 11 63) HT_ HW_ hHeld ?_
          refine tA9 (i := 6) (N := some 56) (mb 11 127) HT_ HW_ hHeld ?_
          refine oA (i := 7) (N := some 57) (mb 11 255) HT_ (fun K hK => ?_)
          refine gA Try.func68 #[.slice (some ad242) l0.length c0, .int .i64 (rd t235 x11_3)] ?_
          with_reducible refine (spec_FindPath.calls k3 _ _ l0 (rd t235 x11_3) t245 _ ?side1 ?side2 A27.out).mono ?_
          (case side1 => exact cB HR0)
          (case side2 => exact HC0.out)
          rintro e w' ⟨rfl, ⟨nd, rfl⟩⟩
          refine ⟨_, rfl, ?_⟩
          refine hK.out _ _ ⟨bC BK243 0, bC BK243 1, bC BK243 2, bC BK243 3, hHeld.2.2.2.2.1, (hC HB hw246_0), (hC HB hw246_1), (hC HB hw246_2), (hC HB hw246_3)⟩ (fun hHeld => ?_)
          clear hK K
          refine nB ?_
          refine pA (i := 8) (N := some 58) (mb 11 511) HT_ ?_
          refine tA9 (i := 9) (N := some 59) (mb 11 1023) HT_ HW_ hHeld ?_
          refine oA (i := 10) (N := some 60) (mb 11 2047) HT_ (fun K hK => ?_)
          refine gA Try.func76 #[.agg #[.int .i64 ((rd_T58 l0 t241).f0), .int .i64 ((rd_T58 l0 t241).f1), .int .i64 ((rd_T58 l0 t241).f2), .int .i64 ((rd_T58 l0 t241).f3)], .agg #[.int .i64 ((rd_T58 l0 t245).f0), .int .i64 ((rd_T58 l0 t245).f1), .int .i64 ((rd_T58 l0 t245).f2), .int .i64 ((rd_T58 l0 t245).f3)]] ?_
          with_reducible refine (spec_Conflict.calls k3 ((rd_T58 l0 t241).f0) ((rd_T58 l0 t241).f1) ((rd_T58 l0 t241).f2) ((rd_T58 l0 t241).f3) ((rd_T58 l0 t245).f0) ((rd_T58 l0 t245).f1) ((rd_T58 l0 t245).f2) ((rd_T58 l0 t245).f3) true _ A30.out).mono ?_
          rintro e w40 ⟨rfl, hb⟩
          have HS4_ := (hb.cell (World.block_lt_of_cell? _ _ (hHeld.2.2.2.2.1))).trans (hHeld.2.2.2.2.1)
          refine ⟨_, rfl, ?_⟩
          replace HO_8 := Aside0.mk (Kd.R_below (rK HO_8) hb)
          replace HO_9 := Aside0.mk (Kd.R_below (rK HO_9) hb)
          replace BK243 := Aside0.mk (blk_below (g := gb243) (bK BK243) hb)
          replace HB := Aside0.mk (below_step bG hb)
          (try clear hb)
          (try clear hb2)
          (try clear hk)
          (try clear hi)
          refine hK.out _ _ ⟨bC BK243 0, bC BK243 1, bC BK243 2, bC BK243 3, HS4_, (hC HB hw246_0), (hC HB hw246_1), (hC HB hw246_2), (hC HB hw246_3)⟩ (fun hHeld => ?_)
          clear hK K
          refine nB ?_
          refine eA HT_ ?_
          obtain ⟨hcz41_0, hcz41_1, hcz41_2, hcz41_3, hfz41_0, hfz41_1, hfz41_2, hfz41_3⟩ := blkc4 BK243
          try go_wp2_with (first | ((with_reducible refine gate_callee (f := 86) rfl ?_); refine gL (some 63) Try.func86 #[.agg #[.int .i64 ((rd_T58 l0 t241).f0), .int .i64 ((rd_T58 l0 t241).f1), .int .i64 ((rd_T58 l0 t241).f2), .int .i64 ((rd_T58 l0 t241).f3)]] ?_; (with_reducible refine (spec_ClearOf.calls ((rd_T58 l0 t241).f0) ((rd_T58 l0 t241).f1) ((rd_T58 l0 t241).f2) ((rd_T58 l0 t241).f3) t248 _ A32.out).mono ?_); rintro e w42 ⟨rfl, hb⟩; refine ⟨_, rfl, ?_⟩; replace HO_8 := Aside0.mk (Kd.R_below (rK HO_8) hb); replace HO_9 := Aside0.mk (Kd.R_below (rK HO_9) hb); replace BK243 := Aside0.mk (blk_below (g := gb243) (bK BK243) hb); replace HB := Aside0.mk (below_step bG hb); (try clear hb); (try clear hb2); (try clear hk); (try clear hi)) | ((with_reducible refine gate_callee (f := 67) rfl ?_); refine gL (some 64) Try.func67 #[.int .i64 x7_3, .int .i64 t248] ?_; (with_reducible refine (spec_Max.calls x7_3 t248 t249 _ A33.out).mono ?_); rintro e w' ⟨rfl, ⟨nd, rfl⟩⟩; refine ⟨_, rfl, ?_⟩))
          go_roundg k3
          case measure => have := HK1.out; have := HJ7.out; have := HK3.out; omega
          case rel => exact ⟨(t249), (wrap64 (x11_3 + 1)), rS, rS, H', ⟨by have := HK1.out; have := HJ7.out; have := HK3.out; omega⟩, ⟨rK HO_8⟩, ⟨rK HO_9⟩, ⟨bG⟩⟩
         ·
          replace c31 := Bool.eq_false_iff.mpr c31
          subst c31
          have H1 : (spec_ClearBetween.l1 k3 l0 l1 l2 x7_3 t232 t235 x10_1 (wrap64 (x11_3 + 1))) = some r := by rw [if_neg (show ¬ (false = true) by decide)] at H; exact H
          clear H
          have H := H1
          clear H1
          have H' := Aside0.mk H
          clear H
          obtain ⟨Ao43, co43, eo43⟩ := Kd.R_slice HO_9.out
          subst eo43
          obtain ⟨Ao44, co44, eo44⟩ := Kd.R_slice HO_8.out
          subst eo44
          have p240 : 0 ≤ (x10_1 : Int) := dA
          have q240 : x10_1 < (t232.length : Int) := dA
          obtain ⟨ad240, e240, hx240_0⟩ := Kd.at_int (Kd.R_reads' HO_8.out).2.2 x10_1 p240 q240
          cases e240
          replace p240 := eq_true p240
          replace q240 := eq_true q240
          try go_wp2_with (first | ((with_reducible refine gate_callee (f := 68) rfl ?_); refine gL (some 47) Try.func68 #[.slice A0 l0.length c0, .int .i64 (rd t232 x10_1)] ?_; (with_reducible refine (spec_FindPath.calls k3 _ _ l0 (rd t232 x10_1) t241 _ ?side1 ?side2 A23.out).mono ?_); (case side1 => exact cB HR0); (case side2 => exact HC0.out); rintro e w' ⟨rfl, ⟨nd, rfl⟩⟩; refine ⟨_, rfl, ?_⟩; (try (rw [drewN_self wr]; generalize hq_ : World.drewN wr _ = wr; have n0_ : Aside0 (Kd.R (Kd.int .i64) 3 wr w.heap.size (fun k_ => some k_ ≠ (.slice Ao43 t235.length co43 : Value).ownBlock) (.slice (some ad240) t232.length co44) t232) := ⟨by rw [← hq_]; exact (rK HO_8)⟩; have n1_ : Aside0 (Kd.R (Kd.int .i64) 3 wr w.heap.size (fun k_ => some k_ ≠ (.slice (some ad240) t232.length co44 : Value).ownBlock) (.slice Ao43 t235.length co43) t235) := ⟨by rw [← hq_]; exact (rK HO_9)⟩; have n2_ : Aside0 (Below w.heap.size w wr) := ⟨by rw [← hq_]; exact bA⟩; clear HO_8 HO_9 HB hq_; have HO_8 := n0_; have HO_9 := n1_; have HB := n2_; clear n0_ n1_ n2_)); have p242 : 0 ≤ (t241 : Int) := dA; have q242 : t241 < (l0.length : Int) := dA; obtain ⟨ad242, e242, hx242_0, hx242_1, hx242_2, hx242_3⟩ := at_T58 HR0.out t241 p242 q242; cases e242; replace hx242_0 := hC HB hx242_0; replace hx242_1 := hC HB hx242_1; replace hx242_2 := hC HB hx242_2; replace hx242_3 := hC HB hx242_3; replace p242 := eq_true p242; replace q242 := eq_true q242) | ((with_reducible refine gate_dst (N := 12) rfl ?_); refine bE (N := 12) (cs := #[.int .i64 0, .int .i64 0, .int .i64 0, .int .i64 0]) (t := 58) ?_; intro gb243 hg w45 hbox hb; have n0_ := Aside0.mk (Kd.R_below (rK HO_8) hb); have n1_ := Aside0.mk (Kd.R_below (rK HO_9) hb); have n2_ := Aside0.mk (below_step bA hb); have n3_ := Aside0.mk (hbox); have n4_ := Aside0.mk ((by rw [hg]; exact (below_size bA) : w.heap.size ≤ gb243)); have n5_ := Aside0.mk ((by rw [hg]; exact (below_size bA) : w.heap.size ≤ gb243)); clear HO_8; clear HO_9; clear HB; have HO_8 := n0_; have HO_9 := n1_; have HB := n2_; have BK243 := n3_; have GW243 := n4_; have GE243 := n5_; clear n0_ n1_ n2_ n3_ n4_ n5_; clear hb hbox hg; obtain ⟨hcz46_0, hcz46_1, hcz46_2, hcz46_3, hfz46_0, hfz46_1, hfz46_2, hfz46_3⟩ := blkc4 BK243))
          have n0_ : Aside0 (Kd.R (Kd.int .i64) 3 ((((w45.setCell ⟨gb243, 0, none⟩ (.int .i64 ((rd_T58 l0 t241).f0))).setCell ⟨gb243, 1, none⟩ (.int .i64 ((rd_T58 l0 t241).f1))).setCell ⟨gb243, 2, none⟩ (.int .i64 ((rd_T58 l0 t241).f2))).setCell ⟨gb243, 3, none⟩ (.int .i64 ((rd_T58 l0 t241).f3))) w.heap.size (fun k_ => some k_ ≠ (.slice Ao43 t235.length co43 : Value).ownBlock) (.slice (some ad240) t232.length co44) t232) := ⟨by (with_reducible repeat (first | apply Kd.R_alloc | apply Kd.R_drewN | apply Kd.R_drew)); exact Kd.R_mono (Kd.R_far (p := ⟨gb243, 3, none⟩) (Kd.R_far (p := ⟨gb243, 2, none⟩) (Kd.R_far (p := ⟨gb243, 1, none⟩) (Kd.R_far (p := ⟨gb243, 0, none⟩) (Kd.R_types HO_8.out BK243.out (by decide)) (fun _ hk => hk.2) (.int .i64 ((rd_T58 l0 t241).f0))) (fun _ hk => hk.2) (.int .i64 ((rd_T58 l0 t241).f1))) (fun _ hk => hk.2) (.int .i64 ((rd_T58 l0 t241).f2))) (fun _ hk => hk.2) (.int .i64 ((rd_T58 l0 t241).f3))) (fun _ hk => hk.1)⟩
          have n1_ : Aside0 (Kd.R (Kd.int .i64) 3 ((((w45.setCell ⟨gb243, 0, none⟩ (.int .i64 ((rd_T58 l0 t241).f0))).setCell ⟨gb243, 1, none⟩ (.int .i64 ((rd_T58 l0 t241).f1))).setCell ⟨gb243, 2, none⟩ (.int .i64 ((rd_T58 l0 t241).f2))).setCell ⟨gb243, 3, none⟩ (.int .i64 ((rd_T58 l0 t241).f3))) w.heap.size (fun k_ => some k_ ≠ (.slice (some ad240) t232.length co44 : Value).ownBlock) (.slice Ao43 t235.length co43) t235) := ⟨by (with_reducible repeat (first | apply Kd.R_alloc | apply Kd.R_drewN | apply Kd.R_drew)); exact Kd.R_mono (Kd.R_far (p := ⟨gb243, 3, none⟩) (Kd.R_far (p := ⟨gb243, 2, none⟩) (Kd.R_far (p := ⟨gb243, 1, none⟩) (Kd.R_far (p := ⟨gb243, 0, none⟩) (Kd.R_types HO_9.out BK243.out (by decide)) (fun _ hk => hk.2) (.int .i64 ((rd_T58 l0 t241).f0))) (fun _ hk => hk.2) (.int .i64 ((rd_T58 l0 t241).f1))) (fun _ hk => hk.2) (.int .i64 ((rd_T58 l0 t241).f2))) (fun _ hk => hk.2) (.int .i64 ((rd_T58 l0 t241).f3))) (fun _ hk => hk.1)⟩
          have n2_ : Aside0 (((((w45.setCell ⟨gb243, 0, none⟩ (.int .i64 ((rd_T58 l0 t241).f0))).setCell ⟨gb243, 1, none⟩ (.int .i64 ((rd_T58 l0 t241).f1))).setCell ⟨gb243, 2, none⟩ (.int .i64 ((rd_T58 l0 t241).f2))).setCell ⟨gb243, 3, none⟩ (.int .i64 ((rd_T58 l0 t241).f3))).heap[gb243]? = some (.cells #[.int .i64 ((rd_T58 l0 t241).f0), .int .i64 ((rd_T58 l0 t241).f1), .int .i64 ((rd_T58 l0 t241).f2), .int .i64 ((rd_T58 l0 t241).f3)] 58 (0, 0))) := ⟨by (with_reducible repeat (first | refine blk_drewN ?_ _ | refine blk_drew ?_ | refine blk_alloc ?_ _)); refine blk_put (cs := #[.int .i64 ((rd_T58 l0 t241).f0), .int .i64 ((rd_T58 l0 t241).f1), .int .i64 ((rd_T58 l0 t241).f2), .int .i64 0]) ?_ 3 _ rfl; (with_reducible repeat (first | refine blk_drewN ?_ _ | refine blk_drew ?_ | refine blk_alloc ?_ _)); refine blk_put (cs := #[.int .i64 ((rd_T58 l0 t241).f0), .int .i64 ((rd_T58 l0 t241).f1), .int .i64 0, .int .i64 0]) ?_ 2 _ rfl; (with_reducible repeat (first | refine blk_drewN ?_ _ | refine blk_drew ?_ | refine blk_alloc ?_ _)); refine blk_put (cs := #[.int .i64 ((rd_T58 l0 t241).f0), .int .i64 0, .int .i64 0, .int .i64 0]) ?_ 1 _ rfl; (with_reducible repeat (first | refine blk_drewN ?_ _ | refine blk_drew ?_ | refine blk_alloc ?_ _)); refine blk_put (cs := #[.int .i64 0, .int .i64 0, .int .i64 0, .int .i64 0]) ?_ 0 _ rfl; (with_reducible repeat (first | refine blk_drewN ?_ _ | refine blk_drew ?_ | refine blk_alloc ?_ _)); exact BK243.out⟩
          have n3_ : Aside0 (Below w.heap.size w ((((w45.setCell ⟨gb243, 0, none⟩ (.int .i64 ((rd_T58 l0 t241).f0))).setCell ⟨gb243, 1, none⟩ (.int .i64 ((rd_T58 l0 t241).f1))).setCell ⟨gb243, 2, none⟩ (.int .i64 ((rd_T58 l0 t241).f2))).setCell ⟨gb243, 3, none⟩ (.int .i64 ((rd_T58 l0 t241).f3)))) := ⟨bG⟩
          (try clear HO_8)
          (try clear HO_9)
          (try clear BK243)
          (try clear HB)
          generalize ((((w45.setCell ⟨gb243, 0, none⟩ (.int .i64 ((rd_T58 l0 t241).f0))).setCell ⟨gb243, 1, none⟩ (.int .i64 ((rd_T58 l0 t241).f1))).setCell ⟨gb243, 2, none⟩ (.int .i64 ((rd_T58 l0 t241).f2))).setCell ⟨gb243, 3, none⟩ (.int .i64 ((rd_T58 l0 t241).f3))) = w47 at n0_ n1_ n2_ n3_ ⊢
          have HO_8 := n0_
          have HO_9 := n1_
          have BK243 := n2_
          have HB := n3_
          clear n0_ n1_ n2_ n3_
          replace HO_8 := Aside0.mk (Kd.R_drew HO_8.out)
          replace HO_9 := Aside0.mk (Kd.R_drew HO_9.out)
          replace BK243 := Aside0.mk (blk_drew BK243.out)
          have HBo := HB
          replace HB := Aside0.mk (below_drew1 HB.out)
          have p244 : 0 ≤ (x11_3 : Int) := dA
          have q244 : x11_3 < (t235.length : Int) := dA
          obtain ⟨ad244, e244, hx244_0⟩ := Kd.at_int (Kd.R_reads' HO_9.out).2.2 x11_3 p244 q244
          cases e244
          replace p244 := eq_true p244
          replace q244 := eq_true q244
          have p246 : 0 ≤ (t245 : Int) := dA
          have q246 : t245 < (l0.length : Int) := dA
          obtain ⟨ad246, e246, hx246_0, hx246_1, hx246_2, hx246_3⟩ := at_T58 HR0.out t245 p246 q246
          have hw246_3 := hx246_3
          have hw246_2 := hx246_2
          have hw246_1 := hx246_1
          have hw246_0 := hx246_0
          obtain rfl : ad242 = ad246 := (by injection e246)
          replace hx246_0 := hC HB hx246_0
          replace hx246_1 := hC HB hx246_1
          replace hx246_2 := hC HB hx246_2
          replace hx246_3 := hC HB hx246_3
          replace p246 := eq_true p246
          replace q246 := eq_true q246
          refine start_ (n := 11) (S := fun w' => w'.cell? ⟨gb243, 0, none⟩ = some (.int .i64 ((rd_T58 l0 t241).f0)) ∧ w'.cell? ⟨gb243, 1, none⟩ = some (.int .i64 ((rd_T58 l0 t241).f1)) ∧ w'.cell? ⟨gb243, 2, none⟩ = some (.int .i64 ((rd_T58 l0 t241).f2)) ∧ w'.cell? ⟨gb243, 3, none⟩ = some (.int .i64 ((rd_T58 l0 t241).f3)) ∧ w'.cell? (ad244.add (x11_3).toNat) = some (.int .i64 (rd t235 x11_3)) ∧ w'.cell? (ad242.add ((t245).toNat * 4)) = some (.int .i64 ((rd_T58 l0 t245).f0)) ∧ w'.cell? ⟨(ad242.add ((t245).toNat * 4)).block, (ad242.add ((t245).toNat * 4)).off + 1, none⟩ = some (.int .i64 ((rd_T58 l0 t245).f1)) ∧ w'.cell? ⟨(ad242.add ((t245).toNat * 4)).block, (ad242.add ((t245).toNat * 4)).off + 2, none⟩ = some (.int .i64 ((rd_T58 l0 t245).f2)) ∧ w'.cell? ⟨(ad242.add ((t245).toNat * 4)).block, (ad242.add ((t245).toNat * 4)).off + 3, none⟩ = some (.int .i64 ((rd_T58 l0 t245).f3))) (ds := []) (mb 11 0) (by kernel_rfl) rfl rfl ⟨bC BK243 0, bC BK243 1, bC BK243 2, bC BK243 3, hx244_0, (hC HB hw246_0), (hC HB hw246_1), (hC HB hw246_2), (hC HB hw246_3)⟩ (fun hHeld => ?_); refine with_tabW spec_ClearBetween.tab11 spec_ClearBetween.bits11 (fun HT_ HW_ => ?_)
          generalize w47.drew = w48 at HO_8 HO_9 BK243 HB hx244_0 hx246_0 hx246_1 hx246_2 hx246_3 hHeld ⊢
          refine pA (i := 1) (N := some 51) (mb 11 2) HT_ ?_
          refine pA (i := 2) (N := some 52) (mb 11 6) HT_ ?_
          refine pA (i := 3) (N := some 53) (mb 11 14) HT_ ?_
          refine pA (i := 4) (N := some 54) (mb 11 30) HT_ ?_
          refine pA (i := 5) (N := some 55) (mb 11 62) HT_ ?_
          refine tA9 (i := 0) (N := some 50) (mb 11 63) HT_ HW_ hHeld ?_
          refine tA9 (i := 6) (N := some 56) (mb 11 127) HT_ HW_ hHeld ?_
          refine oA (i := 7) (N := some 57) (mb 11 255) HT_ (fun K hK => ?_)
          refine gA Try.func68 #[.slice (some ad242) l0.length c0, .int .i64 (rd t235 x11_3)] ?_
          with_reducible refine (spec_FindPath.calls k3 _ _ l0 (rd t235 x11_3) t245 _ ?side1 ?side2 A27.out).mono ?_
          (case side1 => exact cB HR0)
          (case side2 => exact HC0.out)
          rintro e w' ⟨rfl, ⟨nd, rfl⟩⟩
          refine ⟨_, rfl, ?_⟩
          refine hK.out _ _ ⟨bC BK243 0, bC BK243 1, bC BK243 2, bC BK243 3, hHeld.2.2.2.2.1, (hC HB hw246_0), (hC HB hw246_1), (hC HB hw246_2), (hC HB hw246_3)⟩ (fun hHeld => ?_)
          clear hK K
          refine nB ?_
          refine pA (i := 8) (N := some 58) (mb 11 511) HT_ ?_
          refine tA9 (i := 9) (N := some 59) (mb 11 1023) HT_ HW_ hHeld ?_
          refine oA (i := 10) (N := some 60) (mb 11 2047) HT_ (fun K hK => ?_)
          refine gA Try.func76 #[.agg #[.int .i64 ((rd_T58 l0 t241).f0), .int .i64 ((rd_T58 l0 t241).f1), .int .i64 ((rd_T58 l0 t241).f2), .int .i64 ((rd_T58 l0 t241).f3)], .agg #[.int .i64 ((rd_T58 l0 t245).f0), .int .i64 ((rd_T58 l0 t245).f1), .int .i64 ((rd_T58 l0 t245).f2), .int .i64 ((rd_T58 l0 t245).f3)]] ?_
          with_reducible refine (spec_Conflict.calls k3 ((rd_T58 l0 t241).f0) ((rd_T58 l0 t241).f1) ((rd_T58 l0 t241).f2) ((rd_T58 l0 t241).f3) ((rd_T58 l0 t245).f0) ((rd_T58 l0 t245).f1) ((rd_T58 l0 t245).f2) ((rd_T58 l0 t245).f3) false _ A30.out).mono ?_
          rintro e w49 ⟨rfl, hb⟩
          have HS4_ := (hb.cell (World.block_lt_of_cell? _ _ (hHeld.2.2.2.2.1))).trans (hHeld.2.2.2.2.1)
          refine ⟨_, rfl, ?_⟩
          replace HO_8 := Aside0.mk (Kd.R_below (rK HO_8) hb)
          replace HO_9 := Aside0.mk (Kd.R_below (rK HO_9) hb)
          replace BK243 := Aside0.mk (blk_below (g := gb243) (bK BK243) hb)
          replace HB := Aside0.mk (below_step bG hb)
          (try clear hb)
          (try clear hb2)
          (try clear hk)
          (try clear hi)
          refine hK.out _ _ ⟨bC BK243 0, bC BK243 1, bC BK243 2, bC BK243 3, HS4_, (hC HB hw246_0), (hC HB hw246_1), (hC HB hw246_2), (hC HB hw246_3)⟩ (fun hHeld => ?_)
          clear hK K
          refine nB ?_
          refine eA HT_ ?_
          try go_wp2
          go_roundg k3
          case measure => have := HK1.out; have := HJ7.out; have := HK3.out; omega
          case rel => exact ⟨(x7_3), (wrap64 (x11_3 + 1)), rS, rS, H', ⟨by have := HK1.out; have := HJ7.out; have := HK3.out; omega⟩, ⟨rK HO_8⟩, ⟨rK HO_9⟩, ⟨bG⟩⟩
        ·
         rw [if_neg c20] at H
         have c20b0 : decide (x11_3 < (t235.length : Int)) = false := decide_eq_false c20
         clear c20
         have H' := Aside0.mk H
         clear H
         obtain ⟨Ao50, co50, eo50⟩ := Kd.R_slice HO_9.out
         subst eo50
         go_wp2
         go_roundg k3
         case measure => have := HK1.out; have := HJ7.out; have := HK3.out; omega
         case rel => exact ⟨(x7_3), (wrap64 (x10_1 + 1)), rS, rS, H', ⟨by have := HK1.out; have := HJ7.out; have := HK3.out; omega⟩, ⟨rK HO_8⟩, ⟨rK HO_9⟩, ⟨bA⟩⟩
     ·
      replace c19 := Bool.eq_false_iff.mpr c19
      subst c19
      have H1 : (some x7_1) = some r := by rw [if_neg (show ¬ (false = true) by decide)] at H; exact H
      clear H
      have H := H1
      clear H1
      obtain rfl := Option.some.inj H
      go_wp2
      go_ret
      exact ⟨rA, bA⟩

/-! ### spec_l8Long: function 64 -/
def spec_l8Long.f (k : Nat) (l0 : List (S58)) (l1 : List (S51)) (a2 : Int) : Option (Int) := if 0 ≤ a2 then (if a2 < (l1.length : Int) then (if (l1.length : Int) = 0 then (none) else (if 0 ≤ (Int.tmod (wrap64 (a2 + 1)) (l1.length : Int)) then (if (Int.tmod (wrap64 (a2 + 1)) (l1.length : Int)) < (l1.length : Int) then ((spec_ClearBetween.f k l0 ((rd_T51 l1 a2).f0) ((rd_T51 l1 (Int.tmod (wrap64 (a2 + 1)) (l1.length : Int))).f0)).bind fun t253 => (some (wrap64 (((rd_T51 l1 a2).f1) + t253)))) else (none)) else (none))) else (none)) else (none)
theorem spec_l8Long.mono : ∀ a0 a1 a2 k, LeO (spec_l8Long.f k a0 a1 a2) (spec_l8Long.f (k + 1) a0 a1 a2) := by
 intro a0 a1 a2 k
 unfold spec_l8Long.f
 repeat' first | (with_reducible first | exact LeO.refl _ | exact LeO.none _ | refine LeO.ite ?_ ?_ | refine LeO.bind ?_ (fun _ => ?_) | exact spec_ClearBetween.mono _ _ _ _) | exact LeO.none _ | refine LeO.ite ?_ ?_ | refine LeO.bind ?_ (fun _ => ?_) | exact spec_ClearBetween.mono _ _ _ _
def spec_l8Long.T1 : Bool × List (List Nat × List Nat) := (true, [([], []), ([], []), ([0, 1], [0, 1]), ([2], [2]), ([3], [3]), ([], []), ([], []), ([], []), ([6, 7], [6, 7]), ([8], [8]), ([9], [9]), ([], []), ([], []), ([12], [12]), ([], []), ([14], [14]), ([13, 15], [13, 15]), ([11, 16], [11, 16]), ([17], [17]), ([18], [18]), ([5, 10, 19], [5, 10, 19]), ([4, 20], [4, 20]), ([21, 20, 0, 1, 2, 3, 4, 5, 6, 7, 8, 9, 10, 11, 12, 13, 14, 15, 16, 17, 18, 19, 20, 21], [21])])
def spec_l8Long.B1 : List Nat := [0, 0, 3, 7, 15, 0, 0, 0, 192, 448, 960, 0, 0, 4096, 0, 16384, 61440, 129024, 260096, 522240, 1048544, 2097151, 4194303]
theorem spec_l8Long.tab1 : rtab .any (opsOf Try.f64 1) = spec_l8Long.T1 := by kernel_rfl
theorem spec_l8Long.bits1 : waitsOk spec_l8Long.T1.2 spec_l8Long.B1 = true := by kernel_rfl
set_option maxHeartbeats 8000000 in
set_option maxRecDepth 100000 in
theorem spec_l8Long.calls (k : Nat) (A0 : Option Addr) (c0 : Nat) (l0 : List (S58)) (A1 : Option Addr) (c1 : Nat) (l1 : List (S51)) (a2 : Int) (r : Int) (w : World) (hr0 : Kd.C k58 w A0 l0.length l0) (hc0 : l0.length ≤ c0) (hr1 : Kd.C k51 w A1 l1.length l1) (hc1 : l1.length ≤ c1) (h : spec_l8Long.f k l0 l1 a2 = some r) :
  Calls Try.prog 64 #[.slice A0 l0.length c0, .slice A1 l1.length c1, .int .i64 a2] w fun e w' => e = .returned (.int .i64 r) ∧ Below w.heap.size w w' := by
 have HR0 := Aside0.mk hr0
 have HC0 := Aside0.mk hc0
 clear hr0 hc0
 have HR1 := Aside0.mk hr1
 have HC1 := Aside0.mk hc1
 clear hr1 hc1
 have HB := Aside0.mk (Below.refl w.heap.size w)
 have H : (if 0 ≤ a2 then (if a2 < (l1.length : Int) then (if (l1.length : Int) = 0 then (none) else (if 0 ≤ (Int.tmod (wrap64 (a2 + 1)) (l1.length : Int)) then (if (Int.tmod (wrap64 (a2 + 1)) (l1.length : Int)) < (l1.length : Int) then ((spec_ClearBetween.f k l0 ((rd_T51 l1 a2).f0) ((rd_T51 l1 (Int.tmod (wrap64 (a2 + 1)) (l1.length : Int))).f0)).bind fun t253 => (some (wrap64 (((rd_T51 l1 a2).f1) + t253)))) else (none)) else (none))) else (none)) else (none)) = some r := h
 clear h
 have c4 : 0 ≤ a2 := ifN H
 replace H := ifT H
 have c4b0 : decide (0 ≤ a2) = true := decide_eq_true c4
 clear c4
 have c5 : a2 < (l1.length : Int) := ifN H
 replace H := ifT H
 have c5b0 : decide (a2 < (l1.length : Int)) = true := decide_eq_true c5
 clear c5
 have c6 : ¬ ((l1.length : Int) = 0) := ifN' H
 replace H := ifT' H
 have c6b0 : ((l1.length : Int) == 0) = false := beq_eq_false_iff_ne.mpr c6
 have c6b1 : ((l1.length : Int) != 0) = true := bne_iff_ne.mpr c6
 have c6b2 : ¬ (l1 = []) := fun h_ => c6 (by rw [h_]; rfl)
 obtain ⟨ji7, hji7⟩ : ∃ j_ : Int, (Int.tmod (wrap64 (a2 + 1)) (l1.length : Int)) = j_ := ⟨_, rfl⟩
 replace H : (if 0 ≤ (ji7) then (if (ji7) < (l1.length : Int) then ((spec_ClearBetween.f k l0 ((rd_T51 l1 a2).f0) ((rd_T51 l1 (ji7)).f0)).bind fun t253 => (some (wrap64 (((rd_T51 l1 a2).f1) + t253)))) else (none)) else (none)) = some r := by first | (rw [hji7] at H; exact H) | (simp only [hji7] at H ⊢; exact H)
 have c8 : 0 ≤ (ji7) := ifN H
 replace H := ifT H
 have c8b0 : decide (0 ≤ (ji7)) = true := decide_eq_true c8
 clear c8
 have c9 : (ji7) < (l1.length : Int) := ifN H
 replace H := ifT H
 have c9b0 : decide ((ji7) < (l1.length : Int)) = true := decide_eq_true c9
 clear c9
 obtain ⟨t253, A10, H⟩ := bindE H
 try dsimp only at H
 obtain rfl := Option.some.inj H
 go_enter Try.func64, Try.ntmps64
 try go_wp2
 have HBo := HB
 replace HB := Aside0.mk (below_drew1 HB.out)
 have p250 : 0 ≤ (a2 : Int) := dA
 have q250 : a2 < (l1.length : Int) := dA
 obtain ⟨ad250, A250_0, c250_0, e250, hx250_0, hx250_1, hl250_0, hi250_0⟩ := at_T51 HR1.out a2 p250 q250
 have hw250_1 := hx250_1
 have hw250_0 := hx250_0
 cases e250
 replace hx250_0 := hC HB hx250_0
 replace hx250_1 := hC HB hx250_1
 have HR250_0 := Aside0.mk hi250_0
 have HC250_0 := Aside0.mk hl250_0
 clear hi250_0 hl250_0
 replace p250 := eq_true p250
 replace q250 := eq_true q250
 have p251 : 0 ≤ (a2 : Int) := dA
 have q251 : a2 < (l1.length : Int) := dA
 obtain ⟨ad251, A251_0, c251_0, e251, hx251_0, hx251_1, hl251_0, hi251_0⟩ := at_T51 HR1.out a2 p251 q251
 have hw251_1 := hx251_1
 have hw251_0 := hx251_0
 obtain rfl : ad250 = ad251 := (by injection e251)
 replace hx251_0 := hC HB hx251_0
 replace hx251_1 := hC HB hx251_1
 have HR251_0 := Aside0.mk hi251_0
 have HC251_0 := Aside0.mk hl251_0
 clear hi251_0 hl251_0
 replace p251 := eq_true p251
 replace q251 := eq_true q251
 have ea_ := Option.some.inj (hx250_0.symm.trans hx251_0)
 injection ea_ with ea_ en_ ec_
 subst ea_
 subst ec_
 clear en_
 have p252 : 0 ≤ ((ji7) : Int) := dA
 have q252 : (ji7) < (l1.length : Int) := dA
 obtain ⟨ad252, A252_0, c252_0, e252, hx252_0, hx252_1, hl252_0, hi252_0⟩ := at_T51 HR1.out (ji7) p252 q252
 have hw252_1 := hx252_1
 have hw252_0 := hx252_0
 obtain rfl : ad250 = ad252 := (by injection e252)
 replace hx252_0 := hC HB hx252_0
 replace hx252_1 := hC HB hx252_1
 have HR252_0 := Aside0.mk hi252_0
 have HC252_0 := Aside0.mk hl252_0
 clear hi252_0 hl252_0
 replace p252 := eq_true p252
 replace q252 := eq_true q252
 refine start_ (n := 23) (S := fun w' => w'.cell? (ad250.add ((a2).toNat * 2)) = some (.slice A250_0 ((rd_T51 l1 a2).f0).length c250_0) ∧ w'.cell? ⟨(ad250.add ((a2).toNat * 2)).block, (ad250.add ((a2).toNat * 2)).off + 1, none⟩ = some (.int .i64 ((rd_T51 l1 a2).f1)) ∧ w'.cell? (ad250.add ((a2).toNat * 2)) = some (.slice A250_0 ((rd_T51 l1 a2).f0).length c250_0) ∧ w'.cell? ⟨(ad250.add ((a2).toNat * 2)).block, (ad250.add ((a2).toNat * 2)).off + 1, none⟩ = some (.int .i64 ((rd_T51 l1 a2).f1)) ∧ w'.cell? (ad250.add (((ji7)).toNat * 2)) = some (.slice A252_0 ((rd_T51 l1 (ji7)).f0).length c252_0) ∧ w'.cell? ⟨(ad250.add (((ji7)).toNat * 2)).block, (ad250.add (((ji7)).toNat * 2)).off + 1, none⟩ = some (.int .i64 ((rd_T51 l1 (ji7)).f1))) (ds := []) (mb 23 0) (by kernel_rfl) rfl rfl ⟨(hC HB hw250_0), (hC HB hw250_1), (hC HB hw251_0), (hC HB hw251_1), (hC HB hw252_0), (hC HB hw252_1)⟩ (fun hHeld => ?_); refine with_tabW spec_l8Long.tab1 spec_l8Long.bits1 (fun HT_ HW_ => ?_)
 generalize w.drew = w11 at HB HR250_0 HR251_0 HR252_0 hx250_0 hx250_1 hx251_0 hx251_1 hx252_0 hx252_1 hHeld ⊢
 refine pA (i := 0) (N := some 7) (mb 23 1) HT_ ?_
 refine pA (i := 1) (N := some 8) (mb 23 3) HT_ ?_
 refine pA (i := 2) (N := some 9) (mb 23 7) HT_ ?_
 refine pA (i := 3) (N := some 10) (mb 23 15) HT_ ?_
 refine pA (i := 5) (N := some 12) (mb 23 47) HT_ ?_
 refine pA (i := 6) (N := some 13) (mb 23 111) HT_ ?_
 refine pA (i := 7) (N := some 14) (mb 23 239) HT_ ?_
 refine pA (i := 8) (N := some 15) (mb 23 495) HT_ ?_
 refine pA (i := 9) (N := some 16) (mb 23 1007) HT_ ?_
 refine pA (i := 11) (N := some 18) (mb 23 3055) HT_ ?_
 refine pA (i := 12) (N := some 19) (mb 23 7151) HT_ ?_
 refine pA (i := 13) (N := some 20) (mb 23 15343) HT_ ?_
 refine pA (i := 14) (N := some 21) (mb 23 31727) HT_ ?_
 refine pA (i := 15) (N := some 22) (mb 23 64495) HT_ ?_
 refine pA (i := 16) (N := some 23) (mb 23 130031) HT_ ?_
 refine pA (i := 17) (N := some 24) (mb 23 261103) HT_ ?_
 refine pA (i := 18) (N := some 25) (mb 23 523247) HT_ ?_
 refine tA6 (i := 4) (N := some 11) (mb 23 523263) HT_ HW_ hHeld ?_
 refine tA6 (i := 10) (N := some 17) (mb 23 524287) HT_ HW_ hHeld ?_
 refine tA6 (i := 19) (N := some 26) (mb 23 1048575) HT_ HW_ hHeld ?_
 refine oA (i := 20) (N := some 27) (mb 23 2097151) HT_ (fun K hK => ?_)
 refine goes_ Try.func66 (by kernel_rfl) rfl #[.slice A0 l0.length c0, .slice A250_0 ((rd_T51 l1 a2).f0).length c250_0, .slice A252_0 ((rd_T51 l1 (ji7)).f0).length c252_0] (by rfl) rfl rfl (by (try simp only [List.map_toArray, List.map_cons, List.map_nil]); first | done | (simp only [hji7]; rfl) | rfl | (simp only [List.length_drop, List.length_take]; rfl)) ?_
 with_reducible refine (spec_ClearBetween.calls k _ _ l0 _ _ ((rd_T51 l1 a2).f0) _ _ ((rd_T51 l1 (ji7)).f0) t253 _ ?side1 ?side2 ?side3 ?side4 ?side5 ?side6 A10.out).mono ?_
 (case side1 => exact cB HR0)
 (case side2 => exact HC0.out)
 (case side3 => exact cB HR251_0)
 (case side4 => exact HC251_0.out)
 (case side5 => exact cB HR252_0)
 (case side6 => exact HC252_0.out)
 rintro e w12 ⟨rfl, hb⟩
 refine ⟨_, rfl, ?_⟩
 replace HB := Aside0.mk (below_step bA hb)
 (try clear hb)
 (try clear hb2)
 (try clear hk)
 (try clear hi)
 refine hK.out _ _ ⟨(hC HB hw250_0), (hC HB hw250_1), (hC HB hw251_0), (hC HB hw251_1), (hC HB hw252_0), (hC HB hw252_1)⟩ (fun hHeld => ?_)
 clear hK K
 refine nB ?_
 refine pA (i := 21) (N := some 28) (mb 23 4194303) HT_ ?_
 refine pA (i := 22) (N := some 6) (mb 23 8388607) HT_ ?_
 refine eA HT_ ?_
 try go_wp2
 go_ret
 exact ⟨by first | rfl | (simp [errW_none, errW_some] <;> rfl) | (simp only [← hji7]; first | rfl | (simp [errW_none, errW_some] <;> rfl)) | (simp [*, errW_none, errW_some] <;> rfl), bA⟩

/-! ### spec_Cycle: function 23 -/
def spec_Cycle.l0 : Nat → List (S58) → List (S51) → Int → Int → Option (Int)
 | 0, _, _, _, _ => none
 | k + 1, x0, x1, x5, x6 => if x6 < (x1.length : Int) then ((spec_IsPlan.f k x0 x1).bind fun t254 => (if t254 = true then ((spec_l8Long.f k x0 x1 x6).bind fun t255 => (spec_Cycle.l0 k x0 x1 (wrap64 (x5 + t255)) (wrap64 (x6 + 1)))) else (some x5))) else (some x5)
def spec_Cycle.f (k : Nat) (l0 : List (S58)) (l1 : List (S51)) : Option (Int) := spec_Cycle.l0 k l0 l1 0 0
theorem spec_Cycle.mono_l : ∀ k, (∀ y0 y1 y2 y3, LeO (spec_Cycle.l0 k y0 y1 y2 y3) (spec_Cycle.l0 (k + 1) y0 y1 y2 y3))
 | 0 => fun _ _ _ _ r h => by simp [spec_Cycle.l0] at h
 | k + 1 => by
  have ih0 := spec_Cycle.mono_l k
  ·
   intro y0 y1 y2 y3
   unfold spec_Cycle.l0
   repeat' first | (with_reducible first | exact LeO.refl _ | exact LeO.none _ | refine LeO.ite ?_ ?_ | refine LeO.bind ?_ (fun _ => ?_) | exact ih0 _ _ _ _ | exact spec_IsPlan.mono _ _ _ | exact spec_l8Long.mono _ _ _ _) | exact LeO.none _ | refine LeO.ite ?_ ?_ | refine LeO.bind ?_ (fun _ => ?_) | exact ih0 _ _ _ _ | exact spec_IsPlan.mono _ _ _ | exact spec_l8Long.mono _ _ _ _
theorem spec_Cycle.mono : ∀ a0 a1 k, LeO (spec_Cycle.f k a0 a1) (spec_Cycle.f (k + 1) a0 a1) := by
 intro a0 a1 k
 have ih0 := spec_Cycle.mono_l k
 unfold spec_Cycle.f
 repeat' first | (with_reducible first | exact LeO.refl _ | exact LeO.none _ | refine LeO.ite ?_ ?_ | refine LeO.bind ?_ (fun _ => ?_) | exact ih0 _ _ _ _ | exact spec_IsPlan.mono _ _ _ | exact spec_l8Long.mono _ _ _ _) | exact LeO.none _ | refine LeO.ite ?_ ?_ | refine LeO.bind ?_ (fun _ => ?_) | exact ih0 _ _ _ _ | exact spec_IsPlan.mono _ _ _ | exact spec_l8Long.mono _ _ _ _
set_option maxHeartbeats 8000000 in
set_option maxRecDepth 100000 in
theorem spec_Cycle.calls (k : Nat) (A0 : Option Addr) (c0 : Nat) (l0 : List (S58)) (A1 : Option Addr) (c1 : Nat) (l1 : List (S51)) (r : Int) (w : World) (hr0 : Kd.C k58 w A0 l0.length l0) (hc0 : l0.length ≤ c0) (hr1 : Kd.C k51 w A1 l1.length l1) (hc1 : l1.length ≤ c1) (h : spec_Cycle.f k l0 l1 = some r) :
  Calls Try.prog 23 #[.slice A0 l0.length c0, .slice A1 l1.length c1] w fun e w' => e = .returned (.int .i64 r) ∧ Below w.heap.size w w' := by
 have HR0 := Aside0.mk hr0
 have HC0 := Aside0.mk hc0
 clear hr0 hc0
 have HR1 := Aside0.mk hr1
 have HC1 := Aside0.mk hc1
 clear hr1 hc1
 have HB := Aside0.mk (Below.refl w.heap.size w)
 have H : (spec_Cycle.l0 k l0 l1 0 0) = some r := h
 clear h
 have H' := Aside0.mk H
 clear H
 go_enter Try.func23, Try.ntmps23
 go_wp2
 go_loopg [5, 6] k (fun kq v5 v6 w' => ∃ (x5_1 : Int) (x6_1 : Int), v5 = .int .i64 x5_1 ∧ v6 = .int .i64 x6_1 ∧ Aside0 (spec_Cycle.l0 kq l0 l1 x5_1 x6_1 = some r) ∧ Aside0 (kq ≤ k) ∧ Aside0 (Below w.heap.size w w'))
 case atStart => exact ⟨(0), (0), rS, rS, H', ⟨Nat.le_refl _⟩, ⟨bA⟩⟩
 case round =>
  clear H'
  try clear c1
  try clear c2
  try clear p2
  obtain ⟨x5_1, x6_1, rfl, rfl, HA, HK1, HB⟩ := hrel
  cases gk with
  | zero => exact absurd HA.out (by simp [spec_Cycle.l0])
  | succ k1 =>
   have H := HA.out
   clear HA
   simp only [spec_Cycle.l0] at H
   by_cases c3 : x6_1 < (l1.length : Int)
   ·
    rw [if_pos c3] at H
    have c3b0 : decide (x6_1 < (l1.length : Int)) = true := decide_eq_true c3
    clear c3
    obtain ⟨t254, A4, H⟩ := bindE H
    try dsimp only at H
    by_cases c5 : t254 = true
    ·
     subst c5
     have H1 : ((spec_l8Long.f k1 l0 l1 x6_1).bind fun t255 => (spec_Cycle.l0 k1 l0 l1 (wrap64 (x5_1 + t255)) (wrap64 (x6_1 + 1)))) = some r := by rw [if_pos rfl] at H; exact H
     clear H
     have H := H1
     clear H1
     obtain ⟨t255, A6, H⟩ := bindE H
     try dsimp only at H
     have H' := Aside0.mk H
     clear H
     go_wp2_with (first | (go_at_call 17; (with_reducible refine (spec_IsPlan.calls k1 _ _ l0 _ _ l1 true _ ?side1 ?side2 ?side3 ?side4 A4.out).mono ?_); (case side1 => exact cB HR0); (case side2 => exact HC0.out); (case side3 => exact cB HR1); (case side4 => exact HC1.out); rintro e w7 ⟨rfl, hb⟩; replace HB := Aside0.mk (below_step bA hb); (try clear hb); (try clear hb2); (try clear hk); (try clear hi)) | ((with_reducible refine gate_callee (f := 64) rfl ?_); refine gL (some 22) Try.func64 #[.slice A0 l0.length c0, .slice A1 l1.length c1, .int .i64 x6_1] ?_; (with_reducible refine (spec_l8Long.calls k1 _ _ l0 _ _ l1 x6_1 t255 _ ?side1 ?side2 ?side3 ?side4 A6.out).mono ?_); (case side1 => exact cB HR0); (case side2 => exact HC0.out); (case side3 => exact cB HR1); (case side4 => exact HC1.out); rintro e w8 ⟨rfl, hb⟩; refine ⟨_, rfl, ?_⟩; replace HB := Aside0.mk (below_step bA hb); (try clear hb); (try clear hb2); (try clear hk); (try clear hi)))
     go_roundg k1
     case measure => have := HK1.out; omega
     case rel => exact ⟨(wrap64 (x5_1 + t255)), (wrap64 (x6_1 + 1)), rS, rS, H', ⟨by have := HK1.out; omega⟩, ⟨bA⟩⟩
    ·
     replace c5 := Bool.eq_false_iff.mpr c5
     subst c5
     have H1 : (some x5_1) = some r := by rw [if_neg (show ¬ (false = true) by decide)] at H; exact H
     clear H
     have H := H1
     clear H1
     obtain rfl := Option.some.inj H
     go_wp2_with (first | (go_at_call 17; (with_reducible refine (spec_IsPlan.calls k1 _ _ l0 _ _ l1 false _ ?side1 ?side2 ?side3 ?side4 A4.out).mono ?_); (case side1 => exact cB HR0); (case side2 => exact HC0.out); (case side3 => exact cB HR1); (case side4 => exact HC1.out); rintro e w9 ⟨rfl, hb⟩; replace HB := Aside0.mk (below_step bA hb); (try clear hb); (try clear hb2); (try clear hk); (try clear hi)))
     go_ret
     exact ⟨rA, bA⟩
   ·
    rw [if_neg c3] at H
    have c3b0 : decide (x6_1 < (l1.length : Int)) = false := decide_eq_false c3
    clear c3
    obtain rfl := Option.some.inj H
    go_wp2
    go_ret
    exact ⟨rA, bA⟩

/-! ### spec_PartAt: function 31 -/
mutual
def spec_PartAt.j0 : Nat → List (S58) → List (S51) → Int → Bool → Option (Int × Int)
 | 0, _, _, _, _ => none
 | k + 1, x0, x1, x2, x19 => if x19 = true then (some ((-1), 0)) else ((spec_Cycle.f k x0 x1).bind fun t258 => (if t258 = 0 then (none) else (spec_PartAt.l0 k x0 x1 (Int.tmod x2 t258) 0)))
def spec_PartAt.l0 : Nat → List (S58) → List (S51) → Int → Int → Option (Int × Int)
 | 0, _, _, _, _ => none
 | k + 1, x0, x1, x8, x9 => (spec_l8Long.f k x0 x1 x9).bind fun t259 => (if x8 < t259 then (some (x9, x8)) else (spec_PartAt.l0 k x0 x1 (wrap64 (x8 - t259)) (wrap64 (x9 + 1))))
end
def spec_PartAt.f (k : Nat) (l0 : List (S58)) (l1 : List (S51)) (a2 : Int) : Option (Int × Int) := (spec_IsPlan.f k l0 l1).bind fun t256 => (if t256 = true then ((spec_l1In.f a2 0 1000000).bind fun t257 => (spec_PartAt.j0 k l0 l1 a2 (!t257))) else (spec_PartAt.j0 k l0 l1 a2 true))
theorem spec_PartAt.mono_l : ∀ k, (∀ y0 y1 y2 y3, LeO (spec_PartAt.j0 k y0 y1 y2 y3) (spec_PartAt.j0 (k + 1) y0 y1 y2 y3)) ∧ (∀ y0 y1 y2 y3, LeO (spec_PartAt.l0 k y0 y1 y2 y3) (spec_PartAt.l0 (k + 1) y0 y1 y2 y3))
 | 0 => ⟨fun _ _ _ _ r h => by simp [spec_PartAt.j0] at h, fun _ _ _ _ r h => by simp [spec_PartAt.l0] at h⟩
 | k + 1 => by
  obtain ⟨ih0, ih1⟩ := spec_PartAt.mono_l k
  refine ⟨?_, ?_⟩
  ·
   intro y0 y1 y2 y3
   unfold spec_PartAt.j0
   repeat' first | (with_reducible first | exact LeO.refl _ | exact LeO.none _ | refine LeO.ite ?_ ?_ | refine LeO.bind ?_ (fun _ => ?_) | exact ih0 _ _ _ _ | exact ih1 _ _ _ _ | exact spec_Cycle.mono _ _ _ | exact spec_IsPlan.mono _ _ _ | exact spec_l8Long.mono _ _ _ _) | exact LeO.none _ | refine LeO.ite ?_ ?_ | refine LeO.bind ?_ (fun _ => ?_) | exact ih0 _ _ _ _ | exact ih1 _ _ _ _ | exact spec_Cycle.mono _ _ _ | exact spec_IsPlan.mono _ _ _ | exact spec_l8Long.mono _ _ _ _
  ·
   intro y0 y1 y2 y3
   unfold spec_PartAt.l0
   repeat' first | (with_reducible first | exact LeO.refl _ | exact LeO.none _ | refine LeO.ite ?_ ?_ | refine LeO.bind ?_ (fun _ => ?_) | exact ih0 _ _ _ _ | exact ih1 _ _ _ _ | exact spec_Cycle.mono _ _ _ | exact spec_IsPlan.mono _ _ _ | exact spec_l8Long.mono _ _ _ _) | exact LeO.none _ | refine LeO.ite ?_ ?_ | refine LeO.bind ?_ (fun _ => ?_) | exact ih0 _ _ _ _ | exact ih1 _ _ _ _ | exact spec_Cycle.mono _ _ _ | exact spec_IsPlan.mono _ _ _ | exact spec_l8Long.mono _ _ _ _
theorem spec_PartAt.mono : ∀ a0 a1 a2 k, LeO (spec_PartAt.f k a0 a1 a2) (spec_PartAt.f (k + 1) a0 a1 a2) := by
 intro a0 a1 a2 k
 obtain ⟨ih0, ih1⟩ := spec_PartAt.mono_l k
 unfold spec_PartAt.f
 repeat' first | (with_reducible first | exact LeO.refl _ | exact LeO.none _ | refine LeO.ite ?_ ?_ | refine LeO.bind ?_ (fun _ => ?_) | exact ih0 _ _ _ _ | exact ih1 _ _ _ _ | exact spec_Cycle.mono _ _ _ | exact spec_IsPlan.mono _ _ _ | exact spec_l8Long.mono _ _ _ _) | exact LeO.none _ | refine LeO.ite ?_ ?_ | refine LeO.bind ?_ (fun _ => ?_) | exact ih0 _ _ _ _ | exact ih1 _ _ _ _ | exact spec_Cycle.mono _ _ _ | exact spec_IsPlan.mono _ _ _ | exact spec_l8Long.mono _ _ _ _
set_option maxHeartbeats 8000000 in
set_option maxRecDepth 100000 in
theorem spec_PartAt.calls (k : Nat) (A0 : Option Addr) (c0 : Nat) (l0 : List (S58)) (A1 : Option Addr) (c1 : Nat) (l1 : List (S51)) (a2 : Int) (r1 : Int) (r2 : Int) (w : World) (hr0 : Kd.C k58 w A0 l0.length l0) (hc0 : l0.length ≤ c0) (hr1 : Kd.C k51 w A1 l1.length l1) (hc1 : l1.length ≤ c1) (h : spec_PartAt.f k l0 l1 a2 = some (r1, r2)) :
  Calls Try.prog 31 #[.slice A0 l0.length c0, .slice A1 l1.length c1, .int .i64 a2] w fun e w' => e = .returned (.tuple #[.int .i64 r1, .int .i64 r2]) ∧ Below w.heap.size w w' := by
 have HR0 := Aside0.mk hr0
 have HC0 := Aside0.mk hc0
 clear hr0 hc0
 have HR1 := Aside0.mk hr1
 have HC1 := Aside0.mk hc1
 clear hr1 hc1
 have HB := Aside0.mk (Below.refl w.heap.size w)
 have H : ((spec_IsPlan.f k l0 l1).bind fun t256 => (if t256 = true then ((spec_l1In.f a2 0 1000000).bind fun t257 => (spec_PartAt.j0 k l0 l1 a2 (!t257))) else (spec_PartAt.j0 k l0 l1 a2 true))) = some (r1, r2) := h
 clear h
 have HC4 := Aside0.mk H
 clear H
 go_enter Try.func31, Try.ntmps31
 go_upto_region 1 with (fail)
 go_cut [19] (fun v19 wc => ∃ (kq : Nat) (x19_3 : Bool), v19 = .bool x19_3 ∧ Aside0 (spec_PartAt.j0 kq l0 l1 a2 x19_3 = some (r1, r2)) ∧ Aside0 (kq ≤ k) ∧ Aside0 (Below w.heap.size w wc))
 case first =>
  have H := HC4.out
  clear HC4
  obtain ⟨t256, A5, H⟩ := bindE H
  try dsimp only at H
  by_cases c6 : t256 = true
  ·
   subst c6
   have H1 : ((spec_l1In.f a2 0 1000000).bind fun t257 => (spec_PartAt.j0 k l0 l1 a2 (!t257))) = some (r1, r2) := by rw [if_pos rfl] at H; exact H
   clear H
   have H := H1
   clear H1
   obtain ⟨t257, A7, H⟩ := bindE H
   try dsimp only at H
   have H' := Aside0.mk H
   clear H
   go_wp2_with (first | ((with_reducible refine gate_callee (f := 17) rfl ?_); refine gL (some 13) Try.func17 #[.slice A0 l0.length c0, .slice A1 l1.length c1] ?_; (with_reducible refine (spec_IsPlan.calls k _ _ l0 _ _ l1 true _ ?side1 ?side2 ?side3 ?side4 A5.out).mono ?_); (case side1 => exact cB HR0); (case side2 => exact HC0.out); (case side3 => exact cB HR1); (case side4 => exact HC1.out); rintro e w8 ⟨rfl, hb⟩; refine ⟨_, rfl, ?_⟩; replace HB := Aside0.mk (below_step bA hb); (try clear hb); (try clear hb2); (try clear hk); (try clear hi)) | (go_at_call 51; (with_reducible refine (spec_l1In.calls a2 0 1000000 t257 _ A7.out).mono ?_); rintro e w' ⟨rfl, ⟨nd, rfl⟩⟩))
   go_meet
   case rel => exact ⟨_, (!t257), rS, H', ⟨by first | omega | exact Nat.le_refl _⟩, ⟨bA⟩⟩
  ·
   replace c6 := Bool.eq_false_iff.mpr c6
   subst c6
   have H1 : (spec_PartAt.j0 k l0 l1 a2 true) = some (r1, r2) := by rw [if_neg (show ¬ (false = true) by decide)] at H; exact H
   clear H
   have H := H1
   clear H1
   have H' := Aside0.mk H
   clear H
   go_wp2_with (first | ((with_reducible refine gate_callee (f := 17) rfl ?_); refine gL (some 13) Try.func17 #[.slice A0 l0.length c0, .slice A1 l1.length c1] ?_; (with_reducible refine (spec_IsPlan.calls k _ _ l0 _ _ l1 false _ ?side1 ?side2 ?side3 ?side4 A5.out).mono ?_); (case side1 => exact cB HR0); (case side2 => exact HC0.out); (case side3 => exact cB HR1); (case side4 => exact HC1.out); rintro e w9 ⟨rfl, hb⟩; refine ⟨_, rfl, ?_⟩; replace HB := Aside0.mk (below_step bA hb); (try clear hb); (try clear hb2); (try clear hk); (try clear hi)))
   go_meet
   case rel => exact ⟨_, (true), rS, H', ⟨by first | omega | exact Nat.le_refl _⟩, ⟨bA⟩⟩
 case rest =>
  clear HC4
  try clear c1
  try clear p2
  try clear c3
  try clear c6
  obtain ⟨kq, x19_3, rfl, HA, HJ3, HB⟩ := hcut
  cases kq with
  | zero => exact absurd HA.out (by simp [spec_PartAt.j0])
  | succ kj3 =>
   have H := HA.out
   clear HA
   simp only [spec_PartAt.j0] at H
   by_cases c10 : x19_3 = true
   ·
    subst c10
    have H1 : (some ((-1), 0)) = some (r1, r2) := by rw [if_pos rfl] at H; exact H
    clear H
    have H := H1
    clear H1
    simp only [Option.some.injEq, Prod.mk.injEq] at H
    obtain ⟨rfl, rfl⟩ := H
    go_wp2
    go_ret2
    exact ⟨rA, bA⟩
   ·
    replace c10 := Bool.eq_false_iff.mpr c10
    subst c10
    have H1 : ((spec_Cycle.f kj3 l0 l1).bind fun t258 => (if t258 = 0 then (none) else (spec_PartAt.l0 kj3 l0 l1 (Int.tmod a2 t258) 0))) = some (r1, r2) := by rw [if_neg (show ¬ (false = true) by decide)] at H; exact H
    clear H
    have H := H1
    clear H1
    obtain ⟨t258, A11, H⟩ := bindE H
    try dsimp only at H
    have c12 : ¬ (t258 = 0) := ifN' H
    replace H := ifT' H
    have c12b0 : (t258 == 0) = false := beq_eq_false_iff_ne.mpr c12
    have c12b1 : (t258 != 0) = true := bne_iff_ne.mpr c12
    have H' := Aside0.mk H
    clear H
    go_wp2_with (first | ((with_reducible refine gate_callee (f := 23) rfl ?_); refine gL (some 23) Try.func23 #[.slice A0 l0.length c0, .slice A1 l1.length c1] ?_; (with_reducible refine (spec_Cycle.calls kj3 _ _ l0 _ _ l1 t258 _ ?side1 ?side2 ?side3 ?side4 A11.out).mono ?_); (case side1 => exact cB HR0); (case side2 => exact HC0.out); (case side3 => exact cB HR1); (case side4 => exact HC1.out); rintro e w13 ⟨rfl, hb⟩; refine ⟨_, rfl, ?_⟩; replace HB := Aside0.mk (below_step bA hb); (try clear hb); (try clear hb2); (try clear hk); (try clear hi)))
    go_loopg [8, 9] kj3 (fun kq v8 v9 w' => ∃ (x8_2 : Int) (x9_2 : Int), v8 = .int .i64 x8_2 ∧ v9 = .int .i64 x9_2 ∧ Aside0 (spec_PartAt.l0 kq l0 l1 x8_2 x9_2 = some (r1, r2)) ∧ Aside0 (kq ≤ kj3) ∧ Aside0 (Below w.heap.size w w'))
    case atStart => exact ⟨(Int.tmod a2 t258), (0), rS, rS, H', ⟨Nat.le_refl _⟩, ⟨bA⟩⟩
    case round =>
     clear H'
     try clear c1
     try clear c2
     try clear p2
     try clear c3
     try clear c6
     try clear c10
     try clear c12
     try clear c12b0
     try clear c12b1
     try clear p2
     obtain ⟨x8_2, x9_2, rfl, rfl, HA, HK2, HB⟩ := hrel
     cases gk with
     | zero => exact absurd HA.out (by simp [spec_PartAt.l0])
     | succ k2 =>
      have H := HA.out
      clear HA
      simp only [spec_PartAt.l0] at H
      obtain ⟨t259, A14, H⟩ := bindE H
      try dsimp only at H
      by_cases c15 : x8_2 < t259
      ·
       rw [if_pos c15] at H
       have c15b0 : decide (x8_2 < t259) = true := decide_eq_true c15
       clear c15
       simp only [Option.some.injEq, Prod.mk.injEq] at H
       obtain ⟨rfl, rfl⟩ := H
       go_wp2_with (first | ((with_reducible refine gate_callee (f := 64) rfl ?_); refine gL (some 30) Try.func64 #[.slice A0 l0.length c0, .slice A1 l1.length c1, .int .i64 x9_2] ?_; (with_reducible refine (spec_l8Long.calls k2 _ _ l0 _ _ l1 x9_2 t259 _ ?side1 ?side2 ?side3 ?side4 A14.out).mono ?_); (case side1 => exact cB HR0); (case side2 => exact HC0.out); (case side3 => exact cB HR1); (case side4 => exact HC1.out); rintro e w16 ⟨rfl, hb⟩; refine ⟨_, rfl, ?_⟩; replace HB := Aside0.mk (below_step bA hb); (try clear hb); (try clear hb2); (try clear hk); (try clear hi)))
       go_ret2
       exact ⟨rA, bA⟩
      ·
       rw [if_neg c15] at H
       have c15b0 : decide (x8_2 < t259) = false := decide_eq_false c15
       clear c15
       have H' := Aside0.mk H
       clear H
       go_wp2_with (first | ((with_reducible refine gate_callee (f := 64) rfl ?_); refine gL (some 30) Try.func64 #[.slice A0 l0.length c0, .slice A1 l1.length c1, .int .i64 x9_2] ?_; (with_reducible refine (spec_l8Long.calls k2 _ _ l0 _ _ l1 x9_2 t259 _ ?side1 ?side2 ?side3 ?side4 A14.out).mono ?_); (case side1 => exact cB HR0); (case side2 => exact HC0.out); (case side3 => exact cB HR1); (case side4 => exact HC1.out); rintro e w17 ⟨rfl, hb⟩; refine ⟨_, rfl, ?_⟩; replace HB := Aside0.mk (below_step bA hb); (try clear hb); (try clear hb2); (try clear hk); (try clear hi)))
       go_roundg k2
       case measure => have := HJ3.out; have := HK2.out; omega
       case rel => exact ⟨(wrap64 (x8_2 - t259)), (wrap64 (x9_2 + 1)), rS, rS, H', ⟨by have := HJ3.out; have := HK2.out; omega⟩, ⟨bA⟩⟩

/-! ### spec_l9Light: function 69 -/
def spec_l9Light.j0 : Nat → List (S58) → List (S51) → Int → Int → Int → Bool → Bool → Option (Int)
 | 0, _, _, _, _, _, _, _ => none
 | k + 1, x0, x1, x2, x3, x4, x12, x29 => if x29 = true then (some 1) else (if x12 = true then (if 0 ≤ x2 then (if x2 < (x1.length : Int) then ((spec_FindPath.f k x0 x4).bind fun t266 => (if 0 ≤ t266 then (if t266 < (x0.length : Int) then ((spec_ClearOf.f ((rd_T58 x0 t266).f0) ((rd_T58 x0 t266).f1) ((rd_T58 x0 t266).f2) ((rd_T58 x0 t266).f3)).bind fun t268 => (if x3 < (wrap64 (((rd_T51 x1 x2).f1) + t268)) then (some 2) else (some 0))) else (none)) else (none))) else (none)) else (none)) else (some 0))
def spec_l9Light.f (k : Nat) (l0 : List (S58)) (l1 : List (S51)) (a2 : Int) (a3 : Int) (a4 : Int) : Option (Int) := if (l1.length : Int) = 0 then (none) else (if 0 ≤ (Int.tmod (wrap64 (a2 + 1)) (l1.length : Int)) then (if (Int.tmod (wrap64 (a2 + 1)) (l1.length : Int)) < (l1.length : Int) then (if 0 ≤ a2 then (if a2 < (l1.length : Int) then ((spec_l6Has.f k ((rd_T51 l1 a2).f0) a4).bind fun t262 => (if t262 = true then (if a3 < ((rd_T51 l1 a2).f1) then (spec_l9Light.j0 k l0 l1 a2 a3 a4 t262 true) else ((spec_l6Has.f k ((rd_T51 l1 (Int.tmod (wrap64 (a2 + 1)) (l1.length : Int))).f0) a4).bind fun t264 => (spec_l9Light.j0 k l0 l1 a2 a3 a4 t262 t264))) else (spec_l9Light.j0 k l0 l1 a2 a3 a4 t262 false))) else (none)) else (none)) else (none)) else (none))
theorem spec_l9Light.mono_l : ∀ k, (∀ y0 y1 y2 y3 y4 y5 y6, LeO (spec_l9Light.j0 k y0 y1 y2 y3 y4 y5 y6) (spec_l9Light.j0 (k + 1) y0 y1 y2 y3 y4 y5 y6))
 | 0 => fun _ _ _ _ _ _ _ r h => by simp [spec_l9Light.j0] at h
 | k + 1 => by
  have ih0 := spec_l9Light.mono_l k
  ·
   intro y0 y1 y2 y3 y4 y5 y6
   unfold spec_l9Light.j0
   repeat' first | (with_reducible first | exact LeO.refl _ | exact LeO.none _ | refine LeO.ite ?_ ?_ | refine LeO.bind ?_ (fun _ => ?_) | exact ih0 _ _ _ _ _ _ _ | exact spec_FindPath.mono _ _ _ | exact spec_l6Has.mono _ _ _) | exact LeO.none _ | refine LeO.ite ?_ ?_ | refine LeO.bind ?_ (fun _ => ?_) | exact ih0 _ _ _ _ _ _ _ | exact spec_FindPath.mono _ _ _ | exact spec_l6Has.mono _ _ _
theorem spec_l9Light.mono : ∀ a0 a1 a2 a3 a4 k, LeO (spec_l9Light.f k a0 a1 a2 a3 a4) (spec_l9Light.f (k + 1) a0 a1 a2 a3 a4) := by
 intro a0 a1 a2 a3 a4 k
 have ih0 := spec_l9Light.mono_l k
 unfold spec_l9Light.f
 repeat' first | (with_reducible first | exact LeO.refl _ | exact LeO.none _ | refine LeO.ite ?_ ?_ | refine LeO.bind ?_ (fun _ => ?_) | exact ih0 _ _ _ _ _ _ _ | exact spec_FindPath.mono _ _ _ | exact spec_l6Has.mono _ _ _) | exact LeO.none _ | refine LeO.ite ?_ ?_ | refine LeO.bind ?_ (fun _ => ?_) | exact ih0 _ _ _ _ _ _ _ | exact spec_FindPath.mono _ _ _ | exact spec_l6Has.mono _ _ _
def spec_l9Light.T5 : Bool × List (List Nat × List Nat) := (true, [([], []), ([0], [0]), ([1], [1]), ([1], [1]), ([1], [1]), ([3, 4, 1], [1, 3, 4]), ([5, 1], [1, 5]), ([6, 1], [1, 6]), ([1], [1]), ([1], [1]), ([1], [1]), ([9, 10, 1, 1], [1, 9, 10]), ([8, 11, 1], [1, 8, 11]), ([12, 1], [1, 12]), ([13, 11, 1], [1, 13]), ([7, 14, 1], [1, 7, 14]), ([2, 15, 1], [1, 2, 15]), ([1, 16], [1, 16]), ([17, 14], [17])])
def spec_l9Light.B5 : List Nat := [0, 1, 3, 3, 3, 27, 59, 123, 3, 3, 3, 1539, 3843, 7939, 16131, 32763, 65535, 131071, 262143]
theorem spec_l9Light.tab5 : rtab .any (opsOf Try.f69 5) = spec_l9Light.T5 := by kernel_rfl
theorem spec_l9Light.bits5 : waitsOk spec_l9Light.T5.2 spec_l9Light.B5 = true := by kernel_rfl
set_option maxHeartbeats 8000000 in
set_option maxRecDepth 100000 in
theorem spec_l9Light.calls (k : Nat) (A0 : Option Addr) (c0 : Nat) (l0 : List (S58)) (A1 : Option Addr) (c1 : Nat) (l1 : List (S51)) (a2 : Int) (a3 : Int) (a4 : Int) (r : Int) (w : World) (hr0 : Kd.C k58 w A0 l0.length l0) (hc0 : l0.length ≤ c0) (hr1 : Kd.C k51 w A1 l1.length l1) (hc1 : l1.length ≤ c1) (h : spec_l9Light.f k l0 l1 a2 a3 a4 = some r) :
  Calls Try.prog 69 #[.slice A0 l0.length c0, .slice A1 l1.length c1, .int .i64 a2, .int .i64 a3, .int .i64 a4] w fun e w' => e = .returned (.int .i64 r) ∧ Below w.heap.size w w' := by
 have hu58 := Try.underlying58
 have HR0 := Aside0.mk hr0
 have HC0 := Aside0.mk hc0
 clear hr0 hc0
 have HR1 := Aside0.mk hr1
 have HC1 := Aside0.mk hc1
 clear hr1 hc1
 have HB := Aside0.mk (Below.refl w.heap.size w)
 have H : (if (l1.length : Int) = 0 then (none) else (if 0 ≤ (Int.tmod (wrap64 (a2 + 1)) (l1.length : Int)) then (if (Int.tmod (wrap64 (a2 + 1)) (l1.length : Int)) < (l1.length : Int) then (if 0 ≤ a2 then (if a2 < (l1.length : Int) then ((spec_l6Has.f k ((rd_T51 l1 a2).f0) a4).bind fun t262 => (if t262 = true then (if a3 < ((rd_T51 l1 a2).f1) then (spec_l9Light.j0 k l0 l1 a2 a3 a4 t262 true) else ((spec_l6Has.f k ((rd_T51 l1 (Int.tmod (wrap64 (a2 + 1)) (l1.length : Int))).f0) a4).bind fun t264 => (spec_l9Light.j0 k l0 l1 a2 a3 a4 t262 t264))) else (spec_l9Light.j0 k l0 l1 a2 a3 a4 t262 false))) else (none)) else (none)) else (none)) else (none))) = some r := h
 clear h
 have c6 : ¬ ((l1.length : Int) = 0) := ifN' H
 replace H := ifT' H
 have c6b0 : ((l1.length : Int) == 0) = false := beq_eq_false_iff_ne.mpr c6
 have c6b1 : ((l1.length : Int) != 0) = true := bne_iff_ne.mpr c6
 have c6b2 : ¬ (l1 = []) := fun h_ => c6 (by rw [h_]; rfl)
 obtain ⟨ji7, hji7⟩ : ∃ j_ : Int, (Int.tmod (wrap64 (a2 + 1)) (l1.length : Int)) = j_ := ⟨_, rfl⟩
 replace H : (if 0 ≤ (ji7) then (if (ji7) < (l1.length : Int) then (if 0 ≤ a2 then (if a2 < (l1.length : Int) then ((spec_l6Has.f k ((rd_T51 l1 a2).f0) a4).bind fun t262 => (if t262 = true then (if a3 < ((rd_T51 l1 a2).f1) then (spec_l9Light.j0 k l0 l1 a2 a3 a4 t262 true) else ((spec_l6Has.f k ((rd_T51 l1 (ji7)).f0) a4).bind fun t264 => (spec_l9Light.j0 k l0 l1 a2 a3 a4 t262 t264))) else (spec_l9Light.j0 k l0 l1 a2 a3 a4 t262 false))) else (none)) else (none)) else (none)) else (none)) = some r := by first | (rw [hji7] at H; exact H) | (simp only [hji7] at H ⊢; exact H)
 have c8 : 0 ≤ (ji7) := ifN H
 replace H := ifT H
 have c8b0 : decide (0 ≤ (ji7)) = true := decide_eq_true c8
 clear c8
 have c9 : (ji7) < (l1.length : Int) := ifN H
 replace H := ifT H
 have c9b0 : decide ((ji7) < (l1.length : Int)) = true := decide_eq_true c9
 clear c9
 have c10 : 0 ≤ a2 := ifN H
 replace H := ifT H
 have c10b0 : decide (0 ≤ a2) = true := decide_eq_true c10
 clear c10
 have c11 : a2 < (l1.length : Int) := ifN H
 replace H := ifT H
 have c11b0 : decide (a2 < (l1.length : Int)) = true := decide_eq_true c11
 clear c11
 obtain ⟨t262, A12, H⟩ := bindE H
 try dsimp only at H
 have HC13 := Aside0.mk H
 clear H
 have p260 : 0 ≤ ((ji7) : Int) := dA
 have q260 : (ji7) < (l1.length : Int) := dA
 obtain ⟨ad260, A260_0, c260_0, e260, hx260_0, hx260_1, hl260_0, hi260_0⟩ := at_T51 HR1.out (ji7) p260 q260
 cases e260
 have HR260_0 := Aside0.mk hi260_0
 have HC260_0 := Aside0.mk hl260_0
 clear hi260_0 hl260_0
 replace p260 := eq_true p260
 replace q260 := eq_true q260
 have p261 : 0 ≤ (a2 : Int) := dA
 have q261 : a2 < (l1.length : Int) := dA
 obtain ⟨ad261, A261_0, c261_0, e261, hx261_0, hx261_1, hl261_0, hi261_0⟩ := at_T51 HR1.out a2 p261 q261
 obtain rfl : ad260 = ad261 := (by injection e261)
 have HR261_0 := Aside0.mk hi261_0
 have HC261_0 := Aside0.mk hl261_0
 clear hi261_0 hl261_0
 replace p261 := eq_true p261
 replace q261 := eq_true q261
 go_enter Try.func69, Try.ntmps69
 go_upto_region 3 with (first | ((with_reducible refine gate_callee (f := 78) rfl ?_); refine gL (some 28) Try.func78 #[.slice A261_0 ((rd_T51 l1 a2).f0).length c261_0, .int .i64 a4] ?_; (with_reducible refine (spec_l6Has.calls k _ _ ((rd_T51 l1 a2).f0) a4 t262 _ ?side1 ?side2 A12.out).mono ?_); (case side1 => exact cO HR261_0); (case side2 => exact HC261_0.out); rintro e w' ⟨rfl, ⟨nd, rfl⟩⟩; refine ⟨_, rfl, ?_⟩))
 (try simp only [Act.put, List.setIfInBounds_toArray, List.set_cons_zero, List.set_cons_succ])
 go_cut [29] (fun v29 wc => ∃ (kq : Nat) (x29_12 : Bool), v29 = .bool x29_12 ∧ Aside0 (spec_l9Light.j0 kq l0 l1 a2 a3 a4 t262 x29_12 = some r) ∧ Aside0 (kq ≤ k) ∧ Aside0 (Below w.heap.size w wc))
 case first =>
  have H := HC13.out
  clear HC13
  by_cases c14 : t262 = true
  ·
   subst c14
   have H1 : (if a3 < ((rd_T51 l1 a2).f1) then (spec_l9Light.j0 k l0 l1 a2 a3 a4 true true) else ((spec_l6Has.f k ((rd_T51 l1 (ji7)).f0) a4).bind fun t264 => (spec_l9Light.j0 k l0 l1 a2 a3 a4 true t264))) = some r := by rw [if_pos rfl] at H; exact H
   clear H
   have H := H1
   clear H1
   by_cases c15 : a3 < ((rd_T51 l1 a2).f1)
   ·
    rw [if_pos c15] at H
    have c15b0 : decide (a3 < ((rd_T51 l1 a2).f1)) = true := decide_eq_true c15
    clear c15
    (first | rw [c15b0] | (simp only [i64_w, i32_w]; rw [c15b0]) | skip)
    have H' := Aside0.mk H
    clear H
    have p263 : 0 ≤ (a2 : Int) := dA
    have q263 : a2 < (l1.length : Int) := dA
    obtain ⟨ad263, A263_0, c263_0, e263, hx263_0, hx263_1, hl263_0, hi263_0⟩ := at_T51 HR1.out a2 p263 q263
    obtain rfl : ad260 = ad263 := (by injection e263)
    replace hx263_0 := hC HB hx263_0
    replace hx263_1 := hC HB hx263_1
    have HR263_0 := Aside0.mk hi263_0
    have HC263_0 := Aside0.mk hl263_0
    clear hi263_0 hl263_0
    replace p263 := eq_true p263
    replace q263 := eq_true q263
    go_wp2
    go_meet
    case rel => exact ⟨_, (true), rS, H', ⟨by first | omega | exact Nat.le_refl _⟩, ⟨bA⟩⟩
   ·
    rw [if_neg c15] at H
    have c15b0 : decide (a3 < ((rd_T51 l1 a2).f1)) = false := decide_eq_false c15
    clear c15
    (first | rw [c15b0] | (simp only [i64_w, i32_w]; rw [c15b0]) | skip)
    obtain ⟨t264, A16, H⟩ := bindE H
    try dsimp only at H
    have H' := Aside0.mk H
    clear H
    have p263 : 0 ≤ (a2 : Int) := dA
    have q263 : a2 < (l1.length : Int) := dA
    obtain ⟨ad263, A263_0, c263_0, e263, hx263_0, hx263_1, hl263_0, hi263_0⟩ := at_T51 HR1.out a2 p263 q263
    obtain rfl : ad260 = ad263 := (by injection e263)
    replace hx263_0 := hC HB hx263_0
    replace hx263_1 := hC HB hx263_1
    have HR263_0 := Aside0.mk hi263_0
    have HC263_0 := Aside0.mk hl263_0
    clear hi263_0 hl263_0
    replace p263 := eq_true p263
    replace q263 := eq_true q263
    go_wp2_with (first | (go_at_call 78; (with_reducible refine (spec_l6Has.calls k _ _ ((rd_T51 l1 (ji7)).f0) a4 t264 _ ?side1 ?side2 A16.out).mono ?_); (case side1 => exact cB HR260_0); (case side2 => exact HC260_0.out); rintro e w' ⟨rfl, ⟨nd, rfl⟩⟩))
    go_meet
    case rel => exact ⟨_, (t264), rS, H', ⟨by first | omega | exact Nat.le_refl _⟩, ⟨bA⟩⟩
  ·
   replace c14 := Bool.eq_false_iff.mpr c14
   subst c14
   have H1 : (spec_l9Light.j0 k l0 l1 a2 a3 a4 false false) = some r := by rw [if_neg (show ¬ (false = true) by decide)] at H; exact H
   clear H
   have H := H1
   clear H1
   have H' := Aside0.mk H
   clear H
   go_wp2
   go_meet
   case rel => exact ⟨_, (false), rS, H', ⟨by first | omega | exact Nat.le_refl _⟩, ⟨bA⟩⟩
 case rest =>
  clear HC13
  try clear c1
  try clear c2
  try clear p2
  try clear q2
  try clear hx2
  try clear c6
  try clear c6b0
  try clear c6b1
  try clear c6b2
  try clear p6
  try clear c7
  try clear c8
  try clear c8b0
  try clear c9
  try clear c9b0
  try clear c10
  try clear c10b0
  try clear c11
  try clear c11b0
  try clear c14
  try clear c15
  try clear c15b0
  try clear hx260_0
  try clear hx260_1
  try clear hx261_0
  try clear hx261_1
  try clear hx263_0
  try clear hx263_1
  try clear p260
  try clear p261
  try clear p263
  try clear q260
  try clear q261
  try clear q263
  obtain ⟨kq, x29_12, rfl, HA, HJ12, HB⟩ := hcut
  cases kq with
  | zero => exact absurd HA.out (by simp [spec_l9Light.j0])
  | succ kj12 =>
   have H := HA.out
   clear HA
   simp only [spec_l9Light.j0] at H
   by_cases c17 : x29_12 = true
   ·
    subst c17
    have H1 : (some 1) = some r := by rw [if_pos rfl] at H; exact H
    clear H
    have H := H1
    clear H1
    obtain rfl := Option.some.inj H
    go_wp2
    go_ret
    exact ⟨by first | rfl | (simp [errW_none, errW_some] <;> rfl) | (simp only [← hji7]; first | rfl | (simp [errW_none, errW_some] <;> rfl)) | (simp [*, errW_none, errW_some] <;> rfl), bA⟩
   ·
    replace c17 := Bool.eq_false_iff.mpr c17
    subst c17
    have H1 : (if t262 = true then (if 0 ≤ a2 then (if a2 < (l1.length : Int) then ((spec_FindPath.f kj12 l0 a4).bind fun t266 => (if 0 ≤ t266 then (if t266 < (l0.length : Int) then ((spec_ClearOf.f ((rd_T58 l0 t266).f0) ((rd_T58 l0 t266).f1) ((rd_T58 l0 t266).f2) ((rd_T58 l0 t266).f3)).bind fun t268 => (if a3 < (wrap64 (((rd_T51 l1 a2).f1) + t268)) then (some 2) else (some 0))) else (none)) else (none))) else (none)) else (none)) else (some 0)) = some r := by rw [if_neg (show ¬ (false = true) by decide)] at H; exact H
    clear H
    have H := H1
    clear H1
    by_cases c18 : t262 = true
    ·
     subst c18
     have H1 : (if 0 ≤ a2 then (if a2 < (l1.length : Int) then ((spec_FindPath.f kj12 l0 a4).bind fun t266 => (if 0 ≤ t266 then (if t266 < (l0.length : Int) then ((spec_ClearOf.f ((rd_T58 l0 t266).f0) ((rd_T58 l0 t266).f1) ((rd_T58 l0 t266).f2) ((rd_T58 l0 t266).f3)).bind fun t268 => (if a3 < (wrap64 (((rd_T51 l1 a2).f1) + t268)) then (some 2) else (some 0))) else (none)) else (none))) else (none)) else (none)) = some r := by rw [if_pos rfl] at H; exact H
     clear H
     have H := H1
     clear H1
     have c19 : 0 ≤ a2 := ifN H
     replace H := ifT H
     have c19b0 : decide (0 ≤ a2) = true := decide_eq_true c19
     clear c19
     have c20 : a2 < (l1.length : Int) := ifN H
     replace H := ifT H
     have c20b0 : decide (a2 < (l1.length : Int)) = true := decide_eq_true c20
     clear c20
     obtain ⟨t266, A21, H⟩ := bindE H
     try dsimp only at H
     have c22 : 0 ≤ t266 := ifN H
     replace H := ifT H
     have c22b0 : decide (0 ≤ t266) = true := decide_eq_true c22
     clear c22
     have c23 : t266 < (l0.length : Int) := ifN H
     replace H := ifT H
     have c23b0 : decide (t266 < (l0.length : Int)) = true := decide_eq_true c23
     clear c23
     obtain ⟨t268, A24, H⟩ := bindE H
     try dsimp only at H
     by_cases c25 : a3 < (wrap64 (((rd_T51 l1 a2).f1) + t268))
     ·
      rw [if_pos c25] at H
      have c25b0 : decide (a3 < (wrap64 (((rd_T51 l1 a2).f1) + t268))) = true := decide_eq_true c25
      clear c25
      obtain rfl := Option.some.inj H
      try go_wp2
      have HBo := HB
      replace HB := Aside0.mk (below_drew1 HB.out)
      have p265 : 0 ≤ (a2 : Int) := dA
      have q265 : a2 < (l1.length : Int) := dA
      obtain ⟨ad265, A265_0, c265_0, e265, hx265_0, hx265_1, hl265_0, hi265_0⟩ := at_T51 HR1.out a2 p265 q265
      have hw265_1 := hx265_1
      have hw265_0 := hx265_0
      obtain rfl : ad260 = ad265 := (by injection e265)
      replace hx265_0 := hC HB hx265_0
      replace hx265_1 := hC HB hx265_1
      have HR265_0 := Aside0.mk hi265_0
      have HC265_0 := Aside0.mk hl265_0
      clear hi265_0 hl265_0
      replace p265 := eq_true p265
      replace q265 := eq_true q265
      have p267 : 0 ≤ (t266 : Int) := dA
      have q267 : t266 < (l0.length : Int) := dA
      obtain ⟨ad267, e267, hx267_0, hx267_1, hx267_2, hx267_3⟩ := at_T58 HR0.out t266 p267 q267
      have hw267_3 := hx267_3
      have hw267_2 := hx267_2
      have hw267_1 := hx267_1
      have hw267_0 := hx267_0
      cases e267
      replace hx267_0 := hC HB hx267_0
      replace hx267_1 := hC HB hx267_1
      replace hx267_2 := hC HB hx267_2
      replace hx267_3 := hC HB hx267_3
      replace p267 := eq_true p267
      replace q267 := eq_true q267
      refine start_ (n := 19) (S := fun w' => w'.cell? (ad260.add ((a2).toNat * 2)) = some (.slice A265_0 ((rd_T51 l1 a2).f0).length c265_0) ∧ w'.cell? ⟨(ad260.add ((a2).toNat * 2)).block, (ad260.add ((a2).toNat * 2)).off + 1, none⟩ = some (.int .i64 ((rd_T51 l1 a2).f1)) ∧ w'.cell? (ad267.add ((t266).toNat * 4)) = some (.int .i64 ((rd_T58 l0 t266).f0)) ∧ w'.cell? ⟨(ad267.add ((t266).toNat * 4)).block, (ad267.add ((t266).toNat * 4)).off + 1, none⟩ = some (.int .i64 ((rd_T58 l0 t266).f1)) ∧ w'.cell? ⟨(ad267.add ((t266).toNat * 4)).block, (ad267.add ((t266).toNat * 4)).off + 2, none⟩ = some (.int .i64 ((rd_T58 l0 t266).f2)) ∧ w'.cell? ⟨(ad267.add ((t266).toNat * 4)).block, (ad267.add ((t266).toNat * 4)).off + 3, none⟩ = some (.int .i64 ((rd_T58 l0 t266).f3))) (ds := []) (mb 19 0) (by kernel_rfl) rfl rfl ⟨(hC HB hw265_0), (hC HB hw265_1), (hC HB hw267_0), (hC HB hw267_1), (hC HB hw267_2), (hC HB hw267_3)⟩ (fun hHeld => ?_); refine with_tabW spec_l9Light.tab5 spec_l9Light.bits5 (fun HT_ HW_ => ?_)
      generalize wc.drew = w26 at HB HR265_0 hx265_0 hx265_1 hx267_0 hx267_1 hx267_2 hx267_3 hHeld ⊢
      refine pA (i := 0) (N := some 46) (mb 19 1) HT_ ?_
      refine pA (i := 1) (N := some 47) (mb 19 3) HT_ ?_
      refine pA (i := 2) (N := some 48) (mb 19 7) HT_ ?_
      refine pA (i := 3) (N := some 49) (mb 19 15) HT_ ?_
      refine pA (i := 4) (N := some 50) (mb 19 31) HT_ ?_
      refine pA (i := 5) (N := some 51) (mb 19 63) HT_ ?_
      refine pA (i := 6) (N := some 52) (mb 19 127) HT_ ?_
      refine pA (i := 8) (N := some 54) (mb 19 383) HT_ ?_
      refine pA (i := 9) (N := some 55) (mb 19 895) HT_ ?_
      refine pA (i := 10) (N := some 56) (mb 19 1919) HT_ ?_
      refine tA6 (i := 7) (N := some 53) (mb 19 2047) HT_ HW_ hHeld ?_
      refine oA (i := 11) (N := some 57) (mb 19 4095) HT_ (fun K hK => ?_)
      refine gA Try.func68 #[.slice (some ad267) l0.length c0, .int .i64 a4] ?_
      with_reducible refine (spec_FindPath.calls kj12 _ _ l0 a4 t266 _ ?side1 ?side2 A21.out).mono ?_
      (case side1 => exact cB HR0)
      (case side2 => exact HC0.out)
      rintro e w' ⟨rfl, ⟨nd, rfl⟩⟩
      refine ⟨_, rfl, ?_⟩
      refine hK.out _ _ ⟨(hC HB hw265_0), (hC HB hw265_1), (hC HB hw267_0), (hC HB hw267_1), (hC HB hw267_2), (hC HB hw267_3)⟩ (fun hHeld => ?_)
      clear hK K
      refine nB ?_
      refine pA (i := 12) (N := some 58) (mb 19 8191) HT_ ?_
      refine tA6 (i := 13) (N := some 59) (mb 19 16383) HT_ HW_ hHeld ?_
      refine oA (i := 14) (N := some 60) (mb 19 32767) HT_ (fun K hK => ?_)
      refine gA Try.func86 #[.agg #[.int .i64 ((rd_T58 l0 t266).f0), .int .i64 ((rd_T58 l0 t266).f1), .int .i64 ((rd_T58 l0 t266).f2), .int .i64 ((rd_T58 l0 t266).f3)]] ?_
      with_reducible refine (spec_ClearOf.calls ((rd_T58 l0 t266).f0) ((rd_T58 l0 t266).f1) ((rd_T58 l0 t266).f2) ((rd_T58 l0 t266).f3) t268 _ A24.out).mono ?_
      rintro e w27 ⟨rfl, hb⟩
      refine ⟨_, rfl, ?_⟩
      replace HB := Aside0.mk (below_step bA hb)
      (try clear hb)
      (try clear hb2)
      (try clear hk)
      (try clear hi)
      refine hK.out _ _ ⟨(hC HB hw265_0), (hC HB hw265_1), (hC HB hw267_0), (hC HB hw267_1), (hC HB hw267_2), (hC HB hw267_3)⟩ (fun hHeld => ?_)
      clear hK K
      refine nB ?_
      refine pA (i := 15) (N := some 61) (mb 19 65535) HT_ ?_
      refine pA (i := 16) (N := some 62) (mb 19 131071) HT_ ?_
      refine pA (i := 17) (N := some 63) (mb 19 262143) HT_ ?_
      refine pA (i := 18) (N := some 45) (mb 19 524287) HT_ ?_
      refine eA HT_ ?_
      try go_wp2
      go_ret
      exact ⟨by first | rfl | (simp [errW_none, errW_some] <;> rfl) | (simp only [← hji7]; first | rfl | (simp [errW_none, errW_some] <;> rfl)) | (simp [*, errW_none, errW_some] <;> rfl), bA⟩
     ·
      rw [if_neg c25] at H
      have c25b0 : decide (a3 < (wrap64 (((rd_T51 l1 a2).f1) + t268))) = false := decide_eq_false c25
      clear c25
      obtain rfl := Option.some.inj H
      try go_wp2
      have HBo := HB
      replace HB := Aside0.mk (below_drew1 HB.out)
      have p265 : 0 ≤ (a2 : Int) := dA
      have q265 : a2 < (l1.length : Int) := dA
      obtain ⟨ad265, A265_0, c265_0, e265, hx265_0, hx265_1, hl265_0, hi265_0⟩ := at_T51 HR1.out a2 p265 q265
      have hw265_1 := hx265_1
      have hw265_0 := hx265_0
      obtain rfl : ad260 = ad265 := (by injection e265)
      replace hx265_0 := hC HB hx265_0
      replace hx265_1 := hC HB hx265_1
      have HR265_0 := Aside0.mk hi265_0
      have HC265_0 := Aside0.mk hl265_0
      clear hi265_0 hl265_0
      replace p265 := eq_true p265
      replace q265 := eq_true q265
      have p267 : 0 ≤ (t266 : Int) := dA
      have q267 : t266 < (l0.length : Int) := dA
      obtain ⟨ad267, e267, hx267_0, hx267_1, hx267_2, hx267_3⟩ := at_T58 HR0.out t266 p267 q267
      have hw267_3 := hx267_3
      have hw267_2 := hx267_2
      have hw267_1 := hx267_1
      have hw267_0 := hx267_0
      cases e267
      replace hx267_0 := hC HB hx267_0
      replace hx267_1 := hC HB hx267_1
      replace hx267_2 := hC HB hx267_2
      replace hx267_3 := hC HB hx267_3
      replace p267 := eq_true p267
      replace q267 := eq_true q267
      refine start_ (n := 19) (S := fun w' => w'.cell? (ad260.add ((a2).toNat * 2)) = some (.slice A265_0 ((rd_T51 l1 a2).f0).length c265_0) ∧ w'.cell? ⟨(ad260.add ((a2).toNat * 2)).block, (ad260.add ((a2).toNat * 2)).off + 1, none⟩ = some (.int .i64 ((rd_T51 l1 a2).f1)) ∧ w'.cell? (ad267.add ((t266).toNat * 4)) = some (.int .i64 ((rd_T58 l0 t266).f0)) ∧ w'.cell? ⟨(ad267.add ((t266).toNat * 4)).block, (ad267.add ((t266).toNat * 4)).off + 1, none⟩ = some (.int .i64 ((rd_T58 l0 t266).f1)) ∧ w'.cell? ⟨(ad267.add ((t266).toNat * 4)).block, (ad267.add ((t266).toNat * 4)).off + 2, none⟩ = some (.int .i64 ((rd_T58 l0 t266).f2)) ∧ w'.cell? ⟨(ad267.add ((t266).toNat * 4)).block, (ad267.add ((t266).toNat * 4)).off + 3, none⟩ = some (.int .i64 ((rd_T58 l0 t266).f3))) (ds := []) (mb 19 0) (by kernel_rfl) rfl rfl ⟨(hC HB hw265_0), (hC HB hw265_1), (hC HB hw267_0), (hC HB hw267_1), (hC HB hw267_2), (hC HB hw267_3)⟩ (fun hHeld => ?_); refine with_tabW spec_l9Light.tab5 spec_l9Light.bits5 (fun HT_ HW_ => ?_)
      generalize wc.drew = w28 at HB HR265_0 hx265_0 hx265_1 hx267_0 hx267_1 hx267_2 hx267_3 hHeld ⊢
      refine pA (i := 0) (N := some 46) (mb 19 1) HT_ ?_
      refine pA (i := 1) (N := some 47) (mb 19 3) HT_ ?_
      refine pA (i := 2) (N := some 48) (mb 19 7) HT_ ?_
      refine pA (i := 3) (N := some 49) (mb 19 15) HT_ ?_
      refine pA (i := 4) (N := some 50) (mb 19 31) HT_ ?_
      refine pA (i := 5) (N := some 51) (mb 19 63) HT_ ?_
      refine pA (i := 6) (N := some 52) (mb 19 127) HT_ ?_
      refine pA (i := 8) (N := some 54) (mb 19 383) HT_ ?_
      refine pA (i := 9) (N := some 55) (mb 19 895) HT_ ?_
      refine pA (i := 10) (N := some 56) (mb 19 1919) HT_ ?_
      refine tA6 (i := 7) (N := some 53) (mb 19 2047) HT_ HW_ hHeld ?_
      refine oA (i := 11) (N := some 57) (mb 19 4095) HT_ (fun K hK => ?_)
      refine gA Try.func68 #[.slice (some ad267) l0.length c0, .int .i64 a4] ?_
      with_reducible refine (spec_FindPath.calls kj12 _ _ l0 a4 t266 _ ?side1 ?side2 A21.out).mono ?_
      (case side1 => exact cB HR0)
      (case side2 => exact HC0.out)
      rintro e w' ⟨rfl, ⟨nd, rfl⟩⟩
      refine ⟨_, rfl, ?_⟩
      refine hK.out _ _ ⟨(hC HB hw265_0), (hC HB hw265_1), (hC HB hw267_0), (hC HB hw267_1), (hC HB hw267_2), (hC HB hw267_3)⟩ (fun hHeld => ?_)
      clear hK K
      refine nB ?_
      refine pA (i := 12) (N := some 58) (mb 19 8191) HT_ ?_
      refine tA6 (i := 13) (N := some 59) (mb 19 16383) HT_ HW_ hHeld ?_
      refine oA (i := 14) (N := some 60) (mb 19 32767) HT_ (fun K hK => ?_)
      refine gA Try.func86 #[.agg #[.int .i64 ((rd_T58 l0 t266).f0), .int .i64 ((rd_T58 l0 t266).f1), .int .i64 ((rd_T58 l0 t266).f2), .int .i64 ((rd_T58 l0 t266).f3)]] ?_
      with_reducible refine (spec_ClearOf.calls ((rd_T58 l0 t266).f0) ((rd_T58 l0 t266).f1) ((rd_T58 l0 t266).f2) ((rd_T58 l0 t266).f3) t268 _ A24.out).mono ?_
      rintro e w29 ⟨rfl, hb⟩
      refine ⟨_, rfl, ?_⟩
      replace HB := Aside0.mk (below_step bA hb)
      (try clear hb)
      (try clear hb2)
      (try clear hk)
      (try clear hi)
      refine hK.out _ _ ⟨(hC HB hw265_0), (hC HB hw265_1), (hC HB hw267_0), (hC HB hw267_1), (hC HB hw267_2), (hC HB hw267_3)⟩ (fun hHeld => ?_)
      clear hK K
      refine nB ?_
      refine pA (i := 15) (N := some 61) (mb 19 65535) HT_ ?_
      refine pA (i := 16) (N := some 62) (mb 19 131071) HT_ ?_
      refine pA (i := 17) (N := some 63) (mb 19 262143) HT_ ?_
      refine pA (i := 18) (N := some 45) (mb 19 524287) HT_ ?_
      refine eA HT_ ?_
      try go_wp2
      go_ret
      exact ⟨by first | rfl | (simp [errW_none, errW_some] <;> rfl) | (simp only [← hji7]; first | rfl | (simp [errW_none, errW_some] <;> rfl)) | (simp [*, errW_none, errW_some] <;> rfl), bA⟩
    ·
     replace c18 := Bool.eq_false_iff.mpr c18
     subst c18
     have H1 : (some 0) = some r := by rw [if_neg (show ¬ (false = true) by decide)] at H; exact H
     clear H
     have H := H1
     clear H1
     obtain rfl := Option.some.inj H
     try go_wp2
     have HBo := HB
     replace HB := Aside0.mk (below_drew1 HB.out)
     refine start_ (n := 19) (S := fun w' => True) (ds := []) (mb 19 0) (by kernel_rfl) rfl rfl trivial (fun hHeld => ?_); refine with_tabW spec_l9Light.tab5 spec_l9Light.bits5 (fun HT_ HW_ => ?_)
     generalize wc.drew = w30 at HB hHeld ⊢
     refine pA (i := 0) (N := some 46) (mb 19 1) HT_ ?_
     refine pA (i := 1) (N := some 47) (mb 19 3) HT_ ?_
     refine pU (i := 2) (N := some 48) (mb 19 7) HT_ ?_
     refine pU (i := 3) (N := some 49) (mb 19 15) HT_ ?_
     refine pU (i := 4) (N := some 50) (mb 19 31) HT_ ?_
     refine pU (i := 5) (N := some 51) (mb 19 63) HT_ ?_
     refine pU (i := 6) (N := some 52) (mb 19 127) HT_ ?_
     refine pU (i := 7) (N := some 53) (mb 19 255) HT_ ?_
     refine pU (i := 8) (N := some 54) (mb 19 511) HT_ ?_
     refine pU (i := 9) (N := some 55) (mb 19 1023) HT_ ?_
     refine pU (i := 10) (N := some 56) (mb 19 2047) HT_ ?_
     refine pU (i := 11) (N := some 57) (mb 19 4095) HT_ ?_
     refine pU (i := 12) (N := some 58) (mb 19 8191) HT_ ?_
     refine pU (i := 13) (N := some 59) (mb 19 16383) HT_ ?_
     refine pU (i := 14) (N := some 60) (mb 19 32767) HT_ ?_
     refine pU (i := 15) (N := some 61) (mb 19 65535) HT_ ?_
     refine pU (i := 16) (N := some 62) (mb 19 131071) HT_ ?_
     refine pA (i := 17) (N := some 63) (mb 19 262143) HT_ ?_
     refine pA (i := 18) (N := some 45) (mb 19 524287) HT_ ?_
     refine eA HT_ ?_
     try go_wp2
     go_ret
     exact ⟨by first | rfl | (simp [errW_none, errW_some] <;> rfl) | (simp only [← hji7]; first | rfl | (simp [errW_none, errW_some] <;> rfl)) | (simp [*, errW_none, errW_some] <;> rfl), bA⟩

/-! ### spec_LightAt: function 33 -/
def spec_LightAt.f (k : Nat) (l0 : List (S58)) (l1 : List (S51)) (a2 : Int) (a3 : Int) : Option (Int) := (spec_PartAt.f k l0 l1 a2).bind fun bt269 => (if bt269.1 < 0 then (some 0) else ((spec_FindPath.f k l0 a3).bind fun t271 => (if t271 < 0 then (some 0) else ((spec_l9Light.f k l0 l1 bt269.1 bt269.2 a3).bind fun t272 => (some t272)))))
theorem spec_LightAt.mono : ∀ a0 a1 a2 a3 k, LeO (spec_LightAt.f k a0 a1 a2 a3) (spec_LightAt.f (k + 1) a0 a1 a2 a3) := by
 intro a0 a1 a2 a3 k
 unfold spec_LightAt.f
 repeat' first | (with_reducible first | exact LeO.refl _ | exact LeO.none _ | refine LeO.ite ?_ ?_ | refine LeO.bind ?_ (fun _ => ?_) | exact spec_FindPath.mono _ _ _ | exact spec_PartAt.mono _ _ _ _ | exact spec_l9Light.mono _ _ _ _ _ _) | exact LeO.none _ | refine LeO.ite ?_ ?_ | refine LeO.bind ?_ (fun _ => ?_) | exact spec_FindPath.mono _ _ _ | exact spec_PartAt.mono _ _ _ _ | exact spec_l9Light.mono _ _ _ _ _ _
set_option maxHeartbeats 8000000 in
set_option maxRecDepth 100000 in
theorem spec_LightAt.calls (k : Nat) (A0 : Option Addr) (c0 : Nat) (l0 : List (S58)) (A1 : Option Addr) (c1 : Nat) (l1 : List (S51)) (a2 : Int) (a3 : Int) (r : Int) (w : World) (hr0 : Kd.C k58 w A0 l0.length l0) (hc0 : l0.length ≤ c0) (hr1 : Kd.C k51 w A1 l1.length l1) (hc1 : l1.length ≤ c1) (h : spec_LightAt.f k l0 l1 a2 a3 = some r) :
  Calls Try.prog 33 #[.slice A0 l0.length c0, .slice A1 l1.length c1, .int .i64 a2, .int .i64 a3] w fun e w' => e = .returned (.int .i64 r) ∧ Below w.heap.size w w' := by
 have HR0 := Aside0.mk hr0
 have HC0 := Aside0.mk hc0
 clear hr0 hc0
 have HR1 := Aside0.mk hr1
 have HC1 := Aside0.mk hc1
 clear hr1 hc1
 have HB := Aside0.mk (Below.refl w.heap.size w)
 have H : ((spec_PartAt.f k l0 l1 a2).bind fun bt269 => (if bt269.1 < 0 then (some 0) else ((spec_FindPath.f k l0 a3).bind fun t271 => (if t271 < 0 then (some 0) else ((spec_l9Light.f k l0 l1 bt269.1 bt269.2 a3).bind fun t272 => (some t272)))))) = some r := h
 clear h
 obtain ⟨⟨t269, t270⟩, A5, H⟩ := bindE H
 try dsimp only at H
 by_cases c6 : t269 < 0
 ·
  rw [if_pos c6] at H
  have c6b0 : decide (t269 < 0) = true := decide_eq_true c6
  clear c6
  obtain rfl := Option.some.inj H
  go_enter Try.func33, Try.ntmps33
  go_wp2_with (first | ((with_reducible refine gate_callee (f := 31) rfl ?_); refine gL (some 15) Try.func31 #[.slice A0 l0.length c0, .slice A1 l1.length c1, .int .i64 a2] ?_; (with_reducible refine (spec_PartAt.calls k _ _ l0 _ _ l1 a2 t269 t270 _ ?side1 ?side2 ?side3 ?side4 A5.out).mono ?_); (case side1 => exact cO HR0); (case side2 => exact HC0.out); (case side3 => exact cO HR1); (case side4 => exact HC1.out); rintro e w7 ⟨rfl, hb⟩; refine ⟨_, rfl, ?_⟩; replace HB := Aside0.mk (below_step bA hb); (try clear hb); (try clear hb2); (try clear hk); (try clear hi)))
  go_ret
  exact ⟨rA, bA⟩
 ·
  rw [if_neg c6] at H
  have c6b0 : decide (t269 < 0) = false := decide_eq_false c6
  clear c6
  obtain ⟨t271, A8, H⟩ := bindE H
  try dsimp only at H
  by_cases c9 : t271 < 0
  ·
   rw [if_pos c9] at H
   have c9b0 : decide (t271 < 0) = true := decide_eq_true c9
   clear c9
   obtain rfl := Option.some.inj H
   go_enter Try.func33, Try.ntmps33
   go_wp2_with (first | ((with_reducible refine gate_callee (f := 31) rfl ?_); refine gL (some 15) Try.func31 #[.slice A0 l0.length c0, .slice A1 l1.length c1, .int .i64 a2] ?_; (with_reducible refine (spec_PartAt.calls k _ _ l0 _ _ l1 a2 t269 t270 _ ?side1 ?side2 ?side3 ?side4 A5.out).mono ?_); (case side1 => exact cO HR0); (case side2 => exact HC0.out); (case side3 => exact cO HR1); (case side4 => exact HC1.out); rintro e w10 ⟨rfl, hb⟩; refine ⟨_, rfl, ?_⟩; replace HB := Aside0.mk (below_step bA hb); (try clear hb); (try clear hb2); (try clear hk); (try clear hi)) | (go_at_call 68; (with_reducible refine (spec_FindPath.calls k _ _ l0 a3 t271 _ ?side1 ?side2 A8.out).mono ?_); (case side1 => exact cB HR0); (case side2 => exact HC0.out); rintro e w' ⟨rfl, ⟨nd, rfl⟩⟩))
   go_ret
   exact ⟨rA, bA⟩
  ·
   rw [if_neg c9] at H
   have c9b0 : decide (t271 < 0) = false := decide_eq_false c9
   clear c9
   obtain ⟨t272, A11, H⟩ := bindE H
   try dsimp only at H
   obtain rfl := Option.some.inj H
   go_enter Try.func33, Try.ntmps33
   go_wp2_with (first | ((with_reducible refine gate_callee (f := 31) rfl ?_); refine gL (some 15) Try.func31 #[.slice A0 l0.length c0, .slice A1 l1.length c1, .int .i64 a2] ?_; (with_reducible refine (spec_PartAt.calls k _ _ l0 _ _ l1 a2 t269 t270 _ ?side1 ?side2 ?side3 ?side4 A5.out).mono ?_); (case side1 => exact cO HR0); (case side2 => exact HC0.out); (case side3 => exact cO HR1); (case side4 => exact HC1.out); rintro e w12 ⟨rfl, hb⟩; refine ⟨_, rfl, ?_⟩; replace HB := Aside0.mk (below_step bA hb); (try clear hb); (try clear hb2); (try clear hk); (try clear hi)) | (go_at_call 68; (with_reducible refine (spec_FindPath.calls k _ _ l0 a3 t271 _ ?side1 ?side2 A8.out).mono ?_); (case side1 => exact cB HR0); (case side2 => exact HC0.out); rintro e w' ⟨rfl, ⟨nd, rfl⟩⟩) | ((with_reducible refine gate_callee (f := 69) rfl ?_); refine gL (some 31) Try.func69 #[.slice A0 l0.length c0, .slice A1 l1.length c1, .int .i64 t269, .int .i64 t270, .int .i64 a3] ?_; (with_reducible refine (spec_l9Light.calls k _ _ l0 _ _ l1 t269 t270 a3 t272 _ ?side1 ?side2 ?side3 ?side4 A11.out).mono ?_); (case side1 => exact cG HR0); (case side2 => exact HC0.out); (case side3 => exact cG HR1); (case side4 => exact HC1.out); rintro e w13 ⟨rfl, hb⟩; refine ⟨_, rfl, ?_⟩; replace HB := Aside0.mk (below_step bA hb); (try clear hb); (try clear hb2); (try clear hk); (try clear hi)))
   go_ret
   exact ⟨rA, bA⟩

/-! ### spec_LightsAt: function 35 -/
def spec_LightsAt.l0 : Nat → List (S58) → List (S51) → Int → List Int → Int → Option (List Int)
 | 0, _, _, _, _, _ => none
 | k + 1, x0, x1, x2, x7, x8 => if x8 < (x0.length : Int) then (if 0 ≤ x8 then ((spec_LightAt.f k x0 x1 x2 ((rd_T58 x0 x8).f0)).bind fun t277 => (if x7.length < 17592186044416 then (spec_LightsAt.l0 k x0 x1 x2 (x7 ++ [t277]) (wrap64 (x8 + 1))) else (none))) else (none)) else (some x7)
def spec_LightsAt.f (k : Nat) (l0 : List (S58)) (l1 : List (S51)) (a2 : Int) : Option (List Int) := spec_LightsAt.l0 k l0 l1 a2 (([] : List Int)) 0
theorem spec_LightsAt.mono_l : ∀ k, (∀ y0 y1 y2 y3 y4, LeO (spec_LightsAt.l0 k y0 y1 y2 y3 y4) (spec_LightsAt.l0 (k + 1) y0 y1 y2 y3 y4))
 | 0 => fun _ _ _ _ _ r h => by simp [spec_LightsAt.l0] at h
 | k + 1 => by
  have ih0 := spec_LightsAt.mono_l k
  ·
   intro y0 y1 y2 y3 y4
   unfold spec_LightsAt.l0
   repeat' first | (with_reducible first | exact LeO.refl _ | exact LeO.none _ | refine LeO.ite ?_ ?_ | refine LeO.bind ?_ (fun _ => ?_) | exact ih0 _ _ _ _ _ | exact spec_LightAt.mono _ _ _ _ _) | exact LeO.none _ | refine LeO.ite ?_ ?_ | refine LeO.bind ?_ (fun _ => ?_) | exact ih0 _ _ _ _ _ | exact spec_LightAt.mono _ _ _ _ _
theorem spec_LightsAt.mono : ∀ a0 a1 a2 k, LeO (spec_LightsAt.f k a0 a1 a2) (spec_LightsAt.f (k + 1) a0 a1 a2) := by
 intro a0 a1 a2 k
 have ih0 := spec_LightsAt.mono_l k
 unfold spec_LightsAt.f
 repeat' first | (with_reducible first | exact LeO.refl _ | exact LeO.none _ | refine LeO.ite ?_ ?_ | refine LeO.bind ?_ (fun _ => ?_) | exact ih0 _ _ _ _ _ | exact spec_LightAt.mono _ _ _ _ _) | exact LeO.none _ | refine LeO.ite ?_ ?_ | refine LeO.bind ?_ (fun _ => ?_) | exact ih0 _ _ _ _ _ | exact spec_LightAt.mono _ _ _ _ _
set_option maxHeartbeats 8000000 in
set_option maxRecDepth 100000 in
theorem spec_LightsAt.calls (k : Nat) (A0 : Option Addr) (c0 : Nat) (l0 : List (S58)) (A1 : Option Addr) (c1 : Nat) (l1 : List (S51)) (a2 : Int) (r : List Int) (w : World) (hr0 : Kd.C k58 w A0 l0.length l0) (hc0 : l0.length ≤ c0) (hr1 : Kd.C k51 w A1 l1.length l1) (hc1 : l1.length ≤ c1) (h : spec_LightsAt.f k l0 l1 a2 = some r) :
  Calls Try.prog 35 #[.slice A0 l0.length c0, .slice A1 l1.length c1, .int .i64 a2] w fun e w' => ∃ v0_ : Value, e = .returned (v0_) ∧ Kd.R (Kd.int .i64) 3 w' w.heap.size (fun _ => True) v0_ r ∧ Below w.heap.size w w' := by
 have HR0 := Aside0.mk hr0
 have HC0 := Aside0.mk hc0
 clear hr0 hc0
 have HR1 := Aside0.mk hr1
 have HC1 := Aside0.mk hc1
 clear hr1 hc1
 have HB := Aside0.mk (Below.refl w.heap.size w)
 have H : (spec_LightsAt.l0 k l0 l1 a2 (([] : List Int)) 0) = some r := h
 clear h
 obtain ⟨y273, hy273⟩ : ∃ y_ : List Int, y_ = (([] : List Int)) := ⟨_, rfl⟩
 replace H : (spec_LightsAt.l0 k l0 l1 a2 y273 0) = some r := by first | (rw [hy273]; with_reducible exact H) | (have H2_ := (Option.bind_some _ _).symm.trans H; rw [hy273]; with_reducible exact H2_) | (have H2_ := (Option.bind_some _ _).symm.trans H; with_reducible exact H2_) | with_reducible exact H | (rw [hy273]; exact H) | exact H
 have Ny273 := Aside0.mk hy273
 clear hy273
 have H' := Aside0.mk H
 clear H
 go_enter Try.func35, Try.ntmps35
 go_wp2_with (first | ((with_reducible refine gate_dst (N := 9) rfl ?_); refine Kd.R_lit (Kd.int .i64) _ 3 ?hg (N := 9) ?hd (xs := ([] : List Int)) (inner := []) (ok := fun _ => True) (okp := fun _ => True) ?hr ?hp (fun _ hk => hk) trivial (Below.refl _ _) (Nat.le_refl _) (by simp) ?_; (case hd => rfl); (case hg => rfl); (case hr => first | (go_simp; done) | (go_simp; rfl)); (case hp => exact (Reps.none _ _)); intro v274 w4 ho5 hb hg_ hnew_; clear hg_ hnew_; (first | rw [← Ny273.out] at ho5 | (simp only [Int.reduceToNat] at ho5; rw [← Ny273.out] at ho5)); have HO275 := Aside0.mk (Kd.R_lower ho5 (below_size bA)); replace HB := Aside0.mk (below_step bA hb); clear hb ho5))
 go_loopg [7, 8] k (fun kq v7 v8 w' => ∃ (x7_1 : List Int) (x8_1 : Int), v8 = .int .i64 x8_1 ∧ Aside0 (spec_LightsAt.l0 kq l0 l1 a2 x7_1 x8_1 = some r) ∧ Aside0 (kq ≤ k) ∧ Aside0 (Kd.R (Kd.int .i64) 3 w' w.heap.size (fun _ => True) v7 x7_1) ∧ Aside0 (Below w.heap.size w w'))
 case atStart => exact ⟨(y273), (0), rS, H', ⟨Nat.le_refl _⟩, ⟨rK HO275⟩, ⟨bA⟩⟩
 case round =>
  clear H'
  try clear c1
  try clear p2
  try clear c3
  obtain ⟨x7_1, x8_1, rfl, HA, HK1, HO_7, HB⟩ := hrel
  cases gk with
  | zero => exact absurd HA.out (by simp [spec_LightsAt.l0])
  | succ k1 =>
   have H := HA.out
   clear HA
   simp only [spec_LightsAt.l0] at H
   by_cases c6 : x8_1 < (l0.length : Int)
   ·
    rw [if_pos c6] at H
    have c6b0 : decide (x8_1 < (l0.length : Int)) = true := decide_eq_true c6
    clear c6
    have c7 : 0 ≤ x8_1 := ifN H
    replace H := ifT H
    have c7b0 : decide (0 ≤ x8_1) = true := decide_eq_true c7
    clear c7
    obtain ⟨t277, A8, H⟩ := bindE H
    try dsimp only at H
    have c9 : x7_1.length < 17592186044416 := ifN H
    replace H := ifT H
    have LMc9 := Aside0.mk c9
    clear c9
    obtain ⟨y278, hy278⟩ : ∃ y_ : List Int, y_ = (x7_1 ++ [t277]) := ⟨_, rfl⟩
    replace H : (spec_LightsAt.l0 k1 l0 l1 a2 y278 (wrap64 (x8_1 + 1))) = some r := by first | (rw [hy278]; with_reducible exact H) | (have H2_ := (Option.bind_some _ _).symm.trans H; rw [hy278]; with_reducible exact H2_) | (have H2_ := (Option.bind_some _ _).symm.trans H; with_reducible exact H2_) | with_reducible exact H | (rw [hy278]; exact H) | exact H
    have Ny278 := Aside0.mk hy278
    clear hy278
    have H' := Aside0.mk H
    clear H
    have p276 : 0 ≤ (x8_1 : Int) := dA
    have q276 : x8_1 < (l0.length : Int) := dA
    obtain ⟨ad276, e276, hx276_0, hx276_1, hx276_2, hx276_3⟩ := at_T58 HR0.out x8_1 p276 q276
    cases e276
    replace hx276_0 := hC HB hx276_0
    replace hx276_1 := hC HB hx276_1
    replace hx276_2 := hC HB hx276_2
    replace hx276_3 := hC HB hx276_3
    replace p276 := eq_true p276
    replace q276 := eq_true q276
    go_wp2_with (first | ((with_reducible refine gate_callee (f := 33) rfl ?_); refine gL (some 25) Try.func33 #[.slice (some ad276) l0.length c0, .slice A1 l1.length c1, .int .i64 a2, .int .i64 ((rd_T58 l0 x8_1).f0)] ?_; (with_reducible refine (spec_LightAt.calls k1 _ _ l0 _ _ l1 a2 ((rd_T58 l0 x8_1).f0) t277 _ ?side1 ?side2 ?side3 ?side4 A8.out).mono ?_); (case side1 => exact cB HR0); (case side2 => exact HC0.out); (case side3 => exact cB HR1); (case side4 => exact HC1.out); rintro e w10 ⟨rfl, hb⟩; refine ⟨_, rfl, ?_⟩; replace HO_7 := Aside0.mk (Kd.R_below (rK HO_7) hb); replace HB := Aside0.mk (below_step bA hb); (try clear hb); (try clear hb2); (try clear hk); (try clear hi)) | ((with_reducible refine gate_builtin (b := .append) (xs := #[.tmp 16, .tmp 26]) rfl ?_); at_builtin; refine Kd.R_append (Kd.int .i64) (w0 := w) w.heap.size rfl (.tmp 16) (.tmp 26) 41 3 (.int .i64 0) 8 rfl Try.underlying41 info3 rfl (by decide) (by omega) u7 x7_1 t277 [.int .i64 t277] (fun _ => True) (fun _ => False) rfl rfl ?aP (fun _ hk => hk.elim) ?aF ?aO ?aB ?aS ?aL ?_; (case aP => exact rfl); (case aB => exact bA); (case aF => exact (fun _ _ => trivial)); (case aO => exact (rK HO_7)); (case aS => exact (below_size bA)); (case aL => have := LMc9.out; omega); intro v279 w11 ho hb hg hat; rw [← Ny278.out] at ho; have n0_ := Aside0.mk (hb); have n1_ := Aside0.mk (ho); clear HB; clear HO_7; have HB := n0_; have HO280 := n1_; clear n0_ n1_; clear ho hb hg hat))
    go_roundg k1
    case measure => have := HK1.out; omega
    case rel => exact ⟨(y278), (wrap64 (x8_1 + 1)), rS, H', ⟨by have := HK1.out; omega⟩, ⟨rK HO280⟩, ⟨bA⟩⟩
   ·
    rw [if_neg c6] at H
    have c6b0 : decide (x8_1 < (l0.length : Int)) = false := decide_eq_false c6
    clear c6
    obtain rfl := Option.some.inj H
    go_wp2
    go_ret
    exact ⟨_, by first | rfl | (simp [errW_none, errW_some] <;> rfl) | (simp [*, errW_none, errW_some] <;> rfl), by (with_reducible repeat (first | apply Kd.R_alloc | apply Kd.R_drewN | apply Kd.R_drew)); exact HO_7.out, bA⟩

end Go.Proofs.Ytbpnbflfpgakmaa.P
