/- Printed by myprint.py (wip/tools) over the kit's print: what Go's functions compute, and that they do. Lean checks it. -/
import Derived.Test.YtdkmmefmhfbgkaaF0
import Derived.Test.YtdkmmefmhfbgkaaFX00
import Derived.Test.YtdkmmefmhfbgkaaFX00b
import Derived.Test.YtdkmmefmhfbgkaaFX00d
import Derived.Test.YtdkmmefmhfbgkaaFX02
namespace Go.Proofs.Ytdkmmefmhfbgkaa.P
open Go.RowKit Go.Proofs.YtdkmmefmhfbgkaaW.PrintWords Go.Proofs.YtdkmmefmhfbgkaaW.PrintLast Go.Proofs.YtdkmmefmhfbgkaaW.PrintMore Go.Proofs.Ytdkmmefmhfbgkaa.Sq
attribute [local go_sem] max2_int min2_int max_two min_two max_three min_three max_four min_four
set_option linter.unusedVariables false
set_option linter.unusedSimpArgs false

/-! ### spec_IsWithin: function 33 -/
def spec_IsWithin.l0 : Nat → List (S89) → List (S92) → List (S99) → Int → Int → Option (Bool)
 | 0, _, _, _, _, _ => none
 | k + 1, x0, x1, x2, x3, x9 => if x9 < (x2.length : Int) then (if 0 ≤ x9 then ((spec_NextGreen.f k x0 x1 ((rd_T99 x2 x9).f0) ((rd_T99 x2 x9).f1)).bind fun t595 => (if t595 < 0 then (some false) else (if (wrap64 (t595 - ((rd_T99 x2 x9).f1))) > x3 then (some false) else (spec_IsWithin.l0 k x0 x1 x2 x3 (wrap64 (x9 + 1)))))) else (none)) else (some true)
def spec_IsWithin.f (k : Nat) (l0 : List (S89)) (l1 : List (S92)) (l2 : List (S99)) (a3 : Int) : Option (Bool) := spec_IsWithin.l0 k l0 l1 l2 a3 0
theorem spec_IsWithin.mono_l : ∀ k, (∀ y0 y1 y2 y3 y4, LeO (spec_IsWithin.l0 k y0 y1 y2 y3 y4) (spec_IsWithin.l0 (k + 1) y0 y1 y2 y3 y4))
 | 0 => fun _ _ _ _ _ r h => by simp [spec_IsWithin.l0] at h
 | k + 1 => by
  have ih0 := spec_IsWithin.mono_l k
  ·
   intro y0 y1 y2 y3 y4
   unfold spec_IsWithin.l0
   repeat' first | (with_reducible first | exact LeO.refl _ | exact LeO.none _ | refine LeO.ite ?_ ?_ | refine LeO.bind ?_ (fun _ => ?_) | exact ih0 _ _ _ _ _ | exact spec_NextGreen.mono _ _ _ _ _)
theorem spec_IsWithin.mono : ∀ a0 a1 a2 a3 k, LeO (spec_IsWithin.f k a0 a1 a2 a3) (spec_IsWithin.f (k + 1) a0 a1 a2 a3) := by
 intro a0 a1 a2 a3 k
 have ih0 := spec_IsWithin.mono_l k
 unfold spec_IsWithin.f
 repeat' first | (with_reducible first | exact LeO.refl _ | exact LeO.none _ | refine LeO.ite ?_ ?_ | refine LeO.bind ?_ (fun _ => ?_) | exact ih0 _ _ _ _ _ | exact spec_NextGreen.mono _ _ _ _ _)
def spec_IsWithin.T4 : Bool × List (List Nat × List Nat) := (true, [([], []), ([], []), ([], []), ([], []), ([2, 3], [2, 3]), ([4], [4]), ([5], [5]), ([], []), ([], []), ([7, 8], [7, 8]), ([9], [9]), ([10], [10]), ([0, 1, 6, 11], [0, 1, 6, 11]), ([12, 12, 0, 1, 2, 3, 4, 5, 6, 7, 8, 9, 10, 11, 12], [12])])
def spec_IsWithin.B4 : List Nat := [0, 0, 0, 0, 12, 28, 60, 0, 0, 384, 896, 1920, 4095, 8191]
theorem spec_IsWithin.tab4 : rtab .any (opsOf Try.f33 4) = spec_IsWithin.T4 := by kernel_rfl
theorem spec_IsWithin.bits4 : waitsOk spec_IsWithin.T4.2 spec_IsWithin.B4 = true := by kernel_rfl
set_option maxHeartbeats 8000000 in
set_option maxRecDepth 100000 in
theorem spec_IsWithin.calls (k : Nat) (A0 : Option Addr) (c0 : Nat) (l0 : List (S89)) (A1 : Option Addr) (c1 : Nat) (l1 : List (S92)) (A2 : Option Addr) (c2 : Nat) (l2 : List (S99)) (a3 : Int) (r : Bool) (w : World) (hr0 : Kd.C k89 w A0 l0.length l0) (hc0 : l0.length ≤ c0) (hr1 : Kd.C k92 w A1 l1.length l1) (hc1 : l1.length ≤ c1) (hr2 : Kd.C k99 w A2 l2.length l2) (hc2 : l2.length ≤ c2) (h : spec_IsWithin.f k l0 l1 l2 a3 = some r) :
  Calls Try.prog 33 #[.slice A0 l0.length c0, .slice A1 l1.length c1, .slice A2 l2.length c2, .int .i64 a3] w fun e w' => e = .returned (.bool r) ∧ Below w.heap.size w w' := by
 have HR0 := Aside0.mk hr0
 have HC0 := Aside0.mk hc0
 clear hr0 hc0
 have HR1 := Aside0.mk hr1
 have HC1 := Aside0.mk hc1
 clear hr1 hc1
 have HR2 := Aside0.mk hr2
 have HC2 := Aside0.mk hc2
 clear hr2 hc2
 have HB := Aside0.mk (Below.refl w.heap.size w)
 have H : (spec_IsWithin.l0 k l0 l1 l2 a3 0) = some r := h
 clear h
 have H' := Aside0.mk H
 clear H
 go_enter Try.func33, Try.ntmps33
 go_wp2
 go_loopg [9] k (fun kq v9 w' => ∃ (x9_1 : Int), v9 = .int .i64 x9_1 ∧ Aside0 (spec_IsWithin.l0 kq l0 l1 l2 a3 x9_1 = some r) ∧ Aside0 (kq ≤ k) ∧ Aside0 (Below w.heap.size w w'))
 case atStart => exact ⟨(0), rS, H', ⟨Nat.le_refl _⟩, ⟨bA⟩⟩
 case round =>
  clear H'
  try clear c1
  try clear c2
  try clear p2
  try clear c3
  obtain ⟨x9_1, rfl, HA, HK1, HB⟩ := hrel
  cases gk with
  | zero => exact absurd HA.out (by simp [spec_IsWithin.l0])
  | succ k1 =>
   have H := HA.out
   clear HA
   simp only [spec_IsWithin.l0] at H
   by_cases c5 : x9_1 < (l2.length : Int)
   ·
    rw [if_pos c5] at H
    have c5b0 := decide_eq_true c5
    clear c5
    have c6 : 0 ≤ x9_1 := ifN H
    replace H := ifT H
    have c6b0 := decide_eq_true c6
    clear c6
    obtain ⟨t595, A7, H⟩ := bindE H
    try dsimp only at H
    by_cases c8 : t595 < 0
    ·
     rw [if_pos c8] at H
     have c8b0 := decide_eq_true c8
     clear c8
     obtain rfl := Option.some.inj H
     try go_wp2
     have HBo := HB
     replace HB := Aside0.mk (below_drew1 HB.out)
     have p593 : 0 ≤ (x9_1 : Int) := dA
     have q593 : x9_1 < (l2.length : Int) := dA
     obtain ⟨ad593, e593, hx593_0, hx593_1⟩ := at_T99 HR2.out x9_1 p593 q593
     have hw593_1 := hx593_1
     have hw593_0 := hx593_0
     cases e593
     replace hx593_0 := hC HB hx593_0
     replace hx593_1 := hC HB hx593_1
     replace p593 := eq_true p593
     replace q593 := eq_true q593
     have p594 : 0 ≤ (x9_1 : Int) := dA
     have q594 : x9_1 < (l2.length : Int) := dA
     obtain ⟨ad594, e594, hx594_0, hx594_1⟩ := at_T99 HR2.out x9_1 p594 q594
     have hw594_1 := hx594_1
     have hw594_0 := hx594_0
     obtain rfl : ad593 = ad594 := (by injection e594)
     replace hx594_0 := hC HB hx594_0
     replace hx594_1 := hC HB hx594_1
     replace p594 := eq_true p594
     replace q594 := eq_true q594
     refine start_ (n := 14) (S := fun w' => w'.cell? (ad593.add ((x9_1).toNat * 2)) = some (.int .i64 ((rd_T99 l2 x9_1).f0)) ∧ w'.cell? ⟨(ad593.add ((x9_1).toNat * 2)).block, (ad593.add ((x9_1).toNat * 2)).off + 1, none⟩ = some (.int .i64 ((rd_T99 l2 x9_1).f1)) ∧ w'.cell? (ad593.add ((x9_1).toNat * 2)) = some (.int .i64 ((rd_T99 l2 x9_1).f0)) ∧ w'.cell? ⟨(ad593.add ((x9_1).toNat * 2)).block, (ad593.add ((x9_1).toNat * 2)).off + 1, none⟩ = some (.int .i64 ((rd_T99 l2 x9_1).f1))) (ds := []) (mb 14 0) (by kernel_rfl) rfl rfl ⟨(hC HB hw593_0), (hC HB hw593_1), (hC HB hw594_0), (hC HB hw594_1)⟩ (fun hHeld => ?_); refine with_tabW spec_IsWithin.tab4 spec_IsWithin.bits4 (fun HT_ HW_ => ?_)
     generalize wr.drew = w9 at HB hx593_0 hx593_1 hx594_0 hx594_1 hHeld ⊢
     refine pA (i := 0) (N := some 17) (mb 14 1) HT_ ?_
     refine pA (i := 1) (N := some 18) (mb 14 3) HT_ ?_
     refine pA (i := 2) (N := some 19) (mb 14 7) HT_ ?_
     refine pA (i := 3) (N := some 20) (mb 14 15) HT_ ?_
     refine pA (i := 4) (N := some 21) (mb 14 31) HT_ ?_
     refine pA (i := 5) (N := some 22) (mb 14 63) HT_ ?_
     refine pA (i := 7) (N := some 24) (mb 14 191) HT_ ?_
     refine pA (i := 8) (N := some 25) (mb 14 447) HT_ ?_
     refine pA (i := 9) (N := some 26) (mb 14 959) HT_ ?_
     refine pA (i := 10) (N := some 27) (mb 14 1983) HT_ ?_
     refine tA4 (i := 6) (N := some 23) (mb 14 2047) HT_ HW_ hHeld ?_
     refine tA4 (i := 11) (N := some 28) (mb 14 4095) HT_ HW_ hHeld ?_
     refine oA (i := 12) (N := some 29) (mb 14 8191) HT_ (fun K hK => ?_)
     refine gA Try.func69 #[.slice A0 l0.length c0, .slice A1 l1.length c1, .int .i64 ((rd_T99 l2 x9_1).f0), .int .i64 ((rd_T99 l2 x9_1).f1)] ?_
     with_reducible refine (spec_NextGreen.calls k1 _ _ l0 _ _ l1 ((rd_T99 l2 x9_1).f0) ((rd_T99 l2 x9_1).f1) t595 _ ?side1 ?side2 ?side3 ?side4 A7.out).mono ?_
     (case side1 => exact cB HR0)
     (case side2 => exact HC0.out)
     (case side3 => exact cB HR1)
     (case side4 => exact HC1.out)
     rintro e w10 ⟨rfl, hb⟩
     refine ⟨_, rfl, ?_⟩
     replace HB := Aside0.mk (below_step bA hb)
     (try clear hb)
     (try clear hb2)
     (try clear hk)
     (try clear hi)
     refine hK.out _ _ ⟨(hC HB hw593_0), (hC HB hw593_1), (hC HB hw594_0), (hC HB hw594_1)⟩ (fun hHeld => ?_)
     clear hK K
     refine nB ?_
     refine pA (i := 13) (N := some 10) (mb 14 16383) HT_ ?_
     refine eA HT_ ?_
     try go_wp2
     go_ret
     exact ⟨rA, bA⟩
    ·
     rw [if_neg c8] at H
     have c8b0 := decide_eq_false c8
     clear c8
     by_cases c11 : (wrap64 (t595 - ((rd_T99 l2 x9_1).f1))) > a3
     ·
      rw [if_pos c11] at H
      have c11b0 := decide_eq_true c11
      clear c11
      obtain rfl := Option.some.inj H
      try go_wp2
      have HBo := HB
      replace HB := Aside0.mk (below_drew1 HB.out)
      have p593 : 0 ≤ (x9_1 : Int) := dA
      have q593 : x9_1 < (l2.length : Int) := dA
      obtain ⟨ad593, e593, hx593_0, hx593_1⟩ := at_T99 HR2.out x9_1 p593 q593
      have hw593_1 := hx593_1
      have hw593_0 := hx593_0
      cases e593
      replace hx593_0 := hC HB hx593_0
      replace hx593_1 := hC HB hx593_1
      replace p593 := eq_true p593
      replace q593 := eq_true q593
      have p594 : 0 ≤ (x9_1 : Int) := dA
      have q594 : x9_1 < (l2.length : Int) := dA
      obtain ⟨ad594, e594, hx594_0, hx594_1⟩ := at_T99 HR2.out x9_1 p594 q594
      have hw594_1 := hx594_1
      have hw594_0 := hx594_0
      obtain rfl : ad593 = ad594 := (by injection e594)
      replace hx594_0 := hC HB hx594_0
      replace hx594_1 := hC HB hx594_1
      replace p594 := eq_true p594
      replace q594 := eq_true q594
      refine start_ (n := 14) (S := fun w' => w'.cell? (ad593.add ((x9_1).toNat * 2)) = some (.int .i64 ((rd_T99 l2 x9_1).f0)) ∧ w'.cell? ⟨(ad593.add ((x9_1).toNat * 2)).block, (ad593.add ((x9_1).toNat * 2)).off + 1, none⟩ = some (.int .i64 ((rd_T99 l2 x9_1).f1)) ∧ w'.cell? (ad593.add ((x9_1).toNat * 2)) = some (.int .i64 ((rd_T99 l2 x9_1).f0)) ∧ w'.cell? ⟨(ad593.add ((x9_1).toNat * 2)).block, (ad593.add ((x9_1).toNat * 2)).off + 1, none⟩ = some (.int .i64 ((rd_T99 l2 x9_1).f1))) (ds := []) (mb 14 0) (by kernel_rfl) rfl rfl ⟨(hC HB hw593_0), (hC HB hw593_1), (hC HB hw594_0), (hC HB hw594_1)⟩ (fun hHeld => ?_); refine with_tabW spec_IsWithin.tab4 spec_IsWithin.bits4 (fun HT_ HW_ => ?_)
      generalize wr.drew = w12 at HB hx593_0 hx593_1 hx594_0 hx594_1 hHeld ⊢
      refine pA (i := 0) (N := some 17) (mb 14 1) HT_ ?_
      refine pA (i := 1) (N := some 18) (mb 14 3) HT_ ?_
      refine pA (i := 2) (N := some 19) (mb 14 7) HT_ ?_
      refine pA (i := 3) (N := some 20) (mb 14 15) HT_ ?_
      refine pA (i := 4) (N := some 21) (mb 14 31) HT_ ?_
      refine pA (i := 5) (N := some 22) (mb 14 63) HT_ ?_
      refine pA (i := 7) (N := some 24) (mb 14 191) HT_ ?_
      refine pA (i := 8) (N := some 25) (mb 14 447) HT_ ?_
      refine pA (i := 9) (N := some 26) (mb 14 959) HT_ ?_
      refine pA (i := 10) (N := some 27) (mb 14 1983) HT_ ?_
      refine tA4 (i := 6) (N := some 23) (mb 14 2047) HT_ HW_ hHeld ?_
      refine tA4 (i := 11) (N := some 28) (mb 14 4095) HT_ HW_ hHeld ?_
      refine oA (i := 12) (N := some 29) (mb 14 8191) HT_ (fun K hK => ?_)
      refine gA Try.func69 #[.slice A0 l0.length c0, .slice A1 l1.length c1, .int .i64 ((rd_T99 l2 x9_1).f0), .int .i64 ((rd_T99 l2 x9_1).f1)] ?_
      with_reducible refine (spec_NextGreen.calls k1 _ _ l0 _ _ l1 ((rd_T99 l2 x9_1).f0) ((rd_T99 l2 x9_1).f1) t595 _ ?side1 ?side2 ?side3 ?side4 A7.out).mono ?_
      (case side1 => exact cB HR0)
      (case side2 => exact HC0.out)
      (case side3 => exact cB HR1)
      (case side4 => exact HC1.out)
      rintro e w13 ⟨rfl, hb⟩
      refine ⟨_, rfl, ?_⟩
      replace HB := Aside0.mk (below_step bA hb)
      (try clear hb)
      (try clear hb2)
      (try clear hk)
      (try clear hi)
      refine hK.out _ _ ⟨(hC HB hw593_0), (hC HB hw593_1), (hC HB hw594_0), (hC HB hw594_1)⟩ (fun hHeld => ?_)
      clear hK K
      refine nB ?_
      refine pA (i := 13) (N := some 10) (mb 14 16383) HT_ ?_
      refine eA HT_ ?_
      have p596 : 0 ≤ (x9_1 : Int) := dA
      have q596 : x9_1 < (l2.length : Int) := dA
      obtain ⟨ad596, e596, hx596_0, hx596_1⟩ := at_T99 HR2.out x9_1 p596 q596
      obtain rfl : ad593 = ad596 := (by injection e596)
      replace hx596_0 := hC HB hx596_0
      replace hx596_1 := hC HB hx596_1
      replace p596 := eq_true p596
      replace q596 := eq_true q596
      try go_wp2
      go_ret
      exact ⟨rA, bA⟩
     ·
      rw [if_neg c11] at H
      have c11b0 := decide_eq_false c11
      clear c11
      have H' := Aside0.mk H
      clear H
      try go_wp2
      have HBo := HB
      replace HB := Aside0.mk (below_drew1 HB.out)
      have p593 : 0 ≤ (x9_1 : Int) := dA
      have q593 : x9_1 < (l2.length : Int) := dA
      obtain ⟨ad593, e593, hx593_0, hx593_1⟩ := at_T99 HR2.out x9_1 p593 q593
      have hw593_1 := hx593_1
      have hw593_0 := hx593_0
      cases e593
      replace hx593_0 := hC HB hx593_0
      replace hx593_1 := hC HB hx593_1
      replace p593 := eq_true p593
      replace q593 := eq_true q593
      have p594 : 0 ≤ (x9_1 : Int) := dA
      have q594 : x9_1 < (l2.length : Int) := dA
      obtain ⟨ad594, e594, hx594_0, hx594_1⟩ := at_T99 HR2.out x9_1 p594 q594
      have hw594_1 := hx594_1
      have hw594_0 := hx594_0
      obtain rfl : ad593 = ad594 := (by injection e594)
      replace hx594_0 := hC HB hx594_0
      replace hx594_1 := hC HB hx594_1
      replace p594 := eq_true p594
      replace q594 := eq_true q594
      refine start_ (n := 14) (S := fun w' => w'.cell? (ad593.add ((x9_1).toNat * 2)) = some (.int .i64 ((rd_T99 l2 x9_1).f0)) ∧ w'.cell? ⟨(ad593.add ((x9_1).toNat * 2)).block, (ad593.add ((x9_1).toNat * 2)).off + 1, none⟩ = some (.int .i64 ((rd_T99 l2 x9_1).f1)) ∧ w'.cell? (ad593.add ((x9_1).toNat * 2)) = some (.int .i64 ((rd_T99 l2 x9_1).f0)) ∧ w'.cell? ⟨(ad593.add ((x9_1).toNat * 2)).block, (ad593.add ((x9_1).toNat * 2)).off + 1, none⟩ = some (.int .i64 ((rd_T99 l2 x9_1).f1))) (ds := []) (mb 14 0) (by kernel_rfl) rfl rfl ⟨(hC HB hw593_0), (hC HB hw593_1), (hC HB hw594_0), (hC HB hw594_1)⟩ (fun hHeld => ?_); refine with_tabW spec_IsWithin.tab4 spec_IsWithin.bits4 (fun HT_ HW_ => ?_)
      generalize wr.drew = w14 at HB hx593_0 hx593_1 hx594_0 hx594_1 hHeld ⊢
      refine pA (i := 0) (N := some 17) (mb 14 1) HT_ ?_
      refine pA (i := 1) (N := some 18) (mb 14 3) HT_ ?_
      refine pA (i := 2) (N := some 19) (mb 14 7) HT_ ?_
      refine pA (i := 3) (N := some 20) (mb 14 15) HT_ ?_
      refine pA (i := 4) (N := some 21) (mb 14 31) HT_ ?_
      refine pA (i := 5) (N := some 22) (mb 14 63) HT_ ?_
      refine pA (i := 7) (N := some 24) (mb 14 191) HT_ ?_
      refine pA (i := 8) (N := some 25) (mb 14 447) HT_ ?_
      refine pA (i := 9) (N := some 26) (mb 14 959) HT_ ?_
      refine pA (i := 10) (N := some 27) (mb 14 1983) HT_ ?_
      refine tA4 (i := 6) (N := some 23) (mb 14 2047) HT_ HW_ hHeld ?_
      refine tA4 (i := 11) (N := some 28) (mb 14 4095) HT_ HW_ hHeld ?_
      refine oA (i := 12) (N := some 29) (mb 14 8191) HT_ (fun K hK => ?_)
      refine gA Try.func69 #[.slice A0 l0.length c0, .slice A1 l1.length c1, .int .i64 ((rd_T99 l2 x9_1).f0), .int .i64 ((rd_T99 l2 x9_1).f1)] ?_
      with_reducible refine (spec_NextGreen.calls k1 _ _ l0 _ _ l1 ((rd_T99 l2 x9_1).f0) ((rd_T99 l2 x9_1).f1) t595 _ ?side1 ?side2 ?side3 ?side4 A7.out).mono ?_
      (case side1 => exact cB HR0)
      (case side2 => exact HC0.out)
      (case side3 => exact cB HR1)
      (case side4 => exact HC1.out)
      rintro e w15 ⟨rfl, hb⟩
      refine ⟨_, rfl, ?_⟩
      replace HB := Aside0.mk (below_step bA hb)
      (try clear hb)
      (try clear hb2)
      (try clear hk)
      (try clear hi)
      refine hK.out _ _ ⟨(hC HB hw593_0), (hC HB hw593_1), (hC HB hw594_0), (hC HB hw594_1)⟩ (fun hHeld => ?_)
      clear hK K
      refine nB ?_
      refine pA (i := 13) (N := some 10) (mb 14 16383) HT_ ?_
      refine eA HT_ ?_
      have p596 : 0 ≤ (x9_1 : Int) := dA
      have q596 : x9_1 < (l2.length : Int) := dA
      obtain ⟨ad596, e596, hx596_0, hx596_1⟩ := at_T99 HR2.out x9_1 p596 q596
      obtain rfl : ad593 = ad596 := (by injection e596)
      replace hx596_0 := hC HB hx596_0
      replace hx596_1 := hC HB hx596_1
      replace p596 := eq_true p596
      replace q596 := eq_true q596
      try go_wp2
      go_roundg k1
      case measure => have := HK1.out; omega
      case rel => exact ⟨(wrap64 (x9_1 + 1)), rS, H', ⟨by have := HK1.out; omega⟩, ⟨bA⟩⟩
   ·
    rw [if_neg c5] at H
    have c5b0 := decide_eq_false c5
    clear c5
    obtain rfl := Option.some.inj H
    go_wp2
    go_ret
    exact ⟨rA, bA⟩

/-! ### impl_IsWithin: function 34 -/
def impl_IsWithin.l0 : Nat → List (S99) → Int → List Int → Int → Int → Option (Bool)
 | 0, _, _, _, _, _ => none
 | k + 1, x2, x3, x14, x15, x16 => if x16 < x15 then (if 0 ≤ x16 then (if x16 < (x14.length : Int) then (if (rd x14 x16) = (-1) then (some false) else (if x16 < (x2.length : Int) then (if (wrap64 ((rd x14 x16) - ((rd_T99 x2 x16).f1))) > x3 then (some false) else (impl_IsWithin.l0 k x2 x3 x14 x15 (wrap64 (x16 + 1)))) else (none))) else (none)) else (none)) else (some true)
def impl_IsWithin.f (k : Nat) (l0 : List (S89)) (l1 : List (S92)) (l2 : List (S99)) (a3 : Int) : Option (Bool) := (impl_ServedAt.f k l0 l1 l2).bind fun t597 => (impl_IsWithin.l0 k l2 a3 t597 (t597.length : Int) 0)
theorem impl_IsWithin.mono_l : ∀ k, (∀ y0 y1 y2 y3 y4, LeO (impl_IsWithin.l0 k y0 y1 y2 y3 y4) (impl_IsWithin.l0 (k + 1) y0 y1 y2 y3 y4))
 | 0 => fun _ _ _ _ _ r h => by simp [impl_IsWithin.l0] at h
 | k + 1 => by
  have ih0 := impl_IsWithin.mono_l k
  ·
   intro y0 y1 y2 y3 y4
   unfold impl_IsWithin.l0
   repeat' first | (with_reducible first | exact LeO.refl _ | exact LeO.none _ | refine LeO.ite ?_ ?_ | refine LeO.bind ?_ (fun _ => ?_) | exact ih0 _ _ _ _ _ | exact impl_ServedAt.mono _ _ _ _)
theorem impl_IsWithin.mono : ∀ a0 a1 a2 a3 k, LeO (impl_IsWithin.f k a0 a1 a2 a3) (impl_IsWithin.f (k + 1) a0 a1 a2 a3) := by
 intro a0 a1 a2 a3 k
 have ih0 := impl_IsWithin.mono_l k
 unfold impl_IsWithin.f
 repeat' first | (with_reducible first | exact LeO.refl _ | exact LeO.none _ | refine LeO.ite ?_ ?_ | refine LeO.bind ?_ (fun _ => ?_) | exact ih0 _ _ _ _ _ | exact impl_ServedAt.mono _ _ _ _)
set_option maxHeartbeats 8000000 in
set_option maxRecDepth 100000 in
theorem impl_IsWithin.calls (k : Nat) (A0 : Option Addr) (c0 : Nat) (l0 : List (S89)) (A1 : Option Addr) (c1 : Nat) (l1 : List (S92)) (A2 : Option Addr) (c2 : Nat) (l2 : List (S99)) (a3 : Int) (r : Bool) (w : World) (hr0 : Kd.C k89 w A0 l0.length l0) (hc0 : l0.length ≤ c0) (hr1 : Kd.C k92 w A1 l1.length l1) (hc1 : l1.length ≤ c1) (hr2 : Kd.C k99 w A2 l2.length l2) (hc2 : l2.length ≤ c2) (h : impl_IsWithin.f k l0 l1 l2 a3 = some r) :
  Calls Try.prog 34 #[.slice A0 l0.length c0, .slice A1 l1.length c1, .slice A2 l2.length c2, .int .i64 a3] w fun e w' => e = .returned (.bool r) ∧ Below w.heap.size w w' := by
 have HR0 := Aside0.mk hr0
 have HC0 := Aside0.mk hc0
 clear hr0 hc0
 have HR1 := Aside0.mk hr1
 have HC1 := Aside0.mk hc1
 clear hr1 hc1
 have HR2 := Aside0.mk hr2
 have HC2 := Aside0.mk hc2
 clear hr2 hc2
 have HB := Aside0.mk (Below.refl w.heap.size w)
 have H : ((impl_ServedAt.f k l0 l1 l2).bind fun t597 => (impl_IsWithin.l0 k l2 a3 t597 (t597.length : Int) 0)) = some r := h
 clear h
 obtain ⟨t597, A5, H⟩ := bindE H
 try dsimp only at H
 have H' := Aside0.mk H
 clear H
 go_enter Try.func34, Try.ntmps34
 go_wp2_with (first | ((with_reducible refine gate_callee (f := 27) rfl ?_); refine gL (some 14) Try.func27 #[.slice A0 l0.length c0, .slice A1 l1.length c1, .slice A2 l2.length c2] ?_; (with_reducible refine (impl_ServedAt.calls k _ _ l0 _ _ l1 _ _ l2 t597 _ ?side1 ?side2 ?side3 ?side4 ?side5 ?side6 A5.out).mono ?_); (case side1 => exact cO HR0); (case side2 => exact HC0.out); (case side3 => exact cO HR1); (case side4 => exact HC1.out); (case side5 => exact cO HR2); (case side6 => exact HC2.out); rintro e w6 ⟨v598, rfl, ho0, hb⟩; refine ⟨_, rfl, ?_⟩; have HO599 := Aside0.mk (Kd.R_lower ho0 (below_size bA)); replace HB := Aside0.mk (below_step bA hb); (try clear hb); (try clear ho0); obtain ⟨Ao7, co7, eo7⟩ := Kd.R_slice HO599.out; subst eo7))
 go_loopg [16] k (fun kq v16 w' => ∃ (x16_1 : Int), v16 = .int .i64 x16_1 ∧ Aside0 (impl_IsWithin.l0 kq l2 a3 t597 (t597.length : Int) x16_1 = some r) ∧ Aside0 (kq ≤ k) ∧ Aside0 (Kd.R (Kd.int .i64) 3 w' w.heap.size (fun _ => True) (.slice Ao7 t597.length co7) t597) ∧ Aside0 (Below w.heap.size w w'))
 case atStart => exact ⟨(0), rS, H', ⟨Nat.le_refl _⟩, ⟨rK HO599⟩, ⟨bA⟩⟩
 case round =>
  clear H'
  try clear c1
  try clear c2
  try clear p2
  try clear c3
  obtain ⟨x16_1, rfl, HA, HK1, HO_14, HB⟩ := hrel
  cases gk with
  | zero => exact absurd HA.out (by simp [impl_IsWithin.l0])
  | succ k1 =>
   have H := HA.out
   clear HA
   simp only [impl_IsWithin.l0] at H
   by_cases c8 : x16_1 < (t597.length : Int)
   ·
    rw [if_pos c8] at H
    have c8b0 := decide_eq_true c8
    clear c8
    have c9 : 0 ≤ x16_1 := ifN H
    replace H := ifT H
    have c9b0 := decide_eq_true c9
    clear c9
    have c10 : x16_1 < (t597.length : Int) := ifN H
    replace H := ifT H
    have c10b0 := decide_eq_true c10
    clear c10
    by_cases c11 : (rd t597 x16_1) = (-1)
    ·
     rw [if_pos c11] at H
     have c11b0 : ((rd t597 x16_1) == (-1)) = true := beq_iff_eq.mpr c11
     have c11b1 : ((rd t597 x16_1) != (-1)) = false := bne_eq_false_iff_eq.mpr c11
     clear c11
     obtain rfl := Option.some.inj H
     have p600 : 0 ≤ (x16_1 : Int) := dA
     have q600 : x16_1 < (t597.length : Int) := dA
     obtain ⟨ad600, e600, hx600_0⟩ := Kd.at_int (Kd.R_reads' HO_14.out).2.2 x16_1 p600 q600
     cases e600
     replace p600 := eq_true p600
     replace q600 := eq_true q600
     go_wp2
     go_ret
     exact ⟨rA, bA⟩
    ·
     rw [if_neg c11] at H
     have c11b0 : ((rd t597 x16_1) == (-1)) = false := beq_eq_false_iff_ne.mpr c11
     have c11b1 : ((rd t597 x16_1) != (-1)) = true := bne_iff_ne.mpr c11
     have c12 : x16_1 < (l2.length : Int) := ifN H
     replace H := ifT H
     have c12b0 := decide_eq_true c12
     clear c12
     by_cases c13 : (wrap64 ((rd t597 x16_1) - ((rd_T99 l2 x16_1).f1))) > a3
     ·
      rw [if_pos c13] at H
      have c13b0 := decide_eq_true c13
      clear c13
      obtain rfl := Option.some.inj H
      have p600 : 0 ≤ (x16_1 : Int) := dA
      have q600 : x16_1 < (t597.length : Int) := dA
      obtain ⟨ad600, e600, hx600_0⟩ := Kd.at_int (Kd.R_reads' HO_14.out).2.2 x16_1 p600 q600
      cases e600
      replace p600 := eq_true p600
      replace q600 := eq_true q600
      have p601 : 0 ≤ (x16_1 : Int) := dA
      have q601 : x16_1 < (l2.length : Int) := dA
      obtain ⟨ad601, e601, hx601_0, hx601_1⟩ := at_T99 HR2.out x16_1 p601 q601
      cases e601
      replace hx601_0 := hC HB hx601_0
      replace hx601_1 := hC HB hx601_1
      replace p601 := eq_true p601
      replace q601 := eq_true q601
      go_wp2
      go_ret
      exact ⟨rA, bA⟩
     ·
      rw [if_neg c13] at H
      have c13b0 := decide_eq_false c13
      clear c13
      have H' := Aside0.mk H
      clear H
      have p600 : 0 ≤ (x16_1 : Int) := dA
      have q600 : x16_1 < (t597.length : Int) := dA
      obtain ⟨ad600, e600, hx600_0⟩ := Kd.at_int (Kd.R_reads' HO_14.out).2.2 x16_1 p600 q600
      cases e600
      replace p600 := eq_true p600
      replace q600 := eq_true q600
      have p601 : 0 ≤ (x16_1 : Int) := dA
      have q601 : x16_1 < (l2.length : Int) := dA
      obtain ⟨ad601, e601, hx601_0, hx601_1⟩ := at_T99 HR2.out x16_1 p601 q601
      cases e601
      replace hx601_0 := hC HB hx601_0
      replace hx601_1 := hC HB hx601_1
      replace p601 := eq_true p601
      replace q601 := eq_true q601
      go_wp2
      go_roundg k1
      case measure => have := HK1.out; omega
      case rel => exact ⟨(wrap64 (x16_1 + 1)), rS, H', ⟨by have := HK1.out; omega⟩, ⟨rK HO_14⟩, ⟨bA⟩⟩
   ·
    rw [if_neg c8] at H
    have c8b0 := decide_eq_false c8
    clear c8
    obtain rfl := Option.some.inj H
    go_wp2
    go_ret
    exact ⟨rA, bA⟩

/-! ### laws_FnExactIsWithin: function 5 -/
def laws_FnExactIsWithin.f (k : Nat) (l0 : List (S91)) (l1 : List (S85)) (l2 : List (S101)) (a3 : Int) : Option (Bool) := (laws_szPathS.f l0 1048576).bind fun t602 => (if t602 < 0 then (some true) else ((laws_szPartS.f k l1 t602).bind fun t603 => (if t603 < 0 then (some true) else ((laws_szCallS.f l2 t603).bind fun t604 => (if t604 < 0 then (some true) else ((laws_toPathS.f k l0).bind fun t605 => ((laws_toPartS.f k l1).bind fun t608 => ((laws_toCallS.f k l2).bind fun t611 => ((spec_IsWithin.f k t605 t608 t611 a3).bind fun t614 => ((laws_toPathS.f k l0).bind fun t615 => ((laws_toPartS.f k l1).bind fun t618 => ((laws_toCallS.f k l2).bind fun t621 => ((impl_IsWithin.f k t615 t618 t621 a3).bind fun t624 => (if (t624 != t614) = true then (none) else ((laws_toPathS.f k l0).bind fun t625 => ((laws_eqPathS.f k t615 t625).bind fun t628 => (if t628 = true then ((laws_toPartS.f k l1).bind fun t629 => ((laws_eqPartS.f k t618 t629).bind fun t632 => (if t632 = true then ((laws_toCallS.f k l2).bind fun t633 => ((laws_eqCallS.f k t621 t633).bind fun t636 => (if t636 = true then (some true) else (none)))) else (none)))) else (none))))))))))))))))))
theorem laws_FnExactIsWithin.mono : ∀ a0 a1 a2 a3 k, LeO (laws_FnExactIsWithin.f k a0 a1 a2 a3) (laws_FnExactIsWithin.f (k + 1) a0 a1 a2 a3) := by
 intro a0 a1 a2 a3 k
 unfold laws_FnExactIsWithin.f
 repeat' first | (with_reducible first | exact LeO.refl _ | exact LeO.none _ | refine LeO.ite ?_ ?_ | refine LeO.bind ?_ (fun _ => ?_) | exact impl_IsWithin.mono _ _ _ _ _ | exact laws_eqCallS.mono _ _ _ | exact laws_eqPartS.mono _ _ _ | exact laws_eqPathS.mono _ _ _ | exact laws_szPartS.mono _ _ _ | exact laws_toCallS.mono _ _ | exact laws_toPartS.mono _ _ | exact laws_toPathS.mono _ _ | exact spec_IsWithin.mono _ _ _ _ _)
set_option maxHeartbeats 8000000 in
set_option maxRecDepth 100000 in
theorem laws_FnExactIsWithin.calls (k : Nat) (A0 : Option Addr) (c0 : Nat) (l0 : List (S91)) (A1 : Option Addr) (c1 : Nat) (l1 : List (S85)) (A2 : Option Addr) (c2 : Nat) (l2 : List (S101)) (a3 : Int) (r : Bool) (w : World) (hr0 : Kd.C k91 w A0 l0.length l0) (hc0 : l0.length ≤ c0) (hr1 : Kd.C k85 w A1 l1.length l1) (hc1 : l1.length ≤ c1) (hr2 : Kd.C k101 w A2 l2.length l2) (hc2 : l2.length ≤ c2) (h : laws_FnExactIsWithin.f k l0 l1 l2 a3 = some r) :
  Calls Try.prog 5 #[.slice A0 l0.length c0, .slice A1 l1.length c1, .slice A2 l2.length c2, .int .i64 a3] w fun e w' => e = .returned (.bool r) ∧ Below w.heap.size w w' := by
 have HR0 := Aside0.mk hr0
 have HC0 := Aside0.mk hc0
 clear hr0 hc0
 have HR1 := Aside0.mk hr1
 have HC1 := Aside0.mk hc1
 clear hr1 hc1
 have HR2 := Aside0.mk hr2
 have HC2 := Aside0.mk hc2
 clear hr2 hc2
 have HB := Aside0.mk (Below.refl w.heap.size w)
 have H : ((laws_szPathS.f l0 1048576).bind fun t602 => (if t602 < 0 then (some true) else ((laws_szPartS.f k l1 t602).bind fun t603 => (if t603 < 0 then (some true) else ((laws_szCallS.f l2 t603).bind fun t604 => (if t604 < 0 then (some true) else ((laws_toPathS.f k l0).bind fun t605 => ((laws_toPartS.f k l1).bind fun t608 => ((laws_toCallS.f k l2).bind fun t611 => ((spec_IsWithin.f k t605 t608 t611 a3).bind fun t614 => ((laws_toPathS.f k l0).bind fun t615 => ((laws_toPartS.f k l1).bind fun t618 => ((laws_toCallS.f k l2).bind fun t621 => ((impl_IsWithin.f k t615 t618 t621 a3).bind fun t624 => (if (t624 != t614) = true then (none) else ((laws_toPathS.f k l0).bind fun t625 => ((laws_eqPathS.f k t615 t625).bind fun t628 => (if t628 = true then ((laws_toPartS.f k l1).bind fun t629 => ((laws_eqPartS.f k t618 t629).bind fun t632 => (if t632 = true then ((laws_toCallS.f k l2).bind fun t633 => ((laws_eqCallS.f k t621 t633).bind fun t636 => (if t636 = true then (some true) else (none)))) else (none)))) else (none))))))))))))))))))) = some r := h
 clear h
 obtain ⟨t602, A5, H⟩ := bindE H
 try dsimp only at H
 by_cases c6 : t602 < 0
 ·
  rw [if_pos c6] at H
  have c6b0 := decide_eq_true c6
  clear c6
  obtain rfl := Option.some.inj H
  go_enter Try.func5, Try.ntmps5
  go_wp2_with (first | ((with_reducible refine gate_callee (f := 11) rfl ?_); refine gL (some 17) Try.func11 #[.slice A0 l0.length c0, .int .i64 1048576] ?_; (with_reducible refine (laws_szPathS.calls _ _ l0 1048576 t602 _ ?side1 ?side2 A5.out).mono ?_); (case side1 => exact cO HR0); (case side2 => exact HC0.out); rintro e w' ⟨rfl, ⟨nd, rfl⟩⟩; refine ⟨_, rfl, ?_⟩))
  go_ret
  exact ⟨rA, bA⟩
 ·
  rw [if_neg c6] at H
  have c6b0 := decide_eq_false c6
  clear c6
  obtain ⟨t603, A7, H⟩ := bindE H
  try dsimp only at H
  by_cases c8 : t603 < 0
  ·
   rw [if_pos c8] at H
   have c8b0 := decide_eq_true c8
   clear c8
   obtain rfl := Option.some.inj H
   go_enter Try.func5, Try.ntmps5
   go_wp2_with (first | ((with_reducible refine gate_callee (f := 11) rfl ?_); refine gL (some 17) Try.func11 #[.slice A0 l0.length c0, .int .i64 1048576] ?_; (with_reducible refine (laws_szPathS.calls _ _ l0 1048576 t602 _ ?side1 ?side2 A5.out).mono ?_); (case side1 => exact cO HR0); (case side2 => exact HC0.out); rintro e w' ⟨rfl, ⟨nd, rfl⟩⟩; refine ⟨_, rfl, ?_⟩) | ((with_reducible refine gate_callee (f := 12) rfl ?_); refine gL (some 22) Try.func12 #[.slice A1 l1.length c1, .int .i64 t602] ?_; (with_reducible refine (laws_szPartS.calls k _ _ l1 t602 t603 _ ?side1 ?side2 A7.out).mono ?_); (case side1 => exact cO HR1); (case side2 => exact HC1.out); rintro e w9 ⟨rfl, hb⟩; refine ⟨_, rfl, ?_⟩; replace HB := Aside0.mk (below_step bA hb); (try clear hb)))
   go_ret
   exact ⟨rA, bA⟩
  ·
   rw [if_neg c8] at H
   have c8b0 := decide_eq_false c8
   clear c8
   obtain ⟨t604, A10, H⟩ := bindE H
   try dsimp only at H
   by_cases c11 : t604 < 0
   ·
    rw [if_pos c11] at H
    have c11b0 := decide_eq_true c11
    clear c11
    obtain rfl := Option.some.inj H
    go_enter Try.func5, Try.ntmps5
    go_wp2_with (first | ((with_reducible refine gate_callee (f := 11) rfl ?_); refine gL (some 17) Try.func11 #[.slice A0 l0.length c0, .int .i64 1048576] ?_; (with_reducible refine (laws_szPathS.calls _ _ l0 1048576 t602 _ ?side1 ?side2 A5.out).mono ?_); (case side1 => exact cO HR0); (case side2 => exact HC0.out); rintro e w' ⟨rfl, ⟨nd, rfl⟩⟩; refine ⟨_, rfl, ?_⟩) | ((with_reducible refine gate_callee (f := 12) rfl ?_); refine gL (some 22) Try.func12 #[.slice A1 l1.length c1, .int .i64 t602] ?_; (with_reducible refine (laws_szPartS.calls k _ _ l1 t602 t603 _ ?side1 ?side2 A7.out).mono ?_); (case side1 => exact cO HR1); (case side2 => exact HC1.out); rintro e w12 ⟨rfl, hb⟩; refine ⟨_, rfl, ?_⟩; replace HB := Aside0.mk (below_step bA hb); (try clear hb)) | ((with_reducible refine gate_callee (f := 24) rfl ?_); refine gL (some 27) Try.func24 #[.slice A2 l2.length c2, .int .i64 t603] ?_; (with_reducible refine (laws_szCallS.calls _ _ l2 t603 t604 _ ?side1 ?side2 A10.out).mono ?_); (case side1 => exact cB HR2); (case side2 => exact HC2.out); rintro e w' ⟨rfl, ⟨nd, rfl⟩⟩; refine ⟨_, rfl, ?_⟩))
    go_ret
    exact ⟨rA, bA⟩
   ·
    rw [if_neg c11] at H
    have c11b0 := decide_eq_false c11
    clear c11
    obtain ⟨t605, A13, H⟩ := bindE H
    try dsimp only at H
    obtain ⟨t608, A14, H⟩ := bindE H
    try dsimp only at H
    obtain ⟨t611, A15, H⟩ := bindE H
    try dsimp only at H
    obtain ⟨t614, A16, H⟩ := bindE H
    try dsimp only at H
    obtain ⟨t615, A17, H⟩ := bindE H
    try dsimp only at H
    obtain ⟨t618, A18, H⟩ := bindE H
    try dsimp only at H
    obtain ⟨t621, A19, H⟩ := bindE H
    try dsimp only at H
    obtain ⟨t624, A20, H⟩ := bindE H
    try dsimp only at H
    have c21 : ¬ ((t624 != t614) = true) := ifN' H
    replace H := ifT' H
    have c21b0 : (t624 != t614) = false := by simpa using c21
    (try (have c21b1 : decide (t624 = t614) = true := by simpa using c21))
    (try (have c21b2 : (t624 == t614) = true := by simpa using c21))
    clear c21
    obtain ⟨t625, A22, H⟩ := bindE H
    try dsimp only at H
    obtain ⟨t628, A23, H⟩ := bindE H
    try dsimp only at H
    have c24 := ifN H
    replace H := ifT H
    subst c24
    obtain ⟨t629, A25, H⟩ := bindE H
    try dsimp only at H
    obtain ⟨t632, A26, H⟩ := bindE H
    try dsimp only at H
    have c27 := ifN H
    replace H := ifT H
    subst c27
    obtain ⟨t633, A28, H⟩ := bindE H
    try dsimp only at H
    obtain ⟨t636, A29, H⟩ := bindE H
    try dsimp only at H
    have c30 := ifN H
    replace H := ifT H
    subst c30
    obtain rfl := Option.some.inj H
    go_enter Try.func5, Try.ntmps5
    go_wp2_with (first | ((with_reducible refine gate_callee (f := 11) rfl ?_); refine gL (some 17) Try.func11 #[.slice A0 l0.length c0, .int .i64 1048576] ?_; (with_reducible refine (laws_szPathS.calls _ _ l0 1048576 t602 _ ?side1 ?side2 A5.out).mono ?_); (case side1 => exact cO HR0); (case side2 => exact HC0.out); rintro e w' ⟨rfl, ⟨nd, rfl⟩⟩; refine ⟨_, rfl, ?_⟩) | ((with_reducible refine gate_callee (f := 12) rfl ?_); refine gL (some 22) Try.func12 #[.slice A1 l1.length c1, .int .i64 t602] ?_; (with_reducible refine (laws_szPartS.calls k _ _ l1 t602 t603 _ ?side1 ?side2 A7.out).mono ?_); (case side1 => exact cO HR1); (case side2 => exact HC1.out); rintro e w31 ⟨rfl, hb⟩; refine ⟨_, rfl, ?_⟩; replace HB := Aside0.mk (below_step bA hb); (try clear hb)) | ((with_reducible refine gate_callee (f := 24) rfl ?_); refine gL (some 27) Try.func24 #[.slice A2 l2.length c2, .int .i64 t603] ?_; (with_reducible refine (laws_szCallS.calls _ _ l2 t603 t604 _ ?side1 ?side2 A10.out).mono ?_); (case side1 => exact cB HR2); (case side2 => exact HC2.out); rintro e w' ⟨rfl, ⟨nd, rfl⟩⟩; refine ⟨_, rfl, ?_⟩) | ((with_reducible refine gate_callee (f := 14) rfl ?_); refine gL (some 31) Try.func14 #[.slice A0 l0.length c0] ?_; (with_reducible refine (laws_toPathS.calls k _ _ l0 t605 _ ?side1 ?side2 A13.out).mono ?_); (case side1 => exact cG HR0); (case side2 => exact HC0.out); rintro e w32 ⟨v606, rfl, ho0, hb⟩; refine ⟨_, rfl, ?_⟩; have HO607 := Aside0.mk (Kd.R_lower ho0 (below_size bA)); replace HB := Aside0.mk (below_step bA hb); (try clear hb); (try clear ho0)) | ((with_reducible refine gate_callee (f := 15) rfl ?_); refine gL (some 33) Try.func15 #[.slice A1 l1.length c1] ?_; (with_reducible refine (laws_toPartS.calls k _ _ l1 t608 _ ?side1 ?side2 A14.out).mono ?_); (case side1 => exact cB HR1); (case side2 => exact HC1.out); rintro e w33 ⟨v609, rfl, ho0, hb⟩; refine ⟨_, rfl, ?_⟩; replace HO607 := Aside0.mk (Kd.R_below (rK HO607) hb); have HO610 := Aside0.mk (Kd.S_lower ho0 (below_size bA)); replace HB := Aside0.mk (below_step bA hb); (try clear hb); (try clear ho0)) | ((with_reducible refine gate_callee (f := 26) rfl ?_); refine gL (some 35) Try.func26 #[.slice A2 l2.length c2] ?_; (with_reducible refine (laws_toCallS.calls k _ _ l2 t611 _ ?side1 ?side2 A15.out).mono ?_); (case side1 => exact cB HR2); (case side2 => exact HC2.out); rintro e w34 ⟨v612, rfl, ho0, hb⟩; refine ⟨_, rfl, ?_⟩; replace HO607 := Aside0.mk (Kd.R_below (rK HO607) hb); replace HO610 := Aside0.mk (Kd.S_below (sK HO610) hb); have HO613 := Aside0.mk (Kd.R_lower ho0 (below_size bA)); replace HB := Aside0.mk (below_step bA hb); (try clear hb); (try clear ho0); obtain ⟨Ao35, co35, eo35⟩ := Kd.R_slice HO607.out; subst eo35; obtain ⟨Ao36, co36, eo36⟩ := Kd.S_slice HO610.out; subst eo36; obtain ⟨Ao37, co37, eo37⟩ := Kd.R_slice HO613.out; subst eo37) | ((with_reducible refine gate_callee (f := 33) rfl ?_); refine gL (some 37) Try.func33 #[.slice Ao35 t605.length co35, .slice Ao36 t608.length co36, .slice Ao37 t611.length co37, .int .i64 a3] ?_; (with_reducible refine (spec_IsWithin.calls k _ _ t605 _ _ t608 _ _ t611 a3 t614 _ ?side1 ?side2 ?side3 ?side4 ?side5 ?side6 A16.out).mono ?_); (case side1 => exact cO ⟨(Kd.R_reads' HO607.out).2.2⟩); (case side2 => exact (Kd.R_reads' HO607.out).2.1); (case side3 => repeat (first | exact (Kd.S_reads' HO610.out).2.2 | (with_reducible refine Kd.C_alloc ?_ _) | (with_reducible refine Kd.C_drewN ?_ _) | (with_reducible refine Kd.C_drew ?_))); (case side4 => exact (Kd.S_reads' HO610.out).2.1); (case side5 => exact cO ⟨(Kd.R_reads' HO613.out).2.2⟩); (case side6 => exact (Kd.R_reads' HO613.out).2.1); rintro e w38 ⟨rfl, hb⟩; refine ⟨_, rfl, ?_⟩; replace HO607 := Aside0.mk (Kd.R_below (rK HO607) hb); replace HO610 := Aside0.mk (Kd.S_below (sK HO610) hb); replace HO613 := Aside0.mk (Kd.R_below (rK HO613) hb); replace HB := Aside0.mk (below_step bA hb); (try clear hb)) | ((with_reducible refine gate_callee (f := 14) rfl ?_); refine gL (some 39) Try.func14 #[.slice A0 l0.length c0] ?_; (with_reducible refine (laws_toPathS.calls k _ _ l0 t615 _ ?side1 ?side2 A17.out).mono ?_); (case side1 => exact cB HR0); (case side2 => exact HC0.out); rintro e w39 ⟨v616, rfl, ho0, hb⟩; refine ⟨_, rfl, ?_⟩; replace HO610 := Aside0.mk (Kd.S_below (sK HO610) hb); replace HO613 := Aside0.mk (Kd.R_below (rK HO613) hb); have HO617 := Aside0.mk (Kd.R_lower (Kd.R_new' ho0 (Kd.R_lt (rK HO607))) (below_size bA)); replace HO607 := Aside0.mk (Kd.R_elder' (rK HO607) (Kd.R_base ho0) hb); replace HB := Aside0.mk (below_step bA hb); (try clear hb); (try clear ho0)) | ((with_reducible refine gate_callee (f := 15) rfl ?_); refine gL (some 41) Try.func15 #[.slice A1 l1.length c1] ?_; (with_reducible refine (laws_toPartS.calls k _ _ l1 t618 _ ?side1 ?side2 A18.out).mono ?_); (case side1 => exact cB HR1); (case side2 => exact HC1.out); rintro e w40 ⟨v619, rfl, ho0, hb⟩; refine ⟨_, rfl, ?_⟩; replace HO607 := Aside0.mk (Kd.R_below (rK HO607) hb); replace HO613 := Aside0.mk (Kd.R_below (rK HO613) hb); replace HO617 := Aside0.mk (Kd.R_below (rK HO617) hb); have HO620 := Aside0.mk (Kd.S_lower (Kd.S_new' ho0 (Kd.S_lt (sK HO610))) (below_size bA)); replace HO610 := Aside0.mk (Kd.S_elder' (sK HO610) (Kd.S_base ho0) hb); replace HB := Aside0.mk (below_step bA hb); (try clear hb); (try clear ho0)) | ((with_reducible refine gate_callee (f := 26) rfl ?_); refine gL (some 43) Try.func26 #[.slice A2 l2.length c2] ?_; (with_reducible refine (laws_toCallS.calls k _ _ l2 t621 _ ?side1 ?side2 A19.out).mono ?_); (case side1 => exact cB HR2); (case side2 => exact HC2.out); rintro e w41 ⟨v622, rfl, ho0, hb⟩; refine ⟨_, rfl, ?_⟩; replace HO607 := Aside0.mk (Kd.R_below (rK HO607) hb); replace HO610 := Aside0.mk (Kd.S_below (sK HO610) hb); replace HO617 := Aside0.mk (Kd.R_below (rK HO617) hb); replace HO620 := Aside0.mk (Kd.S_below (sK HO620) hb); have HO623 := Aside0.mk (Kd.R_lower (Kd.R_new' ho0 (Kd.R_lt (rK HO613))) (below_size bA)); replace HO613 := Aside0.mk (Kd.R_elder' (rK HO613) (Kd.R_base ho0) hb); replace HB := Aside0.mk (below_step bA hb); (try clear hb); (try clear ho0); obtain ⟨Ao42, co42, eo42⟩ := Kd.R_slice HO617.out; subst eo42; obtain ⟨Ao43, co43, eo43⟩ := Kd.S_slice HO620.out; subst eo43; obtain ⟨Ao44, co44, eo44⟩ := Kd.R_slice HO623.out; subst eo44) | ((with_reducible refine gate_callee (f := 34) rfl ?_); refine gL (some 48) Try.func34 #[.slice Ao42 t615.length co42, .slice Ao43 t618.length co43, .slice Ao44 t621.length co44, .int .i64 a3] ?_; (with_reducible refine (impl_IsWithin.calls k _ _ t615 _ _ t618 _ _ t621 a3 t624 _ ?side1 ?side2 ?side3 ?side4 ?side5 ?side6 A20.out).mono ?_); (case side1 => exact cO ⟨(Kd.R_reads' HO617.out).2.2⟩); (case side2 => exact (Kd.R_reads' HO617.out).2.1); (case side3 => repeat (first | exact (Kd.S_reads' HO620.out).2.2 | (with_reducible refine Kd.C_alloc ?_ _) | (with_reducible refine Kd.C_drewN ?_ _) | (with_reducible refine Kd.C_drew ?_))); (case side4 => exact (Kd.S_reads' HO620.out).2.1); (case side5 => exact cO ⟨(Kd.R_reads' HO623.out).2.2⟩); (case side6 => exact (Kd.R_reads' HO623.out).2.1); rintro e w45 ⟨rfl, hb⟩; refine ⟨_, rfl, ?_⟩; replace HO607 := Aside0.mk (Kd.R_below (rK HO607) hb); replace HO610 := Aside0.mk (Kd.S_below (sK HO610) hb); replace HO613 := Aside0.mk (Kd.R_below (rK HO613) hb); replace HO617 := Aside0.mk (Kd.R_below (rK HO617) hb); replace HO620 := Aside0.mk (Kd.S_below (sK HO620) hb); replace HO623 := Aside0.mk (Kd.R_below (rK HO623) hb); replace HB := Aside0.mk (below_step bA hb); (try clear hb)) | ((with_reducible refine gate_callee (f := 14) rfl ?_); refine gL (some 54) Try.func14 #[.slice A0 l0.length c0] ?_; (with_reducible refine (laws_toPathS.calls k _ _ l0 t625 _ ?side1 ?side2 A22.out).mono ?_); (case side1 => exact cB HR0); (case side2 => exact HC0.out); rintro e w46 ⟨v626, rfl, ho0, hb⟩; refine ⟨_, rfl, ?_⟩; replace HO610 := Aside0.mk (Kd.S_below (sK HO610) hb); replace HO613 := Aside0.mk (Kd.R_below (rK HO613) hb); replace HO620 := Aside0.mk (Kd.S_below (sK HO620) hb); replace HO623 := Aside0.mk (Kd.R_below (rK HO623) hb); have HO627 := Aside0.mk (Kd.R_lower (Kd.R_new' (Kd.R_new' ho0 (Kd.R_lt (rK HO607))) (Kd.R_lt (rK HO617))) (below_size bA)); replace HO607 := Aside0.mk (Kd.R_elder' (rK HO607) (Kd.R_base ho0) hb); replace HO617 := Aside0.mk (Kd.R_elder' (rK HO617) (Kd.R_base ho0) hb); replace HB := Aside0.mk (below_step bA hb); (try clear hb); (try clear ho0); obtain ⟨Ao47, co47, eo47⟩ := Kd.R_slice HO627.out; subst eo47) | ((with_reducible refine gate_callee (f := 18) rfl ?_); refine gL (some 55) Try.func18 #[.slice Ao42 t615.length co42, .slice Ao47 t625.length co47] ?_; (with_reducible refine (laws_eqPathS.calls k _ _ t615 _ _ t625 true _ ?side1 ?side2 ?side3 ?side4 A23.out).mono ?_); (case side1 => exact cO ⟨(Kd.R_reads' HO617.out).2.2⟩); (case side2 => exact (Kd.R_reads' HO617.out).2.1); (case side3 => exact cO ⟨(Kd.R_reads' HO627.out).2.2⟩); (case side4 => exact (Kd.R_reads' HO627.out).2.1); rintro e w48 ⟨rfl, hb⟩; refine ⟨_, rfl, ?_⟩; replace HO607 := Aside0.mk (Kd.R_below (rK HO607) hb); replace HO610 := Aside0.mk (Kd.S_below (sK HO610) hb); replace HO613 := Aside0.mk (Kd.R_below (rK HO613) hb); replace HO617 := Aside0.mk (Kd.R_below (rK HO617) hb); replace HO620 := Aside0.mk (Kd.S_below (sK HO620) hb); replace HO623 := Aside0.mk (Kd.R_below (rK HO623) hb); replace HO627 := Aside0.mk (Kd.R_below (rK HO627) hb); replace HB := Aside0.mk (below_step bA hb); (try clear hb)) | ((with_reducible refine gate_callee (f := 15) rfl ?_); refine gL (some 59) Try.func15 #[.slice A1 l1.length c1] ?_; (with_reducible refine (laws_toPartS.calls k _ _ l1 t629 _ ?side1 ?side2 A25.out).mono ?_); (case side1 => exact cB HR1); (case side2 => exact HC1.out); rintro e w49 ⟨v630, rfl, ho0, hb⟩; refine ⟨_, rfl, ?_⟩; replace HO607 := Aside0.mk (Kd.R_below (rK HO607) hb); replace HO613 := Aside0.mk (Kd.R_below (rK HO613) hb); replace HO617 := Aside0.mk (Kd.R_below (rK HO617) hb); replace HO623 := Aside0.mk (Kd.R_below (rK HO623) hb); replace HO627 := Aside0.mk (Kd.R_below (rK HO627) hb); have HO631 := Aside0.mk (Kd.S_lower (Kd.S_new' (Kd.S_new' ho0 (Kd.S_lt (sK HO610))) (Kd.S_lt (sK HO620))) (below_size bA)); replace HO610 := Aside0.mk (Kd.S_elder' (sK HO610) (Kd.S_base ho0) hb); replace HO620 := Aside0.mk (Kd.S_elder' (sK HO620) (Kd.S_base ho0) hb); replace HB := Aside0.mk (below_step bA hb); (try clear hb); (try clear ho0); obtain ⟨Ao50, co50, eo50⟩ := Kd.S_slice HO631.out; subst eo50) | ((with_reducible refine gate_callee (f := 19) rfl ?_); refine gL (some 60) Try.func19 #[.slice Ao43 t618.length co43, .slice Ao50 t629.length co50] ?_; (with_reducible refine (laws_eqPartS.calls k _ _ t618 _ _ t629 true _ ?side1 ?side2 ?side3 ?side4 A26.out).mono ?_); (case side1 => repeat (first | exact (Kd.S_reads' HO620.out).2.2 | (with_reducible refine Kd.C_alloc ?_ _) | (with_reducible refine Kd.C_drewN ?_ _) | (with_reducible refine Kd.C_drew ?_))); (case side2 => exact (Kd.S_reads' HO620.out).2.1); (case side3 => repeat (first | exact (Kd.S_reads' HO631.out).2.2 | (with_reducible refine Kd.C_alloc ?_ _) | (with_reducible refine Kd.C_drewN ?_ _) | (with_reducible refine Kd.C_drew ?_))); (case side4 => exact (Kd.S_reads' HO631.out).2.1); rintro e w51 ⟨rfl, hb⟩; refine ⟨_, rfl, ?_⟩; replace HO607 := Aside0.mk (Kd.R_below (rK HO607) hb); replace HO610 := Aside0.mk (Kd.S_below (sK HO610) hb); replace HO613 := Aside0.mk (Kd.R_below (rK HO613) hb); replace HO617 := Aside0.mk (Kd.R_below (rK HO617) hb); replace HO620 := Aside0.mk (Kd.S_below (sK HO620) hb); replace HO623 := Aside0.mk (Kd.R_below (rK HO623) hb); replace HO627 := Aside0.mk (Kd.R_below (rK HO627) hb); replace HO631 := Aside0.mk (Kd.S_below (sK HO631) hb); replace HB := Aside0.mk (below_step bA hb); (try clear hb)) | ((with_reducible refine gate_callee (f := 26) rfl ?_); refine gL (some 64) Try.func26 #[.slice A2 l2.length c2] ?_; (with_reducible refine (laws_toCallS.calls k _ _ l2 t633 _ ?side1 ?side2 A28.out).mono ?_); (case side1 => exact cB HR2); (case side2 => exact HC2.out); rintro e w52 ⟨v634, rfl, ho0, hb⟩; refine ⟨_, rfl, ?_⟩; replace HO607 := Aside0.mk (Kd.R_below (rK HO607) hb); replace HO610 := Aside0.mk (Kd.S_below (sK HO610) hb); replace HO617 := Aside0.mk (Kd.R_below (rK HO617) hb); replace HO620 := Aside0.mk (Kd.S_below (sK HO620) hb); replace HO627 := Aside0.mk (Kd.R_below (rK HO627) hb); replace HO631 := Aside0.mk (Kd.S_below (sK HO631) hb); have HO635 := Aside0.mk (Kd.R_lower (Kd.R_new' (Kd.R_new' ho0 (Kd.R_lt (rK HO613))) (Kd.R_lt (rK HO623))) (below_size bA)); replace HO613 := Aside0.mk (Kd.R_elder' (rK HO613) (Kd.R_base ho0) hb); replace HO623 := Aside0.mk (Kd.R_elder' (rK HO623) (Kd.R_base ho0) hb); replace HB := Aside0.mk (below_step bA hb); (try clear hb); (try clear ho0); obtain ⟨Ao53, co53, eo53⟩ := Kd.R_slice HO635.out; subst eo53) | ((with_reducible refine gate_callee (f := 29) rfl ?_); refine gL (some 65) Try.func29 #[.slice Ao44 t621.length co44, .slice Ao53 t633.length co53] ?_; (with_reducible refine (laws_eqCallS.calls k _ _ t621 _ _ t633 true _ ?side1 ?side2 ?side3 ?side4 A29.out).mono ?_); (case side1 => exact cO ⟨(Kd.R_reads' HO623.out).2.2⟩); (case side2 => exact (Kd.R_reads' HO623.out).2.1); (case side3 => exact cO ⟨(Kd.R_reads' HO635.out).2.2⟩); (case side4 => exact (Kd.R_reads' HO635.out).2.1); rintro e w54 ⟨rfl, hb⟩; refine ⟨_, rfl, ?_⟩; replace HO607 := Aside0.mk (Kd.R_below (rK HO607) hb); replace HO610 := Aside0.mk (Kd.S_below (sK HO610) hb); replace HO613 := Aside0.mk (Kd.R_below (rK HO613) hb); replace HO617 := Aside0.mk (Kd.R_below (rK HO617) hb); replace HO620 := Aside0.mk (Kd.S_below (sK HO620) hb); replace HO623 := Aside0.mk (Kd.R_below (rK HO623) hb); replace HO627 := Aside0.mk (Kd.R_below (rK HO627) hb); replace HO631 := Aside0.mk (Kd.S_below (sK HO631) hb); replace HO635 := Aside0.mk (Kd.R_below (rK HO635) hb); replace HB := Aside0.mk (below_step bA hb); (try clear hb)))
    go_ret
    exact ⟨rA, bA⟩

end Go.Proofs.Ytdkmmefmhfbgkaa.P
