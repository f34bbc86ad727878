/- Printed by myprint.py (wip/tools) over the kit's print: what Go's functions compute, and that they do. Lean checks it. -/
import Derived.Test.YtimmadeghcghoaaF0
import Derived.Test.YtimmadeghcghoaaFI01
import Derived.Test.YtimmadeghcghoaaFI05
namespace Go.Proofs.Ytimmadeghcghoaa.P
open Go.RowKit Go.Proofs.YtimmadeghcghoaaW.PrintWords Go.Proofs.YtimmadeghcghoaaW.PrintLast Go.Proofs.YtimmadeghcghoaaW.PrintMore Go.Proofs.Ytimmadeghcghoaa.Sq
attribute [local go_sem] max2_int min2_int max_two min_two max_three min_three max_four min_four
set_option linter.unusedVariables false
set_option linter.unusedSimpArgs false

/-! ### impl_AreWants: function 36 -/
def impl_AreWants.l0 : Nat → List (S90) → List (S87) → List (S87) → Int → Int → Option (Bool)
  | 0, _, _, _, _, _ => none
  | k + 1, x0, x1, x10, x11, x12 => if x12 < x11 then (if 0 ≤ x12 then (if x12 < (x10.length : Int) then ((impl_FindPath.f x0 ((rd_T87 x10 x12).f0)).bind fun t315 => (if t315 < 0 then (some false) else ((impl_InRange.f ((rd_T87 x10 x12).f1) 0 100000).bind fun t316 => (if t316 = true then (if x12 > 0 then (if 0 ≤ (wrap64 (x12 - 1)) then (if (wrap64 (x12 - 1)) < (x1.length : Int) then (if ((rd_T87 x10 x12).f0) ≤ ((rd_T87 x1 (wrap64 (x12 - 1))).f0) then (some false) else (impl_AreWants.l0 k x0 x1 x10 x11 (wrap64 (x12 + 1)))) else (none)) else (none)) else (impl_AreWants.l0 k x0 x1 x10 x11 (wrap64 (x12 + 1)))) else (some false))))) else (none)) else (none)) else (some true)
def impl_AreWants.f (k : Nat) (l0 : List (S90)) (l1 : List (S87)) : Option (Bool) := (impl_ArePaths.f k l0).bind fun t312 => (if t312 = true then (impl_AreWants.l0 k l0 l1 l1 (l1.length : Int) 0) else (some false))
theorem impl_AreWants.mono_l : ∀ k, (∀ y0 y1 y2 y3 y4, LeO (impl_AreWants.l0 k y0 y1 y2 y3 y4) (impl_AreWants.l0 (k + 1) y0 y1 y2 y3 y4))
  | 0 => fun _ _ _ _ _ r h => by simp [impl_AreWants.l0] at h
  | k + 1 => by
    have ih0 := impl_AreWants.mono_l k
    · intro y0 y1 y2 y3 y4
      unfold impl_AreWants.l0
      repeat' first | (with_reducible first | exact LeO.refl _ | exact LeO.none _ | refine LeO.ite ?_ ?_ | refine LeO.bind ?_ (fun _ => ?_) | exact ih0 _ _ _ _ _ | exact impl_ArePaths.mono _ _) | exact LeO.none _ | refine LeO.ite ?_ ?_ | refine LeO.bind ?_ (fun _ => ?_) | exact ih0 _ _ _ _ _ | exact impl_ArePaths.mono _ _
theorem impl_AreWants.mono : ∀ a0 a1 k, LeO (impl_AreWants.f k a0 a1) (impl_AreWants.f (k + 1) a0 a1) := by
  intro a0 a1 k
  have ih0 := impl_AreWants.mono_l k
  unfold impl_AreWants.f
  repeat' first | (with_reducible first | exact LeO.refl _ | exact LeO.none _ | refine LeO.ite ?_ ?_ | refine LeO.bind ?_ (fun _ => ?_) | exact ih0 _ _ _ _ _ | exact impl_ArePaths.mono _ _) | exact LeO.none _ | refine LeO.ite ?_ ?_ | refine LeO.bind ?_ (fun _ => ?_) | exact ih0 _ _ _ _ _ | exact impl_ArePaths.mono _ _
def impl_AreWants.T6 : Bool × List (List Nat × List Nat) := (true, [([], []), ([], []), ([1], [1]), ([0, 2], [0, 2]), ([3], [3]), ([4, 3], [4]), ([5], [5]), ([6, 5], [5, 6]), ([7, 5, 5], [5, 7]), ([8, 5], [5, 8]), ([5, 9], [5, 9]), ([10, 8], [10]), ([11], [11]), ([12, 11], [11, 12]), ([13, 11, 11], [11, 13]), ([14], [14]), ([15, 14], [14, 15]), ([14], [14]), ([14], [14]), ([18, 14], [14, 18]), ([17, 19, 14], [14, 17, 19]), ([20, 14], [14, 20]), ([21, 14], [14, 21]), ([16, 22, 14], [14, 16, 22]), ([14, 23, 11], [11, 14, 23]), ([11, 24], [11, 24])])
def impl_AreWants.B6 : List Nat := [0, 0, 2, 7, 15, 31, 63, 127, 255, 511, 1023, 2047, 4095, 8191, 16383, 32767, 65535, 32767, 32767, 294911, 950271, 1998847, 4095999, 8388607, 16777215, 33554431]
theorem impl_AreWants.tab6 : rtab .any (opsOf Try.f36 6) = impl_AreWants.T6 := by kernel_rfl
theorem impl_AreWants.bits6 : waitsOk impl_AreWants.T6.2 impl_AreWants.B6 = true := by kernel_rfl
set_option maxHeartbeats 8000000 in
set_option maxRecDepth 100000 in
theorem impl_AreWants.calls (k : Nat) (A0 : Option Addr) (c0 : Nat) (l0 : List (S90)) (A1 : Option Addr) (c1 : Nat) (l1 : List (S87)) (r : Bool) (w : World) (hr0 : Kd.C k90 w A0 l0.length l0) (hc0 : l0.length ≤ c0) (hr1 : Kd.C k87 w A1 l1.length l1) (hc1 : l1.length ≤ c1) (h : impl_AreWants.f k l0 l1 = some r) :
    Calls Try.prog 36 #[.slice A0 l0.length c0, .slice A1 l1.length c1] w fun e w' => e = .returned (.bool r) ∧ Below w.heap.size w w' := by
  have hu87 := Try.underlying87
  have HR0 := Aside0.mk hr0
  have HC0 := Aside0.mk hc0
  clear hr0 hc0
  have HR1 := Aside0.mk hr1
  have HC1 := Aside0.mk hc1
  clear hr1 hc1
  have HB := Aside0.mk (Below.refl w.heap.size w)
  have H : ((impl_ArePaths.f k l0).bind fun t312 => (if t312 = true then (impl_AreWants.l0 k l0 l1 l1 (l1.length : Int) 0) else (some false))) = some r := h
  clear h
  obtain ⟨t312, A3, H⟩ := bindE H
  try dsimp only at H
  by_cases c4 : t312 = true
  · subst c4
    have H1 : (impl_AreWants.l0 k l0 l1 l1 (l1.length : Int) 0) = some r := by rw [if_pos rfl] at H; exact H
    clear H
    have H := H1
    clear H1
    have H' := Aside0.mk H
    clear H
    go_enter Try.func36, Try.ntmps36
    go_wp2_with (first | ((with_reducible refine gate_callee (f := 83) rfl ?_); refine gL (some 8) Try.func83 #[.slice A0 l0.length c0] ?_; (with_reducible refine (impl_ArePaths.calls k _ _ l0 true _ ?side1 ?side2 A3.out).mono ?_); (case side1 => exact cO HR0); (case side2 => exact HC0.out); rintro e w5 ⟨rfl, hb⟩; refine ⟨_, rfl, ?_⟩; replace HB := Aside0.mk (below_step bA hb); (try clear hb); (try clear hb2); (try clear hk); (try clear hi)))
    go_loopg [12] k (fun kq v12 w' => ∃ (x12_1 : Int), v12 = .int .i64 x12_1 ∧ Aside0 (impl_AreWants.l0 kq l0 l1 l1 (l1.length : Int) x12_1 = some r) ∧ Aside0 (kq ≤ k) ∧ Aside0 (Below w.heap.size w w'))
    case atStart => exact ⟨(0), rS, H', ⟨Nat.le_refl _⟩, ⟨bA⟩⟩
    case round =>
      clear H'
      try clear c1
      try clear p2
      try clear c3
      try clear c4
      obtain ⟨x12_1, rfl, HA, HK1, HB⟩ := hrel
      cases gk with
      | zero => exact absurd HA.out (by simp [impl_AreWants.l0])
      | succ k1 =>
        have H := HA.out
        clear HA
        simp only [impl_AreWants.l0] at H
        by_cases c6 : x12_1 < (l1.length : Int)
        · rw [if_pos c6] at H
          have c6b0 : decide (x12_1 < (l1.length : Int)) = true := decide_eq_true c6
          clear c6
          have c7 : 0 ≤ x12_1 := ifN H
          replace H := ifT H
          have c7b0 : decide (0 ≤ x12_1) = true := decide_eq_true c7
          clear c7
          have c8 : x12_1 < (l1.length : Int) := ifN H
          replace H := ifT H
          have c8b0 : decide (x12_1 < (l1.length : Int)) = true := decide_eq_true c8
          clear c8
          obtain ⟨t315, A9, H⟩ := bindE H
          try dsimp only at H
          by_cases c10 : t315 < 0
          · rw [if_pos c10] at H
            have c10b0 : decide (t315 < 0) = true := decide_eq_true c10
            clear c10
            obtain rfl := Option.some.inj H
            have p313 : 0 ≤ (x12_1 : Int) := dA
            have q313 : x12_1 < (l1.length : Int) := dA
            obtain ⟨ad313, e313, hx313_0, hx313_1⟩ := at_T87 HR1.out x12_1 p313 q313
            cases e313
            replace hx313_0 := hC HB hx313_0
            replace hx313_1 := hC HB hx313_1
            replace p313 := eq_true p313
            replace q313 := eq_true q313
            try go_wp2_with (first | ((with_reducible refine gate_dst (N := 6) rfl ?_); refine bE (N := 6) (cs := #[.int .i64 0, .int .i64 0]) (t := 87) ?_; intro gb314 hg w11 hbox hb; have n0_ := Aside0.mk (below_step bA hb); have n1_ := Aside0.mk (hbox); have n2_ := Aside0.mk ((by rw [hg]; exact (below_size bA) : w.heap.size ≤ gb314)); have n3_ := Aside0.mk ((by rw [hg]; exact (below_size bA) : w.heap.size ≤ gb314)); clear HB; have HB := n0_; have BK314 := n1_; have GW314 := n2_; have GE314 := n3_; clear n0_ n1_ n2_ n3_; clear hb hbox hg; obtain ⟨hcz12_0, hcz12_1, hfz12_0, hfz12_1⟩ := blkc2 BK314))
            have n0_ : Aside0 (((w11.setCell ⟨gb314, 0, none⟩ (.int .i64 ((rd_T87 l1 x12_1).f0))).setCell ⟨gb314, 1, none⟩ (.int .i64 ((rd_T87 l1 x12_1).f1))).heap[gb314]? = some (.cells #[.int .i64 ((rd_T87 l1 x12_1).f0), .int .i64 ((rd_T87 l1 x12_1).f1)] 87 (0, 0))) := ⟨by (with_reducible repeat (first | refine blk_drewN ?_ _ | refine blk_drew ?_ | refine blk_alloc ?_ _)); refine blk_put (cs := #[.int .i64 ((rd_T87 l1 x12_1).f0), .int .i64 0]) ?_ 1 _ rfl; (with_reducible repeat (first | refine blk_drewN ?_ _ | refine blk_drew ?_ | refine blk_alloc ?_ _)); refine blk_put (cs := #[.int .i64 0, .int .i64 0]) ?_ 0 _ rfl; (with_reducible repeat (first | refine blk_drewN ?_ _ | refine blk_drew ?_ | refine blk_alloc ?_ _)); exact BK314.out⟩
            have n1_ : Aside0 (Below w.heap.size w ((w11.setCell ⟨gb314, 0, none⟩ (.int .i64 ((rd_T87 l1 x12_1).f0))).setCell ⟨gb314, 1, none⟩ (.int .i64 ((rd_T87 l1 x12_1).f1)))) := ⟨bG⟩
            (try clear BK314)
            (try clear HB)
            generalize ((w11.setCell ⟨gb314, 0, none⟩ (.int .i64 ((rd_T87 l1 x12_1).f0))).setCell ⟨gb314, 1, none⟩ (.int .i64 ((rd_T87 l1 x12_1).f1))) = w13 at n0_ n1_ ⊢
            have BK314 := n0_
            have HB := n1_
            clear n0_ n1_
            replace BK314 := Aside0.mk (blk_drew BK314.out)
            have HBo := HB
            replace HB := Aside0.mk (below_drew1 HB.out)
            refine start_ (n := 26) (S := fun w' => w'.cell? ⟨gb314, 0, none⟩ = some (.int .i64 ((rd_T87 l1 x12_1).f0)) ∧ w'.cell? ⟨gb314, 1, none⟩ = some (.int .i64 ((rd_T87 l1 x12_1).f1))) (ds := []) (mb 26 0) (by kernel_rfl) rfl rfl ⟨(blk_cell BK314.out 0).trans rfl, (blk_cell BK314.out 1).trans rfl⟩ (fun hHeld => ?_); refine with_tabW impl_AreWants.tab6 impl_AreWants.bits6 (fun HT_ HW_ => ?_)
            generalize w13.drew = w14 at BK314 HB hHeld ⊢
            refine pA (i := 0) (N := some 17) (mb 26 1) HT_ ?_
            refine pA (i := 1) (N := some 18) (mb 26 3) HT_ ?_
            refine tA2 (i := 2) (N := some 19) (mb 26 7) HT_ HW_ hHeld ?_
            refine oA (i := 3) (N := some 20) (mb 26 15) HT_ (fun K hK => ?_)
            refine gA Try.func84 #[.slice A0 l0.length c0, .int .i64 ((rd_T87 l1 x12_1).f0)] ?_
            with_reducible refine (impl_FindPath.calls _ _ l0 ((rd_T87 l1 x12_1).f0) t315 _ ?side1 ?side2 A9.out).mono ?_
            (case side1 => exact cB HR0)
            (case side2 => exact HC0.out)
            rintro e w15 ⟨rfl, hb⟩
            refine ⟨_, rfl, ?_⟩
            replace BK314 := Aside0.mk (blk_below (g := gb314) (bK BK314) hb)
            replace HB := Aside0.mk (below_step bG hb)
            (try clear hb)
            (try clear hb2)
            (try clear hk)
            (try clear hi)
            refine hK.out _ _ ⟨(blk_cell BK314.out 0).trans rfl, (blk_cell BK314.out 1).trans rfl⟩ (fun hHeld => ?_)
            clear hK K
            refine nA ?_
            refine pA (i := 4) (N := some 21) (mb 26 31) HT_ ?_
            refine pA (i := 5) (N := some 22) (mb 26 63) HT_ ?_
            refine pU (i := 6) (N := some 23) (mb 26 127) HT_ ?_
            refine pU (i := 7) (N := some 24) (mb 26 255) HT_ ?_
            refine pU (i := 8) (N := some 25) (mb 26 511) HT_ ?_
            refine pU (i := 9) (N := some 26) (mb 26 1023) HT_ ?_
            refine pA (i := 10) (N := some 27) (mb 26 2047) HT_ ?_
            refine pA (i := 11) (N := some 28) (mb 26 4095) HT_ ?_
            refine pU (i := 12) (N := some 29) (mb 26 8191) HT_ ?_
            refine pU (i := 13) (N := some 30) (mb 26 16383) HT_ ?_
            refine pU (i := 14) (N := some 31) (mb 26 32767) HT_ ?_
            refine pU (i := 15) (N := some 32) (mb 26 65535) HT_ ?_
            refine pU (i := 16) (N := some 33) (mb 26 131071) HT_ ?_
            refine pU (i := 17) (N := some 34) (mb 26 262143) HT_ ?_
            refine pU (i := 18) (N := some 35) (mb 26 524287) HT_ ?_
            refine pU (i := 19) (N := some 36) (mb 26 1048575) HT_ ?_
            refine pU (i := 20) (N := some 37) (mb 26 2097151) HT_ ?_
            refine pU (i := 21) (N := some 38) (mb 26 4194303) HT_ ?_
            refine pU (i := 22) (N := some 39) (mb 26 8388607) HT_ ?_
            refine pU (i := 23) (N := some 40) (mb 26 16777215) HT_ ?_
            refine pU (i := 24) (N := some 41) (mb 26 33554431) HT_ ?_
            refine pA (i := 25) (N := some 42) (mb 26 67108863) HT_ ?_
            refine eA HT_ ?_
            try go_wp2
            go_ret
            exact ⟨rA, bG⟩
          · rw [if_neg c10] at H
            have c10b0 : decide (t315 < 0) = false := decide_eq_false c10
            clear c10
            obtain ⟨t316, A16, H⟩ := bindE H
            try dsimp only at H
            by_cases c17 : t316 = true
            · subst c17
              have H1 : (if x12_1 > 0 then (if 0 ≤ (wrap64 (x12_1 - 1)) then (if (wrap64 (x12_1 - 1)) < (l1.length : Int) then (if ((rd_T87 l1 x12_1).f0) ≤ ((rd_T87 l1 (wrap64 (x12_1 - 1))).f0) then (some false) else (impl_AreWants.l0 k1 l0 l1 l1 (l1.length : Int) (wrap64 (x12_1 + 1)))) else (none)) else (none)) else (impl_AreWants.l0 k1 l0 l1 l1 (l1.length : Int) (wrap64 (x12_1 + 1)))) = some r := by rw [if_pos rfl] at H; exact H
              clear H
              have H := H1
              clear H1
              by_cases c18 : x12_1 > 0
              · rw [if_pos c18] at H
                have c18b0 : decide (0 < x12_1) = true := decide_eq_true c18
                clear c18
                obtain ⟨ji19, hji19⟩ : ∃ j_ : Int, (wrap64 (x12_1 - 1)) = j_ := ⟨_, rfl⟩
                replace H : (if 0 ≤ (ji19) then (if (ji19) < (l1.length : Int) then (if ((rd_T87 l1 x12_1).f0) ≤ ((rd_T87 l1 (ji19)).f0) then (some false) else (impl_AreWants.l0 k1 l0 l1 l1 (l1.length : Int) (wrap64 (x12_1 + 1)))) else (none)) else (none)) = some r := by first | (rw [hji19] at H; exact H) | (simp only [hji19] at H ⊢; exact H)
                (try rw [hji19] at A9)
                (try rw [hji19] at A16)
                have hji19w : (IntKind.i64.wrap (x12_1 - 1)) = ji19 := (i64_w _).trans hji19
                have c20 : 0 ≤ (ji19) := ifN H
                replace H := ifT H
                have c20b0 : decide (0 ≤ (ji19)) = true := decide_eq_true c20
                clear c20
                have c21 : (ji19) < (l1.length : Int) := ifN H
                replace H := ifT H
                have c21b0 : decide ((ji19) < (l1.length : Int)) = true := decide_eq_true c21
                clear c21
                by_cases c22 : ((rd_T87 l1 x12_1).f0) ≤ ((rd_T87 l1 (ji19)).f0)
                · rw [if_pos c22] at H
                  have c22b0 : decide (((rd_T87 l1 x12_1).f0) ≤ ((rd_T87 l1 (ji19)).f0)) = true := decide_eq_true c22
                  clear c22
                  obtain rfl := Option.some.inj H
                  have p313 : 0 ≤ (x12_1 : Int) := dA
                  have q313 : x12_1 < (l1.length : Int) := dA
                  obtain ⟨ad313, e313, hx313_0, hx313_1⟩ := at_T87 HR1.out x12_1 p313 q313
                  cases e313
                  replace hx313_0 := hC HB hx313_0
                  replace hx313_1 := hC HB hx313_1
                  replace p313 := eq_true p313
                  replace q313 := eq_true q313
                  try go_wp2_with (first | ((with_reducible refine gate_dst (N := 6) rfl ?_); refine bE (N := 6) (cs := #[.int .i64 0, .int .i64 0]) (t := 87) ?_; intro gb314 hg w23 hbox hb; have n0_ := Aside0.mk (below_step bA hb); have n1_ := Aside0.mk (hbox); have n2_ := Aside0.mk ((by rw [hg]; exact (below_size bA) : w.heap.size ≤ gb314)); have n3_ := Aside0.mk ((by rw [hg]; exact (below_size bA) : w.heap.size ≤ gb314)); clear HB; have HB := n0_; have BK314 := n1_; have GW314 := n2_; have GE314 := n3_; clear n0_ n1_ n2_ n3_; clear hb hbox hg; obtain ⟨hcz24_0, hcz24_1, hfz24_0, hfz24_1⟩ := blkc2 BK314))
                  have n0_ : Aside0 (((w23.setCell ⟨gb314, 0, none⟩ (.int .i64 ((rd_T87 l1 x12_1).f0))).setCell ⟨gb314, 1, none⟩ (.int .i64 ((rd_T87 l1 x12_1).f1))).heap[gb314]? = some (.cells #[.int .i64 ((rd_T87 l1 x12_1).f0), .int .i64 ((rd_T87 l1 x12_1).f1)] 87 (0, 0))) := ⟨by (with_reducible repeat (first | refine blk_drewN ?_ _ | refine blk_drew ?_ | refine blk_alloc ?_ _)); refine blk_put (cs := #[.int .i64 ((rd_T87 l1 x12_1).f0), .int .i64 0]) ?_ 1 _ rfl; (with_reducible repeat (first | refine blk_drewN ?_ _ | refine blk_drew ?_ | refine blk_alloc ?_ _)); refine blk_put (cs := #[.int .i64 0, .int .i64 0]) ?_ 0 _ rfl; (with_reducible repeat (first | refine blk_drewN ?_ _ | refine blk_drew ?_ | refine blk_alloc ?_ _)); exact BK314.out⟩
                  have n1_ : Aside0 (Below w.heap.size w ((w23.setCell ⟨gb314, 0, none⟩ (.int .i64 ((rd_T87 l1 x12_1).f0))).setCell ⟨gb314, 1, none⟩ (.int .i64 ((rd_T87 l1 x12_1).f1)))) := ⟨bG⟩
                  (try clear BK314)
                  (try clear HB)
                  generalize ((w23.setCell ⟨gb314, 0, none⟩ (.int .i64 ((rd_T87 l1 x12_1).f0))).setCell ⟨gb314, 1, none⟩ (.int .i64 ((rd_T87 l1 x12_1).f1))) = w25 at n0_ n1_ ⊢
                  have BK314 := n0_
                  have HB := n1_
                  clear n0_ n1_
                  replace BK314 := Aside0.mk (blk_drew BK314.out)
                  have HBo := HB
                  replace HB := Aside0.mk (below_drew1 HB.out)
                  have p317 : 0 ≤ ((ji19) : Int) := dA
                  have q317 : (ji19) < (l1.length : Int) := dA
                  obtain ⟨ad317, e317, hx317_0, hx317_1⟩ := at_T87 HR1.out (ji19) p317 q317
                  have hw317_1 := hx317_1
                  have hw317_0 := hx317_0
                  obtain rfl : ad313 = ad317 := (by injection e317)
                  replace hx317_0 := hC HB hx317_0
                  replace hx317_1 := hC HB hx317_1
                  replace p317 := eq_true p317
                  replace q317 := eq_true q317
                  refine start_ (n := 26) (S := fun w' => w'.cell? ⟨gb314, 0, none⟩ = some (.int .i64 ((rd_T87 l1 x12_1).f0)) ∧ w'.cell? ⟨gb314, 1, none⟩ = some (.int .i64 ((rd_T87 l1 x12_1).f1)) ∧ w'.cell? (ad313.add (((ji19)).toNat * 2)) = some (.int .i64 ((rd_T87 l1 (ji19)).f0)) ∧ w'.cell? ⟨(ad313.add (((ji19)).toNat * 2)).block, (ad313.add (((ji19)).toNat * 2)).off + 1, none⟩ = some (.int .i64 ((rd_T87 l1 (ji19)).f1))) (ds := []) (mb 26 0) (by kernel_rfl) rfl rfl ⟨(blk_cell BK314.out 0).trans rfl, (blk_cell BK314.out 1).trans rfl, (hC HB hw317_0), (hC HB hw317_1)⟩ (fun hHeld => ?_); refine with_tabW impl_AreWants.tab6 impl_AreWants.bits6 (fun HT_ HW_ => ?_)
                  generalize w25.drew = w26 at BK314 HB hx317_0 hx317_1 hHeld ⊢
                  refine pA (i := 0) (N := some 17) (mb 26 1) HT_ ?_
                  refine pA (i := 1) (N := some 18) (mb 26 3) HT_ ?_
                  refine tA4 (i := 2) (N := some 19) (mb 26 7) HT_ HW_ hHeld ?_
                  refine oA (i := 3) (N := some 20) (mb 26 15) HT_ (fun K hK => ?_)
                  refine gA Try.func84 #[.slice A0 l0.length c0, .int .i64 ((rd_T87 l1 x12_1).f0)] ?_
                  with_reducible refine (impl_FindPath.calls _ _ l0 ((rd_T87 l1 x12_1).f0) t315 _ ?side1 ?side2 A9.out).mono ?_
                  (case side1 => exact cB HR0)
                  (case side2 => exact HC0.out)
                  rintro e w27 ⟨rfl, hb⟩
                  refine ⟨_, rfl, ?_⟩
                  replace BK314 := Aside0.mk (blk_below (g := gb314) (bK BK314) hb)
                  replace HB := Aside0.mk (below_step bG hb)
                  (try clear hb)
                  (try clear hb2)
                  (try clear hk)
                  (try clear hi)
                  refine hK.out _ _ ⟨(blk_cell BK314.out 0).trans rfl, (blk_cell BK314.out 1).trans rfl, (hC HB hw317_0), (hC HB hw317_1)⟩ (fun hHeld => ?_)
                  clear hK K
                  refine nA ?_
                  refine pA (i := 4) (N := some 21) (mb 26 31) HT_ ?_
                  refine pA (i := 5) (N := some 22) (mb 26 63) HT_ ?_
                  refine pA (i := 6) (N := some 23) (mb 26 127) HT_ ?_
                  refine tA4 (i := 7) (N := some 24) (mb 26 255) HT_ HW_ hHeld ?_
                  refine oA (i := 8) (N := some 25) (mb 26 511) HT_ (fun K hK => ?_)
                  refine gA Try.func69 #[.int .i64 ((rd_T87 l1 x12_1).f1), .int .i64 0, .int .i64 100000] ?_
                  with_reducible refine (impl_InRange.calls ((rd_T87 l1 x12_1).f1) 0 100000 true _ A16.out).mono ?_
                  rintro e w' ⟨rfl, ⟨nd, rfl⟩⟩
                  refine ⟨_, rfl, ?_⟩
                  refine hK.out _ _ ⟨(blk_cell BK314.out 0).trans rfl, (blk_cell BK314.out 1).trans rfl, (hC HB hw317_0), (hC HB hw317_1)⟩ (fun hHeld => ?_)
                  clear hK K
                  refine nA ?_
                  refine pA (i := 9) (N := some 26) (mb 26 1023) HT_ ?_
                  refine pA (i := 10) (N := some 27) (mb 26 2047) HT_ ?_
                  refine pA (i := 11) (N := some 28) (mb 26 4095) HT_ ?_
                  refine pA (i := 12) (N := some 29) (mb 26 8191) HT_ ?_
                  refine pA (i := 13) (N := some 30) (mb 26 16383) HT_ ?_
                  refine pA (i := 14) (N := some 31) (mb 26 32767) HT_ ?_
                  refine pA (i := 15) (N := some 32) (mb 26 65535) HT_ ?_
                  refine pA (i := 17) (N := some 34) (mb 26 196607) HT_ ?_
                  refine pA (i := 18) (N := some 35) (mb 26 458751) HT_ ?_
                  refine pA (i := 19) (N := some 36) (mb 26 983039) HT_ ?_
                  refine pA (i := 20) (N := some 37) (mb 26 2031615) HT_ ?_
                  refine pA (i := 21) (N := some 38) (mb 26 4128767) HT_ ?_
                  refine tA4 (i := 16) (N := some 33) (mb 26 4194303) HT_ HW_ hHeld ?_
                  refine tA4 (i := 22) (N := some 39) (mb 26 8388607) HT_ HW_ hHeld ?_
                  refine pA (i := 23) (N := some 40) (mb 26 16777215) HT_ ?_
                  refine pA (i := 24) (N := some 41) (mb 26 33554431) HT_ ?_
                  refine pA (i := 25) (N := some 42) (mb 26 67108863) HT_ ?_
                  refine eA HT_ ?_
                  try go_wp2
                  go_ret
                  exact ⟨by first | rfl | (simp [errW_none, errW_some] <;> rfl) | (simp only [← hji19]; first | rfl | (simp [errW_none, errW_some] <;> rfl)) | (simp [*, errW_none, errW_some] <;> rfl), bG⟩
                · rw [if_neg c22] at H
                  have c22b0 : decide (((rd_T87 l1 x12_1).f0) ≤ ((rd_T87 l1 (ji19)).f0)) = false := decide_eq_false c22
                  clear c22
                  have H' := Aside0.mk H
                  clear H
                  have p313 : 0 ≤ (x12_1 : Int) := dA
                  have q313 : x12_1 < (l1.length : Int) := dA
                  obtain ⟨ad313, e313, hx313_0, hx313_1⟩ := at_T87 HR1.out x12_1 p313 q313
                  cases e313
                  replace hx313_0 := hC HB hx313_0
                  replace hx313_1 := hC HB hx313_1
                  replace p313 := eq_true p313
                  replace q313 := eq_true q313
                  try go_wp2_with (first | ((with_reducible refine gate_dst (N := 6) rfl ?_); refine bE (N := 6) (cs := #[.int .i64 0, .int .i64 0]) (t := 87) ?_; intro gb314 hg w28 hbox hb; have n0_ := Aside0.mk (below_step bA hb); have n1_ := Aside0.mk (hbox); have n2_ := Aside0.mk ((by rw [hg]; exact (below_size bA) : w.heap.size ≤ gb314)); have n3_ := Aside0.mk ((by rw [hg]; exact (below_size bA) : w.heap.size ≤ gb314)); clear HB; have HB := n0_; have BK314 := n1_; have GW314 := n2_; have GE314 := n3_; clear n0_ n1_ n2_ n3_; clear hb hbox hg; obtain ⟨hcz29_0, hcz29_1, hfz29_0, hfz29_1⟩ := blkc2 BK314))
                  have n0_ : Aside0 (((w28.setCell ⟨gb314, 0, none⟩ (.int .i64 ((rd_T87 l1 x12_1).f0))).setCell ⟨gb314, 1, none⟩ (.int .i64 ((rd_T87 l1 x12_1).f1))).heap[gb314]? = some (.cells #[.int .i64 ((rd_T87 l1 x12_1).f0), .int .i64 ((rd_T87 l1 x12_1).f1)] 87 (0, 0))) := ⟨by (with_reducible repeat (first | refine blk_drewN ?_ _ | refine blk_drew ?_ | refine blk_alloc ?_ _)); refine blk_put (cs := #[.int .i64 ((rd_T87 l1 x12_1).f0), .int .i64 0]) ?_ 1 _ rfl; (with_reducible repeat (first | refine blk_drewN ?_ _ | refine blk_drew ?_ | refine blk_alloc ?_ _)); refine blk_put (cs := #[.int .i64 0, .int .i64 0]) ?_ 0 _ rfl; (with_reducible repeat (first | refine blk_drewN ?_ _ | refine blk_drew ?_ | refine blk_alloc ?_ _)); exact BK314.out⟩
                  have n1_ : Aside0 (Below w.heap.size w ((w28.setCell ⟨gb314, 0, none⟩ (.int .i64 ((rd_T87 l1 x12_1).f0))).setCell ⟨gb314, 1, none⟩ (.int .i64 ((rd_T87 l1 x12_1).f1)))) := ⟨bG⟩
                  (try clear BK314)
                  (try clear HB)
                  generalize ((w28.setCell ⟨gb314, 0, none⟩ (.int .i64 ((rd_T87 l1 x12_1).f0))).setCell ⟨gb314, 1, none⟩ (.int .i64 ((rd_T87 l1 x12_1).f1))) = w30 at n0_ n1_ ⊢
                  have BK314 := n0_
                  have HB := n1_
                  clear n0_ n1_
                  replace BK314 := Aside0.mk (blk_drew BK314.out)
                  have HBo := HB
                  replace HB := Aside0.mk (below_drew1 HB.out)
                  have p317 : 0 ≤ ((ji19) : Int) := dA
                  have q317 : (ji19) < (l1.length : Int) := dA
                  obtain ⟨ad317, e317, hx317_0, hx317_1⟩ := at_T87 HR1.out (ji19) p317 q317
                  have hw317_1 := hx317_1
                  have hw317_0 := hx317_0
                  obtain rfl : ad313 = ad317 := (by injection e317)
                  replace hx317_0 := hC HB hx317_0
                  replace hx317_1 := hC HB hx317_1
                  replace p317 := eq_true p317
                  replace q317 := eq_true q317
                  refine start_ (n := 26) (S := fun w' => w'.cell? ⟨gb314, 0, none⟩ = some (.int .i64 ((rd_T87 l1 x12_1).f0)) ∧ w'.cell? ⟨gb314, 1, none⟩ = some (.int .i64 ((rd_T87 l1 x12_1).f1)) ∧ w'.cell? (ad313.add (((ji19)).toNat * 2)) = some (.int .i64 ((rd_T87 l1 (ji19)).f0)) ∧ w'.cell? ⟨(ad313.add (((ji19)).toNat * 2)).block, (ad313.add (((ji19)).toNat * 2)).off + 1, none⟩ = some (.int .i64 ((rd_T87 l1 (ji19)).f1))) (ds := []) (mb 26 0) (by kernel_rfl) rfl rfl ⟨(blk_cell BK314.out 0).trans rfl, (blk_cell BK314.out 1).trans rfl, (hC HB hw317_0), (hC HB hw317_1)⟩ (fun hHeld => ?_); refine with_tabW impl_AreWants.tab6 impl_AreWants.bits6 (fun HT_ HW_ => ?_)
                  generalize w30.drew = w31 at BK314 HB hx317_0 hx317_1 hHeld ⊢
                  refine pA (i := 0) (N := some 17) (mb 26 1) HT_ ?_
                  refine pA (i := 1) (N := some 18) (mb 26 3) HT_ ?_
                  refine tA4 (i := 2) (N := some 19) (mb 26 7) HT_ HW_ hHeld ?_
                  refine oA (i := 3) (N := some 20) (mb 26 15) HT_ (fun K hK => ?_)
                  refine gA Try.func84 #[.slice A0 l0.length c0, .int .i64 ((rd_T87 l1 x12_1).f0)] ?_
                  with_reducible refine (impl_FindPath.calls _ _ l0 ((rd_T87 l1 x12_1).f0) t315 _ ?side1 ?side2 A9.out).mono ?_
                  (case side1 => exact cB HR0)
                  (case side2 => exact HC0.out)
                  rintro e w32 ⟨rfl, hb⟩
                  refine ⟨_, rfl, ?_⟩
                  replace BK314 := Aside0.mk (blk_below (g := gb314) (bK BK314) hb)
                  replace HB := Aside0.mk (below_step bG hb)
                  (try clear hb)
                  (try clear hb2)
                  (try clear hk)
                  (try clear hi)
                  refine hK.out _ _ ⟨(blk_cell BK314.out 0).trans rfl, (blk_cell BK314.out 1).trans rfl, (hC HB hw317_0), (hC HB hw317_1)⟩ (fun hHeld => ?_)
                  clear hK K
                  refine nA ?_
                  refine pA (i := 4) (N := some 21) (mb 26 31) HT_ ?_
                  refine pA (i := 5) (N := some 22) (mb 26 63) HT_ ?_
                  refine pA (i := 6) (N := some 23) (mb 26 127) HT_ ?_
                  refine tA4 (i := 7) (N := some 24) (mb 26 255) HT_ HW_ hHeld ?_
                  refine oA (i := 8) (N := some 25) (mb 26 511) HT_ (fun K hK => ?_)
                  refine gA Try.func69 #[.int .i64 ((rd_T87 l1 x12_1).f1), .int .i64 0, .int .i64 100000] ?_
                  with_reducible refine (impl_InRange.calls ((rd_T87 l1 x12_1).f1) 0 100000 true _ A16.out).mono ?_
                  rintro e w' ⟨rfl, ⟨nd, rfl⟩⟩
                  refine ⟨_, rfl, ?_⟩
                  refine hK.out _ _ ⟨(blk_cell BK314.out 0).trans rfl, (blk_cell BK314.out 1).trans rfl, (hC HB hw317_0), (hC HB hw317_1)⟩ (fun hHeld => ?_)
                  clear hK K
                  refine nA ?_
                  refine pA (i := 9) (N := some 26) (mb 26 1023) HT_ ?_
                  refine pA (i := 10) (N := some 27) (mb 26 2047) HT_ ?_
                  refine pA (i := 11) (N := some 28) (mb 26 4095) HT_ ?_
                  refine pA (i := 12) (N := some 29) (mb 26 8191) HT_ ?_
                  refine pA (i := 13) (N := some 30) (mb 26 16383) HT_ ?_
                  refine pA (i := 14) (N := some 31) (mb 26 32767) HT_ ?_
                  refine pA (i := 15) (N := some 32) (mb 26 65535) HT_ ?_
                  refine pA (i := 17) (N := some 34) (mb 26 196607) HT_ ?_
                  refine pA (i := 18) (N := some 35) (mb 26 458751) HT_ ?_
                  refine pA (i := 19) (N := some 36) (mb 26 983039) HT_ ?_
                  refine pA (i := 20) (N := some 37) (mb 26 2031615) HT_ ?_
                  refine pA (i := 21) (N := some 38) (mb 26 4128767) HT_ ?_
                  refine tA4 (i := 16) (N := some 33) (mb 26 4194303) HT_ HW_ hHeld ?_
                  refine tA4 (i := 22) (N := some 39) (mb 26 8388607) HT_ HW_ hHeld ?_
                  refine pA (i := 23) (N := some 40) (mb 26 16777215) HT_ ?_
                  refine pA (i := 24) (N := some 41) (mb 26 33554431) HT_ ?_
                  refine pA (i := 25) (N := some 42) (mb 26 67108863) HT_ ?_
                  refine eA HT_ ?_
                  try go_wp2
                  go_roundg k1
                  case measure => have := HK1.out; omega
                  case rel => exact ⟨(wrap64 (x12_1 + 1)), rS, H', ⟨by have := HK1.out; omega⟩, ⟨bG⟩⟩
              · rw [if_neg c18] at H
                have c18b0 : decide (0 < x12_1) = false := decide_eq_false c18
                clear c18
                have H' := Aside0.mk H
                clear H
                have p313 : 0 ≤ (x12_1 : Int) := dA
                have q313 : x12_1 < (l1.length : Int) := dA
                obtain ⟨ad313, e313, hx313_0, hx313_1⟩ := at_T87 HR1.out x12_1 p313 q313
                cases e313
                replace hx313_0 := hC HB hx313_0
                replace hx313_1 := hC HB hx313_1
                replace p313 := eq_true p313
                replace q313 := eq_true q313
                try go_wp2_with (first | ((with_reducible refine gate_dst (N := 6) rfl ?_); refine bE (N := 6) (cs := #[.int .i64 0, .int .i64 0]) (t := 87) ?_; intro gb314 hg w33 hbox hb; have n0_ := Aside0.mk (below_step bA hb); have n1_ := Aside0.mk (hbox); have n2_ := Aside0.mk ((by rw [hg]; exact (below_size bA) : w.heap.size ≤ gb314)); have n3_ := Aside0.mk ((by rw [hg]; exact (below_size bA) : w.heap.size ≤ gb314)); clear HB; have HB := n0_; have BK314 := n1_; have GW314 := n2_; have GE314 := n3_; clear n0_ n1_ n2_ n3_; clear hb hbox hg; obtain ⟨hcz34_0, hcz34_1, hfz34_0, hfz34_1⟩ := blkc2 BK314))
                have n0_ : Aside0 (((w33.setCell ⟨gb314, 0, none⟩ (.int .i64 ((rd_T87 l1 x12_1).f0))).setCell ⟨gb314, 1, none⟩ (.int .i64 ((rd_T87 l1 x12_1).f1))).heap[gb314]? = some (.cells #[.int .i64 ((rd_T87 l1 x12_1).f0), .int .i64 ((rd_T87 l1 x12_1).f1)] 87 (0, 0))) := ⟨by (with_reducible repeat (first | refine blk_drewN ?_ _ | refine blk_drew ?_ | refine blk_alloc ?_ _)); refine blk_put (cs := #[.int .i64 ((rd_T87 l1 x12_1).f0), .int .i64 0]) ?_ 1 _ rfl; (with_reducible repeat (first | refine blk_drewN ?_ _ | refine blk_drew ?_ | refine blk_alloc ?_ _)); refine blk_put (cs := #[.int .i64 0, .int .i64 0]) ?_ 0 _ rfl; (with_reducible repeat (first | refine blk_drewN ?_ _ | refine blk_drew ?_ | refine blk_alloc ?_ _)); exact BK314.out⟩
                have n1_ : Aside0 (Below w.heap.size w ((w33.setCell ⟨gb314, 0, none⟩ (.int .i64 ((rd_T87 l1 x12_1).f0))).setCell ⟨gb314, 1, none⟩ (.int .i64 ((rd_T87 l1 x12_1).f1)))) := ⟨bG⟩
                (try clear BK314)
                (try clear HB)
                generalize ((w33.setCell ⟨gb314, 0, none⟩ (.int .i64 ((rd_T87 l1 x12_1).f0))).setCell ⟨gb314, 1, none⟩ (.int .i64 ((rd_T87 l1 x12_1).f1))) = w35 at n0_ n1_ ⊢
                have BK314 := n0_
                have HB := n1_
                clear n0_ n1_
                replace BK314 := Aside0.mk (blk_drew BK314.out)
                have HBo := HB
                replace HB := Aside0.mk (below_drew1 HB.out)
                refine start_ (n := 26) (S := fun w' => w'.cell? ⟨gb314, 0, none⟩ = some (.int .i64 ((rd_T87 l1 x12_1).f0)) ∧ w'.cell? ⟨gb314, 1, none⟩ = some (.int .i64 ((rd_T87 l1 x12_1).f1))) (ds := []) (mb 26 0) (by kernel_rfl) rfl rfl ⟨(blk_cell BK314.out 0).trans rfl, (blk_cell BK314.out 1).trans rfl⟩ (fun hHeld => ?_); refine with_tabW impl_AreWants.tab6 impl_AreWants.bits6 (fun HT_ HW_ => ?_)
                generalize w35.drew = w36 at BK314 HB hHeld ⊢
                refine pA (i := 0) (N := some 17) (mb 26 1) HT_ ?_
                refine pA (i := 1) (N := some 18) (mb 26 3) HT_ ?_
                refine tA2 (i := 2) (N := some 19) (mb 26 7) HT_ HW_ hHeld ?_
                refine oA (i := 3) (N := some 20) (mb 26 15) HT_ (fun K hK => ?_)
                refine gA Try.func84 #[.slice A0 l0.length c0, .int .i64 ((rd_T87 l1 x12_1).f0)] ?_
                with_reducible refine (impl_FindPath.calls _ _ l0 ((rd_T87 l1 x12_1).f0) t315 _ ?side1 ?side2 A9.out).mono ?_
                (case side1 => exact cB HR0)
                (case side2 => exact HC0.out)
                rintro e w37 ⟨rfl, hb⟩
                refine ⟨_, rfl, ?_⟩
                replace BK314 := Aside0.mk (blk_below (g := gb314) (bK BK314) hb)
                replace HB := Aside0.mk (below_step bG hb)
                (try clear hb)
                (try clear hb2)
                (try clear hk)
                (try clear hi)
                refine hK.out _ _ ⟨(blk_cell BK314.out 0).trans rfl, (blk_cell BK314.out 1).trans rfl⟩ (fun hHeld => ?_)
                clear hK K
                refine nA ?_
                refine pA (i := 4) (N := some 21) (mb 26 31) HT_ ?_
                refine pA (i := 5) (N := some 22) (mb 26 63) HT_ ?_
                refine pA (i := 6) (N := some 23) (mb 26 127) HT_ ?_
                refine tA2 (i := 7) (N := some 24) (mb 26 255) HT_ HW_ hHeld ?_
                refine oA (i := 8) (N := some 25) (mb 26 511) HT_ (fun K hK => ?_)
                refine gA Try.func69 #[.int .i64 ((rd_T87 l1 x12_1).f1), .int .i64 0, .int .i64 100000] ?_
                with_reducible refine (impl_InRange.calls ((rd_T87 l1 x12_1).f1) 0 100000 true _ A16.out).mono ?_
                rintro e w' ⟨rfl, ⟨nd, rfl⟩⟩
                refine ⟨_, rfl, ?_⟩
                refine hK.out _ _ ⟨(blk_cell BK314.out 0).trans rfl, (blk_cell BK314.out 1).trans rfl⟩ (fun hHeld => ?_)
                clear hK K
                refine nA ?_
                refine pA (i := 9) (N := some 26) (mb 26 1023) HT_ ?_
                refine pA (i := 10) (N := some 27) (mb 26 2047) HT_ ?_
                refine pA (i := 11) (N := some 28) (mb 26 4095) HT_ ?_
                refine pA (i := 12) (N := some 29) (mb 26 8191) HT_ ?_
                refine pA (i := 13) (N := some 30) (mb 26 16383) HT_ ?_
                refine pA (i := 14) (N := some 31) (mb 26 32767) HT_ ?_
                refine pU (i := 15) (N := some 32) (mb 26 65535) HT_ ?_
                refine pU (i := 16) (N := some 33) (mb 26 131071) HT_ ?_
                refine pU (i := 17) (N := some 34) (mb 26 262143) HT_ ?_
                refine pU (i := 18) (N := some 35) (mb 26 524287) HT_ ?_
                refine pU (i := 19) (N := some 36) (mb 26 1048575) HT_ ?_
                refine pU (i := 20) (N := some 37) (mb 26 2097151) HT_ ?_
                refine pU (i := 21) (N := some 38) (mb 26 4194303) HT_ ?_
                refine pU (i := 22) (N := some 39) (mb 26 8388607) HT_ ?_
                refine pU (i := 23) (N := some 40) (mb 26 16777215) HT_ ?_
                refine pA (i := 24) (N := some 41) (mb 26 33554431) HT_ ?_
                refine pA (i := 25) (N := some 42) (mb 26 67108863) HT_ ?_
                refine eA HT_ ?_
                try go_wp2
                go_roundg k1
                case measure => have := HK1.out; omega
                case rel => exact ⟨(wrap64 (x12_1 + 1)), rS, H', ⟨by have := HK1.out; omega⟩, ⟨bG⟩⟩
            · replace c17 := Bool.eq_false_iff.mpr c17
              subst c17
              have H1 : (some false) = some r := by rw [if_neg (show ¬ (false = true) by decide)] at H; exact H
              clear H
              have H := H1
              clear H1
              obtain rfl := Option.some.inj H
              have p313 : 0 ≤ (x12_1 : Int) := dA
              have q313 : x12_1 < (l1.length : Int) := dA
              obtain ⟨ad313, e313, hx313_0, hx313_1⟩ := at_T87 HR1.out x12_1 p313 q313
              cases e313
              replace hx313_0 := hC HB hx313_0
              replace hx313_1 := hC HB hx313_1
              replace p313 := eq_true p313
              replace q313 := eq_true q313
              try go_wp2_with (first | ((with_reducible refine gate_dst (N := 6) rfl ?_); refine bE (N := 6) (cs := #[.int .i64 0, .int .i64 0]) (t := 87) ?_; intro gb314 hg w38 hbox hb; have n0_ := Aside0.mk (below_step bA hb); have n1_ := Aside0.mk (hbox); have n2_ := Aside0.mk ((by rw [hg]; exact (below_size bA) : w.heap.size ≤ gb314)); have n3_ := Aside0.mk ((by rw [hg]; exact (below_size bA) : w.heap.size ≤ gb314)); clear HB; have HB := n0_; have BK314 := n1_; have GW314 := n2_; have GE314 := n3_; clear n0_ n1_ n2_ n3_; clear hb hbox hg; obtain ⟨hcz39_0, hcz39_1, hfz39_0, hfz39_1⟩ := blkc2 BK314))
              have n0_ : Aside0 (((w38.setCell ⟨gb314, 0, none⟩ (.int .i64 ((rd_T87 l1 x12_1).f0))).setCell ⟨gb314, 1, none⟩ (.int .i64 ((rd_T87 l1 x12_1).f1))).heap[gb314]? = some (.cells #[.int .i64 ((rd_T87 l1 x12_1).f0), .int .i64 ((rd_T87 l1 x12_1).f1)] 87 (0, 0))) := ⟨by (with_reducible repeat (first | refine blk_drewN ?_ _ | refine blk_drew ?_ | refine blk_alloc ?_ _)); refine blk_put (cs := #[.int .i64 ((rd_T87 l1 x12_1).f0), .int .i64 0]) ?_ 1 _ rfl; (with_reducible repeat (first | refine blk_drewN ?_ _ | refine blk_drew ?_ | refine blk_alloc ?_ _)); refine blk_put (cs := #[.int .i64 0, .int .i64 0]) ?_ 0 _ rfl; (with_reducible repeat (first | refine blk_drewN ?_ _ | refine blk_drew ?_ | refine blk_alloc ?_ _)); exact BK314.out⟩
              have n1_ : Aside0 (Below w.heap.size w ((w38.setCell ⟨gb314, 0, none⟩ (.int .i64 ((rd_T87 l1 x12_1).f0))).setCell ⟨gb314, 1, none⟩ (.int .i64 ((rd_T87 l1 x12_1).f1)))) := ⟨bG⟩
              (try clear BK314)
              (try clear HB)
              generalize ((w38.setCell ⟨gb314, 0, none⟩ (.int .i64 ((rd_T87 l1 x12_1).f0))).setCell ⟨gb314, 1, none⟩ (.int .i64 ((rd_T87 l1 x12_1).f1))) = w40 at n0_ n1_ ⊢
              have BK314 := n0_
              have HB := n1_
              clear n0_ n1_
              replace BK314 := Aside0.mk (blk_drew BK314.out)
              have HBo := HB
              replace HB := Aside0.mk (below_drew1 HB.out)
              refine start_ (n := 26) (S := fun w' => w'.cell? ⟨gb314, 0, none⟩ = some (.int .i64 ((rd_T87 l1 x12_1).f0)) ∧ w'.cell? ⟨gb314, 1, none⟩ = some (.int .i64 ((rd_T87 l1 x12_1).f1))) (ds := []) (mb 26 0) (by kernel_rfl) rfl rfl ⟨(blk_cell BK314.out 0).trans rfl, (blk_cell BK314.out 1).trans rfl⟩ (fun hHeld => ?_); refine with_tabW impl_AreWants.tab6 impl_AreWants.bits6 (fun HT_ HW_ => ?_)
              generalize w40.drew = w41 at BK314 HB hHeld ⊢
              refine pA (i := 0) (N := some 17) (mb 26 1) HT_ ?_
              refine pA (i := 1) (N := some 18) (mb 26 3) HT_ ?_
              refine tA2 (i := 2) (N := some 19) (mb 26 7) HT_ HW_ hHeld ?_
              refine oA (i := 3) (N := some 20) (mb 26 15) HT_ (fun K hK => ?_)
              refine gA Try.func84 #[.slice A0 l0.length c0, .int .i64 ((rd_T87 l1 x12_1).f0)] ?_
              with_reducible refine (impl_FindPath.calls _ _ l0 ((rd_T87 l1 x12_1).f0) t315 _ ?side1 ?side2 A9.out).mono ?_
              (case side1 => exact cB HR0)
              (case side2 => exact HC0.out)
              rintro e w42 ⟨rfl, hb⟩
              refine ⟨_, rfl, ?_⟩
              replace BK314 := Aside0.mk (blk_below (g := gb314) (bK BK314) hb)
              replace HB := Aside0.mk (below_step bG hb)
              (try clear hb)
              (try clear hb2)
              (try clear hk)
              (try clear hi)
              refine hK.out _ _ ⟨(blk_cell BK314.out 0).trans rfl, (blk_cell BK314.out 1).trans rfl⟩ (fun hHeld => ?_)
              clear hK K
              refine nA ?_
              refine pA (i := 4) (N := some 21) (mb 26 31) HT_ ?_
              refine pA (i := 5) (N := some 22) (mb 26 63) HT_ ?_
              refine pA (i := 6) (N := some 23) (mb 26 127) HT_ ?_
              refine tA2 (i := 7) (N := some 24) (mb 26 255) HT_ HW_ hHeld ?_
              refine oA (i := 8) (N := some 25) (mb 26 511) HT_ (fun K hK => ?_)
              refine gA Try.func69 #[.int .i64 ((rd_T87 l1 x12_1).f1), .int .i64 0, .int .i64 100000] ?_
              with_reducible refine (impl_InRange.calls ((rd_T87 l1 x12_1).f1) 0 100000 false _ A16.out).mono ?_
              rintro e w' ⟨rfl, ⟨nd, rfl⟩⟩
              refine ⟨_, rfl, ?_⟩
              refine hK.out _ _ ⟨(blk_cell BK314.out 0).trans rfl, (blk_cell BK314.out 1).trans rfl⟩ (fun hHeld => ?_)
              clear hK K
              refine nA ?_
              refine pA (i := 9) (N := some 26) (mb 26 1023) HT_ ?_
              refine pA (i := 10) (N := some 27) (mb 26 2047) HT_ ?_
              refine pA (i := 11) (N := some 28) (mb 26 4095) HT_ ?_
              refine pU (i := 12) (N := some 29) (mb 26 8191) HT_ ?_
              refine pU (i := 13) (N := some 30) (mb 26 16383) HT_ ?_
              refine pU (i := 14) (N := some 31) (mb 26 32767) HT_ ?_
              refine pU (i := 15) (N := some 32) (mb 26 65535) HT_ ?_
              refine pU (i := 16) (N := some 33) (mb 26 131071) HT_ ?_
              refine pU (i := 17) (N := some 34) (mb 26 262143) HT_ ?_
              refine pU (i := 18) (N := some 35) (mb 26 524287) HT_ ?_
              refine pU (i := 19) (N := some 36) (mb 26 1048575) HT_ ?_
              refine pU (i := 20) (N := some 37) (mb 26 2097151) HT_ ?_
              refine pU (i := 21) (N := some 38) (mb 26 4194303) HT_ ?_
              refine pU (i := 22) (N := some 39) (mb 26 8388607) HT_ ?_
              refine pU (i := 23) (N := some 40) (mb 26 16777215) HT_ ?_
              refine pU (i := 24) (N := some 41) (mb 26 33554431) HT_ ?_
              refine pA (i := 25) (N := some 42) (mb 26 67108863) HT_ ?_
              refine eA HT_ ?_
              try go_wp2
              go_ret
              exact ⟨rA, bG⟩
        · rw [if_neg c6] at H
          have c6b0 : decide (x12_1 < (l1.length : Int)) = false := decide_eq_false c6
          clear c6
          obtain rfl := Option.some.inj H
          go_wp2
          go_ret
          exact ⟨rA, bA⟩
  · replace c4 := Bool.eq_false_iff.mpr c4
    subst c4
    have H1 : (some false) = some r := by rw [if_neg (show ¬ (false = true) by decide)] at H; exact H
    clear H
    have H := H1
    clear H1
    obtain rfl := Option.some.inj H
    go_enter Try.func36, Try.ntmps36
    go_wp2_with (first | ((with_reducible refine gate_callee (f := 83) rfl ?_); refine gL (some 8) Try.func83 #[.slice A0 l0.length c0] ?_; (with_reducible refine (impl_ArePaths.calls k _ _ l0 false _ ?side1 ?side2 A3.out).mono ?_); (case side1 => exact cO HR0); (case side2 => exact HC0.out); rintro e w43 ⟨rfl, hb⟩; refine ⟨_, rfl, ?_⟩; replace HB := Aside0.mk (below_step bA hb); (try clear hb); (try clear hb2); (try clear hk); (try clear hi)))
    go_ret
    exact ⟨rA, bA⟩

end Go.Proofs.Ytimmadeghcghoaa.P
