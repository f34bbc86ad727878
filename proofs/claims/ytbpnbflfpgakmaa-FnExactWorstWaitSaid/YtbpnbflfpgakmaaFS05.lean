/- Printed by myprint.py (wip/tools) over the kit's print: what Go's functions compute, and that they do. Lean checks it. -/
import Derived.Test.YtbpnbflfpgakmaaF0
import Derived.Test.YtbpnbflfpgakmaaFS04
namespace Go.Proofs.Ytbpnbflfpgakmaa.P
open Go.RowKit Go.Proofs.YtbpnbflfpgakmaaW.PrintWords Go.Proofs.YtbpnbflfpgakmaaW.PrintLast Go.Proofs.YtbpnbflfpgakmaaW.PrintMore Go.Proofs.Ytbpnbflfpgakmaa.Sq
attribute [local go_sem] max2_int min2_int max_two min_two max_three min_three max_four min_four
set_option linter.unusedVariables false
set_option linter.unusedSimpArgs false

/-! ### spec_FindPath: function 68 -/
def spec_FindPath.l0 : Nat → List (S58) → Int → Int → Option (Int)
  | 0, _, _, _ => none
  | k + 1, x0, x1, x5 => if x5 < (x0.length : Int) then (if 0 ≤ x5 then (if ((rd_T58 x0 x5).f0) = x1 then (some x5) else (spec_FindPath.l0 k x0 x1 (wrap64 (x5 + 1)))) else (none)) else (some (-1))
def spec_FindPath.f (k : Nat) (l0 : List (S58)) (a1 : Int) : Option (Int) := spec_FindPath.l0 k l0 a1 0
theorem spec_FindPath.mono_l : ∀ k, (∀ y0 y1 y2, LeO (spec_FindPath.l0 k y0 y1 y2) (spec_FindPath.l0 (k + 1) y0 y1 y2))
  | 0 => fun _ _ _ r h => by simp [spec_FindPath.l0] at h
  | k + 1 => by
    have ih0 := spec_FindPath.mono_l k
    · intro y0 y1 y2
      unfold spec_FindPath.l0
      repeat' first | (with_reducible first | exact LeO.refl _ | exact LeO.none _ | refine LeO.ite ?_ ?_ | refine LeO.bind ?_ (fun _ => ?_) | exact ih0 _ _ _) | exact LeO.none _ | refine LeO.ite ?_ ?_ | refine LeO.bind ?_ (fun _ => ?_) | exact ih0 _ _ _
theorem spec_FindPath.mono : ∀ a0 a1 k, LeO (spec_FindPath.f k a0 a1) (spec_FindPath.f (k + 1) a0 a1) := by
  intro a0 a1 k
  have ih0 := spec_FindPath.mono_l k
  unfold spec_FindPath.f
  repeat' first | (with_reducible first | exact LeO.refl _ | exact LeO.none _ | refine LeO.ite ?_ ?_ | refine LeO.bind ?_ (fun _ => ?_) | exact ih0 _ _ _) | exact LeO.none _ | refine LeO.ite ?_ ?_ | refine LeO.bind ?_ (fun _ => ?_) | exact ih0 _ _ _
set_option maxHeartbeats 8000000 in
set_option maxRecDepth 100000 in
theorem spec_FindPath.calls (k : Nat) (A0 : Option Addr) (c0 : Nat) (l0 : List (S58)) (a1 : Int) (r : Int) (w : World) (hr0 : Kd.C k58 w A0 l0.length l0) (hc0 : l0.length ≤ c0) (h : spec_FindPath.f k l0 a1 = some r) :
    Calls Try.prog 68 #[.slice A0 l0.length c0, .int .i64 a1] w fun e w' => e = .returned (.int .i64 r) ∧ Drawn0 w w' := by
  have HR0 := Aside0.mk hr0
  have HC0 := Aside0.mk hc0
  clear hr0 hc0
  have H : (spec_FindPath.l0 k l0 a1 0) = some r := h
  clear h
  have H' := Aside0.mk H
  clear H
  go_enter Try.func68, Try.ntmps68
  go_wp2
  go_loopg [5] k (fun kq v5 w' => ∃ (x5_1 : Int), v5 = .int .i64 x5_1 ∧ Aside0 (spec_FindPath.l0 kq l0 a1 x5_1 = some r) ∧ Aside0 (kq ≤ k) ∧ Drawn0 w w')
  case atStart => exact ⟨(0), rS, H', ⟨Nat.le_refl _⟩, by repeat (first | exact Drawn0.refl _ | apply Drawn0.step)⟩
  case round =>
    clear H'
    try clear p2
    obtain ⟨x5_1, rfl, HA, HK1, ⟨m1, rfl⟩⟩ := hrel
    cases gk with
    | zero => exact absurd HA.out (by simp [spec_FindPath.l0])
    | succ k1 =>
      have H := HA.out
      clear HA
      simp only [spec_FindPath.l0] at H
      by_cases c3 : x5_1 < (l0.length : Int)
      · rw [if_pos c3] at H
        have c3b0 : decide (x5_1 < (l0.length : Int)) = true := decide_eq_true c3
        clear c3
        have c4 : 0 ≤ x5_1 := ifN H
        replace H := ifT H
        have c4b0 : decide (0 ≤ x5_1) = true := decide_eq_true c4
        clear c4
        by_cases c5 : ((rd_T58 l0 x5_1).f0) = a1
        · rw [if_pos c5] at H
          have c5b0 : (((rd_T58 l0 x5_1).f0) == a1) = true := beq_iff_eq.mpr c5
          have c5b1 : (((rd_T58 l0 x5_1).f0) != a1) = false := bne_eq_false_iff_eq.mpr c5
          clear c5
          obtain rfl := Option.some.inj H
          have p105 : 0 ≤ (x5_1 : Int) := dA
          have q105 : x5_1 < (l0.length : Int) := dA
          obtain ⟨ad105, e105, hx105_0, hx105_1, hx105_2, hx105_3⟩ := at_T58 HR0.out x5_1 p105 q105
          cases e105
          replace p105 := eq_true p105
          replace q105 := eq_true q105
          go_wp2
          go_ret
          exact ⟨by first | rfl | (simp; done) | (simp [*]; done), by repeat (first | exact Drawn0.refl _ | apply Drawn0.step)⟩
        · rw [if_neg c5] at H
          have c5b0 : (((rd_T58 l0 x5_1).f0) == a1) = false := beq_eq_false_iff_ne.mpr c5
          have c5b1 : (((rd_T58 l0 x5_1).f0) != a1) = true := bne_iff_ne.mpr c5
          have H' := Aside0.mk H
          clear H
          have p105 : 0 ≤ (x5_1 : Int) := dA
          have q105 : x5_1 < (l0.length : Int) := dA
          obtain ⟨ad105, e105, hx105_0, hx105_1, hx105_2, hx105_3⟩ := at_T58 HR0.out x5_1 p105 q105
          cases e105
          replace p105 := eq_true p105
          replace q105 := eq_true q105
          go_wp2
          go_roundg k1
          case measure => have := HK1.out; omega
          case rel => exact ⟨(wrap64 (x5_1 + 1)), rS, H', ⟨by have := HK1.out; omega⟩, by repeat (first | exact Drawn0.refl _ | apply Drawn0.step)⟩
      · rw [if_neg c3] at H
        have c3b0 : decide (x5_1 < (l0.length : Int)) = false := decide_eq_false c3
        clear c3
        obtain rfl := Option.some.inj H
        go_wp2
        go_ret
        exact ⟨by first | rfl | (simp; done) | (simp [*]; done), by repeat (first | exact Drawn0.refl _ | apply Drawn0.step)⟩

/-! ### spec_Conflict: function 76 -/
def spec_Conflict.j0 : Nat → Bool → Int → Int → Int → Int → Int → Int → Int → Int → Option (Bool)
  | 0, _, _, _, _, _, _, _, _, _ => none
  | k + 1, x5, x121000, x121001, x121002, x121003, x122000, x122001, x122002, x122003 => if x5 = true then (some false) else (if x121001 = 2 then (if x122002 = x121002 then (some true) else (some (x122003 == x121002))) else (if x122001 = 2 then (if x121002 = x122002 then (some true) else (some (x121003 == x122002))) else (if x121002 = x122002 then (some false) else (if x121003 = x122003 then (some true) else ((spec_InPlace.f x121002).bind fun t124 => ((spec_OutPlace.f x121003).bind fun t125 => ((spec_InPlace.f x122002).bind fun t126 => ((spec_OutPlace.f x122003).bind fun t127 => ((spec_Interleave.f k t124 t125 t126 t127).bind fun t128 => (some t128))))))))))
def spec_Conflict.f (k : Nat) (a0_0 : Int) (a0_1 : Int) (a0_2 : Int) (a0_3 : Int) (a1_0 : Int) (a1_1 : Int) (a1_2 : Int) (a1_3 : Int) : Option (Bool) := (spec_IsPath.f a0_0 a0_1 a0_2 a0_3).bind fun t122 => (if t122 = true then ((spec_IsPath.f a1_0 a1_1 a1_2 a1_3).bind fun t123 => (if t123 = true then (if a0_1 = 2 then (spec_Conflict.j0 k (a1_1 == 2) a0_0 a0_1 a0_2 a0_3 a1_0 a1_1 a1_2 a1_3) else (spec_Conflict.j0 k false a0_0 a0_1 a0_2 a0_3 a1_0 a1_1 a1_2 a1_3)) else (spec_Conflict.j0 k true a0_0 a0_1 a0_2 a0_3 a1_0 a1_1 a1_2 a1_3))) else (spec_Conflict.j0 k true a0_0 a0_1 a0_2 a0_3 a1_0 a1_1 a1_2 a1_3))
theorem spec_Conflict.mono_l : ∀ k, (∀ y0 y1 y2 y3 y4 y5 y6 y7 y8, LeO (spec_Conflict.j0 k y0 y1 y2 y3 y4 y5 y6 y7 y8) (spec_Conflict.j0 (k + 1) y0 y1 y2 y3 y4 y5 y6 y7 y8))
  | 0 => fun _ _ _ _ _ _ _ _ _ r h => by simp [spec_Conflict.j0] at h
  | k + 1 => by
    have ih0 := spec_Conflict.mono_l k
    · intro y0 y1 y2 y3 y4 y5 y6 y7 y8
      unfold spec_Conflict.j0
      repeat' first | (with_reducible first | exact LeO.refl _ | exact LeO.none _ | refine LeO.ite ?_ ?_ | refine LeO.bind ?_ (fun _ => ?_) | exact ih0 _ _ _ _ _ _ _ _ _ | exact spec_Interleave.mono _ _ _ _ _) | exact LeO.none _ | refine LeO.ite ?_ ?_ | refine LeO.bind ?_ (fun _ => ?_) | exact ih0 _ _ _ _ _ _ _ _ _ | exact spec_Interleave.mono _ _ _ _ _
theorem spec_Conflict.mono : ∀ a0 a1 a2 a3 a4 a5 a6 a7 k, LeO (spec_Conflict.f k a0 a1 a2 a3 a4 a5 a6 a7) (spec_Conflict.f (k + 1) a0 a1 a2 a3 a4 a5 a6 a7) := by
  intro a0 a1 a2 a3 a4 a5 a6 a7 k
  have ih0 := spec_Conflict.mono_l k
  unfold spec_Conflict.f
  repeat' first | (with_reducible first | exact LeO.refl _ | exact LeO.none _ | refine LeO.ite ?_ ?_ | refine LeO.bind ?_ (fun _ => ?_) | exact ih0 _ _ _ _ _ _ _ _ _ | exact spec_Interleave.mono _ _ _ _ _) | exact LeO.none _ | refine LeO.ite ?_ ?_ | refine LeO.bind ?_ (fun _ => ?_) | exact ih0 _ _ _ _ _ _ _ _ _ | exact spec_Interleave.mono _ _ _ _ _
def spec_Conflict.T11 : Bool × List (List Nat × List Nat) := (true, [([], []), ([0], [0]), ([1], [1]), ([], []), ([3], [3]), ([4, 2], [4]), ([], []), ([6], [6]), ([7, 5], [7]), ([], []), ([9], [9]), ([10, 8], [10]), ([2, 5, 8, 11, 11], [2, 5, 8, 11]), ([12, 12, 0, 1, 2, 3, 4, 5, 6, 7, 8, 9, 10, 11, 12], [12])])
def spec_Conflict.B11 : List Nat := [0, 1, 3, 0, 8, 31, 0, 64, 255, 0, 512, 2047, 4095, 8191]
theorem spec_Conflict.tab11 : rtab .any (opsOf Try.f76 11) = spec_Conflict.T11 := by kernel_rfl
theorem spec_Conflict.bits11 : waitsOk spec_Conflict.T11.2 spec_Conflict.B11 = true := by kernel_rfl
set_option maxHeartbeats 8000000 in
set_option maxRecDepth 100000 in
theorem spec_Conflict.calls (k : Nat) (a0_0 : Int) (a0_1 : Int) (a0_2 : Int) (a0_3 : Int) (a1_0 : Int) (a1_1 : Int) (a1_2 : Int) (a1_3 : Int) (r : Bool) (w : World) (h : spec_Conflict.f k a0_0 a0_1 a0_2 a0_3 a1_0 a1_1 a1_2 a1_3 = some r) :
    Calls Try.prog 76 #[.agg #[.int .i64 a0_0, .int .i64 a0_1, .int .i64 a0_2, .int .i64 a0_3], .agg #[.int .i64 a1_0, .int .i64 a1_1, .int .i64 a1_2, .int .i64 a1_3]] w fun e w' => e = .returned (.bool r) ∧ Below w.heap.size w w' := by
  have hu58 := Try.underlying58
  have HB := Aside0.mk (Below.refl w.heap.size w)
  have H : ((spec_IsPath.f a0_0 a0_1 a0_2 a0_3).bind fun t122 => (if t122 = true then ((spec_IsPath.f a1_0 a1_1 a1_2 a1_3).bind fun t123 => (if t123 = true then (if a0_1 = 2 then (spec_Conflict.j0 k (a1_1 == 2) a0_0 a0_1 a0_2 a0_3 a1_0 a1_1 a1_2 a1_3) else (spec_Conflict.j0 k false a0_0 a0_1 a0_2 a0_3 a1_0 a1_1 a1_2 a1_3)) else (spec_Conflict.j0 k true a0_0 a0_1 a0_2 a0_3 a1_0 a1_1 a1_2 a1_3))) else (spec_Conflict.j0 k true a0_0 a0_1 a0_2 a0_3 a1_0 a1_1 a1_2 a1_3))) = some r := h
  clear h
  have HC3 := Aside0.mk H
  clear H
  go_enter Try.func76, Try.ntmps76
  go_upto_region 1 with (first | ((with_reducible refine gate_dst (N := 2) rfl ?_); refine bE (N := 2) (cs := #[.int .i64 a0_0, .int .i64 a0_1, .int .i64 a0_2, .int .i64 a0_3]) (t := 58) ?_; intro gb120 hg w4 hbox hb; have n0_ := Aside0.mk (below_step bA hb); have n1_ := Aside0.mk (hbox); have n2_ := Aside0.mk ((by rw [hg]; exact (below_size bA) : w.heap.size ≤ gb120)); have n3_ := Aside0.mk ((by rw [hg]; exact (below_size bA) : w.heap.size ≤ gb120)); clear HB; have HB := n0_; have BK120 := n1_; have GW120 := n2_; have GE120 := n3_; clear n0_ n1_ n2_ n3_; clear hb hbox hg) | ((with_reducible refine gate_dst (N := 3) rfl ?_); refine bE (N := 3) (cs := #[.int .i64 a1_0, .int .i64 a1_1, .int .i64 a1_2, .int .i64 a1_3]) (t := 58) ?_; intro gb121 hg w5 hbox hb; have n0_ := Aside0.mk (blk_below (g := gb120) (bK BK120) hb); have n1_ := Aside0.mk (below_step bG hb); have n2_ := Aside0.mk (hbox); have n3_ := Aside0.mk ((by rw [hg]; exact (below_size bG) : w.heap.size ≤ gb121)); have n4_ := Aside0.mk ((by rw [hg]; exact (below_size bG) : w.heap.size ≤ gb121)); have n5_ := Aside0.mk ((by rw [hg]; exact Nat.ne_of_lt (blk_lt (g := gb120) (o := .cells #[.int .i64 a0_0, .int .i64 a0_1, .int .i64 a0_2, .int .i64 a0_3] 58 (0, 0)) (bK BK120)) : gb120 ≠ gb121)); have n6_ := Aside0.mk ((by rw [hg]; exact Nat.ne_of_gt (blk_lt (g := gb120) (o := .cells #[.int .i64 a0_0, .int .i64 a0_1, .int .i64 a0_2, .int .i64 a0_3] 58 (0, 0)) (bK BK120)) : gb121 ≠ gb120)); clear BK120; clear HB; have BK120 := n0_; have HB := n1_; have BK121 := n2_; have GW121 := n3_; have GE121 := n4_; have NB120_121 := n5_; have NB121_120 := n6_; clear n0_ n1_ n2_ n3_ n4_ n5_ n6_; clear hb hbox hg))
  (try simp only [Act.put, List.setIfInBounds_toArray, List.set_cons_zero, List.set_cons_succ])
  go_cut [5] (fun v5 wc => ∃ (kq : Nat) (x5_2 : Bool), v5 = .bool x5_2 ∧ Aside0 (spec_Conflict.j0 kq x5_2 a0_0 a0_1 a0_2 a0_3 a1_0 a1_1 a1_2 a1_3 = some r) ∧ Aside0 (kq ≤ k) ∧ Aside0 (wc.heap[gb120]? = some (.cells #[.int .i64 a0_0, .int .i64 a0_1, .int .i64 a0_2, .int .i64 a0_3] 58 (0, 0))) ∧ Aside0 (wc.heap[gb121]? = some (.cells #[.int .i64 a1_0, .int .i64 a1_1, .int .i64 a1_2, .int .i64 a1_3] 58 (0, 0))) ∧ Aside0 (Below w.heap.size w wc))
  case first =>
    have H := HC3.out
    clear HC3
    obtain ⟨t122, A6, H⟩ := bindE H
    try dsimp only at H
    by_cases c7 : t122 = true
    · subst c7
      have H1 : ((spec_IsPath.f a1_0 a1_1 a1_2 a1_3).bind fun t123 => (if t123 = true then (if a0_1 = 2 then (spec_Conflict.j0 k (a1_1 == 2) a0_0 a0_1 a0_2 a0_3 a1_0 a1_1 a1_2 a1_3) else (spec_Conflict.j0 k false a0_0 a0_1 a0_2 a0_3 a1_0 a1_1 a1_2 a1_3)) else (spec_Conflict.j0 k true a0_0 a0_1 a0_2 a0_3 a1_0 a1_1 a1_2 a1_3))) = some r := by rw [if_pos rfl] at H; exact H
      clear H
      have H := H1
      clear H1
      obtain ⟨t123, A8, H⟩ := bindE H
      try dsimp only at H
      by_cases c9 : t123 = true
      · subst c9
        have H1 : (if a0_1 = 2 then (spec_Conflict.j0 k (a1_1 == 2) a0_0 a0_1 a0_2 a0_3 a1_0 a1_1 a1_2 a1_3) else (spec_Conflict.j0 k false a0_0 a0_1 a0_2 a0_3 a1_0 a1_1 a1_2 a1_3)) = some r := by rw [if_pos rfl] at H; exact H
        clear H
        have H := H1
        clear H1
        by_cases c10 : a0_1 = 2
        · rw [if_pos c10] at H
          have c10b0 : (a0_1 == 2) = true := beq_iff_eq.mpr c10
          have c10b1 : (a0_1 != 2) = false := bne_eq_false_iff_eq.mpr c10
          clear c10
          (first | rw [c10b0] | (simp only [i64_w, i32_w]; rw [c10b0]) | skip)
          have H' := Aside0.mk H
          clear H
          have hnb11 := NB120_121.out
          have hnc11 := NB121_120.out
          obtain ⟨hcz12_0, hcz12_1, hcz12_2, hcz12_3, hfz12_0, hfz12_1, hfz12_2, hfz12_3⟩ := blkc4 BK120
          go_wp2_with (first | ((with_reducible refine gate_callee (f := 91) rfl ?_); refine gL (some 7) Try.func91 #[.agg #[.int .i64 a0_0, .int .i64 a0_1, .int .i64 a0_2, .int .i64 a0_3]] ?_; (with_reducible refine (spec_IsPath.calls a0_0 a0_1 a0_2 a0_3 true _ A6.out).mono ?_); rintro e w13 ⟨rfl, hb⟩; refine ⟨_, rfl, ?_⟩; replace BK120 := Aside0.mk (blk_below (g := gb120) (bK BK120) hb); replace BK121 := Aside0.mk (blk_below (g := gb121) (bK BK121) hb); replace HB := Aside0.mk (below_step bG hb); (try clear hb); (try clear hb2); (try clear hk); (try clear hi); have hcz14_0 : w13.cell? ⟨gb121, 0, none⟩ = some (.int .i64 a1_0) := (blk_cell BK121.out 0).trans rfl; have hcz14_1 : w13.cell? ⟨gb121, 1, none⟩ = some (.int .i64 a1_1) := (blk_cell BK121.out 1).trans rfl; have hcz14_2 : w13.cell? ⟨gb121, 2, none⟩ = some (.int .i64 a1_2) := (blk_cell BK121.out 2).trans rfl; have hcz14_3 : w13.cell? ⟨gb121, 3, none⟩ = some (.int .i64 a1_3) := (blk_cell BK121.out 3).trans rfl; have hfz14_0 := blk_frozen BK121.out 0; have hfz14_1 := blk_frozen BK121.out 1; have hfz14_2 := blk_frozen BK121.out 2; have hfz14_3 := blk_frozen BK121.out 3) | (go_at_call 91; (with_reducible refine (spec_IsPath.calls a1_0 a1_1 a1_2 a1_3 true _ A8.out).mono ?_); rintro e w15 ⟨rfl, hb⟩; replace BK120 := Aside0.mk (blk_below (g := gb120) (bK BK120) hb); replace BK121 := Aside0.mk (blk_below (g := gb121) (bK BK121) hb); replace HB := Aside0.mk (below_step bG hb); (try clear hb); (try clear hb2); (try clear hk); (try clear hi); obtain ⟨hcz16_0, hcz16_1, hcz16_2, hcz16_3, hfz16_0, hfz16_1, hfz16_2, hfz16_3⟩ := blkc4 BK120; obtain ⟨hcz17_0, hcz17_1, hcz17_2, hcz17_3, hfz17_0, hfz17_1, hfz17_2, hfz17_3⟩ := blkc4 BK121))
          go_meet
          case rel => exact ⟨_, ((a1_1 == 2)), rS, H', ⟨by first | omega | exact Nat.le_refl _⟩, ⟨bK BK120⟩, ⟨bK BK121⟩, ⟨bG⟩⟩
        · rw [if_neg c10] at H
          have c10b0 : (a0_1 == 2) = false := beq_eq_false_iff_ne.mpr c10
          have c10b1 : (a0_1 != 2) = true := bne_iff_ne.mpr c10
          (first | rw [c10b0] | (simp only [i64_w, i32_w]; rw [c10b0]) | skip)
          have H' := Aside0.mk H
          clear H
          have hnb18 := NB120_121.out
          have hnc18 := NB121_120.out
          obtain ⟨hcz19_0, hcz19_1, hcz19_2, hcz19_3, hfz19_0, hfz19_1, hfz19_2, hfz19_3⟩ := blkc4 BK120
          go_wp2_with (first | ((with_reducible refine gate_callee (f := 91) rfl ?_); refine gL (some 7) Try.func91 #[.agg #[.int .i64 a0_0, .int .i64 a0_1, .int .i64 a0_2, .int .i64 a0_3]] ?_; (with_reducible refine (spec_IsPath.calls a0_0 a0_1 a0_2 a0_3 true _ A6.out).mono ?_); rintro e w20 ⟨rfl, hb⟩; refine ⟨_, rfl, ?_⟩; replace BK120 := Aside0.mk (blk_below (g := gb120) (bK BK120) hb); replace BK121 := Aside0.mk (blk_below (g := gb121) (bK BK121) hb); replace HB := Aside0.mk (below_step bG hb); (try clear hb); (try clear hb2); (try clear hk); (try clear hi); have hcz21_0 : w20.cell? ⟨gb121, 0, none⟩ = some (.int .i64 a1_0) := (blk_cell BK121.out 0).trans rfl; have hcz21_1 : w20.cell? ⟨gb121, 1, none⟩ = some (.int .i64 a1_1) := (blk_cell BK121.out 1).trans rfl; have hcz21_2 : w20.cell? ⟨gb121, 2, none⟩ = some (.int .i64 a1_2) := (blk_cell BK121.out 2).trans rfl; have hcz21_3 : w20.cell? ⟨gb121, 3, none⟩ = some (.int .i64 a1_3) := (blk_cell BK121.out 3).trans rfl; have hfz21_0 := blk_frozen BK121.out 0; have hfz21_1 := blk_frozen BK121.out 1; have hfz21_2 := blk_frozen BK121.out 2; have hfz21_3 := blk_frozen BK121.out 3) | (go_at_call 91; (with_reducible refine (spec_IsPath.calls a1_0 a1_1 a1_2 a1_3 true _ A8.out).mono ?_); rintro e w22 ⟨rfl, hb⟩; replace BK120 := Aside0.mk (blk_below (g := gb120) (bK BK120) hb); replace BK121 := Aside0.mk (blk_below (g := gb121) (bK BK121) hb); replace HB := Aside0.mk (below_step bG hb); (try clear hb); (try clear hb2); (try clear hk); (try clear hi); obtain ⟨hcz23_0, hcz23_1, hcz23_2, hcz23_3, hfz23_0, hfz23_1, hfz23_2, hfz23_3⟩ := blkc4 BK120))
          go_meet
          case rel => exact ⟨_, (false), rS, H', ⟨by first | omega | exact Nat.le_refl _⟩, ⟨bK BK120⟩, ⟨bK BK121⟩, ⟨bG⟩⟩
      · replace c9 := Bool.eq_false_iff.mpr c9
        subst c9
        have H1 : (spec_Conflict.j0 k true a0_0 a0_1 a0_2 a0_3 a1_0 a1_1 a1_2 a1_3) = some r := by rw [if_neg (show ¬ (false = true) by decide)] at H; exact H
        clear H
        have H := H1
        clear H1
        have H' := Aside0.mk H
        clear H
        have hnb24 := NB120_121.out
        have hnc24 := NB121_120.out
        obtain ⟨hcz25_0, hcz25_1, hcz25_2, hcz25_3, hfz25_0, hfz25_1, hfz25_2, hfz25_3⟩ := blkc4 BK120
        go_wp2_with (first | ((with_reducible refine gate_callee (f := 91) rfl ?_); refine gL (some 7) Try.func91 #[.agg #[.int .i64 a0_0, .int .i64 a0_1, .int .i64 a0_2, .int .i64 a0_3]] ?_; (with_reducible refine (spec_IsPath.calls a0_0 a0_1 a0_2 a0_3 true _ A6.out).mono ?_); rintro e w26 ⟨rfl, hb⟩; refine ⟨_, rfl, ?_⟩; replace BK120 := Aside0.mk (blk_below (g := gb120) (bK BK120) hb); replace BK121 := Aside0.mk (blk_below (g := gb121) (bK BK121) hb); replace HB := Aside0.mk (below_step bG hb); (try clear hb); (try clear hb2); (try clear hk); (try clear hi); have hcz27_0 : w26.cell? ⟨gb121, 0, none⟩ = some (.int .i64 a1_0) := (blk_cell BK121.out 0).trans rfl; have hcz27_1 : w26.cell? ⟨gb121, 1, none⟩ = some (.int .i64 a1_1) := (blk_cell BK121.out 1).trans rfl; have hcz27_2 : w26.cell? ⟨gb121, 2, none⟩ = some (.int .i64 a1_2) := (blk_cell BK121.out 2).trans rfl; have hcz27_3 : w26.cell? ⟨gb121, 3, none⟩ = some (.int .i64 a1_3) := (blk_cell BK121.out 3).trans rfl; have hfz27_0 := blk_frozen BK121.out 0; have hfz27_1 := blk_frozen BK121.out 1; have hfz27_2 := blk_frozen BK121.out 2; have hfz27_3 := blk_frozen BK121.out 3) | (go_at_call 91; (with_reducible refine (spec_IsPath.calls a1_0 a1_1 a1_2 a1_3 false _ A8.out).mono ?_); rintro e w28 ⟨rfl, hb⟩; replace BK120 := Aside0.mk (blk_below (g := gb120) (bK BK120) hb); replace BK121 := Aside0.mk (blk_below (g := gb121) (bK BK121) hb); replace HB := Aside0.mk (below_step bG hb); (try clear hb); (try clear hb2); (try clear hk); (try clear hi)))
        go_meet
        case rel => exact ⟨_, (true), rS, H', ⟨by first | omega | exact Nat.le_refl _⟩, ⟨bK BK120⟩, ⟨bK BK121⟩, ⟨bG⟩⟩
    · replace c7 := Bool.eq_false_iff.mpr c7
      subst c7
      have H1 : (spec_Conflict.j0 k true a0_0 a0_1 a0_2 a0_3 a1_0 a1_1 a1_2 a1_3) = some r := by rw [if_neg (show ¬ (false = true) by decide)] at H; exact H
      clear H
      have H := H1
      clear H1
      have H' := Aside0.mk H
      clear H
      have hnb29 := NB120_121.out
      have hnc29 := NB121_120.out
      obtain ⟨hcz30_0, hcz30_1, hcz30_2, hcz30_3, hfz30_0, hfz30_1, hfz30_2, hfz30_3⟩ := blkc4 BK120
      go_wp2_with (first | ((with_reducible refine gate_callee (f := 91) rfl ?_); refine gL (some 7) Try.func91 #[.agg #[.int .i64 a0_0, .int .i64 a0_1, .int .i64 a0_2, .int .i64 a0_3]] ?_; (with_reducible refine (spec_IsPath.calls a0_0 a0_1 a0_2 a0_3 false _ A6.out).mono ?_); rintro e w31 ⟨rfl, hb⟩; refine ⟨_, rfl, ?_⟩; replace BK120 := Aside0.mk (blk_below (g := gb120) (bK BK120) hb); replace BK121 := Aside0.mk (blk_below (g := gb121) (bK BK121) hb); replace HB := Aside0.mk (below_step bG hb); (try clear hb); (try clear hb2); (try clear hk); (try clear hi)))
      go_meet
      case rel => exact ⟨_, (true), rS, H', ⟨by first | omega | exact Nat.le_refl _⟩, ⟨bK BK120⟩, ⟨bK BK121⟩, ⟨bG⟩⟩
  case rest =>
    clear HC3
    try clear c1
    try clear c2
    try clear p2
    try clear c7
    try clear c9
    try clear c10
    try clear c10b0
    try clear c10b1
    try clear c11
    try clear c18
    try clear c24
    try clear c29
    try clear hcz12_0
    try clear hcz12_1
    try clear hcz12_2
    try clear hcz12_3
    try clear hcz14_0
    try clear hcz14_1
    try clear hcz14_2
    try clear hcz14_3
    try clear hcz16_0
    try clear hcz16_1
    try clear hcz16_2
    try clear hcz16_3
    try clear hcz17_0
    try clear hcz17_1
    try clear hcz17_2
    try clear hcz17_3
    try clear hcz19_0
    try clear hcz19_1
    try clear hcz19_2
    try clear hcz19_3
    try clear hcz21_0
    try clear hcz21_1
    try clear hcz21_2
    try clear hcz21_3
    try clear hcz23_0
    try clear hcz23_1
    try clear hcz23_2
    try clear hcz23_3
    try clear hcz25_0
    try clear hcz25_1
    try clear hcz25_2
    try clear hcz25_3
    try clear hcz27_0
    try clear hcz27_1
    try clear hcz27_2
    try clear hcz27_3
    try clear hcz30_0
    try clear hcz30_1
    try clear hcz30_2
    try clear hcz30_3
    try clear hfz12_0
    try clear hfz12_1
    try clear hfz12_2
    try clear hfz12_3
    try clear hfz14_0
    try clear hfz14_1
    try clear hfz14_2
    try clear hfz14_3
    try clear hfz16_0
    try clear hfz16_1
    try clear hfz16_2
    try clear hfz16_3
    try clear hfz17_0
    try clear hfz17_1
    try clear hfz17_2
    try clear hfz17_3
    try clear hfz19_0
    try clear hfz19_1
    try clear hfz19_2
    try clear hfz19_3
    try clear hfz21_0
    try clear hfz21_1
    try clear hfz21_2
    try clear hfz21_3
    try clear hfz23_0
    try clear hfz23_1
    try clear hfz23_2
    try clear hfz23_3
    try clear hfz25_0
    try clear hfz25_1
    try clear hfz25_2
    try clear hfz25_3
    try clear hfz27_0
    try clear hfz27_1
    try clear hfz27_2
    try clear hfz27_3
    try clear hfz30_0
    try clear hfz30_1
    try clear hfz30_2
    try clear hfz30_3
    obtain ⟨kq, x5_2, rfl, HA, HJ2, BK120, BK121, HB⟩ := hcut
    cases kq with
    | zero => exact absurd HA.out (by simp [spec_Conflict.j0])
    | succ kj2 =>
      have H := HA.out
      clear HA
      simp only [spec_Conflict.j0] at H
      by_cases c32 : x5_2 = true
      · subst c32
        have H1 : (some false) = some r := by rw [if_pos rfl] at H; exact H
        clear H
        have H := H1
        clear H1
        obtain rfl := Option.some.inj H
        go_wp2
        go_ret
        exact ⟨rA, bG⟩
      · replace c32 := Bool.eq_false_iff.mpr c32
        subst c32
        have H1 : (if a0_1 = 2 then (if a1_2 = a0_2 then (some true) else (some (a1_3 == a0_2))) else (if a1_1 = 2 then (if a0_2 = a1_2 then (some true) else (some (a0_3 == a1_2))) else (if a0_2 = a1_2 then (some false) else (if a0_3 = a1_3 then (some true) else ((spec_InPlace.f a0_2).bind fun t124 => ((spec_OutPlace.f a0_3).bind fun t125 => ((spec_InPlace.f a1_2).bind fun t126 => ((spec_OutPlace.f a1_3).bind fun t127 => ((spec_Interleave.f kj2 t124 t125 t126 t127).bind fun t128 => (some t128)))))))))) = some r := by rw [if_neg (show ¬ (false = true) by decide)] at H; exact H
        clear H
        have H := H1
        clear H1
        by_cases c33 : a0_1 = 2
        · rw [if_pos c33] at H
          have c33b0 : (a0_1 == 2) = true := beq_iff_eq.mpr c33
          have c33b1 : (a0_1 != 2) = false := bne_eq_false_iff_eq.mpr c33
          clear c33
          by_cases c34 : a1_2 = a0_2
          · rw [if_pos c34] at H
            have c34b0 : (a1_2 == a0_2) = true := beq_iff_eq.mpr c34
            have c34b1 : (a1_2 != a0_2) = false := bne_eq_false_iff_eq.mpr c34
            clear c34
            obtain rfl := Option.some.inj H
            have hnb35 := NB120_121.out
            have hnc35 := NB121_120.out
            obtain ⟨hcz36_0, hcz36_1, hcz36_2, hcz36_3, hfz36_0, hfz36_1, hfz36_2, hfz36_3⟩ := blkc4 BK120
            obtain ⟨hcz37_0, hcz37_1, hcz37_2, hcz37_3, hfz37_0, hfz37_1, hfz37_2, hfz37_3⟩ := blkc4 BK121
            go_wp2
            go_ret
            exact ⟨rA, bG⟩
          · rw [if_neg c34] at H
            have c34b0 : (a1_2 == a0_2) = false := beq_eq_false_iff_ne.mpr c34
            have c34b1 : (a1_2 != a0_2) = true := bne_iff_ne.mpr c34
            obtain rfl := Option.some.inj H
            have hnb38 := NB120_121.out
            have hnc38 := NB121_120.out
            obtain ⟨hcz39_0, hcz39_1, hcz39_2, hcz39_3, hfz39_0, hfz39_1, hfz39_2, hfz39_3⟩ := blkc4 BK120
            obtain ⟨hcz40_0, hcz40_1, hcz40_2, hcz40_3, hfz40_0, hfz40_1, hfz40_2, hfz40_3⟩ := blkc4 BK121
            go_wp2
            go_ret
            exact ⟨rA, bG⟩
        · rw [if_neg c33] at H
          have c33b0 : (a0_1 == 2) = false := beq_eq_false_iff_ne.mpr c33
          have c33b1 : (a0_1 != 2) = true := bne_iff_ne.mpr c33
          by_cases c41 : a1_1 = 2
          · rw [if_pos c41] at H
            have c41b0 : (a1_1 == 2) = true := beq_iff_eq.mpr c41
            have c41b1 : (a1_1 != 2) = false := bne_eq_false_iff_eq.mpr c41
            clear c41
            by_cases c42 : a0_2 = a1_2
            · rw [if_pos c42] at H
              have c42b0 : (a0_2 == a1_2) = true := beq_iff_eq.mpr c42
              have c42b1 : (a0_2 != a1_2) = false := bne_eq_false_iff_eq.mpr c42
              clear c42
              obtain rfl := Option.some.inj H
              have hnb43 := NB120_121.out
              have hnc43 := NB121_120.out
              obtain ⟨hcz44_0, hcz44_1, hcz44_2, hcz44_3, hfz44_0, hfz44_1, hfz44_2, hfz44_3⟩ := blkc4 BK120
              obtain ⟨hcz45_0, hcz45_1, hcz45_2, hcz45_3, hfz45_0, hfz45_1, hfz45_2, hfz45_3⟩ := blkc4 BK121
              go_wp2
              go_ret
              exact ⟨rA, bG⟩
            · rw [if_neg c42] at H
              have c42b0 : (a0_2 == a1_2) = false := beq_eq_false_iff_ne.mpr c42
              have c42b1 : (a0_2 != a1_2) = true := bne_iff_ne.mpr c42
              obtain rfl := Option.some.inj H
              have hnb46 := NB120_121.out
              have hnc46 := NB121_120.out
              obtain ⟨hcz47_0, hcz47_1, hcz47_2, hcz47_3, hfz47_0, hfz47_1, hfz47_2, hfz47_3⟩ := blkc4 BK120
              obtain ⟨hcz48_0, hcz48_1, hcz48_2, hcz48_3, hfz48_0, hfz48_1, hfz48_2, hfz48_3⟩ := blkc4 BK121
              go_wp2
              go_ret
              exact ⟨rA, bG⟩
          · rw [if_neg c41] at H
            have c41b0 : (a1_1 == 2) = false := beq_eq_false_iff_ne.mpr c41
            have c41b1 : (a1_1 != 2) = true := bne_iff_ne.mpr c41
            by_cases c49 : a0_2 = a1_2
            · rw [if_pos c49] at H
              have c49b0 : (a0_2 == a1_2) = true := beq_iff_eq.mpr c49
              have c49b1 : (a0_2 != a1_2) = false := bne_eq_false_iff_eq.mpr c49
              clear c49
              obtain rfl := Option.some.inj H
              have hnb50 := NB120_121.out
              have hnc50 := NB121_120.out
              obtain ⟨hcz51_0, hcz51_1, hcz51_2, hcz51_3, hfz51_0, hfz51_1, hfz51_2, hfz51_3⟩ := blkc4 BK120
              obtain ⟨hcz52_0, hcz52_1, hcz52_2, hcz52_3, hfz52_0, hfz52_1, hfz52_2, hfz52_3⟩ := blkc4 BK121
              go_wp2
              go_ret
              exact ⟨rA, bG⟩
            · rw [if_neg c49] at H
              have c49b0 : (a0_2 == a1_2) = false := beq_eq_false_iff_ne.mpr c49
              have c49b1 : (a0_2 != a1_2) = true := bne_iff_ne.mpr c49
              by_cases c53 : a0_3 = a1_3
              · rw [if_pos c53] at H
                have c53b0 : (a0_3 == a1_3) = true := beq_iff_eq.mpr c53
                have c53b1 : (a0_3 != a1_3) = false := bne_eq_false_iff_eq.mpr c53
                clear c53
                obtain rfl := Option.some.inj H
                have hnb54 := NB120_121.out
                have hnc54 := NB121_120.out
                obtain ⟨hcz55_0, hcz55_1, hcz55_2, hcz55_3, hfz55_0, hfz55_1, hfz55_2, hfz55_3⟩ := blkc4 BK120
                obtain ⟨hcz56_0, hcz56_1, hcz56_2, hcz56_3, hfz56_0, hfz56_1, hfz56_2, hfz56_3⟩ := blkc4 BK121
                go_wp2
                go_ret
                exact ⟨rA, bG⟩
              · rw [if_neg c53] at H
                have c53b0 : (a0_3 == a1_3) = false := beq_eq_false_iff_ne.mpr c53
                have c53b1 : (a0_3 != a1_3) = true := bne_iff_ne.mpr c53
                obtain ⟨t124, A57, H⟩ := bindE H
                try dsimp only at H
                obtain ⟨t125, A58, H⟩ := bindE H
                try dsimp only at H
                obtain ⟨t126, A59, H⟩ := bindE H
                try dsimp only at H
                obtain ⟨t127, A60, H⟩ := bindE H
                try dsimp only at H
                obtain ⟨t128, A61, H⟩ := bindE H
                try dsimp only at H
                obtain rfl := Option.some.inj H
                have hnb62 := NB120_121.out
                have hnc62 := NB121_120.out
                obtain ⟨hcz63_0, hcz63_1, hcz63_2, hcz63_3, hfz63_0, hfz63_1, hfz63_2, hfz63_3⟩ := blkc4 BK120
                obtain ⟨hcz64_0, hcz64_1, hcz64_2, hcz64_3, hfz64_0, hfz64_1, hfz64_2, hfz64_3⟩ := blkc4 BK121
                try go_wp2
                replace BK120 := Aside0.mk (blk_drew BK120.out)
                replace BK121 := Aside0.mk (blk_drew BK121.out)
                have HBo := HB
                replace HB := Aside0.mk (below_drew1 HB.out)
                refine start_ (n := 14) (S := fun w' => w'.cell? ⟨gb120, 0, none⟩ = some (.int .i64 a0_0) ∧ w'.cell? ⟨gb120, 1, none⟩ = some (.int .i64 a0_1) ∧ w'.cell? ⟨gb120, 2, none⟩ = some (.int .i64 a0_2) ∧ w'.cell? ⟨gb120, 3, none⟩ = some (.int .i64 a0_3) ∧ w'.cell? ⟨gb121, 0, none⟩ = some (.int .i64 a1_0) ∧ w'.cell? ⟨gb121, 1, none⟩ = some (.int .i64 a1_1) ∧ w'.cell? ⟨gb121, 2, none⟩ = some (.int .i64 a1_2) ∧ w'.cell? ⟨gb121, 3, none⟩ = some (.int .i64 a1_3)) (ds := []) (mb 14 0) (by kernel_rfl) rfl rfl ⟨(blk_cell BK120.out 0).trans rfl, (blk_cell BK120.out 1).trans rfl, (blk_cell BK120.out 2).trans rfl, (blk_cell BK120.out 3).trans rfl, (blk_cell BK121.out 0).trans rfl, (blk_cell BK121.out 1).trans rfl, (blk_cell BK121.out 2).trans rfl, (blk_cell BK121.out 3).trans rfl⟩ (fun hHeld => ?_); refine with_tabW spec_Conflict.tab11 spec_Conflict.bits11 (fun HT_ HW_ => ?_)
                generalize wc.drew = w65 at BK120 BK121 HB hHeld ⊢
                refine pA (i := 0) (N := some 68) (mb 14 1) HT_ ?_
                refine pA (i := 3) (N := some 71) (mb 14 9) HT_ ?_
                refine pA (i := 6) (N := some 74) (mb 14 73) HT_ ?_
                refine pA (i := 9) (N := some 77) (mb 14 585) HT_ ?_
                refine tA8 (i := 1) (N := some 69) (mb 14 587) HT_ HW_ hHeld ?_
                refine tA8 (i := 4) (N := some 72) (mb 14 603) HT_ HW_ hHeld ?_
                refine tA8 (i := 7) (N := some 75) (mb 14 731) HT_ HW_ hHeld ?_
                refine tA8 (i := 10) (N := some 78) (mb 14 1755) HT_ HW_ hHeld ?_
                refine oA (i := 2) (N := some 70) (mb 14 1759) HT_ (fun K hK => ?_)
                refine gA Try.func93 #[.int .i64 a0_2] ?_
                with_reducible refine (spec_InPlace.calls a0_2 t124 _ A57.out).mono ?_
                rintro e w' ⟨rfl, ⟨nd, rfl⟩⟩
                refine ⟨_, rfl, ?_⟩
                refine hK.out _ _ ⟨(blk_cell BK120.out 0).trans rfl, (blk_cell BK120.out 1).trans rfl, (blk_cell BK120.out 2).trans rfl, (blk_cell BK120.out 3).trans rfl, (blk_cell BK121.out 0).trans rfl, (blk_cell BK121.out 1).trans rfl, (blk_cell BK121.out 2).trans rfl, (blk_cell BK121.out 3).trans rfl⟩ (fun hHeld => ?_)
                clear hK K
                refine nA ?_
                refine oA (i := 5) (N := some 73) (mb 14 1791) HT_ (fun K hK => ?_)
                refine gA Try.func94 #[.int .i64 a0_3] ?_
                with_reducible refine (spec_OutPlace.calls a0_3 t125 _ A58.out).mono ?_
                rintro e w' ⟨rfl, ⟨nd, rfl⟩⟩
                refine ⟨_, rfl, ?_⟩
                refine hK.out _ _ ⟨(blk_cell BK120.out 0).trans rfl, (blk_cell BK120.out 1).trans rfl, (blk_cell BK120.out 2).trans rfl, (blk_cell BK120.out 3).trans rfl, (blk_cell BK121.out 0).trans rfl, (blk_cell BK121.out 1).trans rfl, (blk_cell BK121.out 2).trans rfl, (blk_cell BK121.out 3).trans rfl⟩ (fun hHeld => ?_)
                clear hK K
                refine nA ?_
                refine oA (i := 8) (N := some 76) (mb 14 2047) HT_ (fun K hK => ?_)
                refine gA Try.func93 #[.int .i64 a1_2] ?_
                with_reducible refine (spec_InPlace.calls a1_2 t126 _ A59.out).mono ?_
                rintro e w' ⟨rfl, ⟨nd, rfl⟩⟩
                refine ⟨_, rfl, ?_⟩
                refine hK.out _ _ ⟨(blk_cell BK120.out 0).trans rfl, (blk_cell BK120.out 1).trans rfl, (blk_cell BK120.out 2).trans rfl, (blk_cell BK120.out 3).trans rfl, (blk_cell BK121.out 0).trans rfl, (blk_cell BK121.out 1).trans rfl, (blk_cell BK121.out 2).trans rfl, (blk_cell BK121.out 3).trans rfl⟩ (fun hHeld => ?_)
                clear hK K
                refine nA ?_
                refine oA (i := 11) (N := some 79) (mb 14 4095) HT_ (fun K hK => ?_)
                refine gA Try.func94 #[.int .i64 a1_3] ?_
                with_reducible refine (spec_OutPlace.calls a1_3 t127 _ A60.out).mono ?_
                rintro e w' ⟨rfl, ⟨nd, rfl⟩⟩
                refine ⟨_, rfl, ?_⟩
                refine hK.out _ _ ⟨(blk_cell BK120.out 0).trans rfl, (blk_cell BK120.out 1).trans rfl, (blk_cell BK120.out 2).trans rfl, (blk_cell BK120.out 3).trans rfl, (blk_cell BK121.out 0).trans rfl, (blk_cell BK121.out 1).trans rfl, (blk_cell BK121.out 2).trans rfl, (blk_cell BK121.out 3).trans rfl⟩ (fun hHeld => ?_)
                clear hK K
                refine nA ?_
                refine oA (i := 12) (N := some 80) (mb 14 8191) HT_ (fun K hK => ?_)
                refine gA Try.func92 #[.int .i64 t124, .int .i64 t125, .int .i64 t126, .int .i64 t127] ?_
                with_reducible refine (spec_Interleave.calls kj2 t124 t125 t126 t127 t128 _ A61.out).mono ?_
                rintro e w66 ⟨rfl, hb⟩
                refine ⟨_, rfl, ?_⟩
                replace BK120 := Aside0.mk (blk_below (g := gb120) (bK BK120) hb)
                replace BK121 := Aside0.mk (blk_below (g := gb121) (bK BK121) hb)
                replace HB := Aside0.mk (below_step bG hb)
                (try clear hb)
                (try clear hb2)
                (try clear hk)
                (try clear hi)
                refine hK.out _ _ ⟨(blk_cell BK120.out 0).trans rfl, (blk_cell BK120.out 1).trans rfl, (blk_cell BK120.out 2).trans rfl, (blk_cell BK120.out 3).trans rfl, (blk_cell BK121.out 0).trans rfl, (blk_cell BK121.out 1).trans rfl, (blk_cell BK121.out 2).trans rfl, (blk_cell BK121.out 3).trans rfl⟩ (fun hHeld => ?_)
                clear hK K
                refine nA ?_
                refine pA (i := 13) (N := some 4) (mb 14 16383) HT_ ?_
                refine eA HT_ ?_
                try go_wp2
                go_ret
                exact ⟨rA, bG⟩

/-! ### spec_ArePaths: function 77 -/
def spec_ArePaths.l0 : Nat → List (S58) → Int → Option (Bool)
  | 0, _, _ => none
  | k + 1, x0, x3 => if x3 < (x0.length : Int) then (if 0 ≤ x3 then ((spec_IsPath.f ((rd_T58 x0 x3).f0) ((rd_T58 x0 x3).f1) ((rd_T58 x0 x3).f2) ((rd_T58 x0 x3).f3)).bind fun t130 => (if t130 = true then (if x3 > 0 then (if 0 ≤ (wrap64 (x3 - 1)) then (if (wrap64 (x3 - 1)) < (x0.length : Int) then (if ((rd_T58 x0 (wrap64 (x3 - 1))).f0) ≥ ((rd_T58 x0 x3).f0) then (some false) else (spec_ArePaths.l0 k x0 (wrap64 (x3 + 1)))) else (none)) else (none)) else (spec_ArePaths.l0 k x0 (wrap64 (x3 + 1)))) else (some false))) else (none)) else (some (decide ((x0.length : Int) ≤ 12)))
def spec_ArePaths.f (k : Nat) (l0 : List (S58)) : Option (Bool) := spec_ArePaths.l0 k l0 0
theorem spec_ArePaths.mono_l : ∀ k, (∀ y0 y1, LeO (spec_ArePaths.l0 k y0 y1) (spec_ArePaths.l0 (k + 1) y0 y1))
  | 0 => fun _ _ r h => by simp [spec_ArePaths.l0] at h
  | k + 1 => by
    have ih0 := spec_ArePaths.mono_l k
    · intro y0 y1
      unfold spec_ArePaths.l0
      repeat' first | (with_reducible first | exact LeO.refl _ | exact LeO.none _ | refine LeO.ite ?_ ?_ | refine LeO.bind ?_ (fun _ => ?_) | exact ih0 _ _) | exact LeO.none _ | refine LeO.ite ?_ ?_ | refine LeO.bind ?_ (fun _ => ?_) | exact ih0 _ _
theorem spec_ArePaths.mono : ∀ a0 k, LeO (spec_ArePaths.f k a0) (spec_ArePaths.f (k + 1) a0) := by
  intro a0 k
  have ih0 := spec_ArePaths.mono_l k
  unfold spec_ArePaths.f
  repeat' first | (with_reducible first | exact LeO.refl _ | exact LeO.none _ | refine LeO.ite ?_ ?_ | refine LeO.bind ?_ (fun _ => ?_) | exact ih0 _ _) | exact LeO.none _ | refine LeO.ite ?_ ?_ | refine LeO.bind ?_ (fun _ => ?_) | exact ih0 _ _
def spec_ArePaths.T4 : Bool × List (List Nat × List Nat) := (true, [([], []), ([], []), ([0, 1], [0, 1]), ([2], [2]), ([3], [3]), ([4], [4]), ([5, 4], [5]), ([6], [6]), ([7, 6], [6, 7]), ([8, 6, 6], [6, 8]), ([9], [9]), ([9], [9]), ([11, 9], [9, 11]), ([10, 12, 9], [9, 10, 12]), ([13, 9], [9, 13]), ([14, 9], [9, 14]), ([9], [9]), ([9], [9]), ([16, 17, 9], [9, 16, 17]), ([18, 9], [9, 18]), ([19, 9], [9, 19]), ([15, 20, 9], [9, 15, 20]), ([9, 21, 6], [6, 9, 21]), ([6, 22], [6, 22])])
def spec_ArePaths.B4 : List Nat := [0, 0, 3, 7, 15, 31, 63, 127, 255, 511, 1023, 1023, 3071, 8191, 16383, 32767, 1023, 1023, 197631, 459775, 984063, 2097151, 4194303, 8388607]
theorem spec_ArePaths.tab4 : rtab .any (opsOf Try.f77 4) = spec_ArePaths.T4 := by kernel_rfl
theorem spec_ArePaths.bits4 : waitsOk spec_ArePaths.T4.2 spec_ArePaths.B4 = true := by kernel_rfl
set_option maxHeartbeats 8000000 in
set_option maxRecDepth 100000 in
theorem spec_ArePaths.calls (k : Nat) (A0 : Option Addr) (c0 : Nat) (l0 : List (S58)) (r : Bool) (w : World) (hr0 : Kd.C k58 w A0 l0.length l0) (hc0 : l0.length ≤ c0) (h : spec_ArePaths.f k l0 = some r) :
    Calls Try.prog 77 #[.slice A0 l0.length c0] w fun e w' => e = .returned (.bool r) ∧ Below w.heap.size w w' := by
  have hu58 := Try.underlying58
  have HR0 := Aside0.mk hr0
  have HC0 := Aside0.mk hc0
  clear hr0 hc0
  have HB := Aside0.mk (Below.refl w.heap.size w)
  have H : (spec_ArePaths.l0 k l0 0) = some r := h
  clear h
  have H' := Aside0.mk H
  clear H
  go_enter Try.func77, Try.ntmps77
  go_wp2
  go_loopg [3] k (fun kq v3 w' => ∃ (x3_1 : Int), v3 = .int .i64 x3_1 ∧ Aside0 (spec_ArePaths.l0 kq l0 x3_1 = some r) ∧ Aside0 (kq ≤ k) ∧ Aside0 (Below w.heap.size w w'))
  case atStart => exact ⟨(0), rS, H', ⟨Nat.le_refl _⟩, ⟨bA⟩⟩
  case round =>
    clear H'
    obtain ⟨x3_1, rfl, HA, HK1, HB⟩ := hrel
    cases gk with
    | zero => exact absurd HA.out (by simp [spec_ArePaths.l0])
    | succ k1 =>
      have H := HA.out
      clear HA
      simp only [spec_ArePaths.l0] at H
      by_cases c2 : x3_1 < (l0.length : Int)
      · rw [if_pos c2] at H
        have c2b0 : decide (x3_1 < (l0.length : Int)) = true := decide_eq_true c2
        clear c2
        have c3 : 0 ≤ x3_1 := ifN H
        replace H := ifT H
        have c3b0 : decide (0 ≤ x3_1) = true := decide_eq_true c3
        clear c3
        obtain ⟨t130, A4, H⟩ := bindE H
        try dsimp only at H
        by_cases c5 : t130 = true
        · subst c5
          have H1 : (if x3_1 > 0 then (if 0 ≤ (wrap64 (x3_1 - 1)) then (if (wrap64 (x3_1 - 1)) < (l0.length : Int) then (if ((rd_T58 l0 (wrap64 (x3_1 - 1))).f0) ≥ ((rd_T58 l0 x3_1).f0) then (some false) else (spec_ArePaths.l0 k1 l0 (wrap64 (x3_1 + 1)))) else (none)) else (none)) else (spec_ArePaths.l0 k1 l0 (wrap64 (x3_1 + 1)))) = some r := by rw [if_pos rfl] at H; exact H
          clear H
          have H := H1
          clear H1
          by_cases c6 : x3_1 > 0
          · rw [if_pos c6] at H
            have c6b0 : decide (0 < x3_1) = true := decide_eq_true c6
            clear c6
            obtain ⟨ji7, hji7⟩ : ∃ j_ : Int, (wrap64 (x3_1 - 1)) = j_ := ⟨_, rfl⟩
            replace H : (if 0 ≤ (ji7) then (if (ji7) < (l0.length : Int) then (if ((rd_T58 l0 (ji7)).f0) ≥ ((rd_T58 l0 x3_1).f0) then (some false) else (spec_ArePaths.l0 k1 l0 (wrap64 (x3_1 + 1)))) else (none)) else (none)) = some r := by first | (rw [hji7] at H; exact H) | (simp only [hji7] at H ⊢; exact H)
            (try rw [hji7] at A4)
            have hji7w : (IntKind.i64.wrap (x3_1 - 1)) = ji7 := (i64_w _).trans hji7
            have c8 : 0 ≤ (ji7) := ifN H
            replace H := ifT H
            have c8b0 : decide (0 ≤ (ji7)) = true := decide_eq_true c8
            clear c8
            have c9 : (ji7) < (l0.length : Int) := ifN H
            replace H := ifT H
            have c9b0 : decide ((ji7) < (l0.length : Int)) = true := decide_eq_true c9
            clear c9
            by_cases c10 : ((rd_T58 l0 (ji7)).f0) ≥ ((rd_T58 l0 x3_1).f0)
            · rw [if_pos c10] at H
              have c10b0 : decide (((rd_T58 l0 x3_1).f0) ≤ ((rd_T58 l0 (ji7)).f0)) = true := decide_eq_true c10
              clear c10
              obtain rfl := Option.some.inj H
              try go_wp2
              have HBo := HB
              replace HB := Aside0.mk (below_drew1 HB.out)
              have p129 : 0 ≤ (x3_1 : Int) := dA
              have q129 : x3_1 < (l0.length : Int) := dA
              obtain ⟨ad129, e129, hx129_0, hx129_1, hx129_2, hx129_3⟩ := at_T58 HR0.out x3_1 p129 q129
              have hw129_3 := hx129_3
              have hw129_2 := hx129_2
              have hw129_1 := hx129_1
              have hw129_0 := hx129_0
              cases e129
              replace hx129_0 := hC HB hx129_0
              replace hx129_1 := hC HB hx129_1
              replace hx129_2 := hC HB hx129_2
              replace hx129_3 := hC HB hx129_3
              replace p129 := eq_true p129
              replace q129 := eq_true q129
              have p131 : 0 ≤ ((ji7) : Int) := dA
              have q131 : (ji7) < (l0.length : Int) := dA
              obtain ⟨ad131, e131, hx131_0, hx131_1, hx131_2, hx131_3⟩ := at_T58 HR0.out (ji7) p131 q131
              have hw131_3 := hx131_3
              have hw131_2 := hx131_2
              have hw131_1 := hx131_1
              have hw131_0 := hx131_0
              obtain rfl : ad129 = ad131 := (by injection e131)
              replace hx131_0 := hC HB hx131_0
              replace hx131_1 := hC HB hx131_1
              replace hx131_2 := hC HB hx131_2
              replace hx131_3 := hC HB hx131_3
              replace p131 := eq_true p131
              replace q131 := eq_true q131
              have p132 : 0 ≤ (x3_1 : Int) := dA
              have q132 : x3_1 < (l0.length : Int) := dA
              obtain ⟨ad132, e132, hx132_0, hx132_1, hx132_2, hx132_3⟩ := at_T58 HR0.out x3_1 p132 q132
              have hw132_3 := hx132_3
              have hw132_2 := hx132_2
              have hw132_1 := hx132_1
              have hw132_0 := hx132_0
              obtain rfl : ad129 = ad132 := (by injection e132)
              replace hx132_0 := hC HB hx132_0
              replace hx132_1 := hC HB hx132_1
              replace hx132_2 := hC HB hx132_2
              replace hx132_3 := hC HB hx132_3
              replace p132 := eq_true p132
              replace q132 := eq_true q132
              refine start_ (n := 24) (S := fun w' => w'.cell? (ad129.add ((x3_1).toNat * 4)) = some (.int .i64 ((rd_T58 l0 x3_1).f0)) ∧ w'.cell? ⟨(ad129.add ((x3_1).toNat * 4)).block, (ad129.add ((x3_1).toNat * 4)).off + 1, none⟩ = some (.int .i64 ((rd_T58 l0 x3_1).f1)) ∧ w'.cell? ⟨(ad129.add ((x3_1).toNat * 4)).block, (ad129.add ((x3_1).toNat * 4)).off + 2, none⟩ = some (.int .i64 ((rd_T58 l0 x3_1).f2)) ∧ w'.cell? ⟨(ad129.add ((x3_1).toNat * 4)).block, (ad129.add ((x3_1).toNat * 4)).off + 3, none⟩ = some (.int .i64 ((rd_T58 l0 x3_1).f3)) ∧ w'.cell? (ad129.add (((ji7)).toNat * 4)) = some (.int .i64 ((rd_T58 l0 (ji7)).f0)) ∧ w'.cell? ⟨(ad129.add (((ji7)).toNat * 4)).block, (ad129.add (((ji7)).toNat * 4)).off + 1, none⟩ = some (.int .i64 ((rd_T58 l0 (ji7)).f1)) ∧ w'.cell? ⟨(ad129.add (((ji7)).toNat * 4)).block, (ad129.add (((ji7)).toNat * 4)).off + 2, none⟩ = some (.int .i64 ((rd_T58 l0 (ji7)).f2)) ∧ w'.cell? ⟨(ad129.add (((ji7)).toNat * 4)).block, (ad129.add (((ji7)).toNat * 4)).off + 3, none⟩ = some (.int .i64 ((rd_T58 l0 (ji7)).f3)) ∧ w'.cell? (ad129.add ((x3_1).toNat * 4)) = some (.int .i64 ((rd_T58 l0 x3_1).f0)) ∧ w'.cell? ⟨(ad129.add ((x3_1).toNat * 4)).block, (ad129.add ((x3_1).toNat * 4)).off + 1, none⟩ = some (.int .i64 ((rd_T58 l0 x3_1).f1)) ∧ w'.cell? ⟨(ad129.add ((x3_1).toNat * 4)).block, (ad129.add ((x3_1).toNat * 4)).off + 2, none⟩ = some (.int .i64 ((rd_T58 l0 x3_1).f2)) ∧ w'.cell? ⟨(ad129.add ((x3_1).toNat * 4)).block, (ad129.add ((x3_1).toNat * 4)).off + 3, none⟩ = some (.int .i64 ((rd_T58 l0 x3_1).f3))) (ds := []) (mb 24 0) (by kernel_rfl) rfl rfl ⟨(hC HB hw129_0), (hC HB hw129_1), (hC HB hw129_2), (hC HB hw129_3), (hC HB hw131_0), (hC HB hw131_1), (hC HB hw131_2), (hC HB hw131_3), (hC HB hw132_0), (hC HB hw132_1), (hC HB hw132_2), (hC HB hw132_3)⟩ (fun hHeld => ?_); refine with_tabW spec_ArePaths.tab4 spec_ArePaths.bits4 (fun HT_ HW_ => ?_)
              generalize wr.drew = w11 at HB hx129_0 hx129_1 hx129_2 hx129_3 hx131_0 hx131_1 hx131_2 hx131_3 hx132_0 hx132_1 hx132_2 hx132_3 hHeld ⊢
              refine pA (i := 0) (N := some 10) (mb 24 1) HT_ ?_
              refine pA (i := 1) (N := some 11) (mb 24 3) HT_ ?_
              refine pA (i := 2) (N := some 12) (mb 24 7) HT_ ?_
              refine tA12 (i := 3) (N := some 13) (mb 24 15) HT_ HW_ hHeld ?_
              refine oA (i := 4) (N := some 14) (mb 24 31) HT_ (fun K hK => ?_)
              refine gA Try.func91 #[.agg #[.int .i64 ((rd_T58 l0 x3_1).f0), .int .i64 ((rd_T58 l0 x3_1).f1), .int .i64 ((rd_T58 l0 x3_1).f2), .int .i64 ((rd_T58 l0 x3_1).f3)]] ?_
              with_reducible refine (spec_IsPath.calls ((rd_T58 l0 x3_1).f0) ((rd_T58 l0 x3_1).f1) ((rd_T58 l0 x3_1).f2) ((rd_T58 l0 x3_1).f3) true _ A4.out).mono ?_
              rintro e w12 ⟨rfl, hb⟩
              refine ⟨_, rfl, ?_⟩
              replace HB := Aside0.mk (below_step bA hb)
              (try clear hb)
              (try clear hb2)
              (try clear hk)
              (try clear hi)
              refine hK.out _ _ ⟨(hC HB hw129_0), (hC HB hw129_1), (hC HB hw129_2), (hC HB hw129_3), (hC HB hw131_0), (hC HB hw131_1), (hC HB hw131_2), (hC HB hw131_3), (hC HB hw132_0), (hC HB hw132_1), (hC HB hw132_2), (hC HB hw132_3)⟩ (fun hHeld => ?_)
              clear hK K
              refine nA ?_
              refine pA (i := 5) (N := some 15) (mb 24 63) HT_ ?_
              refine pA (i := 6) (N := some 16) (mb 24 127) HT_ ?_
              refine pA (i := 7) (N := some 17) (mb 24 255) HT_ ?_
              refine pA (i := 8) (N := some 18) (mb 24 511) HT_ ?_
              refine pA (i := 9) (N := some 19) (mb 24 1023) HT_ ?_
              refine pA (i := 10) (N := some 20) (mb 24 2047) HT_ ?_
              refine pA (i := 11) (N := some 21) (mb 24 4095) HT_ ?_
              refine pA (i := 12) (N := some 22) (mb 24 8191) HT_ ?_
              refine pA (i := 13) (N := some 23) (mb 24 16383) HT_ ?_
              refine pA (i := 14) (N := some 24) (mb 24 32767) HT_ ?_
              refine pA (i := 16) (N := some 26) (mb 24 98303) HT_ ?_
              refine pA (i := 17) (N := some 27) (mb 24 229375) HT_ ?_
              refine pA (i := 18) (N := some 28) (mb 24 491519) HT_ ?_
              refine pA (i := 19) (N := some 29) (mb 24 1015807) HT_ ?_
              refine tA12 (i := 15) (N := some 25) (mb 24 1048575) HT_ HW_ hHeld ?_
              refine tA12 (i := 20) (N := some 30) (mb 24 2097151) HT_ HW_ hHeld ?_
              refine pA (i := 21) (N := some 31) (mb 24 4194303) HT_ ?_
              refine pA (i := 22) (N := some 32) (mb 24 8388607) HT_ ?_
              refine pA (i := 23) (N := some 33) (mb 24 16777215) HT_ ?_
              refine eA HT_ ?_
              try go_wp2
              go_ret
              exact ⟨by first | rfl | (simp [errW_none, errW_some] <;> rfl) | (simp only [← hji7]; first | rfl | (simp [errW_none, errW_some] <;> rfl)) | (simp [*, errW_none, errW_some] <;> rfl), bA⟩
            · rw [if_neg c10] at H
              have c10b0 : decide (((rd_T58 l0 x3_1).f0) ≤ ((rd_T58 l0 (ji7)).f0)) = false := decide_eq_false c10
              clear c10
              have H' := Aside0.mk H
              clear H
              try go_wp2
              have HBo := HB
              replace HB := Aside0.mk (below_drew1 HB.out)
              have p129 : 0 ≤ (x3_1 : Int) := dA
              have q129 : x3_1 < (l0.length : Int) := dA
              obtain ⟨ad129, e129, hx129_0, hx129_1, hx129_2, hx129_3⟩ := at_T58 HR0.out x3_1 p129 q129
              have hw129_3 := hx129_3
              have hw129_2 := hx129_2
              have hw129_1 := hx129_1
              have hw129_0 := hx129_0
              cases e129
              replace hx129_0 := hC HB hx129_0
              replace hx129_1 := hC HB hx129_1
              replace hx129_2 := hC HB hx129_2
              replace hx129_3 := hC HB hx129_3
              replace p129 := eq_true p129
              replace q129 := eq_true q129
              have p131 : 0 ≤ ((ji7) : Int) := dA
              have q131 : (ji7) < (l0.length : Int) := dA
              obtain ⟨ad131, e131, hx131_0, hx131_1, hx131_2, hx131_3⟩ := at_T58 HR0.out (ji7) p131 q131
              have hw131_3 := hx131_3
              have hw131_2 := hx131_2
              have hw131_1 := hx131_1
              have hw131_0 := hx131_0
              obtain rfl : ad129 = ad131 := (by injection e131)
              replace hx131_0 := hC HB hx131_0
              replace hx131_1 := hC HB hx131_1
              replace hx131_2 := hC HB hx131_2
              replace hx131_3 := hC HB hx131_3
              replace p131 := eq_true p131
              replace q131 := eq_true q131
              have p132 : 0 ≤ (x3_1 : Int) := dA
              have q132 : x3_1 < (l0.length : Int) := dA
              obtain ⟨ad132, e132, hx132_0, hx132_1, hx132_2, hx132_3⟩ := at_T58 HR0.out x3_1 p132 q132
              have hw132_3 := hx132_3
              have hw132_2 := hx132_2
              have hw132_1 := hx132_1
              have hw132_0 := hx132_0
              obtain rfl : ad129 = ad132 := (by injection e132)
              replace hx132_0 := hC HB hx132_0
              replace hx132_1 := hC HB hx132_1
              replace hx132_2 := hC HB hx132_2
              replace hx132_3 := hC HB hx132_3
              replace p132 := eq_true p132
              replace q132 := eq_true q132
              refine start_ (n := 24) (S := fun w' => w'.cell? (ad129.add ((x3_1).toNat * 4)) = some (.int .i64 ((rd_T58 l0 x3_1).f0)) ∧ w'.cell? ⟨(ad129.add ((x3_1).toNat * 4)).block, (ad129.add ((x3_1).toNat * 4)).off + 1, none⟩ = some (.int .i64 ((rd_T58 l0 x3_1).f1)) ∧ w'.cell? ⟨(ad129.add ((x3_1).toNat * 4)).block, (ad129.add ((x3_1).toNat * 4)).off + 2, none⟩ = some (.int .i64 ((rd_T58 l0 x3_1).f2)) ∧ w'.cell? ⟨(ad129.add ((x3_1).toNat * 4)).block, (ad129.add ((x3_1).toNat * 4)).off + 3, none⟩ = some (.int .i64 ((rd_T58 l0 x3_1).f3)) ∧ w'.cell? (ad129.add (((ji7)).toNat * 4)) = some (.int .i64 ((rd_T58 l0 (ji7)).f0)) ∧ w'.cell? ⟨(ad129.add (((ji7)).toNat * 4)).block, (ad129.add (((ji7)).toNat * 4)).off + 1, none⟩ = some (.int .i64 ((rd_T58 l0 (ji7)).f1)) ∧ w'.cell? ⟨(ad129.add (((ji7)).toNat * 4)).block, (ad129.add (((ji7)).toNat * 4)).off + 2, none⟩ = some (.int .i64 ((rd_T58 l0 (ji7)).f2)) ∧ w'.cell? ⟨(ad129.add (((ji7)).toNat * 4)).block, (ad129.add (((ji7)).toNat * 4)).off + 3, none⟩ = some (.int .i64 ((rd_T58 l0 (ji7)).f3)) ∧ w'.cell? (ad129.add ((x3_1).toNat * 4)) = some (.int .i64 ((rd_T58 l0 x3_1).f0)) ∧ w'.cell? ⟨(ad129.add ((x3_1).toNat * 4)).block, (ad129.add ((x3_1).toNat * 4)).off + 1, none⟩ = some (.int .i64 ((rd_T58 l0 x3_1).f1)) ∧ w'.cell? ⟨(ad129.add ((x3_1).toNat * 4)).block, (ad129.add ((x3_1).toNat * 4)).off + 2, none⟩ = some (.int .i64 ((rd_T58 l0 x3_1).f2)) ∧ w'.cell? ⟨(ad129.add ((x3_1).toNat * 4)).block, (ad129.add ((x3_1).toNat * 4)).off + 3, none⟩ = some (.int .i64 ((rd_T58 l0 x3_1).f3))) (ds := []) (mb 24 0) (by kernel_rfl) rfl rfl ⟨(hC HB hw129_0), (hC HB hw129_1), (hC HB hw129_2), (hC HB hw129_3), (hC HB hw131_0), (hC HB hw131_1), (hC HB hw131_2), (hC HB hw131_3), (hC HB hw132_0), (hC HB hw132_1), (hC HB hw132_2), (hC HB hw132_3)⟩ (fun hHeld => ?_); refine with_tabW spec_ArePaths.tab4 spec_ArePaths.bits4 (fun HT_ HW_ => ?_)
              generalize wr.drew = w13 at HB hx129_0 hx129_1 hx129_2 hx129_3 hx131_0 hx131_1 hx131_2 hx131_3 hx132_0 hx132_1 hx132_2 hx132_3 hHeld ⊢
              refine pA (i := 0) (N := some 10) (mb 24 1) HT_ ?_
              refine pA (i := 1) (N := some 11) (mb 24 3) HT_ ?_
              refine pA (i := 2) (N := some 12) (mb 24 7) HT_ ?_
              refine tA12 (i := 3) (N := some 13) (mb 24 15) HT_ HW_ hHeld ?_
              refine oA (i := 4) (N := some 14) (mb 24 31) HT_ (fun K hK => ?_)
              refine gA Try.func91 #[.agg #[.int .i64 ((rd_T58 l0 x3_1).f0), .int .i64 ((rd_T58 l0 x3_1).f1), .int .i64 ((rd_T58 l0 x3_1).f2), .int .i64 ((rd_T58 l0 x3_1).f3)]] ?_
              with_reducible refine (spec_IsPath.calls ((rd_T58 l0 x3_1).f0) ((rd_T58 l0 x3_1).f1) ((rd_T58 l0 x3_1).f2) ((rd_T58 l0 x3_1).f3) true _ A4.out).mono ?_
              rintro e w14 ⟨rfl, hb⟩
              refine ⟨_, rfl, ?_⟩
              replace HB := Aside0.mk (below_step bA hb)
              (try clear hb)
              (try clear hb2)
              (try clear hk)
              (try clear hi)
              refine hK.out _ _ ⟨(hC HB hw129_0), (hC HB hw129_1), (hC HB hw129_2), (hC HB hw129_3), (hC HB hw131_0), (hC HB hw131_1), (hC HB hw131_2), (hC HB hw131_3), (hC HB hw132_0), (hC HB hw132_1), (hC HB hw132_2), (hC HB hw132_3)⟩ (fun hHeld => ?_)
              clear hK K
              refine nA ?_
              refine pA (i := 5) (N := some 15) (mb 24 63) HT_ ?_
              refine pA (i := 6) (N := some 16) (mb 24 127) HT_ ?_
              refine pA (i := 7) (N := some 17) (mb 24 255) HT_ ?_
              refine pA (i := 8) (N := some 18) (mb 24 511) HT_ ?_
              refine pA (i := 9) (N := some 19) (mb 24 1023) HT_ ?_
              refine pA (i := 10) (N := some 20) (mb 24 2047) HT_ ?_
              refine pA (i := 11) (N := some 21) (mb 24 4095) HT_ ?_
              refine pA (i := 12) (N := some 22) (mb 24 8191) HT_ ?_
              refine pA (i := 13) (N := some 23) (mb 24 16383) HT_ ?_
              refine pA (i := 14) (N := some 24) (mb 24 32767) HT_ ?_
              refine pA (i := 16) (N := some 26) (mb 24 98303) HT_ ?_
              refine pA (i := 17) (N := some 27) (mb 24 229375) HT_ ?_
              refine pA (i := 18) (N := some 28) (mb 24 491519) HT_ ?_
              refine pA (i := 19) (N := some 29) (mb 24 1015807) HT_ ?_
              refine tA12 (i := 15) (N := some 25) (mb 24 1048575) HT_ HW_ hHeld ?_
              refine tA12 (i := 20) (N := some 30) (mb 24 2097151) HT_ HW_ hHeld ?_
              refine pA (i := 21) (N := some 31) (mb 24 4194303) HT_ ?_
              refine pA (i := 22) (N := some 32) (mb 24 8388607) HT_ ?_
              refine pA (i := 23) (N := some 33) (mb 24 16777215) HT_ ?_
              refine eA HT_ ?_
              try go_wp2
              go_roundg k1
              case measure => have := HK1.out; omega
              case rel => exact ⟨(wrap64 (x3_1 + 1)), rS, H', ⟨by have := HK1.out; omega⟩, ⟨bA⟩⟩
          · rw [if_neg c6] at H
            have c6b0 : decide (0 < x3_1) = false := decide_eq_false c6
            clear c6
            have H' := Aside0.mk H
            clear H
            try go_wp2
            have HBo := HB
            replace HB := Aside0.mk (below_drew1 HB.out)
            have p129 : 0 ≤ (x3_1 : Int) := dA
            have q129 : x3_1 < (l0.length : Int) := dA
            obtain ⟨ad129, e129, hx129_0, hx129_1, hx129_2, hx129_3⟩ := at_T58 HR0.out x3_1 p129 q129
            have hw129_3 := hx129_3
            have hw129_2 := hx129_2
            have hw129_1 := hx129_1
            have hw129_0 := hx129_0
            cases e129
            replace hx129_0 := hC HB hx129_0
            replace hx129_1 := hC HB hx129_1
            replace hx129_2 := hC HB hx129_2
            replace hx129_3 := hC HB hx129_3
            replace p129 := eq_true p129
            replace q129 := eq_true q129
            refine start_ (n := 24) (S := fun w' => w'.cell? (ad129.add ((x3_1).toNat * 4)) = some (.int .i64 ((rd_T58 l0 x3_1).f0)) ∧ w'.cell? ⟨(ad129.add ((x3_1).toNat * 4)).block, (ad129.add ((x3_1).toNat * 4)).off + 1, none⟩ = some (.int .i64 ((rd_T58 l0 x3_1).f1)) ∧ w'.cell? ⟨(ad129.add ((x3_1).toNat * 4)).block, (ad129.add ((x3_1).toNat * 4)).off + 2, none⟩ = some (.int .i64 ((rd_T58 l0 x3_1).f2)) ∧ w'.cell? ⟨(ad129.add ((x3_1).toNat * 4)).block, (ad129.add ((x3_1).toNat * 4)).off + 3, none⟩ = some (.int .i64 ((rd_T58 l0 x3_1).f3))) (ds := []) (mb 24 0) (by kernel_rfl) rfl rfl ⟨(hC HB hw129_0), (hC HB hw129_1), (hC HB hw129_2), (hC HB hw129_3)⟩ (fun hHeld => ?_); refine with_tabW spec_ArePaths.tab4 spec_ArePaths.bits4 (fun HT_ HW_ => ?_)
            generalize wr.drew = w15 at HB hx129_0 hx129_1 hx129_2 hx129_3 hHeld ⊢
            refine pA (i := 0) (N := some 10) (mb 24 1) HT_ ?_
            refine pA (i := 1) (N := some 11) (mb 24 3) HT_ ?_
            refine pA (i := 2) (N := some 12) (mb 24 7) HT_ ?_
            refine tA4 (i := 3) (N := some 13) (mb 24 15) HT_ HW_ hHeld ?_
            refine oA (i := 4) (N := some 14) (mb 24 31) HT_ (fun K hK => ?_)
            refine gA Try.func91 #[.agg #[.int .i64 ((rd_T58 l0 x3_1).f0), .int .i64 ((rd_T58 l0 x3_1).f1), .int .i64 ((rd_T58 l0 x3_1).f2), .int .i64 ((rd_T58 l0 x3_1).f3)]] ?_
            with_reducible refine (spec_IsPath.calls ((rd_T58 l0 x3_1).f0) ((rd_T58 l0 x3_1).f1) ((rd_T58 l0 x3_1).f2) ((rd_T58 l0 x3_1).f3) true _ A4.out).mono ?_
            rintro e w16 ⟨rfl, hb⟩
            refine ⟨_, rfl, ?_⟩
            replace HB := Aside0.mk (below_step bA hb)
            (try clear hb)
            (try clear hb2)
            (try clear hk)
            (try clear hi)
            refine hK.out _ _ ⟨(hC HB hw129_0), (hC HB hw129_1), (hC HB hw129_2), (hC HB hw129_3)⟩ (fun hHeld => ?_)
            clear hK K
            refine nA ?_
            refine pA (i := 5) (N := some 15) (mb 24 63) HT_ ?_
            refine pA (i := 6) (N := some 16) (mb 24 127) HT_ ?_
            refine pA (i := 7) (N := some 17) (mb 24 255) HT_ ?_
            refine pA (i := 8) (N := some 18) (mb 24 511) HT_ ?_
            refine pA (i := 9) (N := some 19) (mb 24 1023) HT_ ?_
            refine pU (i := 10) (N := some 20) (mb 24 2047) HT_ ?_
            refine pU (i := 11) (N := some 21) (mb 24 4095) HT_ ?_
            refine pU (i := 12) (N := some 22) (mb 24 8191) HT_ ?_
            refine pU (i := 13) (N := some 23) (mb 24 16383) HT_ ?_
            refine pU (i := 14) (N := some 24) (mb 24 32767) HT_ ?_
            refine pU (i := 15) (N := some 25) (mb 24 65535) HT_ ?_
            refine pU (i := 16) (N := some 26) (mb 24 131071) HT_ ?_
            refine pU (i := 17) (N := some 27) (mb 24 262143) HT_ ?_
            refine pU (i := 18) (N := some 28) (mb 24 524287) HT_ ?_
            refine pU (i := 19) (N := some 29) (mb 24 1048575) HT_ ?_
            refine pU (i := 20) (N := some 30) (mb 24 2097151) HT_ ?_
            refine pU (i := 21) (N := some 31) (mb 24 4194303) HT_ ?_
            refine pA (i := 22) (N := some 32) (mb 24 8388607) HT_ ?_
            refine pA (i := 23) (N := some 33) (mb 24 16777215) HT_ ?_
            refine eA HT_ ?_
            try go_wp2
            go_roundg k1
            case measure => have := HK1.out; omega
            case rel => exact ⟨(wrap64 (x3_1 + 1)), rS, H', ⟨by have := HK1.out; omega⟩, ⟨bA⟩⟩
        · replace c5 := Bool.eq_false_iff.mpr c5
          subst c5
          have H1 : (some false) = some r := by rw [if_neg (show ¬ (false = true) by decide)] at H; exact H
          clear H
          have H := H1
          clear H1
          obtain rfl := Option.some.inj H
          try go_wp2
          have HBo := HB
          replace HB := Aside0.mk (below_drew1 HB.out)
          have p129 : 0 ≤ (x3_1 : Int) := dA
          have q129 : x3_1 < (l0.length : Int) := dA
          obtain ⟨ad129, e129, hx129_0, hx129_1, hx129_2, hx129_3⟩ := at_T58 HR0.out x3_1 p129 q129
          have hw129_3 := hx129_3
          have hw129_2 := hx129_2
          have hw129_1 := hx129_1
          have hw129_0 := hx129_0
          cases e129
          replace hx129_0 := hC HB hx129_0
          replace hx129_1 := hC HB hx129_1
          replace hx129_2 := hC HB hx129_2
          replace hx129_3 := hC HB hx129_3
          replace p129 := eq_true p129
          replace q129 := eq_true q129
          refine start_ (n := 24) (S := fun w' => w'.cell? (ad129.add ((x3_1).toNat * 4)) = some (.int .i64 ((rd_T58 l0 x3_1).f0)) ∧ w'.cell? ⟨(ad129.add ((x3_1).toNat * 4)).block, (ad129.add ((x3_1).toNat * 4)).off + 1, none⟩ = some (.int .i64 ((rd_T58 l0 x3_1).f1)) ∧ w'.cell? ⟨(ad129.add ((x3_1).toNat * 4)).block, (ad129.add ((x3_1).toNat * 4)).off + 2, none⟩ = some (.int .i64 ((rd_T58 l0 x3_1).f2)) ∧ w'.cell? ⟨(ad129.add ((x3_1).toNat * 4)).block, (ad129.add ((x3_1).toNat * 4)).off + 3, none⟩ = some (.int .i64 ((rd_T58 l0 x3_1).f3))) (ds := []) (mb 24 0) (by kernel_rfl) rfl rfl ⟨(hC HB hw129_0), (hC HB hw129_1), (hC HB hw129_2), (hC HB hw129_3)⟩ (fun hHeld => ?_); refine with_tabW spec_ArePaths.tab4 spec_ArePaths.bits4 (fun HT_ HW_ => ?_)
          generalize wr.drew = w17 at HB hx129_0 hx129_1 hx129_2 hx129_3 hHeld ⊢
          refine pA (i := 0) (N := some 10) (mb 24 1) HT_ ?_
          refine pA (i := 1) (N := some 11) (mb 24 3) HT_ ?_
          refine pA (i := 2) (N := some 12) (mb 24 7) HT_ ?_
          refine tA4 (i := 3) (N := some 13) (mb 24 15) HT_ HW_ hHeld ?_
          refine oA (i := 4) (N := some 14) (mb 24 31) HT_ (fun K hK => ?_)
          refine gA Try.func91 #[.agg #[.int .i64 ((rd_T58 l0 x3_1).f0), .int .i64 ((rd_T58 l0 x3_1).f1), .int .i64 ((rd_T58 l0 x3_1).f2), .int .i64 ((rd_T58 l0 x3_1).f3)]] ?_
          with_reducible refine (spec_IsPath.calls ((rd_T58 l0 x3_1).f0) ((rd_T58 l0 x3_1).f1) ((rd_T58 l0 x3_1).f2) ((rd_T58 l0 x3_1).f3) false _ A4.out).mono ?_
          rintro e w18 ⟨rfl, hb⟩
          refine ⟨_, rfl, ?_⟩
          replace HB := Aside0.mk (below_step bA hb)
          (try clear hb)
          (try clear hb2)
          (try clear hk)
          (try clear hi)
          refine hK.out _ _ ⟨(hC HB hw129_0), (hC HB hw129_1), (hC HB hw129_2), (hC HB hw129_3)⟩ (fun hHeld => ?_)
          clear hK K
          refine nA ?_
          refine pA (i := 5) (N := some 15) (mb 24 63) HT_ ?_
          refine pA (i := 6) (N := some 16) (mb 24 127) HT_ ?_
          refine pU (i := 7) (N := some 17) (mb 24 255) HT_ ?_
          refine pU (i := 8) (N := some 18) (mb 24 511) HT_ ?_
          refine pU (i := 9) (N := some 19) (mb 24 1023) HT_ ?_
          refine pU (i := 10) (N := some 20) (mb 24 2047) HT_ ?_
          refine pU (i := 11) (N := some 21) (mb 24 4095) HT_ ?_
          refine pU (i := 12) (N := some 22) (mb 24 8191) HT_ ?_
          refine pU (i := 13) (N := some 23) (mb 24 16383) HT_ ?_
          refine pU (i := 14) (N := some 24) (mb 24 32767) HT_ ?_
          refine pU (i := 15) (N := some 25) (mb 24 65535) HT_ ?_
          refine pU (i := 16) (N := some 26) (mb 24 131071) HT_ ?_
          refine pU (i := 17) (N := some 27) (mb 24 262143) HT_ ?_
          refine pU (i := 18) (N := some 28) (mb 24 524287) HT_ ?_
          refine pU (i := 19) (N := some 29) (mb 24 1048575) HT_ ?_
          refine pU (i := 20) (N := some 30) (mb 24 2097151) HT_ ?_
          refine pU (i := 21) (N := some 31) (mb 24 4194303) HT_ ?_
          refine pU (i := 22) (N := some 32) (mb 24 8388607) HT_ ?_
          refine pA (i := 23) (N := some 33) (mb 24 16777215) HT_ ?_
          refine eA HT_ ?_
          try go_wp2
          go_ret
          exact ⟨rA, bA⟩
      · rw [if_neg c2] at H
        have c2b0 : decide (x3_1 < (l0.length : Int)) = false := decide_eq_false c2
        clear c2
        obtain rfl := Option.some.inj H
        go_wp2
        go_ret
        exact ⟨rA, bA⟩

/-! ### spec_IsTogether: function 52 -/
mutual
def spec_IsTogether.l0 : Nat → List (S58) → List Int → Int → Option (Bool)
  | 0, _, _, _ => none
  | k + 1, x0, x1, x5 => if x5 < (x1.length : Int) then (if 0 ≤ x5 then ((spec_FindPath.f k x0 (rd x1 x5)).bind fun t135 => (if t135 < 0 then (spec_IsTogether.j1 k x0 x1 x5 t135 true) else (if x5 > 0 then (if 0 ≤ (wrap64 (x5 - 1)) then (if (wrap64 (x5 - 1)) < (x1.length : Int) then (spec_IsTogether.j1 k x0 x1 x5 t135 (decide ((rd x1 (wrap64 (x5 - 1))) ≥ (rd x1 x5)))) else (none)) else (none)) else (spec_IsTogether.j1 k x0 x1 x5 t135 false)))) else (none)) else ((spec_ArePaths.f k x0).bind fun t133 => (some t133))
def spec_IsTogether.j1 : Nat → List (S58) → List Int → Int → Int → Bool → Option (Bool)
  | 0, _, _, _, _, _ => none
  | k + 1, x0, x1, x5, x6, x37 => if x37 = true then (some false) else (spec_IsTogether.l1 k x0 x1 x5 x6 0)
def spec_IsTogether.l1 : Nat → List (S58) → List Int → Int → Int → Int → Option (Bool)
  | 0, _, _, _, _, _ => none
  | k + 1, x0, x1, x5, x6, x7 => if x7 < x5 then (if 0 ≤ x6 then (if x6 < (x0.length : Int) then (if 0 ≤ x7 then (if x7 < (x1.length : Int) then ((spec_FindPath.f k x0 (rd x1 x7)).bind fun t140 => (if 0 ≤ t140 then (if t140 < (x0.length : Int) then ((spec_Conflict.f k ((rd_T58 x0 x6).f0) ((rd_T58 x0 x6).f1) ((rd_T58 x0 x6).f2) ((rd_T58 x0 x6).f3) ((rd_T58 x0 t140).f0) ((rd_T58 x0 t140).f1) ((rd_T58 x0 t140).f2) ((rd_T58 x0 t140).f3)).bind fun t142 => (if t142 = true then (some false) else (spec_IsTogether.l1 k x0 x1 x5 x6 (wrap64 (x7 + 1))))) else (none)) else (none))) else (none)) else (none)) else (none)) else (none)) else (spec_IsTogether.l0 k x0 x1 (wrap64 (x5 + 1)))
end
def spec_IsTogether.f (k : Nat) (l0 : List (S58)) (l1 : List Int) : Option (Bool) := spec_IsTogether.l0 k l0 l1 0
theorem spec_IsTogether.mono_l : ∀ k, (∀ y0 y1 y2, LeO (spec_IsTogether.l0 k y0 y1 y2) (spec_IsTogether.l0 (k + 1) y0 y1 y2)) ∧ (∀ y0 y1 y2 y3 y4, LeO (spec_IsTogether.j1 k y0 y1 y2 y3 y4) (spec_IsTogether.j1 (k + 1) y0 y1 y2 y3 y4)) ∧ (∀ y0 y1 y2 y3 y4, LeO (spec_IsTogether.l1 k y0 y1 y2 y3 y4) (spec_IsTogether.l1 (k + 1) y0 y1 y2 y3 y4))
  | 0 => ⟨fun _ _ _ r h => by simp [spec_IsTogether.l0] at h, fun _ _ _ _ _ r h => by simp [spec_IsTogether.j1] at h, fun _ _ _ _ _ r h => by simp [spec_IsTogether.l1] at h⟩
  | k + 1 => by
    obtain ⟨ih0, ih1, ih2⟩ := spec_IsTogether.mono_l k
    refine ⟨?_, ?_, ?_⟩
    · intro y0 y1 y2
      unfold spec_IsTogether.l0
      repeat' first | (with_reducible first | exact LeO.refl _ | exact LeO.none _ | refine LeO.ite ?_ ?_ | refine LeO.bind ?_ (fun _ => ?_) | exact ih0 _ _ _ | exact ih1 _ _ _ _ _ | exact ih2 _ _ _ _ _ | exact spec_ArePaths.mono _ _ | exact spec_Conflict.mono _ _ _ _ _ _ _ _ _ | exact spec_FindPath.mono _ _ _) | exact LeO.none _ | refine LeO.ite ?_ ?_ | refine LeO.bind ?_ (fun _ => ?_) | exact ih0 _ _ _ | exact ih1 _ _ _ _ _ | exact ih2 _ _ _ _ _ | exact spec_ArePaths.mono _ _ | exact spec_Conflict.mono _ _ _ _ _ _ _ _ _ | exact spec_FindPath.mono _ _ _
    · intro y0 y1 y2 y3 y4
      unfold spec_IsTogether.j1
      repeat' first | (with_reducible first | exact LeO.refl _ | exact LeO.none _ | refine LeO.ite ?_ ?_ | refine LeO.bind ?_ (fun _ => ?_) | exact ih0 _ _ _ | exact ih1 _ _ _ _ _ | exact ih2 _ _ _ _ _ | exact spec_ArePaths.mono _ _ | exact spec_Conflict.mono _ _ _ _ _ _ _ _ _ | exact spec_FindPath.mono _ _ _) | exact LeO.none _ | refine LeO.ite ?_ ?_ | refine LeO.bind ?_ (fun _ => ?_) | exact ih0 _ _ _ | exact ih1 _ _ _ _ _ | exact ih2 _ _ _ _ _ | exact spec_ArePaths.mono _ _ | exact spec_Conflict.mono _ _ _ _ _ _ _ _ _ | exact spec_FindPath.mono _ _ _
    · intro y0 y1 y2 y3 y4
      unfold spec_IsTogether.l1
      repeat' first | (with_reducible first | exact LeO.refl _ | exact LeO.none _ | refine LeO.ite ?_ ?_ | refine LeO.bind ?_ (fun _ => ?_) | exact ih0 _ _ _ | exact ih1 _ _ _ _ _ | exact ih2 _ _ _ _ _ | exact spec_ArePaths.mono _ _ | exact spec_Conflict.mono _ _ _ _ _ _ _ _ _ | exact spec_FindPath.mono _ _ _) | exact LeO.none _ | refine LeO.ite ?_ ?_ | refine LeO.bind ?_ (fun _ => ?_) | exact ih0 _ _ _ | exact ih1 _ _ _ _ _ | exact ih2 _ _ _ _ _ | exact spec_ArePaths.mono _ _ | exact spec_Conflict.mono _ _ _ _ _ _ _ _ _ | exact spec_FindPath.mono _ _ _
theorem spec_IsTogether.mono : ∀ a0 a1 k, LeO (spec_IsTogether.f k a0 a1) (spec_IsTogether.f (k + 1) a0 a1) := by
  intro a0 a1 k
  obtain ⟨ih0, ih1, ih2⟩ := spec_IsTogether.mono_l k
  unfold spec_IsTogether.f
  repeat' first | (with_reducible first | exact LeO.refl _ | exact LeO.none _ | refine LeO.ite ?_ ?_ | refine LeO.bind ?_ (fun _ => ?_) | exact ih0 _ _ _ | exact ih1 _ _ _ _ _ | exact ih2 _ _ _ _ _ | exact spec_ArePaths.mono _ _ | exact spec_Conflict.mono _ _ _ _ _ _ _ _ _ | exact spec_FindPath.mono _ _ _) | exact LeO.none _ | refine LeO.ite ?_ ?_ | refine LeO.bind ?_ (fun _ => ?_) | exact ih0 _ _ _ | exact ih1 _ _ _ _ _ | exact ih2 _ _ _ _ _ | exact spec_ArePaths.mono _ _ | exact spec_Conflict.mono _ _ _ _ _ _ _ _ _ | exact spec_FindPath.mono _ _ _
def spec_IsTogether.T5 : Bool × List (List Nat × List Nat) := (true, [([], []), ([0], [0]), ([1], [1]), ([2], [2]), ([3, 2], [2, 3]), ([4, 2, 2], [2, 4]), ([5], [5]), ([5], [5]), ([7, 5], [5, 7]), ([6, 8, 5], [5, 6, 8]), ([9, 5], [5, 9]), ([5], [5]), ([5], [5]), ([11, 12, 5], [5, 11, 12]), ([13, 5], [5, 13]), ([10, 14, 5], [5, 10, 14]), ([5, 15, 2], [2, 5, 15]), ([2, 16], [2, 16])])
def spec_IsTogether.B5 : List Nat := [0, 1, 3, 7, 15, 31, 63, 63, 191, 511, 1023, 63, 63, 6207, 14399, 32767, 65535, 131071]
theorem spec_IsTogether.tab5 : rtab .any (opsOf Try.f52 5) = spec_IsTogether.T5 := by kernel_rfl
theorem spec_IsTogether.bits5 : waitsOk spec_IsTogether.T5.2 spec_IsTogether.B5 = true := by kernel_rfl
def spec_IsTogether.T10 : Bool × List (List Nat × List Nat) := (true, [([], []), ([], []), ([0, 1], [0, 1]), ([2], [2]), ([], []), ([], []), ([], []), ([], []), ([6, 7], [6, 7]), ([8], [8]), ([5, 9], [5, 9]), ([4, 10], [4, 10]), ([11], [11]), ([3, 12, 10], [3, 12])])
def spec_IsTogether.B10 : List Nat := [0, 0, 3, 7, 0, 0, 0, 0, 192, 448, 992, 2032, 4080, 8191]
theorem spec_IsTogether.tab10 : rtab .any (opsOf Try.f52 10) = spec_IsTogether.T10 := by kernel_rfl
theorem spec_IsTogether.bits10 : waitsOk spec_IsTogether.T10.2 spec_IsTogether.B10 = true := by kernel_rfl
set_option maxHeartbeats 8000000 in
set_option maxRecDepth 100000 in
theorem spec_IsTogether.calls (k : Nat) (A0 : Option Addr) (c0 : Nat) (l0 : List (S58)) (A1 : Option Addr) (c1 : Nat) (l1 : List Int) (r : Bool) (w : World) (hr0 : Kd.C k58 w A0 l0.length l0) (hc0 : l0.length ≤ c0) (hr1 : Kd.C (Kd.int .i64) w A1 l1.length l1) (hc1 : l1.length ≤ c1) (h : spec_IsTogether.f k l0 l1 = some r) :
    Calls Try.prog 52 #[.slice A0 l0.length c0, .slice A1 l1.length c1] w fun e w' => e = .returned (.bool r) ∧ Below w.heap.size w w' := by
  have hu58 := Try.underlying58
  have HR0 := Aside0.mk hr0
  have HC0 := Aside0.mk hc0
  clear hr0 hc0
  have HR1 := Aside0.mk hr1
  have HC1 := Aside0.mk hc1
  clear hr1 hc1
  have HB := Aside0.mk (Below.refl w.heap.size w)
  have H : (spec_IsTogether.l0 k l0 l1 0) = some r := h
  clear h
  have H' := Aside0.mk H
  clear H
  go_enter Try.func52, Try.ntmps52
  go_wp2
  go_loopg [5] k (fun kq v5 w' => ∃ (x5_1 : Int), v5 = .int .i64 x5_1 ∧ Aside0 (spec_IsTogether.l0 kq l0 l1 x5_1 = some r) ∧ Aside0 (kq ≤ k) ∧ Aside0 (Below w.heap.size w w'))
  case atStart => exact ⟨(0), rS, H', ⟨Nat.le_refl _⟩, ⟨bA⟩⟩
  case round =>
    clear H'
    try clear c1
    try clear p2
    obtain ⟨x5_1, rfl, HA, HK1, HB⟩ := hrel
    cases gk with
    | zero => exact absurd HA.out (by simp [spec_IsTogether.l0])
    | succ k1 =>
      have H := HA.out
      clear HA
      simp only [spec_IsTogether.l0] at H
      by_cases c3 : x5_1 < (l1.length : Int)
      · rw [if_pos c3] at H
        have c3b0 : decide (x5_1 < (l1.length : Int)) = true := decide_eq_true c3
        clear c3
        have c4 : 0 ≤ x5_1 := ifN H
        replace H := ifT H
        have c4b0 : decide (0 ≤ x5_1) = true := decide_eq_true c4
        clear c4
        obtain ⟨t135, A5, H⟩ := bindE H
        try dsimp only at H
        have HC6 := Aside0.mk H
        clear H
        have p134 : 0 ≤ (x5_1 : Int) := dA
        have q134 : x5_1 < (l1.length : Int) := dA
        obtain ⟨ad134, e134, hx134_0⟩ := Kd.at_int HR1.out x5_1 p134 q134
        cases e134
        replace hx134_0 := hC HB hx134_0
        replace p134 := eq_true p134
        replace q134 := eq_true q134
        go_upto_region 5 with (first | ((with_reducible refine gate_callee (f := 68) rfl ?_); refine gL (some 19) Try.func68 #[.slice A0 l0.length c0, .int .i64 (rd l1 x5_1)] ?_; (with_reducible refine (spec_FindPath.calls k1 _ _ l0 (rd l1 x5_1) t135 _ ?side1 ?side2 A5.out).mono ?_); (case side1 => exact cB HR0); (case side2 => exact HC0.out); rintro e w' ⟨rfl, ⟨nd, rfl⟩⟩; refine ⟨_, rfl, ?_⟩))
        (try simp only [Act.put, List.setIfInBounds_toArray, List.set_cons_zero, List.set_cons_succ])
        go_cut [37] (fun v37 wc => ∃ (kq : Nat) (x37_5 : Bool), v37 = .bool x37_5 ∧ Aside0 (spec_IsTogether.j1 kq l0 l1 x5_1 t135 x37_5 = some r) ∧ Aside0 (kq ≤ k1) ∧ Aside0 (Below w.heap.size w wc))
        case first =>
          have H := HC6.out
          clear HC6
          by_cases c7 : t135 < 0
          · rw [if_pos c7] at H
            have c7b0 : decide (t135 < 0) = true := decide_eq_true c7
            clear c7
            (first | rw [c7b0] | (simp only [i64_w, i32_w]; rw [c7b0]) | skip)
            have H' := Aside0.mk H
            clear H
            try go_wp2
            have HBo := HB
            replace HB := Aside0.mk (below_drew1 HB.out)
            refine start_ (n := 18) (S := fun w' => True) (ds := []) (mb 18 0) (by kernel_rfl) rfl rfl trivial (fun hHeld => ?_); refine with_tabW spec_IsTogether.tab5 spec_IsTogether.bits5 (fun HT_ HW_ => ?_)
            generalize wr.drew = w8 at HB hHeld ⊢
            refine pA (i := 0) (N := some 20) (mb 18 1) HT_ ?_
            refine pA (i := 1) (N := some 21) (mb 18 3) HT_ ?_
            refine pA (i := 2) (N := some 22) (mb 18 7) HT_ ?_
            refine pU (i := 3) (N := some 23) (mb 18 15) HT_ ?_
            refine pU (i := 4) (N := some 24) (mb 18 31) HT_ ?_
            refine pU (i := 5) (N := some 25) (mb 18 63) HT_ ?_
            refine pU (i := 6) (N := some 26) (mb 18 127) HT_ ?_
            refine pU (i := 7) (N := some 27) (mb 18 255) HT_ ?_
            refine pU (i := 8) (N := some 28) (mb 18 511) HT_ ?_
            refine pU (i := 9) (N := some 29) (mb 18 1023) HT_ ?_
            refine pU (i := 10) (N := some 30) (mb 18 2047) HT_ ?_
            refine pU (i := 11) (N := some 31) (mb 18 4095) HT_ ?_
            refine pU (i := 12) (N := some 32) (mb 18 8191) HT_ ?_
            refine pU (i := 13) (N := some 33) (mb 18 16383) HT_ ?_
            refine pU (i := 14) (N := some 34) (mb 18 32767) HT_ ?_
            refine pU (i := 15) (N := some 35) (mb 18 65535) HT_ ?_
            refine pU (i := 16) (N := some 36) (mb 18 131071) HT_ ?_
            refine pA (i := 17) (N := some 37) (mb 18 262143) HT_ ?_
            refine eA HT_ ?_
            try go_wp2
            go_meet
            case rel => exact ⟨_, (true), rS, H', ⟨by have := HK1.out; first | omega | exact Nat.le_refl _⟩, ⟨bA⟩⟩
          · rw [if_neg c7] at H
            have c7b0 : decide (t135 < 0) = false := decide_eq_false c7
            clear c7
            (first | rw [c7b0] | (simp only [i64_w, i32_w]; rw [c7b0]) | skip)
            by_cases c9 : x5_1 > 0
            · rw [if_pos c9] at H
              have c9b0 : decide (0 < x5_1) = true := decide_eq_true c9
              clear c9
              obtain ⟨ji10, hji10⟩ : ∃ j_ : Int, (wrap64 (x5_1 - 1)) = j_ := ⟨_, rfl⟩
              replace H : (if 0 ≤ (ji10) then (if (ji10) < (l1.length : Int) then (spec_IsTogether.j1 k1 l0 l1 x5_1 t135 (decide ((rd l1 (ji10)) ≥ (rd l1 x5_1)))) else (none)) else (none)) = some r := by first | (rw [hji10] at H; exact H) | (simp only [hji10] at H ⊢; exact H)
              have hji10w : (IntKind.i64.wrap (x5_1 - 1)) = ji10 := (i64_w _).trans hji10
              have c11 : 0 ≤ (ji10) := ifN H
              replace H := ifT H
              have c11b0 : decide (0 ≤ (ji10)) = true := decide_eq_true c11
              clear c11
              have c12 : (ji10) < (l1.length : Int) := ifN H
              replace H := ifT H
              have c12b0 : decide ((ji10) < (l1.length : Int)) = true := decide_eq_true c12
              clear c12
              have H' := Aside0.mk H
              clear H
              try go_wp2
              have HBo := HB
              replace HB := Aside0.mk (below_drew1 HB.out)
              have p136 : 0 ≤ ((ji10) : Int) := dA
              have q136 : (ji10) < (l1.length : Int) := dA
              obtain ⟨ad136, e136, hx136_0⟩ := Kd.at_int HR1.out (ji10) p136 q136
              have hw136_0 := hx136_0
              obtain rfl : ad134 = ad136 := (by injection e136)
              replace hx136_0 := hC HB hx136_0
              replace p136 := eq_true p136
              replace q136 := eq_true q136
              have p137 : 0 ≤ (x5_1 : Int) := dA
              have q137 : x5_1 < (l1.length : Int) := dA
              obtain ⟨ad137, e137, hx137_0⟩ := Kd.at_int HR1.out x5_1 p137 q137
              have hw137_0 := hx137_0
              obtain rfl : ad134 = ad137 := (by injection e137)
              replace hx137_0 := hC HB hx137_0
              replace p137 := eq_true p137
              replace q137 := eq_true q137
              refine start_ (n := 18) (S := fun w' => w'.cell? (ad134.add ((ji10)).toNat) = some (.int .i64 (rd l1 (ji10))) ∧ w'.cell? (ad134.add (x5_1).toNat) = some (.int .i64 (rd l1 x5_1))) (ds := []) (mb 18 0) (by kernel_rfl) rfl rfl ⟨(hC HB hw136_0), (hC HB hw137_0)⟩ (fun hHeld => ?_); refine with_tabW spec_IsTogether.tab5 spec_IsTogether.bits5 (fun HT_ HW_ => ?_)
              generalize wr.drew = w13 at HB hx136_0 hx137_0 hHeld ⊢
              refine pA (i := 0) (N := some 20) (mb 18 1) HT_ ?_
              refine pA (i := 1) (N := some 21) (mb 18 3) HT_ ?_
              refine pA (i := 2) (N := some 22) (mb 18 7) HT_ ?_
              refine pA (i := 3) (N := some 23) (mb 18 15) HT_ ?_
              refine pA (i := 4) (N := some 24) (mb 18 31) HT_ ?_
              refine pA (i := 5) (N := some 25) (mb 18 63) HT_ ?_
              refine pA (i := 6) (N := some 26) (mb 18 127) HT_ ?_
              refine pA (i := 7) (N := some 27) (mb 18 255) HT_ ?_
              refine pA (i := 8) (N := some 28) (mb 18 511) HT_ ?_
              refine pA (i := 9) (N := some 29) (mb 18 1023) HT_ ?_
              refine pA (i := 11) (N := some 31) (mb 18 3071) HT_ ?_
              refine pA (i := 12) (N := some 32) (mb 18 7167) HT_ ?_
              refine pA (i := 13) (N := some 33) (mb 18 15359) HT_ ?_
              refine tA2 (i := 10) (N := some 30) (mb 18 16383) HT_ HW_ hHeld ?_
              refine tA2 (i := 14) (N := some 34) (mb 18 32767) HT_ HW_ hHeld ?_
              refine pA (i := 15) (N := some 35) (mb 18 65535) HT_ ?_
              refine pA (i := 16) (N := some 36) (mb 18 131071) HT_ ?_
              refine pA (i := 17) (N := some 37) (mb 18 262143) HT_ ?_
              refine eA HT_ ?_
              try go_wp2
              go_meet
              case rel => exact ⟨_, (decide ((rd l1 (ji10)) ≥ (rd l1 x5_1))), (by first | rfl | (simp; done) | (simp only [← hji10] <;> (first | rfl | simp)) | (simp [*]; done)), H', ⟨by have := HK1.out; first | omega | exact Nat.le_refl _⟩, ⟨bA⟩⟩
            · rw [if_neg c9] at H
              have c9b0 : decide (0 < x5_1) = false := decide_eq_false c9
              clear c9
              have H' := Aside0.mk H
              clear H
              try go_wp2
              have HBo := HB
              replace HB := Aside0.mk (below_drew1 HB.out)
              refine start_ (n := 18) (S := fun w' => True) (ds := []) (mb 18 0) (by kernel_rfl) rfl rfl trivial (fun hHeld => ?_); refine with_tabW spec_IsTogether.tab5 spec_IsTogether.bits5 (fun HT_ HW_ => ?_)
              generalize wr.drew = w14 at HB hHeld ⊢
              refine pA (i := 0) (N := some 20) (mb 18 1) HT_ ?_
              refine pA (i := 1) (N := some 21) (mb 18 3) HT_ ?_
              refine pA (i := 2) (N := some 22) (mb 18 7) HT_ ?_
              refine pA (i := 3) (N := some 23) (mb 18 15) HT_ ?_
              refine pA (i := 4) (N := some 24) (mb 18 31) HT_ ?_
              refine pA (i := 5) (N := some 25) (mb 18 63) HT_ ?_
              refine pU (i := 6) (N := some 26) (mb 18 127) HT_ ?_
              refine pU (i := 7) (N := some 27) (mb 18 255) HT_ ?_
              refine pU (i := 8) (N := some 28) (mb 18 511) HT_ ?_
              refine pU (i := 9) (N := some 29) (mb 18 1023) HT_ ?_
              refine pU (i := 10) (N := some 30) (mb 18 2047) HT_ ?_
              refine pU (i := 11) (N := some 31) (mb 18 4095) HT_ ?_
              refine pU (i := 12) (N := some 32) (mb 18 8191) HT_ ?_
              refine pU (i := 13) (N := some 33) (mb 18 16383) HT_ ?_
              refine pU (i := 14) (N := some 34) (mb 18 32767) HT_ ?_
              refine pU (i := 15) (N := some 35) (mb 18 65535) HT_ ?_
              refine pA (i := 16) (N := some 36) (mb 18 131071) HT_ ?_
              refine pA (i := 17) (N := some 37) (mb 18 262143) HT_ ?_
              refine eA HT_ ?_
              try go_wp2
              go_meet
              case rel => exact ⟨_, (false), rS, H', ⟨by have := HK1.out; first | omega | exact Nat.le_refl _⟩, ⟨bA⟩⟩
        case rest =>
          clear HC6
          try clear c1
          try clear p1
          try clear q1
          try clear hx1
          try clear p2
          try clear c3
          try clear c3b0
          try clear c4
          try clear c4b0
          try clear c5
          try clear c6
          try clear p6
          try clear c7
          try clear c7b0
          try clear c9
          try clear c9b0
          try clear c11
          try clear c11b0
          try clear c12
          try clear c12b0
          try clear p13
          try clear q13
          try clear hx13
          try clear hx134_0
          try clear hx136_0
          try clear hx137_0
          try clear p134
          try clear p136
          try clear p137
          try clear p2
          try clear q134
          try clear q136
          try clear q137
          obtain ⟨kq, x37_5, rfl, HA, HJ5, HB⟩ := hcut
          cases kq with
          | zero => exact absurd HA.out (by simp [spec_IsTogether.j1])
          | succ kj5 =>
            have H := HA.out
            clear HA
            simp only [spec_IsTogether.j1] at H
            by_cases c15 : x37_5 = true
            · subst c15
              have H1 : (some false) = some r := by rw [if_pos rfl] at H; exact H
              clear H
              have H := H1
              clear H1
              obtain rfl := Option.some.inj H
              go_wp2
              go_ret
              exact ⟨rA, bA⟩
            · replace c15 := Bool.eq_false_iff.mpr c15
              subst c15
              have H1 : (spec_IsTogether.l1 kj5 l0 l1 x5_1 t135 0) = some r := by rw [if_neg (show ¬ (false = true) by decide)] at H; exact H
              clear H
              have H := H1
              clear H1
              have H' := Aside0.mk H
              clear H
              go_wp2
              go_loopg [7] kj5 (fun kq v7 w' => ∃ (x7_3 : Int), v7 = .int .i64 x7_3 ∧ Aside0 (spec_IsTogether.l1 kq l0 l1 x5_1 t135 x7_3 = some r) ∧ Aside0 (kq ≤ kj5) ∧ Aside0 (Below w.heap.size w w'))
              case atStart => exact ⟨(0), rS, H', ⟨Nat.le_refl _⟩, ⟨bA⟩⟩
              case round =>
                clear H'
                try clear c1
                try clear p1
                try clear q1
                try clear hx1
                try clear p2
                try clear c3
                try clear c3b0
                try clear c4
                try clear c4b0
                try clear c5
                try clear c6
                try clear p6
                try clear c7
                try clear c7b0
                try clear c9
                try clear c9b0
                try clear c11
                try clear c11b0
                try clear c12
                try clear c12b0
                try clear p13
                try clear q13
                try clear hx13
                try clear c15
                try clear hx134_0
                try clear hx136_0
                try clear hx137_0
                try clear p1
                try clear p13
                try clear p134
                try clear p136
                try clear p137
                try clear p2
                try clear p6
                try clear q1
                try clear q13
                try clear q134
                try clear q136
                try clear q137
                obtain ⟨x7_3, rfl, HA, HK3, HB⟩ := hrel
                cases gk with
                | zero => exact absurd HA.out (by simp [spec_IsTogether.l1])
                | succ k3 =>
                  have H := HA.out
                  clear HA
                  simp only [spec_IsTogether.l1] at H
                  by_cases c16 : x7_3 < x5_1
                  · rw [if_pos c16] at H
                    have c16b0 : decide (x7_3 < x5_1) = true := decide_eq_true c16
                    clear c16
                    have c17 : 0 ≤ t135 := ifN H
                    replace H := ifT H
                    have c17b0 : decide (0 ≤ t135) = true := decide_eq_true c17
                    clear c17
                    have c18 : t135 < (l0.length : Int) := ifN H
                    replace H := ifT H
                    have c18b0 : decide (t135 < (l0.length : Int)) = true := decide_eq_true c18
                    clear c18
                    have c19 : 0 ≤ x7_3 := ifN H
                    replace H := ifT H
                    have c19b0 : decide (0 ≤ x7_3) = true := decide_eq_true c19
                    clear c19
                    have c20 : x7_3 < (l1.length : Int) := ifN H
                    replace H := ifT H
                    have c20b0 : decide (x7_3 < (l1.length : Int)) = true := decide_eq_true c20
                    clear c20
                    obtain ⟨t140, A21, H⟩ := bindE H
                    try dsimp only at H
                    have c22 : 0 ≤ t140 := ifN H
                    replace H := ifT H
                    have c22b0 : decide (0 ≤ t140) = true := decide_eq_true c22
                    clear c22
                    have c23 : t140 < (l0.length : Int) := ifN H
                    replace H := ifT H
                    have c23b0 : decide (t140 < (l0.length : Int)) = true := decide_eq_true c23
                    clear c23
                    obtain ⟨t142, A24, H⟩ := bindE H
                    try dsimp only at H
                    by_cases c25 : t142 = true
                    · subst c25
                      have H1 : (some false) = some r := by rw [if_pos rfl] at H; exact H
                      clear H
                      have H := H1
                      clear H1
                      obtain rfl := Option.some.inj H
                      try go_wp2
                      have HBo := HB
                      replace HB := Aside0.mk (below_drew1 HB.out)
                      have p138 : 0 ≤ (t135 : Int) := dA
                      have q138 : t135 < (l0.length : Int) := dA
                      obtain ⟨ad138, e138, hx138_0, hx138_1, hx138_2, hx138_3⟩ := at_T58 HR0.out t135 p138 q138
                      have hw138_3 := hx138_3
                      have hw138_2 := hx138_2
                      have hw138_1 := hx138_1
                      have hw138_0 := hx138_0
                      cases e138
                      replace hx138_0 := hC HB hx138_0
                      replace hx138_1 := hC HB hx138_1
                      replace hx138_2 := hC HB hx138_2
                      replace hx138_3 := hC HB hx138_3
                      replace p138 := eq_true p138
                      replace q138 := eq_true q138
                      have p139 : 0 ≤ (x7_3 : Int) := dA
                      have q139 : x7_3 < (l1.length : Int) := dA
                      obtain ⟨ad139, e139, hx139_0⟩ := Kd.at_int HR1.out x7_3 p139 q139
                      have hw139_0 := hx139_0
                      obtain rfl : ad134 = ad139 := (by injection e139)
                      replace hx139_0 := hC HB hx139_0
                      replace p139 := eq_true p139
                      replace q139 := eq_true q139
                      have p141 : 0 ≤ (t140 : Int) := dA
                      have q141 : t140 < (l0.length : Int) := dA
                      obtain ⟨ad141, e141, hx141_0, hx141_1, hx141_2, hx141_3⟩ := at_T58 HR0.out t140 p141 q141
                      have hw141_3 := hx141_3
                      have hw141_2 := hx141_2
                      have hw141_1 := hx141_1
                      have hw141_0 := hx141_0
                      obtain rfl : ad138 = ad141 := (by injection e141)
                      replace hx141_0 := hC HB hx141_0
                      replace hx141_1 := hC HB hx141_1
                      replace hx141_2 := hC HB hx141_2
                      replace hx141_3 := hC HB hx141_3
                      replace p141 := eq_true p141
                      replace q141 := eq_true q141
                      refine start_ (n := 14) (S := fun w' => w'.cell? (ad138.add ((t135).toNat * 4)) = some (.int .i64 ((rd_T58 l0 t135).f0)) ∧ w'.cell? ⟨(ad138.add ((t135).toNat * 4)).block, (ad138.add ((t135).toNat * 4)).off + 1, none⟩ = some (.int .i64 ((rd_T58 l0 t135).f1)) ∧ w'.cell? ⟨(ad138.add ((t135).toNat * 4)).block, (ad138.add ((t135).toNat * 4)).off + 2, none⟩ = some (.int .i64 ((rd_T58 l0 t135).f2)) ∧ w'.cell? ⟨(ad138.add ((t135).toNat * 4)).block, (ad138.add ((t135).toNat * 4)).off + 3, none⟩ = some (.int .i64 ((rd_T58 l0 t135).f3)) ∧ w'.cell? (ad134.add (x7_3).toNat) = some (.int .i64 (rd l1 x7_3)) ∧ w'.cell? (ad138.add ((t140).toNat * 4)) = some (.int .i64 ((rd_T58 l0 t140).f0)) ∧ w'.cell? ⟨(ad138.add ((t140).toNat * 4)).block, (ad138.add ((t140).toNat * 4)).off + 1, none⟩ = some (.int .i64 ((rd_T58 l0 t140).f1)) ∧ w'.cell? ⟨(ad138.add ((t140).toNat * 4)).block, (ad138.add ((t140).toNat * 4)).off + 2, none⟩ = some (.int .i64 ((rd_T58 l0 t140).f2)) ∧ w'.cell? ⟨(ad138.add ((t140).toNat * 4)).block, (ad138.add ((t140).toNat * 4)).off + 3, none⟩ = some (.int .i64 ((rd_T58 l0 t140).f3))) (ds := []) (mb 14 0) (by kernel_rfl) rfl rfl ⟨(hC HB hw138_0), (hC HB hw138_1), (hC HB hw138_2), (hC HB hw138_3), (hC HB hw139_0), (hC HB hw141_0), (hC HB hw141_1), (hC HB hw141_2), (hC HB hw141_3)⟩ (fun hHeld => ?_); refine with_tabW spec_IsTogether.tab10 spec_IsTogether.bits10 (fun HT_ HW_ => ?_)
                      generalize wr.drew = w26 at HB hx138_0 hx138_1 hx138_2 hx138_3 hx139_0 hx141_0 hx141_1 hx141_2 hx141_3 hHeld ⊢
                      refine pA (i := 0) (N := some 43) (mb 14 1) HT_ ?_
                      refine pA (i := 1) (N := some 44) (mb 14 3) HT_ ?_
                      refine pA (i := 2) (N := some 45) (mb 14 7) HT_ ?_
                      refine pA (i := 4) (N := some 47) (mb 14 23) HT_ ?_
                      refine pA (i := 5) (N := some 48) (mb 14 55) HT_ ?_
                      refine pA (i := 6) (N := some 49) (mb 14 119) HT_ ?_
                      refine pA (i := 7) (N := some 50) (mb 14 247) HT_ ?_
                      refine pA (i := 8) (N := some 51) (mb 14 503) HT_ ?_
                      refine tA9 (i := 3) (N := some 46) (mb 14 511) HT_ HW_ hHeld ?_
                      refine tA9 (i := 9) (N := some 52) (mb 14 1023) HT_ HW_ hHeld ?_
                      refine oA (i := 10) (N := some 53) (mb 14 2047) HT_ (fun K hK => ?_)
                      refine gA Try.func68 #[.slice (some ad138) l0.length c0, .int .i64 (rd l1 x7_3)] ?_
                      with_reducible refine (spec_FindPath.calls k3 _ _ l0 (rd l1 x7_3) t140 _ ?side1 ?side2 A21.out).mono ?_
                      (case side1 => exact cB HR0)
                      (case side2 => exact HC0.out)
                      rintro e w' ⟨rfl, ⟨nd, rfl⟩⟩
                      refine ⟨_, rfl, ?_⟩
                      refine hK.out _ _ ⟨(hC HB hw138_0), (hC HB hw138_1), (hC HB hw138_2), (hC HB hw138_3), (hC HB hw139_0), (hC HB hw141_0), (hC HB hw141_1), (hC HB hw141_2), (hC HB hw141_3)⟩ (fun hHeld => ?_)
                      clear hK K
                      refine nA ?_
                      refine pA (i := 11) (N := some 54) (mb 14 4095) HT_ ?_
                      refine tA9 (i := 12) (N := some 55) (mb 14 8191) HT_ HW_ hHeld ?_
                      refine oA (i := 13) (N := some 56) (mb 14 16383) HT_ (fun K hK => ?_)
                      refine gA Try.func76 #[.agg #[.int .i64 ((rd_T58 l0 t135).f0), .int .i64 ((rd_T58 l0 t135).f1), .int .i64 ((rd_T58 l0 t135).f2), .int .i64 ((rd_T58 l0 t135).f3)], .agg #[.int .i64 ((rd_T58 l0 t140).f0), .int .i64 ((rd_T58 l0 t140).f1), .int .i64 ((rd_T58 l0 t140).f2), .int .i64 ((rd_T58 l0 t140).f3)]] ?_
                      with_reducible refine (spec_Conflict.calls k3 ((rd_T58 l0 t135).f0) ((rd_T58 l0 t135).f1) ((rd_T58 l0 t135).f2) ((rd_T58 l0 t135).f3) ((rd_T58 l0 t140).f0) ((rd_T58 l0 t140).f1) ((rd_T58 l0 t140).f2) ((rd_T58 l0 t140).f3) true _ A24.out).mono ?_
                      rintro e w27 ⟨rfl, hb⟩
                      refine ⟨_, rfl, ?_⟩
                      replace HB := Aside0.mk (below_step bA hb)
                      (try clear hb)
                      (try clear hb2)
                      (try clear hk)
                      (try clear hi)
                      refine hK.out _ _ ⟨(hC HB hw138_0), (hC HB hw138_1), (hC HB hw138_2), (hC HB hw138_3), (hC HB hw139_0), (hC HB hw141_0), (hC HB hw141_1), (hC HB hw141_2), (hC HB hw141_3)⟩ (fun hHeld => ?_)
                      clear hK K
                      refine nA ?_
                      refine eA HT_ ?_
                      try go_wp2
                      go_ret
                      exact ⟨rA, bA⟩
                    · replace c25 := Bool.eq_false_iff.mpr c25
                      subst c25
                      have H1 : (spec_IsTogether.l1 k3 l0 l1 x5_1 t135 (wrap64 (x7_3 + 1))) = some r := by rw [if_neg (show ¬ (false = true) by decide)] at H; exact H
                      clear H
                      have H := H1
                      clear H1
                      have H' := Aside0.mk H
                      clear H
                      try go_wp2
                      have HBo := HB
                      replace HB := Aside0.mk (below_drew1 HB.out)
                      have p138 : 0 ≤ (t135 : Int) := dA
                      have q138 : t135 < (l0.length : Int) := dA
                      obtain ⟨ad138, e138, hx138_0, hx138_1, hx138_2, hx138_3⟩ := at_T58 HR0.out t135 p138 q138
                      have hw138_3 := hx138_3
                      have hw138_2 := hx138_2
                      have hw138_1 := hx138_1
                      have hw138_0 := hx138_0
                      cases e138
                      replace hx138_0 := hC HB hx138_0
                      replace hx138_1 := hC HB hx138_1
                      replace hx138_2 := hC HB hx138_2
                      replace hx138_3 := hC HB hx138_3
                      replace p138 := eq_true p138
                      replace q138 := eq_true q138
                      have p139 : 0 ≤ (x7_3 : Int) := dA
                      have q139 : x7_3 < (l1.length : Int) := dA
                      obtain ⟨ad139, e139, hx139_0⟩ := Kd.at_int HR1.out x7_3 p139 q139
                      have hw139_0 := hx139_0
                      obtain rfl : ad134 = ad139 := (by injection e139)
                      replace hx139_0 := hC HB hx139_0
                      replace p139 := eq_true p139
                      replace q139 := eq_true q139
                      have p141 : 0 ≤ (t140 : Int) := dA
                      have q141 : t140 < (l0.length : Int) := dA
                      obtain ⟨ad141, e141, hx141_0, hx141_1, hx141_2, hx141_3⟩ := at_T58 HR0.out t140 p141 q141
                      have hw141_3 := hx141_3
                      have hw141_2 := hx141_2
                      have hw141_1 := hx141_1
                      have hw141_0 := hx141_0
                      obtain rfl : ad138 = ad141 := (by injection e141)
                      replace hx141_0 := hC HB hx141_0
                      replace hx141_1 := hC HB hx141_1
                      replace hx141_2 := hC HB hx141_2
                      replace hx141_3 := hC HB hx141_3
                      replace p141 := eq_true p141
                      replace q141 := eq_true q141
                      refine start_ (n := 14) (S := fun w' => w'.cell? (ad138.add ((t135).toNat * 4)) = some (.int .i64 ((rd_T58 l0 t135).f0)) ∧ w'.cell? ⟨(ad138.add ((t135).toNat * 4)).block, (ad138.add ((t135).toNat * 4)).off + 1, none⟩ = some (.int .i64 ((rd_T58 l0 t135).f1)) ∧ w'.cell? ⟨(ad138.add ((t135).toNat * 4)).block, (ad138.add ((t135).toNat * 4)).off + 2, none⟩ = some (.int .i64 ((rd_T58 l0 t135).f2)) ∧ w'.cell? ⟨(ad138.add ((t135).toNat * 4)).block, (ad138.add ((t135).toNat * 4)).off + 3, none⟩ = some (.int .i64 ((rd_T58 l0 t135).f3)) ∧ w'.cell? (ad134.add (x7_3).toNat) = some (.int .i64 (rd l1 x7_3)) ∧ w'.cell? (ad138.add ((t140).toNat * 4)) = some (.int .i64 ((rd_T58 l0 t140).f0)) ∧ w'.cell? ⟨(ad138.add ((t140).toNat * 4)).block, (ad138.add ((t140).toNat * 4)).off + 1, none⟩ = some (.int .i64 ((rd_T58 l0 t140).f1)) ∧ w'.cell? ⟨(ad138.add ((t140).toNat * 4)).block, (ad138.add ((t140).toNat * 4)).off + 2, none⟩ = some (.int .i64 ((rd_T58 l0 t140).f2)) ∧ w'.cell? ⟨(ad138.add ((t140).toNat * 4)).block, (ad138.add ((t140).toNat * 4)).off + 3, none⟩ = some (.int .i64 ((rd_T58 l0 t140).f3))) (ds := []) (mb 14 0) (by kernel_rfl) rfl rfl ⟨(hC HB hw138_0), (hC HB hw138_1), (hC HB hw138_2), (hC HB hw138_3), (hC HB hw139_0), (hC HB hw141_0), (hC HB hw141_1), (hC HB hw141_2), (hC HB hw141_3)⟩ (fun hHeld => ?_); refine with_tabW spec_IsTogether.tab10 spec_IsTogether.bits10 (fun HT_ HW_ => ?_)
                      generalize wr.drew = w28 at HB hx138_0 hx138_1 hx138_2 hx138_3 hx139_0 hx141_0 hx141_1 hx141_2 hx141_3 hHeld ⊢
                      refine pA (i := 0) (N := some 43) (mb 14 1) HT_ ?_
                      refine pA (i := 1) (N := some 44) (mb 14 3) HT_ ?_
                      refine pA (i := 2) (N := some 45) (mb 14 7) HT_ ?_
                      refine pA (i := 4) (N := some 47) (mb 14 23) HT_ ?_
                      refine pA (i := 5) (N := some 48) (mb 14 55) HT_ ?_
                      refine pA (i := 6) (N := some 49) (mb 14 119) HT_ ?_
                      refine pA (i := 7) (N := some 50) (mb 14 247) HT_ ?_
                      refine pA (i := 8) (N := some 51) (mb 14 503) HT_ ?_
                      refine tA9 (i := 3) (N := some 46) (mb 14 511) HT_ HW_ hHeld ?_
                      refine tA9 (i := 9) (N := some 52) (mb 14 1023) HT_ HW_ hHeld ?_
                      refine oA (i := 10) (N := some 53) (mb 14 2047) HT_ (fun K hK => ?_)
                      refine gA Try.func68 #[.slice (some ad138) l0.length c0, .int .i64 (rd l1 x7_3)] ?_
                      with_reducible refine (spec_FindPath.calls k3 _ _ l0 (rd l1 x7_3) t140 _ ?side1 ?side2 A21.out).mono ?_
                      (case side1 => exact cB HR0)
                      (case side2 => exact HC0.out)
                      rintro e w' ⟨rfl, ⟨nd, rfl⟩⟩
                      refine ⟨_, rfl, ?_⟩
                      refine hK.out _ _ ⟨(hC HB hw138_0), (hC HB hw138_1), (hC HB hw138_2), (hC HB hw138_3), (hC HB hw139_0), (hC HB hw141_0), (hC HB hw141_1), (hC HB hw141_2), (hC HB hw141_3)⟩ (fun hHeld => ?_)
                      clear hK K
                      refine nA ?_
                      refine pA (i := 11) (N := some 54) (mb 14 4095) HT_ ?_
                      refine tA9 (i := 12) (N := some 55) (mb 14 8191) HT_ HW_ hHeld ?_
                      refine oA (i := 13) (N := some 56) (mb 14 16383) HT_ (fun K hK => ?_)
                      refine gA Try.func76 #[.agg #[.int .i64 ((rd_T58 l0 t135).f0), .int .i64 ((rd_T58 l0 t135).f1), .int .i64 ((rd_T58 l0 t135).f2), .int .i64 ((rd_T58 l0 t135).f3)], .agg #[.int .i64 ((rd_T58 l0 t140).f0), .int .i64 ((rd_T58 l0 t140).f1), .int .i64 ((rd_T58 l0 t140).f2), .int .i64 ((rd_T58 l0 t140).f3)]] ?_
                      with_reducible refine (spec_Conflict.calls k3 ((rd_T58 l0 t135).f0) ((rd_T58 l0 t135).f1) ((rd_T58 l0 t135).f2) ((rd_T58 l0 t135).f3) ((rd_T58 l0 t140).f0) ((rd_T58 l0 t140).f1) ((rd_T58 l0 t140).f2) ((rd_T58 l0 t140).f3) false _ A24.out).mono ?_
                      rintro e w29 ⟨rfl, hb⟩
                      refine ⟨_, rfl, ?_⟩
                      replace HB := Aside0.mk (below_step bA hb)
                      (try clear hb)
                      (try clear hb2)
                      (try clear hk)
                      (try clear hi)
                      refine hK.out _ _ ⟨(hC HB hw138_0), (hC HB hw138_1), (hC HB hw138_2), (hC HB hw138_3), (hC HB hw139_0), (hC HB hw141_0), (hC HB hw141_1), (hC HB hw141_2), (hC HB hw141_3)⟩ (fun hHeld => ?_)
                      clear hK K
                      refine nA ?_
                      refine eA HT_ ?_
                      try go_wp2
                      go_roundg k3
                      case measure => have := HK1.out; have := HJ5.out; have := HK3.out; omega
                      case rel => exact ⟨(wrap64 (x7_3 + 1)), rS, H', ⟨by have := HK1.out; have := HJ5.out; have := HK3.out; omega⟩, ⟨bA⟩⟩
                  · rw [if_neg c16] at H
                    have c16b0 : decide (x7_3 < x5_1) = false := decide_eq_false c16
                    clear c16
                    have H' := Aside0.mk H
                    clear H
                    go_wp2
                    go_roundg k3
                    case measure => have := HK1.out; have := HJ5.out; have := HK3.out; omega
                    case rel => exact ⟨(wrap64 (x5_1 + 1)), rS, H', ⟨by have := HK1.out; have := HJ5.out; have := HK3.out; omega⟩, ⟨bA⟩⟩
      · rw [if_neg c3] at H
        have c3b0 : decide (x5_1 < (l1.length : Int)) = false := decide_eq_false c3
        clear c3
        obtain ⟨t133, A30, H⟩ := bindE H
        try dsimp only at H
        obtain rfl := Option.some.inj H
        go_wp2_with (first | ((with_reducible refine gate_callee (f := 77) rfl ?_); refine gL (some 58) Try.func77 #[.slice A0 l0.length c0] ?_; (with_reducible refine (spec_ArePaths.calls k1 _ _ l0 t133 _ ?side1 ?side2 A30.out).mono ?_); (case side1 => exact cB HR0); (case side2 => exact HC0.out); rintro e w31 ⟨rfl, hb⟩; refine ⟨_, rfl, ?_⟩; replace HB := Aside0.mk (below_step bA hb); (try clear hb); (try clear hb2); (try clear hk); (try clear hi)))
        go_ret
        exact ⟨rA, bA⟩

end Go.Proofs.Ytbpnbflfpgakmaa.P
