/- Printed by myprint.py (wip/tools) over the kit's print: what Go's functions compute, and that they do. Lean checks it. -/
import Derived.Test.YtdkmmefmhfbgkaaF0
import Derived.Test.YtdkmmefmhfbgkaaFX00
import Derived.Test.YtdkmmefmhfbgkaaFX00b
import Derived.Test.YtdkmmefmhfbgkaaFX00d
import Derived.Test.YtdkmmefmhfbgkaaFX01
import Derived.Test.YtdkmmefmhfbgkaaFX02
namespace Go.Proofs.Ytdkmmefmhfbgkaa.P
open Go.RowKit Go.Proofs.YtdkmmefmhfbgkaaW.PrintWords Go.Proofs.YtdkmmefmhfbgkaaW.PrintLast Go.Proofs.YtdkmmefmhfbgkaaW.PrintMore Go.Proofs.Ytdkmmefmhfbgkaa.Sq
attribute [local go_sem] max2_int min2_int max_two min_two max_three min_three max_four min_four
set_option linter.unusedVariables false
set_option linter.unusedSimpArgs false

/-! ### spec_ServedAt: function 25 -/
def spec_ServedAt.l0 : Nat → List (S89) → List (S92) → List (S99) → List Int → Int → Option (List Int)
 | 0, _, _, _, _, _ => none
 | k + 1, x0, x1, x2, x7, x8 => if x8 < (x2.length : Int) then (if 0 ≤ x8 then ((spec_NextGreen.f k x0 x1 ((rd_T99 x2 x8).f0) ((rd_T99 x2 x8).f1)).bind fun t493 => (if x7.length < 17592186044416 then (spec_ServedAt.l0 k x0 x1 x2 (x7 ++ [t493]) (wrap64 (x8 + 1))) else (none))) else (none)) else (some x7)
def spec_ServedAt.f (k : Nat) (l0 : List (S89)) (l1 : List (S92)) (l2 : List (S99)) : Option (List Int) := spec_ServedAt.l0 k l0 l1 l2 (([] : List Int)) 0
theorem spec_ServedAt.mono_l : ∀ k, (∀ y0 y1 y2 y3 y4, LeO (spec_ServedAt.l0 k y0 y1 y2 y3 y4) (spec_ServedAt.l0 (k + 1) y0 y1 y2 y3 y4))
 | 0 => fun _ _ _ _ _ r h => by simp [spec_ServedAt.l0] at h
 | k + 1 => by
  have ih0 := spec_ServedAt.mono_l k
  ·
   intro y0 y1 y2 y3 y4
   unfold spec_ServedAt.l0
   repeat' first | (with_reducible first | exact LeO.refl _ | exact LeO.none _ | refine LeO.ite ?_ ?_ | refine LeO.bind ?_ (fun _ => ?_) | exact ih0 _ _ _ _ _ | exact spec_NextGreen.mono _ _ _ _ _)
theorem spec_ServedAt.mono : ∀ a0 a1 a2 k, LeO (spec_ServedAt.f k a0 a1 a2) (spec_ServedAt.f (k + 1) a0 a1 a2) := by
 intro a0 a1 a2 k
 have ih0 := spec_ServedAt.mono_l k
 unfold spec_ServedAt.f
 repeat' first | (with_reducible first | exact LeO.refl _ | exact LeO.none _ | refine LeO.ite ?_ ?_ | refine LeO.bind ?_ (fun _ => ?_) | exact ih0 _ _ _ _ _ | exact spec_NextGreen.mono _ _ _ _ _)
def spec_ServedAt.T5 : Bool × List (List Nat × List Nat) := (true, [([], []), ([], []), ([], []), ([], []), ([], []), ([3, 4], [3, 4]), ([5], [5]), ([6], [6]), ([], []), ([], []), ([8, 9], [8, 9]), ([10], [10]), ([11], [11]), ([1, 2, 7, 12], [1, 2, 7, 12]), ([13], [13]), ([0, 14, 13], [0, 14]), ([15, 15, 0, 1, 2, 3, 4, 5, 6, 7, 8, 9, 10, 11, 12, 13, 14, 15], [0, 15])])
def spec_ServedAt.B5 : List Nat := [0, 0, 0, 0, 0, 24, 56, 120, 0, 0, 768, 1792, 3840, 8190, 16382, 32767, 65535]
theorem spec_ServedAt.tab5 : rtab .any (opsOf Try.f25 5) = spec_ServedAt.T5 := by kernel_rfl
theorem spec_ServedAt.bits5 : waitsOk spec_ServedAt.T5.2 spec_ServedAt.B5 = true := by kernel_rfl
set_option maxHeartbeats 8000000 in
set_option maxRecDepth 100000 in
theorem spec_ServedAt.calls (k : Nat) (A0 : Option Addr) (c0 : Nat) (l0 : List (S89)) (A1 : Option Addr) (c1 : Nat) (l1 : List (S92)) (A2 : Option Addr) (c2 : Nat) (l2 : List (S99)) (r : List Int) (w : World) (hr0 : Kd.C k89 w A0 l0.length l0) (hc0 : l0.length ≤ c0) (hr1 : Kd.C k92 w A1 l1.length l1) (hc1 : l1.length ≤ c1) (hr2 : Kd.C k99 w A2 l2.length l2) (hc2 : l2.length ≤ c2) (h : spec_ServedAt.f k l0 l1 l2 = some r) :
  Calls Try.prog 25 #[.slice A0 l0.length c0, .slice A1 l1.length c1, .slice A2 l2.length c2] w fun e w' => ∃ v0_ : Value, e = .returned (v0_) ∧ Kd.R (Kd.int .i64) 3 w' w.heap.size (fun _ => True) v0_ r ∧ Below w.heap.size w w' := by
 have HR0 := Aside0.mk hr0
 have HC0 := Aside0.mk hc0
 clear hr0 hc0
 have HR1 := Aside0.mk hr1
 have HC1 := Aside0.mk hc1
 clear hr1 hc1
 have HR2 := Aside0.mk hr2
 have HC2 := Aside0.mk hc2
 clear hr2 hc2
 have HB := Aside0.mk (Below.refl w.heap.size w)
 have H : (spec_ServedAt.l0 k l0 l1 l2 (([] : List Int)) 0) = some r := h
 clear h
 obtain ⟨y488, hy488⟩ : ∃ y_ : List Int, y_ = (([] : List Int)) := ⟨_, rfl⟩
 replace H : (spec_ServedAt.l0 k l0 l1 l2 y488 0) = some r := by first | (rw [hy488]; with_reducible exact H) | (have H2_ := (Option.bind_some _ _).symm.trans H; rw [hy488]; with_reducible exact H2_) | (have H2_ := (Option.bind_some _ _).symm.trans H; with_reducible exact H2_) | with_reducible exact H | (rw [hy488]; exact H) | exact H
 have Ny488 := Aside0.mk hy488
 clear hy488
 have H' := Aside0.mk H
 clear H
 go_enter Try.func25, Try.ntmps25
 go_wp2_with (first | ((with_reducible refine gate_dst (N := 9) rfl ?_); refine Kd.R_lit (Kd.int .i64) _ 3 ?hg (N := 9) ?hd (xs := ([] : List Int)) (inner := []) (ok := fun _ => True) (okp := fun _ => True) ?hr ?hp (fun _ hk => hk) trivial (Below.refl _ _) (Nat.le_refl _) (by simp) ?_; (case hd => rfl); (case hg => rfl); (case hr => first | (go_simp; done) | (go_simp; rfl)); (case hp => exact (Reps.none _ _)); intro v489 w4 ho5 hb hg_ hnew_; clear hg_ hnew_; (first | rw [← Ny488.out] at ho5 | (simp only [Int.reduceToNat] at ho5; rw [← Ny488.out] at ho5)); have HO490 := Aside0.mk (Kd.R_lower ho5 (below_size bA)); replace HB := Aside0.mk (below_step bA hb); clear hb ho5))
 go_loopg [7, 8] k (fun kq v7 v8 w' => ∃ (x7_1 : List Int) (x8_1 : Int), v8 = .int .i64 x8_1 ∧ Aside0 (spec_ServedAt.l0 kq l0 l1 l2 x7_1 x8_1 = some r) ∧ Aside0 (kq ≤ k) ∧ Aside0 (Kd.R (Kd.int .i64) 3 w' w.heap.size (fun _ => True) v7 x7_1) ∧ Aside0 (Below w.heap.size w w'))
 case atStart => exact ⟨(y488), (0), rS, H', ⟨Nat.le_refl _⟩, ⟨rK HO490⟩, ⟨bA⟩⟩
 case round =>
  clear H'
  try clear c1
  try clear c2
  try clear p2
  obtain ⟨x7_1, x8_1, rfl, HA, HK1, HO_7, HB⟩ := hrel
  cases gk with
  | zero => exact absurd HA.out (by simp [spec_ServedAt.l0])
  | succ k1 =>
   have H := HA.out
   clear HA
   simp only [spec_ServedAt.l0] at H
   by_cases c6 : x8_1 < (l2.length : Int)
   ·
    rw [if_pos c6] at H
    have c6b0 := decide_eq_true c6
    clear c6
    have c7 : 0 ≤ x8_1 := ifN H
    replace H := ifT H
    have c7b0 := decide_eq_true c7
    clear c7
    obtain ⟨t493, A8, H⟩ := bindE H
    try dsimp only at H
    have c9 : x7_1.length < 17592186044416 := ifN H
    replace H := ifT H
    have LMc9 := Aside0.mk c9
    clear c9
    obtain ⟨y494, hy494⟩ : ∃ y_ : List Int, y_ = (x7_1 ++ [t493]) := ⟨_, rfl⟩
    replace H : (spec_ServedAt.l0 k1 l0 l1 l2 y494 (wrap64 (x8_1 + 1))) = some r := by first | (rw [hy494]; with_reducible exact H) | (have H2_ := (Option.bind_some _ _).symm.trans H; rw [hy494]; with_reducible exact H2_) | (have H2_ := (Option.bind_some _ _).symm.trans H; with_reducible exact H2_) | with_reducible exact H | (rw [hy494]; exact H) | exact H
    have Ny494 := Aside0.mk hy494
    clear hy494
    have H' := Aside0.mk H
    clear H
    try go_wp2
    replace HO_7 := Aside0.mk (Kd.R_drew HO_7.out)
    have HBo := HB
    replace HB := Aside0.mk (below_drew1 HB.out)
    have p491 : 0 ≤ (x8_1 : Int) := dA
    have q491 : x8_1 < (l2.length : Int) := dA
    obtain ⟨ad491, e491, hx491_0, hx491_1⟩ := at_T99 HR2.out x8_1 p491 q491
    have hw491_1 := hx491_1
    have hw491_0 := hx491_0
    cases e491
    replace hx491_0 := hC HB hx491_0
    replace hx491_1 := hC HB hx491_1
    replace p491 := eq_true p491
    replace q491 := eq_true q491
    have p492 : 0 ≤ (x8_1 : Int) := dA
    have q492 : x8_1 < (l2.length : Int) := dA
    obtain ⟨ad492, e492, hx492_0, hx492_1⟩ := at_T99 HR2.out x8_1 p492 q492
    have hw492_1 := hx492_1
    have hw492_0 := hx492_0
    obtain rfl : ad491 = ad492 := (by injection e492)
    replace hx492_0 := hC HB hx492_0
    replace hx492_1 := hC HB hx492_1
    replace p492 := eq_true p492
    replace q492 := eq_true q492
    refine start_ (n := 17) (S := fun w' => w'.cell? (ad491.add ((x8_1).toNat * 2)) = some (.int .i64 ((rd_T99 l2 x8_1).f0)) ∧ w'.cell? ⟨(ad491.add ((x8_1).toNat * 2)).block, (ad491.add ((x8_1).toNat * 2)).off + 1, none⟩ = some (.int .i64 ((rd_T99 l2 x8_1).f1)) ∧ w'.cell? (ad491.add ((x8_1).toNat * 2)) = some (.int .i64 ((rd_T99 l2 x8_1).f0)) ∧ w'.cell? ⟨(ad491.add ((x8_1).toNat * 2)).block, (ad491.add ((x8_1).toNat * 2)).off + 1, none⟩ = some (.int .i64 ((rd_T99 l2 x8_1).f1))) (ds := []) (mb 17 0) (by kernel_rfl) rfl rfl ⟨(hC HB hw491_0), (hC HB hw491_1), (hC HB hw492_0), (hC HB hw492_1)⟩ (fun hHeld => ?_); refine with_tabW spec_ServedAt.tab5 spec_ServedAt.bits5 (fun HT_ HW_ => ?_)
    generalize wr.drew = w10 at HO_7 HB hx491_0 hx491_1 hx492_0 hx492_1 hHeld ⊢
    refine pA (i := 0) (N := some 16) (mb 17 1) HT_ ?_
    refine pA (i := 1) (N := some 17) (mb 17 3) HT_ ?_
    refine pA (i := 2) (N := some 18) (mb 17 7) HT_ ?_
    refine pA (i := 3) (N := some 19) (mb 17 15) HT_ ?_
    refine pA (i := 4) (N := some 20) (mb 17 31) HT_ ?_
    refine pA (i := 5) (N := some 21) (mb 17 63) HT_ ?_
    refine pA (i := 6) (N := some 22) (mb 17 127) HT_ ?_
    refine pA (i := 8) (N := some 24) (mb 17 383) HT_ ?_
    refine pA (i := 9) (N := some 25) (mb 17 895) HT_ ?_
    refine pA (i := 10) (N := some 26) (mb 17 1919) HT_ ?_
    refine pA (i := 11) (N := some 27) (mb 17 3967) HT_ ?_
    refine tA4 (i := 7) (N := some 23) (mb 17 4095) HT_ HW_ hHeld ?_
    refine tA4 (i := 12) (N := some 28) (mb 17 8191) HT_ HW_ hHeld ?_
    refine oA (i := 13) (N := some 29) (mb 17 16383) HT_ (fun K hK => ?_)
    refine gA Try.func69 #[.slice A0 l0.length c0, .slice A1 l1.length c1, .int .i64 ((rd_T99 l2 x8_1).f0), .int .i64 ((rd_T99 l2 x8_1).f1)] ?_
    with_reducible refine (spec_NextGreen.calls k1 _ _ l0 _ _ l1 ((rd_T99 l2 x8_1).f0) ((rd_T99 l2 x8_1).f1) t493 _ ?side1 ?side2 ?side3 ?side4 A8.out).mono ?_
    (case side1 => exact cB HR0)
    (case side2 => exact HC0.out)
    (case side3 => exact cB HR1)
    (case side4 => exact HC1.out)
    rintro e w11 ⟨rfl, hb⟩
    refine ⟨_, rfl, ?_⟩
    replace HO_7 := Aside0.mk (Kd.R_below (rK HO_7) hb)
    replace HB := Aside0.mk (below_step bA hb)
    (try clear hb)
    (try clear hb2)
    (try clear hk)
    (try clear hi)
    refine hK.out _ _ ⟨(hC HB hw491_0), (hC HB hw491_1), (hC HB hw492_0), (hC HB hw492_1)⟩ (fun hHeld => ?_)
    clear hK K
    refine nB ?_
    refine oA (i := 14) (N := some 30) (mb 17 32767) HT_ (fun K hK => ?_)
    refine value_ (w1 := ?_) (v := ?_) (by rfl) rfl ?_ ?_
    rotate_left 2
    ·
     go_simp
     constructor
     ·
      rfl
     ·
      rfl
    refine hK.out _ _ ⟨(World.cell?_alloc_lt _ _ _ (World.block_lt_of_cell? _ _ ((hC HB hw491_0)))).trans ((hC HB hw491_0)), (World.cell?_alloc_lt _ _ _ (World.block_lt_of_cell? _ _ ((hC HB hw491_1)))).trans ((hC HB hw491_1)), (World.cell?_alloc_lt _ _ _ (World.block_lt_of_cell? _ _ ((hC HB hw492_0)))).trans ((hC HB hw492_0)), (World.cell?_alloc_lt _ _ _ (World.block_lt_of_cell? _ _ ((hC HB hw492_1)))).trans ((hC HB hw492_1))⟩ (fun hHeld => ?_)
    clear hK K
    refine nB ?_
    refine oA (i := 15) (N := some 31) (mb 17 65535) HT_ (fun K hK => ?_)
    refine Kd.R_append_step (Kd.int .i64) (w0 := w) w.heap.size (by rfl) (.tmp 16) (.tmp 30) 41 3 (.int .i64 0) 8 rfl Try.underlying41 info3 rfl (by decide) (by omega) u7 x7_1 t493 [.int .i64 t493] (fun _ => True) (fun _ => False) rfl rfl ?aP (fun _ hk => hk.elim) ?aF ?aO ?aB ?aS ?aL ?_
    (case aP => exact rfl)
    (case aB => exact bA)
    (case aF => exact (fun _ _ => trivial))
    (case aO => exact (rK HO_7))
    (case aS => exact (below_size bA))
    (case aL => have := LMc9.out; omega)
    intro v495 w12 ho hb hg hat
    rw [← Ny494.out] at ho
    have n0_ := Aside0.mk (hb)
    have n1_ := Aside0.mk (ho)
    clear HB
    clear HO_7
    have HB := n0_
    have HO496 := n1_
    clear n0_ n1_
    clear ho hb hg hat
    refine hK.out _ _ ⟨(hC HB hw491_0), (hC HB hw491_1), (hC HB hw492_0), (hC HB hw492_1)⟩ (fun hHeld => ?_)
    clear hK K
    refine nB ?_
    refine pA (i := 16) (N := some 7) (mb 17 131071) HT_ ?_
    refine eA HT_ ?_
    try go_wp2
    go_roundg k1
    case measure => have := HK1.out; omega
    case rel => exact ⟨(y494), (wrap64 (x8_1 + 1)), rS, H', ⟨by have := HK1.out; omega⟩, ⟨rK HO496⟩, ⟨bA⟩⟩
   ·
    rw [if_neg c6] at H
    have c6b0 := decide_eq_false c6
    clear c6
    obtain rfl := Option.some.inj H
    go_wp2
    go_ret
    exact ⟨_, by first | rfl | (simp [errW_none, errW_some] <;> rfl) | (simp [*, errW_none, errW_some] <;> rfl), by (with_reducible repeat (first | apply Kd.R_alloc | apply Kd.R_drewN | apply Kd.R_drew)); exact HO_7.out, bA⟩

/-! ### laws_markCallS: function 30 -/
def laws_markCallS.l0 : Nat → List (S99) → Int → Int → Option (Int × (List (S99)))
 | 0, _, _, _ => none
 | k + 1, x0, x1, x5 => if x5 < (x0.length : Int) then (if 0 ≤ x5 then ((some (x0.set (x5 : Int).toNat (⟨x1, (rd_T99 x0 x5).f1⟩ : S99) : List (S99))).bind fun y526 => (laws_markCallS.l0 k (y526.set (x5 : Int).toNat (⟨(rd_T99 y526 x5).f0, wrap64 (x1 + 1)⟩ : S99)) (wrap64 ((wrap64 (x1 + 1)) + 1)) (wrap64 (x5 + 1)))) else (none)) else (some (x1, x0))
def laws_markCallS.f (k : Nat) (l0 : List (S99)) (a1 : Int) : Option (Int × (List (S99))) := laws_markCallS.l0 k l0 a1 0
theorem laws_markCallS.mono_l : ∀ k, (∀ y0 y1 y2, LeO (laws_markCallS.l0 k y0 y1 y2) (laws_markCallS.l0 (k + 1) y0 y1 y2))
 | 0 => fun _ _ _ r h => by simp [laws_markCallS.l0] at h
 | k + 1 => by
  have ih0 := laws_markCallS.mono_l k
  ·
   intro y0 y1 y2
   unfold laws_markCallS.l0
   repeat' first | (with_reducible first | exact LeO.refl _ | exact LeO.none _ | refine LeO.ite ?_ ?_ | refine LeO.bind ?_ (fun _ => ?_) | exact ih0 _ _ _)
theorem laws_markCallS.mono : ∀ a0 a1 k, LeO (laws_markCallS.f k a0 a1) (laws_markCallS.f (k + 1) a0 a1) := by
 intro a0 a1 k
 have ih0 := laws_markCallS.mono_l k
 unfold laws_markCallS.f
 repeat' first | (with_reducible first | exact LeO.refl _ | exact LeO.none _ | refine LeO.ite ?_ ?_ | refine LeO.bind ?_ (fun _ => ?_) | exact ih0 _ _ _)
set_option maxHeartbeats 8000000 in
set_option maxRecDepth 100000 in
theorem laws_markCallS.calls (k : Nat) (P0_ : Nat → Prop) (u9000_ : Value) (l0 : List (S99)) (a1 : Int) (r1 : Int) (r2 : List (S99)) (w0 w : World) (hB : Below w0.heap.size w0 w) (ho0 : Kd.R k99 99 w w0.heap.size P0_ u9000_ l0) (h : laws_markCallS.f k l0 a1 = some (r1, r2)) :
  Calls Try.prog 30 #[u9000_, .int .i64 a1] w fun e w' => e = .returned (.int .i64 r1) ∧ Kd.R k99 99 w' w0.heap.size (fun k_ => (P0_ k_ ∨ w.heap.size ≤ k_)) u9000_ r2 ∧ Below w0.heap.size w0 w' ∧ Kept w w' (fun k_ => P0_ k_) := by
 have HO0 := Aside0.mk (show Kd.R k99 99 w w0.heap.size (fun k_ => (P0_ k_ ∨ w.heap.size ≤ k_)) u9000_ l0 from Kd.R_mono ho0 (fun k_ hk => (.inl hk)))
 have HK := Aside0.mk (Kept.refl w (fun k_ => P0_ k_))
 have HW0 := Aside0.mk hB.size
 have HB := Aside0.mk hB
 clear hB
 have H : (laws_markCallS.l0 k l0 a1 0) = some (r1, r2) := h
 clear h
 have H' := Aside0.mk H
 clear H
 go_enter Try.func30, Try.ntmps30
 go_wp2
 go_loopg [1, 5] k (fun kq v1 v5 w' => ∃ (x0_1 : List (S99)) (x1_1 : Int) (x5_1 : Int), v1 = .int .i64 x1_1 ∧ v5 = .int .i64 x5_1 ∧ Aside0 (laws_markCallS.l0 kq x0_1 x1_1 x5_1 = some (r1, r2)) ∧ Aside0 (kq ≤ k) ∧ Aside0 (Kd.R k99 99 w' w0.heap.size (fun k_ => (P0_ k_ ∨ w.heap.size ≤ k_)) u9000_ x0_1) ∧ Aside0 (Kept w w' (fun k_ => P0_ k_)) ∧ Aside0 (Below w0.heap.size w0 w'))
 case atStart => exact ⟨(l0), (a1), (0), rS, rS, H', ⟨Nat.le_refl _⟩, ⟨rK HO0⟩, ⟨by repeat (first | (with_reducible first | exact HK.out | apply Kept.alloc | apply Kept.drewN | apply Kept.drew) | exact HK.out)⟩, ⟨bA⟩⟩
 case round =>
  clear H'
  try clear p2
  obtain ⟨x0_1, x1_1, x5_1, rfl, rfl, HA, HK1, HO_0, HK, HB⟩ := hrel
  cases gk with
  | zero => exact absurd HA.out (by simp [laws_markCallS.l0])
  | succ k1 =>
   have H := HA.out
   clear HA
   simp only [laws_markCallS.l0] at H
   by_cases c3 : x5_1 < (x0_1.length : Int)
   ·
    rw [if_pos c3] at H
    have c3b0 := decide_eq_true c3
    clear c3
    have c4 : 0 ≤ x5_1 := ifN H
    replace H := ifT H
    have c4b0 := decide_eq_true c4
    clear c4
    obtain ⟨y526, hy526⟩ : ∃ y_ : List (S99), y_ = (x0_1.set (x5_1 : Int).toNat (⟨x1_1, (rd_T99 x0_1 x5_1).f1⟩ : S99)) := ⟨_, rfl⟩
    replace H : (laws_markCallS.l0 k1 (y526.set (x5_1 : Int).toNat (⟨(rd_T99 y526 x5_1).f0, wrap64 (x1_1 + 1)⟩ : S99)) (wrap64 ((wrap64 (x1_1 + 1)) + 1)) (wrap64 (x5_1 + 1))) = some (r1, r2) := by first | (rw [hy526]; with_reducible exact H) | (have H2_ := (Option.bind_some _ _).symm.trans H; rw [hy526]; with_reducible exact H2_) | (have H2_ := (Option.bind_some _ _).symm.trans H; with_reducible exact H2_) | with_reducible exact H | (rw [hy526]; exact H) | exact H
    have Ny526 := Aside0.mk hy526
    clear hy526
    obtain ⟨y527, hy527⟩ : ∃ y_ : List (S99), y_ = (y526.set (x5_1 : Int).toNat (⟨(rd_T99 y526 x5_1).f0, wrap64 (x1_1 + 1)⟩ : S99)) := ⟨_, rfl⟩
    replace H : (laws_markCallS.l0 k1 y527 (wrap64 ((wrap64 (x1_1 + 1)) + 1)) (wrap64 (x5_1 + 1))) = some (r1, r2) := by first | (rw [hy527]; with_reducible exact H) | (have H2_ := (Option.bind_some _ _).symm.trans H; rw [hy527]; with_reducible exact H2_) | (have H2_ := (Option.bind_some _ _).symm.trans H; with_reducible exact H2_) | with_reducible exact H | (rw [hy527]; exact H) | exact H
    have Ny527 := Aside0.mk hy527
    clear hy527
    have H' := Aside0.mk H
    clear H
    obtain ⟨Ao7, co7, eo7⟩ := Kd.R_slice HO_0.out
    subst eo7
    have p5 : 0 ≤ (x5_1 : Int) := dA
    have q5 : (x5_1 : Int) < ((x0_1.length : Int) : Int) := dA
    obtain ⟨go5, co5, eo5, gb5, gl5, cl5, HG5⟩ := Kd.R_form HO_0.out (by omega)
    (first | cases eo5 | (injection eo5 with ea_ en_ ec_; (first | subst ea_ | (injection ea_ with ea_; subst ea_)); subst ec_; clear en_))
    have GB5 := Aside0.mk gb5
    have GG5 := Aside0.mk HG5
    clear gb5 gl5 HG5
    have HMgo5 := Aside0.mk (show (P0_ go5 ∨ w.heap.size ≤ go5) from (HO_0.out.1 _ rfl))
    obtain ⟨ce5, hcl5, hM5, hcc5, hfr5⟩ := Kd.R_elem HO_0.out z99 (x5_1 : Int) p5 q5
    obtain rfl := k99_openM hM5
    have hx5_0 : wr.cell? ⟨go5, (x5_1 : Int).toNat * 2, none⟩ = some (.int .i64 ((rd_T99 x0_1 x5_1).f0)) := hcc5 0 _ rfl
    have hx5_1 : wr.cell? ⟨go5, (x5_1 : Int).toNat * 2 + 1, none⟩ = some (.int .i64 ((rd_T99 x0_1 x5_1).f1)) := hcc5 1 _ rfl
    have hf5_0 : wr.frozen? ⟨go5, (x5_1 : Int).toNat * 2, none⟩ = false := hfr5 0
    have hf5_1 : wr.frozen? ⟨go5, (x5_1 : Int).toNat * 2 + 1, none⟩ = false := hfr5 1
    clear hcl5 hcc5 hfr5 hM5
    replace p5 := eq_true p5
    replace q5 := eq_true q5
    have HX8 := Aside0.mk (show Kd.R k99 99 wr w0.heap.size (fun k_ => (P0_ k_ ∨ w.heap.size ≤ k_)) (.slice (some ⟨go5, 0, none⟩) x0_1.length co7) x0_1 from (rK HO_0))
    obtain ⟨ce8, hcl8, hM8, hcc8, hfr8⟩ := Kd.R_elem HX8.out z99 (x5_1 : Int) (dA) (by have h_ : (x5_1 : Int) < ((x0_1.length : Int) : Int) := dA; first | exact h_ | (have e_ := (Kd.R_reads' HO_0.out).1; omega) | simpa using h_)
    obtain rfl := k99_openM hM8
    have HP8 := Kd.R_seg HX8.out (x5_1 : Int) (dA) (by have h_ : (x5_1 : Int) < ((x0_1.length : Int) : Int) := dA; first | exact h_ | (have e_ := (Kd.R_reads' HO_0.out).1; omega) | simpa using h_) (seg := [.int .i64 x1_1]) (j := 0) hcl8 hcc8 (show 1 ≤ 2 from by decide) (x' := (⟨x1_1, (rd_T99 x0_1 x5_1).f1⟩ : S99)) (k99_mkM _ _ _ (⟨x1_1, (rd_T99 x0_1 x5_1).f1⟩ : S99) ) (fun _ hk => hk)
    have hx8_0 := hcc8 0 _ rfl
    (try simp only [show (k99).sz = 2 from rfl, Nat.mul_one, Nat.add_zero] at hx8_0)
    have hf8_0 := hfr8 0
    (try simp only [show (k99).sz = 2 from rfl, Nat.mul_one, Nat.add_zero] at hf8_0)
    clear hcl8 hcc8 hfr8 hM8
    go_wp2_with (first | ((with_reducible refine gate_store (t := 3) (p := 16) rfl ?_); refine store_event (t := 3) (p := 16) (v := ?vo_w9) (w1 := (wr.setCell ⟨go5, (x5_1 : Int).toNat * 2, none⟩ (.int .i64 x1_1))) ?hg ?ho ?hn ?hr ?_; (case ho => rfl); (case hg => rfl); (case hn => rfl); (case hr => first | (go_simp; done) | (go_simp; rfl)); intro w9 hw; have hg : wr.grownBy w9 (some go5) := (by rw [hw]; exact HP8.2); have hp_ : Kd.R k99 99 w9 w0.heap.size (fun k_ => (P0_ k_ ∨ w.heap.size ≤ k_)) (.slice (some ⟨go5, 0, none⟩) x0_1.length co7) y526 := (by rw [hw, Ny526.out]; exact HP8.1); clear HP8; have n0_ := Aside0.mk (hp_); have n1_ := Aside0.mk ((by rw [hw]; exact below_set (HB.out) GB5.out : Below w0.heap.size w0 w9)); have n2_ := Aside0.mk (Kept.of_grown (S := (fun k_ => P0_ k_)) hg (by repeat (first | (with_reducible first | exact HK.out | apply Kept.alloc | apply Kept.drewN | apply Kept.drew) | exact HK.out)) (fun k_ e_ => (HO_0.out.1 k_ e_))); clear HO_0; clear HB; clear HK; have HO_0 := n0_; have HB := n1_; have HK := n2_; clear n0_ n1_ n2_; clear hg hw hp_; have p6 : 0 ≤ (x5_1 : Int) := dA; have q6 : (x5_1 : Int) < ((x0_1.length : Int) : Int) := dA; obtain ⟨ce6, hcl6, hM6, hcc6, hfr6⟩ := Kd.R_elem HO_0.out z99 (x5_1 : Int) p6 q6; obtain rfl := k99_openM hM6; have hx6_0 : w9.cell? ⟨go5, (x5_1 : Int).toNat * 2, none⟩ = some (.int .i64 ((rd_T99 y526 x5_1).f0)) := hcc6 0 _ rfl; have hx6_1 : w9.cell? ⟨go5, (x5_1 : Int).toNat * 2 + 1, none⟩ = some (.int .i64 ((rd_T99 y526 x5_1).f1)) := hcc6 1 _ rfl; have hf6_0 : w9.frozen? ⟨go5, (x5_1 : Int).toNat * 2, none⟩ = false := hfr6 0; have hf6_1 : w9.frozen? ⟨go5, (x5_1 : Int).toNat * 2 + 1, none⟩ = false := hfr6 1; clear hcl6 hcc6 hfr6 hM6; replace p6 := eq_true p6; replace q6 := eq_true q6; have HX10 := Aside0.mk (show Kd.R k99 99 w9 w0.heap.size (fun k_ => (P0_ k_ ∨ w.heap.size ≤ k_)) (.slice (some ⟨go5, 0, none⟩) x0_1.length co7) y526 from (rK HO_0)); obtain ⟨ce10, hcl10, hM10, hcc10, hfr10⟩ := Kd.R_elem HX10.out z99 (x5_1 : Int) (dA) (by have h_ : (x5_1 : Int) < ((x0_1.length : Int) : Int) := dA; first | exact h_ | (have e_ := (Kd.R_reads' HO_0.out).1; omega) | simpa using h_); obtain rfl := k99_openM hM10; have HP10 := Kd.R_seg HX10.out (x5_1 : Int) (dA) (by have h_ : (x5_1 : Int) < ((x0_1.length : Int) : Int) := dA; first | exact h_ | (have e_ := (Kd.R_reads' HO_0.out).1; omega) | simpa using h_) (seg := [.int .i64 (wrap64 (x1_1 + 1))]) (j := 1) hcl10 hcc10 (show 2 ≤ 2 from by decide) (x' := (⟨(rd_T99 y526 x5_1).f0, wrap64 (x1_1 + 1)⟩ : S99)) (k99_mkM _ _ _ (⟨(rd_T99 y526 x5_1).f0, wrap64 (x1_1 + 1)⟩ : S99) ) (fun _ hk => hk); have hx10_1 := hcc10 1 _ rfl; (try simp only [show (k99).sz = 2 from rfl, Nat.mul_one, Nat.add_zero] at hx10_1); have hf10_1 := hfr10 1; (try simp only [show (k99).sz = 2 from rfl, Nat.mul_one, Nat.add_zero] at hf10_1); clear hcl10 hcc10 hfr10 hM10) | ((with_reducible refine gate_store (t := 3) (p := 23) rfl ?_); refine store_event (t := 3) (p := 23) (v := ?vo_w11) (w1 := (w9.setCell ⟨go5, (x5_1 : Int).toNat * 2 + 1, none⟩ (.int .i64 (wrap64 (x1_1 + 1))))) ?hg ?ho ?hn ?hr ?_; (case ho => rfl); (case hg => rfl); (case hn => rfl); (case hr => first | (go_simp; done) | (go_simp; rfl)); intro w11 hw; have hg : w9.grownBy w11 (some go5) := (by rw [hw]; exact HP10.2); have hp_ : Kd.R k99 99 w11 w0.heap.size (fun k_ => (P0_ k_ ∨ w.heap.size ≤ k_)) (.slice (some ⟨go5, 0, none⟩) x0_1.length co7) y527 := (by rw [hw, Ny527.out]; exact HP10.1); clear HP10; have n0_ := Aside0.mk (hp_); have n1_ := Aside0.mk ((by rw [hw]; exact below_set (HB.out) GB5.out : Below w0.heap.size w0 w11)); have n2_ := Aside0.mk (Kept.of_grown (S := (fun k_ => P0_ k_)) hg (by repeat (first | (with_reducible first | exact HK.out | apply Kept.alloc | apply Kept.drewN | apply Kept.drew) | exact HK.out)) (fun k_ e_ => (HO_0.out.1 k_ e_))); clear HO_0; clear HB; clear HK; have HO_0 := n0_; have HB := n1_; have HK := n2_; clear n0_ n1_ n2_; clear hg hw hp_))
    go_roundg k1
    case measure => have := HK1.out; omega
    case rel => exact ⟨(y527), (wrap64 ((wrap64 (x1_1 + 1)) + 1)), (wrap64 (x5_1 + 1)), rS, rS, H', ⟨by have := HK1.out; omega⟩, ⟨rK HO_0⟩, ⟨by repeat (first | (with_reducible first | exact HK.out | apply Kept.alloc | apply Kept.drewN | apply Kept.drew) | exact HK.out)⟩, ⟨bA⟩⟩
   ·
    rw [if_neg c3] at H
    have c3b0 := decide_eq_false c3
    clear c3
    simp only [Option.some.injEq, Prod.mk.injEq] at H
    obtain ⟨rfl, rfl⟩ := H
    obtain ⟨Ao12, co12, eo12⟩ := Kd.R_slice HO_0.out
    subst eo12
    go_wp2
    go_ret
    exact ⟨rA, by (with_reducible repeat (first | apply Kd.R_alloc | apply Kd.R_drewN | apply Kd.R_drew)); exact HO_0.out, bA, by repeat (first | (with_reducible first | exact HK.out | apply Kept.alloc | apply Kept.drewN | apply Kept.drew) | exact HK.out)⟩

/-! ### laws_heldIntS: function 32 -/
def laws_heldIntS.l0 : Nat → List Int → Int → Int → Option (Int)
 | 0, _, _, _ => none
 | k + 1, x0, x1, x5 => if x5 < (x0.length : Int) then (if 0 ≤ x5 then (if (rd x0 x5) = x1 then (laws_heldIntS.l0 k x0 (wrap64 (x1 + 1)) (wrap64 (x5 + 1))) else (some (-1))) else (none)) else (some x1)
def laws_heldIntS.f (k : Nat) (l0 : List Int) (a1 : Int) : Option (Int) := laws_heldIntS.l0 k l0 a1 0
theorem laws_heldIntS.mono_l : ∀ k, (∀ y0 y1 y2, LeO (laws_heldIntS.l0 k y0 y1 y2) (laws_heldIntS.l0 (k + 1) y0 y1 y2))
 | 0 => fun _ _ _ r h => by simp [laws_heldIntS.l0] at h
 | k + 1 => by
  have ih0 := laws_heldIntS.mono_l k
  ·
   intro y0 y1 y2
   unfold laws_heldIntS.l0
   repeat' first | (with_reducible first | exact LeO.refl _ | exact LeO.none _ | refine LeO.ite ?_ ?_ | refine LeO.bind ?_ (fun _ => ?_) | exact ih0 _ _ _)
theorem laws_heldIntS.mono : ∀ a0 a1 k, LeO (laws_heldIntS.f k a0 a1) (laws_heldIntS.f (k + 1) a0 a1) := by
 intro a0 a1 k
 have ih0 := laws_heldIntS.mono_l k
 unfold laws_heldIntS.f
 repeat' first | (with_reducible first | exact LeO.refl _ | exact LeO.none _ | refine LeO.ite ?_ ?_ | refine LeO.bind ?_ (fun _ => ?_) | exact ih0 _ _ _)
set_option maxHeartbeats 8000000 in
set_option maxRecDepth 100000 in
theorem laws_heldIntS.calls (k : Nat) (A0 : Option Addr) (c0 : Nat) (l0 : List Int) (a1 : Int) (r : Int) (w : World) (hr0 : Kd.C (Kd.int .i64) w A0 l0.length l0) (hc0 : l0.length ≤ c0) (h : laws_heldIntS.f k l0 a1 = some r) :
  Calls Try.prog 32 #[.slice A0 l0.length c0, .int .i64 a1] w fun e w' => e = .returned (.int .i64 r) ∧ Drawn0 w w' := by
 have HR0 := Aside0.mk hr0
 have HC0 := Aside0.mk hc0
 clear hr0 hc0
 have H : (laws_heldIntS.l0 k l0 a1 0) = some r := h
 clear h
 have H' := Aside0.mk H
 clear H
 go_enter Try.func32, Try.ntmps32
 go_wp2
 go_loopg [1, 5] k (fun kq v1 v5 w' => ∃ (x1_1 : Int) (x5_1 : Int), v1 = .int .i64 x1_1 ∧ v5 = .int .i64 x5_1 ∧ Aside0 (laws_heldIntS.l0 kq l0 x1_1 x5_1 = some r) ∧ Aside0 (kq ≤ k) ∧ Drawn0 w w')
 case atStart => exact ⟨(a1), (0), rS, rS, H', ⟨Nat.le_refl _⟩, by repeat (first | exact Drawn0.refl _ | apply Drawn0.step)⟩
 case round =>
  clear H'
  try clear p2
  obtain ⟨x1_1, x5_1, rfl, rfl, HA, HK1, ⟨m1, rfl⟩⟩ := hrel
  cases gk with
  | zero => exact absurd HA.out (by simp [laws_heldIntS.l0])
  | succ k1 =>
   have H := HA.out
   clear HA
   simp only [laws_heldIntS.l0] at H
   by_cases c3 : x5_1 < (l0.length : Int)
   ·
    rw [if_pos c3] at H
    have c3b0 := decide_eq_true c3
    clear c3
    have c4 : 0 ≤ x5_1 := ifN H
    replace H := ifT H
    have c4b0 := decide_eq_true c4
    clear c4
    by_cases c5 : (rd l0 x5_1) = x1_1
    ·
     rw [if_pos c5] at H
     have c5b0 : ((rd l0 x5_1) == x1_1) = true := beq_iff_eq.mpr c5
     have c5b1 : ((rd l0 x5_1) != x1_1) = false := bne_eq_false_iff_eq.mpr c5
     clear c5
     have H' := Aside0.mk H
     clear H
     have p528 : 0 ≤ (x5_1 : Int) := dA
     have q528 : x5_1 < (l0.length : Int) := dA
     obtain ⟨ad528, e528, hx528_0⟩ := Kd.at_int HR0.out x5_1 p528 q528
     cases e528
     replace p528 := eq_true p528
     replace q528 := eq_true q528
     go_wp2
     go_roundg k1
     case measure => have := HK1.out; omega
     case rel => exact ⟨(wrap64 (x1_1 + 1)), (wrap64 (x5_1 + 1)), rS, rS, H', ⟨by have := HK1.out; omega⟩, by repeat (first | exact Drawn0.refl _ | apply Drawn0.step)⟩
    ·
     rw [if_neg c5] at H
     have c5b0 : ((rd l0 x5_1) == x1_1) = false := beq_eq_false_iff_ne.mpr c5
     have c5b1 : ((rd l0 x5_1) != x1_1) = true := bne_iff_ne.mpr c5
     obtain rfl := Option.some.inj H
     have p528 : 0 ≤ (x5_1 : Int) := dA
     have q528 : x5_1 < (l0.length : Int) := dA
     obtain ⟨ad528, e528, hx528_0⟩ := Kd.at_int HR0.out x5_1 p528 q528
     cases e528
     replace p528 := eq_true p528
     replace q528 := eq_true q528
     go_wp2
     go_ret
     exact ⟨by first | rfl | (simp; done) | (simp [*]; done), by repeat (first | exact Drawn0.refl _ | apply Drawn0.step)⟩
   ·
    rw [if_neg c3] at H
    have c3b0 := decide_eq_false c3
    clear c3
    obtain rfl := Option.some.inj H
    go_wp2
    go_ret
    exact ⟨by first | rfl | (simp; done) | (simp [*]; done), by repeat (first | exact Drawn0.refl _ | apply Drawn0.step)⟩

/-! ### laws_FnExactServedAt: function 4 -/
def laws_FnExactServedAt.j0 : Nat → List (S91) → List (S85) → List (S101) → List Int → List Int → Bool → Option (Bool)
 | 0, _, _, _, _, _, _ => none
 | k + 1, x0, x1, x2, x8, x12, x84 => if x84 = true then (none) else ((laws_markIntS.f k x12 1).bind fun bt576 => ((laws_heldIntS.f k bt576.2 1).bind fun t578 => (if t578 < 0 then (none) else (if t578 = bt576.1 then ((laws_toPathS.f k x0).bind fun t579 => ((laws_toPartS.f k x1).bind fun t582 => ((laws_toCallS.f k x2).bind fun t585 => ((impl_ServedAt.f k t579 t582 t585).bind fun t588 => ((laws_eqIntS.f k t588 x8).bind fun t591 => (if t591 = true then ((laws_heldIntS.f k bt576.2 1).bind fun t592 => (if t592 < 0 then (none) else (if t592 = bt576.1 then (some true) else (none)))) else (none))))))) else (none)))))
def laws_FnExactServedAt.f (k : Nat) (l0 : List (S91)) (l1 : List (S85)) (l2 : List (S101)) : Option (Bool) := (laws_szPathS.f l0 1048576).bind fun t529 => (if t529 < 0 then (some true) else ((laws_szPartS.f k l1 t529).bind fun t530 => (if t530 < 0 then (some true) else ((laws_szCallS.f l2 t530).bind fun t531 => (if t531 < 0 then (some true) else ((laws_toPathS.f k l0).bind fun t532 => ((laws_toPartS.f k l1).bind fun t535 => ((laws_toCallS.f k l2).bind fun t538 => ((spec_ServedAt.f k t532 t535 t538).bind fun t541 => ((laws_toPathS.f k l0).bind fun t544 => ((laws_toPartS.f k l1).bind fun t547 => ((laws_toCallS.f k l2).bind fun t550 => ((impl_ServedAt.f k t544 t547 t550).bind fun t553 => ((laws_eqIntS.f k t553 t541).bind fun t556 => (if t556 = true then ((laws_toPathS.f k l0).bind fun t557 => ((laws_eqPathS.f k t544 t557).bind fun t560 => (if t560 = true then ((laws_toPartS.f k l1).bind fun t561 => ((laws_eqPartS.f k t547 t561).bind fun t564 => (if t564 = true then ((laws_toCallS.f k l2).bind fun t565 => ((laws_eqCallS.f k t550 t565).bind fun t568 => (if t568 = true then ((laws_markPathS.f k t544 1).bind fun bt569 => ((laws_markPartS.f k t547 bt569.1).bind fun bt571 => ((laws_markCallS.f k t550 bt571.1).bind fun bt573 => (if bt573.1 < 0 then (laws_FnExactServedAt.j0 k l0 l1 l2 t541 t553 true) else ((laws_eqIntS.f k t553 t541).bind fun t575 => (laws_FnExactServedAt.j0 k l0 l1 l2 t541 t553 (!t575))))))) else (none)))) else (none)))) else (none)))) else (none))))))))))))))))
theorem laws_FnExactServedAt.mono_l : ∀ k, (∀ y0 y1 y2 y3 y4 y5, LeO (laws_FnExactServedAt.j0 k y0 y1 y2 y3 y4 y5) (laws_FnExactServedAt.j0 (k + 1) y0 y1 y2 y3 y4 y5))
 | 0 => fun _ _ _ _ _ _ r h => by simp [laws_FnExactServedAt.j0] at h
 | k + 1 => by
  have ih0 := laws_FnExactServedAt.mono_l k
  ·
   intro y0 y1 y2 y3 y4 y5
   unfold laws_FnExactServedAt.j0
   repeat' first | (with_reducible first | exact LeO.refl _ | exact LeO.none _ | refine LeO.ite ?_ ?_ | refine LeO.bind ?_ (fun _ => ?_) | exact ih0 _ _ _ _ _ _ | exact impl_ServedAt.mono _ _ _ _ | exact laws_eqCallS.mono _ _ _ | exact laws_eqIntS.mono _ _ _ | exact laws_eqPartS.mono _ _ _ | exact laws_eqPathS.mono _ _ _ | exact laws_heldIntS.mono _ _ _ | exact laws_markCallS.mono _ _ _ | exact laws_markIntS.mono _ _ _ | exact laws_markPartS.mono _ _ _ | exact laws_markPathS.mono _ _ _ | exact laws_szPartS.mono _ _ _ | exact laws_toCallS.mono _ _ | exact laws_toPartS.mono _ _ | exact laws_toPathS.mono _ _ | exact spec_ServedAt.mono _ _ _ _)
theorem laws_FnExactServedAt.mono : ∀ a0 a1 a2 k, LeO (laws_FnExactServedAt.f k a0 a1 a2) (laws_FnExactServedAt.f (k + 1) a0 a1 a2) := by
 intro a0 a1 a2 k
 have ih0 := laws_FnExactServedAt.mono_l k
 unfold laws_FnExactServedAt.f
 repeat' first | (with_reducible first | exact LeO.refl _ | exact LeO.none _ | refine LeO.ite ?_ ?_ | refine LeO.bind ?_ (fun _ => ?_) | exact ih0 _ _ _ _ _ _ | exact impl_ServedAt.mono _ _ _ _ | exact laws_eqCallS.mono _ _ _ | exact laws_eqIntS.mono _ _ _ | exact laws_eqPartS.mono _ _ _ | exact laws_eqPathS.mono _ _ _ | exact laws_heldIntS.mono _ _ _ | exact laws_markCallS.mono _ _ _ | exact laws_markIntS.mono _ _ _ | exact laws_markPartS.mono _ _ _ | exact laws_markPathS.mono _ _ _ | exact laws_szPartS.mono _ _ _ | exact laws_toCallS.mono _ _ | exact laws_toPartS.mono _ _ | exact laws_toPathS.mono _ _ | exact spec_ServedAt.mono _ _ _ _)
set_option maxHeartbeats 8000000 in
set_option maxRecDepth 100000 in
theorem laws_FnExactServedAt.calls (k : Nat) (A0 : Option Addr) (c0 : Nat) (l0 : List (S91)) (A1 : Option Addr) (c1 : Nat) (l1 : List (S85)) (A2 : Option Addr) (c2 : Nat) (l2 : List (S101)) (r : Bool) (w : World) (hr0 : Kd.C k91 w A0 l0.length l0) (hc0 : l0.length ≤ c0) (hr1 : Kd.C k85 w A1 l1.length l1) (hc1 : l1.length ≤ c1) (hr2 : Kd.C k101 w A2 l2.length l2) (hc2 : l2.length ≤ c2) (h : laws_FnExactServedAt.f k l0 l1 l2 = some r) :
  Calls Try.prog 4 #[.slice A0 l0.length c0, .slice A1 l1.length c1, .slice A2 l2.length c2] w fun e w' => e = .returned (.bool r) ∧ Below w.heap.size w w' := by
 have HR0 := Aside0.mk hr0
 have HC0 := Aside0.mk hc0
 clear hr0 hc0
 have HR1 := Aside0.mk hr1
 have HC1 := Aside0.mk hc1
 clear hr1 hc1
 have HR2 := Aside0.mk hr2
 have HC2 := Aside0.mk hc2
 clear hr2 hc2
 have HB := Aside0.mk (Below.refl w.heap.size w)
 have H : ((laws_szPathS.f l0 1048576).bind fun t529 => (if t529 < 0 then (some true) else ((laws_szPartS.f k l1 t529).bind fun t530 => (if t530 < 0 then (some true) else ((laws_szCallS.f l2 t530).bind fun t531 => (if t531 < 0 then (some true) else ((laws_toPathS.f k l0).bind fun t532 => ((laws_toPartS.f k l1).bind fun t535 => ((laws_toCallS.f k l2).bind fun t538 => ((spec_ServedAt.f k t532 t535 t538).bind fun t541 => ((laws_toPathS.f k l0).bind fun t544 => ((laws_toPartS.f k l1).bind fun t547 => ((laws_toCallS.f k l2).bind fun t550 => ((impl_ServedAt.f k t544 t547 t550).bind fun t553 => ((laws_eqIntS.f k t553 t541).bind fun t556 => (if t556 = true then ((laws_toPathS.f k l0).bind fun t557 => ((laws_eqPathS.f k t544 t557).bind fun t560 => (if t560 = true then ((laws_toPartS.f k l1).bind fun t561 => ((laws_eqPartS.f k t547 t561).bind fun t564 => (if t564 = true then ((laws_toCallS.f k l2).bind fun t565 => ((laws_eqCallS.f k t550 t565).bind fun t568 => (if t568 = true then ((laws_markPathS.f k t544 1).bind fun bt569 => ((laws_markPartS.f k t547 bt569.1).bind fun bt571 => ((laws_markCallS.f k t550 bt571.1).bind fun bt573 => (if bt573.1 < 0 then (laws_FnExactServedAt.j0 k l0 l1 l2 t541 t553 true) else ((laws_eqIntS.f k t553 t541).bind fun t575 => (laws_FnExactServedAt.j0 k l0 l1 l2 t541 t553 (!t575))))))) else (none)))) else (none)))) else (none)))) else (none))))))))))))))))) = some r := h
 clear h
 obtain ⟨t529, A4, H⟩ := bindE H
 try dsimp only at H
 by_cases c5 : t529 < 0
 ·
  rw [if_pos c5] at H
  have c5b0 := decide_eq_true c5
  clear c5
  obtain rfl := Option.some.inj H
  go_enter Try.func4, Try.ntmps4
  go_wp2_with (first | ((with_reducible refine gate_callee (f := 11) rfl ?_); refine gL (some 19) Try.func11 #[.slice A0 l0.length c0, .int .i64 1048576] ?_; (with_reducible refine (laws_szPathS.calls _ _ l0 1048576 t529 _ ?side1 ?side2 A4.out).mono ?_); (case side1 => exact cO HR0); (case side2 => exact HC0.out); rintro e w' ⟨rfl, ⟨nd, rfl⟩⟩; refine ⟨_, rfl, ?_⟩))
  go_ret
  exact ⟨rA, bA⟩
 ·
  rw [if_neg c5] at H
  have c5b0 := decide_eq_false c5
  clear c5
  obtain ⟨t530, A6, H⟩ := bindE H
  try dsimp only at H
  by_cases c7 : t530 < 0
  ·
   rw [if_pos c7] at H
   have c7b0 := decide_eq_true c7
   clear c7
   obtain rfl := Option.some.inj H
   go_enter Try.func4, Try.ntmps4
   go_wp2_with (first | ((with_reducible refine gate_callee (f := 11) rfl ?_); refine gL (some 19) Try.func11 #[.slice A0 l0.length c0, .int .i64 1048576] ?_; (with_reducible refine (laws_szPathS.calls _ _ l0 1048576 t529 _ ?side1 ?side2 A4.out).mono ?_); (case side1 => exact cO HR0); (case side2 => exact HC0.out); rintro e w' ⟨rfl, ⟨nd, rfl⟩⟩; refine ⟨_, rfl, ?_⟩) | ((with_reducible refine gate_callee (f := 12) rfl ?_); refine gL (some 24) Try.func12 #[.slice A1 l1.length c1, .int .i64 t529] ?_; (with_reducible refine (laws_szPartS.calls k _ _ l1 t529 t530 _ ?side1 ?side2 A6.out).mono ?_); (case side1 => exact cO HR1); (case side2 => exact HC1.out); rintro e w8 ⟨rfl, hb⟩; refine ⟨_, rfl, ?_⟩; replace HB := Aside0.mk (below_step bA hb); (try clear hb)))
   go_ret
   exact ⟨rA, bA⟩
  ·
   rw [if_neg c7] at H
   have c7b0 := decide_eq_false c7
   clear c7
   obtain ⟨t531, A9, H⟩ := bindE H
   try dsimp only at H
   by_cases c10 : t531 < 0
   ·
    rw [if_pos c10] at H
    have c10b0 := decide_eq_true c10
    clear c10
    obtain rfl := Option.some.inj H
    go_enter Try.func4, Try.ntmps4
    go_wp2_with (first | ((with_reducible refine gate_callee (f := 11) rfl ?_); refine gL (some 19) Try.func11 #[.slice A0 l0.length c0, .int .i64 1048576] ?_; (with_reducible refine (laws_szPathS.calls _ _ l0 1048576 t529 _ ?side1 ?side2 A4.out).mono ?_); (case side1 => exact cO HR0); (case side2 => exact HC0.out); rintro e w' ⟨rfl, ⟨nd, rfl⟩⟩; refine ⟨_, rfl, ?_⟩) | ((with_reducible refine gate_callee (f := 12) rfl ?_); refine gL (some 24) Try.func12 #[.slice A1 l1.length c1, .int .i64 t529] ?_; (with_reducible refine (laws_szPartS.calls k _ _ l1 t529 t530 _ ?side1 ?side2 A6.out).mono ?_); (case side1 => exact cO HR1); (case side2 => exact HC1.out); rintro e w11 ⟨rfl, hb⟩; refine ⟨_, rfl, ?_⟩; replace HB := Aside0.mk (below_step bA hb); (try clear hb)) | ((with_reducible refine gate_callee (f := 24) rfl ?_); refine gL (some 29) Try.func24 #[.slice A2 l2.length c2, .int .i64 t530] ?_; (with_reducible refine (laws_szCallS.calls _ _ l2 t530 t531 _ ?side1 ?side2 A9.out).mono ?_); (case side1 => exact cB HR2); (case side2 => exact HC2.out); rintro e w' ⟨rfl, ⟨nd, rfl⟩⟩; refine ⟨_, rfl, ?_⟩))
    go_ret
    exact ⟨rA, bA⟩
   ·
    rw [if_neg c10] at H
    have c10b0 := decide_eq_false c10
    clear c10
    obtain ⟨t532, A12, H⟩ := bindE H
    try dsimp only at H
    obtain ⟨t535, A13, H⟩ := bindE H
    try dsimp only at H
    obtain ⟨t538, A14, H⟩ := bindE H
    try dsimp only at H
    obtain ⟨t541, A15, H⟩ := bindE H
    try dsimp only at H
    obtain ⟨t544, A16, H⟩ := bindE H
    try dsimp only at H
    obtain ⟨t547, A17, H⟩ := bindE H
    try dsimp only at H
    obtain ⟨t550, A18, H⟩ := bindE H
    try dsimp only at H
    obtain ⟨t553, A19, H⟩ := bindE H
    try dsimp only at H
    obtain ⟨t556, A20, H⟩ := bindE H
    try dsimp only at H
    have c21 := ifN H
    replace H := ifT H
    subst c21
    obtain ⟨t557, A22, H⟩ := bindE H
    try dsimp only at H
    obtain ⟨t560, A23, H⟩ := bindE H
    try dsimp only at H
    have c24 := ifN H
    replace H := ifT H
    subst c24
    obtain ⟨t561, A25, H⟩ := bindE H
    try dsimp only at H
    obtain ⟨t564, A26, H⟩ := bindE H
    try dsimp only at H
    have c27 := ifN H
    replace H := ifT H
    subst c27
    obtain ⟨t565, A28, H⟩ := bindE H
    try dsimp only at H
    obtain ⟨t568, A29, H⟩ := bindE H
    try dsimp only at H
    have c30 := ifN H
    replace H := ifT H
    subst c30
    obtain ⟨⟨t569, t570⟩, A31, H⟩ := bindE H
    try dsimp only at H
    obtain ⟨⟨t571, t572⟩, A32, H⟩ := bindE H
    try dsimp only at H
    obtain ⟨⟨t573, t574⟩, A33, H⟩ := bindE H
    try dsimp only at H
    have HC34 := Aside0.mk H
    clear H
    go_enter Try.func4, Try.ntmps4
    go_upto_region 28 with (first | ((with_reducible refine gate_callee (f := 11) rfl ?_); refine gL (some 19) Try.func11 #[.slice A0 l0.length c0, .int .i64 1048576] ?_; (with_reducible refine (laws_szPathS.calls _ _ l0 1048576 t529 _ ?side1 ?side2 A4.out).mono ?_); (case side1 => exact cO HR0); (case side2 => exact HC0.out); rintro e w' ⟨rfl, ⟨nd, rfl⟩⟩; refine ⟨_, rfl, ?_⟩) | ((with_reducible refine gate_callee (f := 12) rfl ?_); refine gL (some 24) Try.func12 #[.slice A1 l1.length c1, .int .i64 t529] ?_; (with_reducible refine (laws_szPartS.calls k _ _ l1 t529 t530 _ ?side1 ?side2 A6.out).mono ?_); (case side1 => exact cO HR1); (case side2 => exact HC1.out); rintro e w35 ⟨rfl, hb⟩; refine ⟨_, rfl, ?_⟩; replace HB := Aside0.mk (below_step bA hb); (try clear hb)) | ((with_reducible refine gate_callee (f := 24) rfl ?_); refine gL (some 29) Try.func24 #[.slice A2 l2.length c2, .int .i64 t530] ?_; (with_reducible refine (laws_szCallS.calls _ _ l2 t530 t531 _ ?side1 ?side2 A9.out).mono ?_); (case side1 => exact cB HR2); (case side2 => exact HC2.out); rintro e w' ⟨rfl, ⟨nd, rfl⟩⟩; refine ⟨_, rfl, ?_⟩) | ((with_reducible refine gate_callee (f := 14) rfl ?_); refine gL (some 33) Try.func14 #[.slice A0 l0.length c0] ?_; (with_reducible refine (laws_toPathS.calls k _ _ l0 t532 _ ?side1 ?side2 A12.out).mono ?_); (case side1 => exact cG HR0); (case side2 => exact HC0.out); rintro e w36 ⟨v533, rfl, ho0, hb⟩; refine ⟨_, rfl, ?_⟩; have HO534 := Aside0.mk (Kd.R_lower ho0 (below_size bA)); replace HB := Aside0.mk (below_step bA hb); (try clear hb); (try clear ho0)) | ((with_reducible refine gate_callee (f := 15) rfl ?_); refine gL (some 35) Try.func15 #[.slice A1 l1.length c1] ?_; (with_reducible refine (laws_toPartS.calls k _ _ l1 t535 _ ?side1 ?side2 A13.out).mono ?_); (case side1 => exact cB HR1); (case side2 => exact HC1.out); rintro e w37 ⟨v536, rfl, ho0, hb⟩; refine ⟨_, rfl, ?_⟩; replace HO534 := Aside0.mk (Kd.R_below (rK HO534) hb); have HO537 := Aside0.mk (Kd.S_lower ho0 (below_size bA)); replace HB := Aside0.mk (below_step bA hb); (try clear hb); (try clear ho0)) | ((with_reducible refine gate_callee (f := 26) rfl ?_); refine gL (some 37) Try.func26 #[.slice A2 l2.length c2] ?_; (with_reducible refine (laws_toCallS.calls k _ _ l2 t538 _ ?side1 ?side2 A14.out).mono ?_); (case side1 => exact cB HR2); (case side2 => exact HC2.out); rintro e w38 ⟨v539, rfl, ho0, hb⟩; refine ⟨_, rfl, ?_⟩; replace HO534 := Aside0.mk (Kd.R_below (rK HO534) hb); replace HO537 := Aside0.mk (Kd.S_below (sK HO537) hb); have HO540 := Aside0.mk (Kd.R_lower ho0 (below_size bA)); replace HB := Aside0.mk (below_step bA hb); (try clear hb); (try clear ho0); obtain ⟨Ao39, co39, eo39⟩ := Kd.R_slice HO534.out; subst eo39; obtain ⟨Ao40, co40, eo40⟩ := Kd.S_slice HO537.out; subst eo40; obtain ⟨Ao41, co41, eo41⟩ := Kd.R_slice HO540.out; subst eo41) | ((with_reducible refine gate_callee (f := 25) rfl ?_); refine gL (some 38) Try.func25 #[.slice Ao39 t532.length co39, .slice Ao40 t535.length co40, .slice Ao41 t538.length co41] ?_; (with_reducible refine (spec_ServedAt.calls k _ _ t532 _ _ t535 _ _ t538 t541 _ ?side1 ?side2 ?side3 ?side4 ?side5 ?side6 A15.out).mono ?_); (case side1 => exact cO ⟨(Kd.R_reads' HO534.out).2.2⟩); (case side2 => exact (Kd.R_reads' HO534.out).2.1); (case side3 => repeat (first | exact (Kd.S_reads' HO537.out).2.2 | (with_reducible refine Kd.C_alloc ?_ _) | (with_reducible refine Kd.C_drewN ?_ _) | (with_reducible refine Kd.C_drew ?_))); (case side4 => exact (Kd.S_reads' HO537.out).2.1); (case side5 => exact cO ⟨(Kd.R_reads' HO540.out).2.2⟩); (case side6 => exact (Kd.R_reads' HO540.out).2.1); rintro e w42 ⟨v542, rfl, ho0, hb⟩; refine ⟨_, rfl, ?_⟩; replace HO534 := Aside0.mk (Kd.R_below (rK HO534) hb); replace HO537 := Aside0.mk (Kd.S_elder' (sK HO537) (Kd.R_base ho0) hb); replace HO540 := Aside0.mk (Kd.R_below (rK HO540) hb); have HO543 := Aside0.mk (Kd.R_lower ho0 (below_size bA)); replace HB := Aside0.mk (below_step bA hb); (try clear hb); (try clear ho0)) | ((with_reducible refine gate_callee (f := 14) rfl ?_); refine gL (some 40) Try.func14 #[.slice A0 l0.length c0] ?_; (with_reducible refine (laws_toPathS.calls k _ _ l0 t544 _ ?side1 ?side2 A16.out).mono ?_); (case side1 => exact cB HR0); (case side2 => exact HC0.out); rintro e w43 ⟨v545, rfl, ho0, hb⟩; refine ⟨_, rfl, ?_⟩; replace HO537 := Aside0.mk (Kd.S_below (sK HO537) hb); replace HO540 := Aside0.mk (Kd.R_below (rK HO540) hb); replace HO543 := Aside0.mk (Kd.R_below (rK HO543) hb); have HO546 := Aside0.mk (Kd.R_lower (Kd.R_new' ho0 (Kd.R_lt (rK HO534))) (below_size bA)); replace HO534 := Aside0.mk (Kd.R_elder' (rK HO534) (Kd.R_base ho0) hb); replace HB := Aside0.mk (below_step bA hb); (try clear hb); (try clear ho0)) | ((with_reducible refine gate_callee (f := 15) rfl ?_); refine gL (some 42) Try.func15 #[.slice A1 l1.length c1] ?_; (with_reducible refine (laws_toPartS.calls k _ _ l1 t547 _ ?side1 ?side2 A17.out).mono ?_); (case side1 => exact cB HR1); (case side2 => exact HC1.out); rintro e w44 ⟨v548, rfl, ho0, hb⟩; refine ⟨_, rfl, ?_⟩; replace HO534 := Aside0.mk (Kd.R_below (rK HO534) hb); replace HO540 := Aside0.mk (Kd.R_below (rK HO540) hb); replace HO546 := Aside0.mk (Kd.R_below (rK HO546) hb); have HO549 := Aside0.mk (Kd.S_lower (Kd.S_new' (Kd.S_new' ho0 (Kd.S_lt (sK HO537))) (Kd.R_lt (rK HO543))) (below_size bA)); replace HO537 := Aside0.mk (Kd.S_elder' (sK HO537) (Kd.S_base ho0) hb); replace HO543 := Aside0.mk (Kd.R_below (rK HO543) hb); replace HB := Aside0.mk (below_step bA hb); (try clear hb); (try clear ho0)) | ((with_reducible refine gate_callee (f := 26) rfl ?_); refine gL (some 44) Try.func26 #[.slice A2 l2.length c2] ?_; (with_reducible refine (laws_toCallS.calls k _ _ l2 t550 _ ?side1 ?side2 A18.out).mono ?_); (case side1 => exact cB HR2); (case side2 => exact HC2.out); rintro e w45 ⟨v551, rfl, ho0, hb⟩; refine ⟨_, rfl, ?_⟩; replace HO534 := Aside0.mk (Kd.R_below (rK HO534) hb); replace HO537 := Aside0.mk (Kd.S_below (sK HO537) hb); replace HO543 := Aside0.mk (Kd.R_below (rK HO543) hb); replace HO546 := Aside0.mk (Kd.R_below (rK HO546) hb); replace HO549 := Aside0.mk (Kd.S_below (sK HO549) hb); have HO552 := Aside0.mk (Kd.R_lower (Kd.R_new' ho0 (Kd.R_lt (rK HO540))) (below_size bA)); replace HO540 := Aside0.mk (Kd.R_elder' (rK HO540) (Kd.R_base ho0) hb); replace HB := Aside0.mk (below_step bA hb); (try clear hb); (try clear ho0); obtain ⟨Ao46, co46, eo46⟩ := Kd.R_slice HO546.out; subst eo46; obtain ⟨Ao47, co47, eo47⟩ := Kd.S_slice HO549.out; subst eo47; obtain ⟨Ao48, co48, eo48⟩ := Kd.R_slice HO552.out; subst eo48) | ((with_reducible refine gate_callee (f := 27) rfl ?_); refine gL (some 48) Try.func27 #[.slice Ao46 t544.length co46, .slice Ao47 t547.length co47, .slice Ao48 t550.length co48] ?_; (with_reducible refine (impl_ServedAt.calls k _ _ t544 _ _ t547 _ _ t550 t553 _ ?side1 ?side2 ?side3 ?side4 ?side5 ?side6 A19.out).mono ?_); (case side1 => exact cO ⟨(Kd.R_reads' HO546.out).2.2⟩); (case side2 => exact (Kd.R_reads' HO546.out).2.1); (case side3 => repeat (first | exact (Kd.S_reads' HO549.out).2.2 | (with_reducible refine Kd.C_alloc ?_ _) | (with_reducible refine Kd.C_drewN ?_ _) | (with_reducible refine Kd.C_drew ?_))); (case side4 => exact (Kd.S_reads' HO549.out).2.1); (case side5 => exact cO ⟨(Kd.R_reads' HO552.out).2.2⟩); (case side6 => exact (Kd.R_reads' HO552.out).2.1); rintro e w49 ⟨v554, rfl, ho0, hb⟩; refine ⟨_, rfl, ?_⟩; replace HO534 := Aside0.mk (Kd.R_below (rK HO534) hb); replace HO537 := Aside0.mk (Kd.S_elder' (sK HO537) (Kd.R_base ho0) hb); replace HO540 := Aside0.mk (Kd.R_below (rK HO540) hb); replace HO546 := Aside0.mk (Kd.R_below (rK HO546) hb); replace HO549 := Aside0.mk (Kd.S_elder' (sK HO549) (Kd.R_base ho0) hb); replace HO552 := Aside0.mk (Kd.R_below (rK HO552) hb); have HO555 := Aside0.mk (Kd.R_lower (Kd.R_new' ho0 (Kd.R_lt (rK HO543))) (below_size bA)); replace HO543 := Aside0.mk (Kd.R_elder' (rK HO543) (Kd.R_base ho0) hb); replace HB := Aside0.mk (below_step bA hb); (try clear hb); (try clear ho0); obtain ⟨Ao50, co50, eo50⟩ := Kd.R_slice HO555.out; subst eo50; obtain ⟨Ao51, co51, eo51⟩ := Kd.R_slice HO543.out; subst eo51) | ((with_reducible refine gate_callee (f := 28) rfl ?_); refine gL (some 51) Try.func28 #[.slice Ao50 t553.length co50, .slice Ao51 t541.length co51] ?_; (with_reducible refine (laws_eqIntS.calls k _ _ t553 _ _ t541 true _ ?side1 ?side2 ?side3 ?side4 A20.out).mono ?_); (case side1 => exact cO ⟨(Kd.R_reads' HO555.out).2.2⟩); (case side2 => exact (Kd.R_reads' HO555.out).2.1); (case side3 => exact cO ⟨(Kd.R_reads' HO543.out).2.2⟩); (case side4 => exact (Kd.R_reads' HO543.out).2.1); rintro e w' ⟨rfl, ⟨nd, rfl⟩⟩; refine ⟨_, rfl, ?_⟩) | ((with_reducible refine gate_callee (f := 14) rfl ?_); refine gL (some 55) Try.func14 #[.slice A0 l0.length c0] ?_; (with_reducible refine (laws_toPathS.calls k _ _ l0 t557 _ ?side1 ?side2 A22.out).mono ?_); (case side1 => exact cG HR0); (case side2 => exact HC0.out); rintro e w52 ⟨v558, rfl, ho0, hb⟩; refine ⟨_, rfl, ?_⟩; replace HO537 := Aside0.mk (Kd.S_below (sK HO537) hb); replace HO540 := Aside0.mk (Kd.R_below (rK HO540) hb); replace HO543 := Aside0.mk (Kd.R_below (rK HO543) hb); replace HO549 := Aside0.mk (Kd.S_below (sK HO549) hb); replace HO552 := Aside0.mk (Kd.R_below (rK HO552) hb); replace HO555 := Aside0.mk (Kd.R_below (rK HO555) hb); have HO559 := Aside0.mk (Kd.R_lower (Kd.R_new' (Kd.R_new' ho0 (Kd.R_lt (rK HO534))) (Kd.R_lt (rK HO546))) (below_size bA)); replace HO534 := Aside0.mk (Kd.R_elder' (rK HO534) (Kd.R_base ho0) hb); replace HO546 := Aside0.mk (Kd.R_elder' (rK HO546) (Kd.R_base ho0) hb); replace HB := Aside0.mk (below_step bA hb); (try clear hb); (try clear ho0); obtain ⟨Ao53, co53, eo53⟩ := Kd.R_slice HO559.out; subst eo53) | ((with_reducible refine gate_callee (f := 18) rfl ?_); refine gL (some 56) Try.func18 #[.slice Ao46 t544.length co46, .slice Ao53 t557.length co53] ?_; (with_reducible refine (laws_eqPathS.calls k _ _ t544 _ _ t557 true _ ?side1 ?side2 ?side3 ?side4 A23.out).mono ?_); (case side1 => exact cO ⟨(Kd.R_reads' HO546.out).2.2⟩); (case side2 => exact (Kd.R_reads' HO546.out).2.1); (case side3 => exact cO ⟨(Kd.R_reads' HO559.out).2.2⟩); (case side4 => exact (Kd.R_reads' HO559.out).2.1); rintro e w54 ⟨rfl, hb⟩; refine ⟨_, rfl, ?_⟩; replace HO534 := Aside0.mk (Kd.R_below (rK HO534) hb); replace HO537 := Aside0.mk (Kd.S_below (sK HO537) hb); replace HO540 := Aside0.mk (Kd.R_below (rK HO540) hb); replace HO543 := Aside0.mk (Kd.R_below (rK HO543) hb); replace HO546 := Aside0.mk (Kd.R_below (rK HO546) hb); replace HO549 := Aside0.mk (Kd.S_below (sK HO549) hb); replace HO552 := Aside0.mk (Kd.R_below (rK HO552) hb); replace HO555 := Aside0.mk (Kd.R_below (rK HO555) hb); replace HO559 := Aside0.mk (Kd.R_below (rK HO559) hb); replace HB := Aside0.mk (below_step bA hb); (try clear hb)) | ((with_reducible refine gate_callee (f := 15) rfl ?_); refine gL (some 60) Try.func15 #[.slice A1 l1.length c1] ?_; (with_reducible refine (laws_toPartS.calls k _ _ l1 t561 _ ?side1 ?side2 A25.out).mono ?_); (case side1 => exact cB HR1); (case side2 => exact HC1.out); rintro e w55 ⟨v562, rfl, ho0, hb⟩; refine ⟨_, rfl, ?_⟩; replace HO534 := Aside0.mk (Kd.R_below (rK HO534) hb); replace HO540 := Aside0.mk (Kd.R_below (rK HO540) hb); replace HO546 := Aside0.mk (Kd.R_below (rK HO546) hb); replace HO552 := Aside0.mk (Kd.R_below (rK HO552) hb); replace HO559 := Aside0.mk (Kd.R_below (rK HO559) hb); have HO563 := Aside0.mk (Kd.S_lower (Kd.S_new' (Kd.S_new' (Kd.S_new' (Kd.S_new' ho0 (Kd.S_lt (sK HO537))) (Kd.R_lt (rK HO543))) (Kd.S_lt (sK HO549))) (Kd.R_lt (rK HO555))) (below_size bA)); replace HO537 := Aside0.mk (Kd.S_elder' (sK HO537) (Kd.S_base ho0) hb); replace HO543 := Aside0.mk (Kd.R_below (rK HO543) hb); replace HO549 := Aside0.mk (Kd.S_elder' (sK HO549) (Kd.S_base ho0) hb); replace HO555 := Aside0.mk (Kd.R_below (rK HO555) hb); replace HB := Aside0.mk (below_step bA hb); (try clear hb); (try clear ho0); obtain ⟨Ao56, co56, eo56⟩ := Kd.S_slice HO563.out; subst eo56) | ((with_reducible refine gate_callee (f := 19) rfl ?_); refine gL (some 61) Try.func19 #[.slice Ao47 t547.length co47, .slice Ao56 t561.length co56] ?_; (with_reducible refine (laws_eqPartS.calls k _ _ t547 _ _ t561 true _ ?side1 ?side2 ?side3 ?side4 A26.out).mono ?_); (case side1 => repeat (first | exact (Kd.S_reads' HO549.out).2.2 | (with_reducible refine Kd.C_alloc ?_ _) | (with_reducible refine Kd.C_drewN ?_ _) | (with_reducible refine Kd.C_drew ?_))); (case side2 => exact (Kd.S_reads' HO549.out).2.1); (case side3 => repeat (first | exact (Kd.S_reads' HO563.out).2.2 | (with_reducible refine Kd.C_alloc ?_ _) | (with_reducible refine Kd.C_drewN ?_ _) | (with_reducible refine Kd.C_drew ?_))); (case side4 => exact (Kd.S_reads' HO563.out).2.1); rintro e w57 ⟨rfl, hb⟩; refine ⟨_, rfl, ?_⟩; replace HO534 := Aside0.mk (Kd.R_below (rK HO534) hb); replace HO537 := Aside0.mk (Kd.S_below (sK HO537) hb); replace HO540 := Aside0.mk (Kd.R_below (rK HO540) hb); replace HO543 := Aside0.mk (Kd.R_below (rK HO543) hb); replace HO546 := Aside0.mk (Kd.R_below (rK HO546) hb); replace HO549 := Aside0.mk (Kd.S_below (sK HO549) hb); replace HO552 := Aside0.mk (Kd.R_below (rK HO552) hb); replace HO555 := Aside0.mk (Kd.R_below (rK HO555) hb); replace HO559 := Aside0.mk (Kd.R_below (rK HO559) hb); replace HO563 := Aside0.mk (Kd.S_below (sK HO563) hb); replace HB := Aside0.mk (below_step bA hb); (try clear hb)) | ((with_reducible refine gate_callee (f := 26) rfl ?_); refine gL (some 65) Try.func26 #[.slice A2 l2.length c2] ?_; (with_reducible refine (laws_toCallS.calls k _ _ l2 t565 _ ?side1 ?side2 A28.out).mono ?_); (case side1 => exact cB HR2); (case side2 => exact HC2.out); rintro e w58 ⟨v566, rfl, ho0, hb⟩; refine ⟨_, rfl, ?_⟩; replace HO534 := Aside0.mk (Kd.R_below (rK HO534) hb); replace HO537 := Aside0.mk (Kd.S_below (sK HO537) hb); replace HO543 := Aside0.mk (Kd.R_below (rK HO543) hb); replace HO546 := Aside0.mk (Kd.R_below (rK HO546) hb); replace HO549 := Aside0.mk (Kd.S_below (sK HO549) hb); replace HO555 := Aside0.mk (Kd.R_below (rK HO555) hb); replace HO559 := Aside0.mk (Kd.R_below (rK HO559) hb); replace HO563 := Aside0.mk (Kd.S_below (sK HO563) hb); have HO567 := Aside0.mk (Kd.R_lower (Kd.R_new' (Kd.R_new' ho0 (Kd.R_lt (rK HO540))) (Kd.R_lt (rK HO552))) (below_size bA)); replace HO540 := Aside0.mk (Kd.R_elder' (rK HO540) (Kd.R_base ho0) hb); replace HO552 := Aside0.mk (Kd.R_elder' (rK HO552) (Kd.R_base ho0) hb); replace HB := Aside0.mk (below_step bA hb); (try clear hb); (try clear ho0); obtain ⟨Ao59, co59, eo59⟩ := Kd.R_slice HO567.out; subst eo59) | ((with_reducible refine gate_callee (f := 29) rfl ?_); refine gL (some 66) Try.func29 #[.slice Ao48 t550.length co48, .slice Ao59 t565.length co59] ?_; (with_reducible refine (laws_eqCallS.calls k _ _ t550 _ _ t565 true _ ?side1 ?side2 ?side3 ?side4 A29.out).mono ?_); (case side1 => exact cO ⟨(Kd.R_reads' HO552.out).2.2⟩); (case side2 => exact (Kd.R_reads' HO552.out).2.1); (case side3 => exact cO ⟨(Kd.R_reads' HO567.out).2.2⟩); (case side4 => exact (Kd.R_reads' HO567.out).2.1); rintro e w60 ⟨rfl, hb⟩; refine ⟨_, rfl, ?_⟩; replace HO534 := Aside0.mk (Kd.R_below (rK HO534) hb); replace HO537 := Aside0.mk (Kd.S_below (sK HO537) hb); replace HO540 := Aside0.mk (Kd.R_below (rK HO540) hb); replace HO543 := Aside0.mk (Kd.R_below (rK HO543) hb); replace HO546 := Aside0.mk (Kd.R_below (rK HO546) hb); replace HO549 := Aside0.mk (Kd.S_below (sK HO549) hb); replace HO552 := Aside0.mk (Kd.R_below (rK HO552) hb); replace HO555 := Aside0.mk (Kd.R_below (rK HO555) hb); replace HO559 := Aside0.mk (Kd.R_below (rK HO559) hb); replace HO563 := Aside0.mk (Kd.S_below (sK HO563) hb); replace HO567 := Aside0.mk (Kd.R_below (rK HO567) hb); replace HB := Aside0.mk (below_step bA hb); (try clear hb)) | ((with_reducible refine gate_callee (f := 20) rfl ?_); refine gL (some 70) Try.func20 #[.slice Ao46 t544.length co46, .int .i64 1] ?_; (with_reducible refine (laws_markPathS.calls k (fun k_ => some k_ = (.slice Ao46 t544.length co46 : Value).ownBlock) (.slice Ao46 t544.length co46) t544 1 t569 t570 w _ ?side1 ?side2 A31.out).mono ?_); (case side1 => repeat (first | (with_reducible first | exact HB.out | apply below_alloc | apply pw_below_drewN | apply below_drew1) | exact HB.out)); (case side2 => exact Kd.R_tight rfl HO546.out); rintro e w61 ⟨rfl, hy0, hb, hkp⟩; refine ⟨_, rfl, ?_⟩; replace HO534 := Aside0.mk (Kd.R_mono (ok' := fun k_ => some k_ ≠ (.slice Ao46 t544.length co46 : Value).ownBlock ∧ some k_ ≠ (.slice Ao53 t557.length co53 : Value).ownBlock) (Kd.R_keptB (HO534.out) hkp (fun k_ hk_ hs_ => (hk_.1.2) hs_)) (fun k_ hk_ => ⟨hk_.1.1.2, hk_.1.2⟩)); replace HO537 := Aside0.mk (Kd.S_mono (ok' := fun k_ => some k_ ≠ (.slice Ao51 t541.length co51 : Value).ownBlock ∧ some k_ ≠ (.slice Ao47 t547.length co47 : Value).ownBlock ∧ some k_ ≠ (.slice Ao50 t553.length co50 : Value).ownBlock ∧ some k_ ≠ (.slice Ao56 t561.length co56 : Value).ownBlock) (Kd.S_keptB ((Kd.S_apart' HO537.out (Kd.R_typed HO546.out) (by decide))) hkp (fun k_ hk_ hs_ => (hk_.2) hs_)) (fun k_ hk_ => ⟨hk_.1.1.1.1.1.2, hk_.1.1.1.1.2, hk_.1.1.1.2, hk_.1.1.2⟩)); replace HO540 := Aside0.mk (Kd.R_mono (ok' := fun k_ => some k_ ≠ (.slice Ao48 t550.length co48 : Value).ownBlock ∧ some k_ ≠ (.slice Ao59 t565.length co59 : Value).ownBlock) (Kd.R_keptB ((Kd.R_apart' HO540.out (Kd.R_typed HO546.out) (by decide))) hkp (fun k_ hk_ hs_ => (hk_.2) hs_)) (fun k_ hk_ => ⟨hk_.1.1.1.2, hk_.1.1.2⟩)); replace HO543 := Aside0.mk (Kd.R_mono (ok' := fun k_ => some k_ ≠ (.slice Ao50 t553.length co50 : Value).ownBlock) (Kd.R_keptB ((Kd.R_apart' HO543.out (Kd.R_typed HO546.out) (by decide))) hkp (fun k_ hk_ hs_ => (hk_.2) hs_)) (fun k_ hk_ => hk_.1.1.2)); replace HO549 := Aside0.mk (Kd.S_mono (ok' := fun k_ => some k_ ≠ (.slice Ao40 t535.length co40 : Value).ownBlock ∧ some k_ ≠ (.slice Ao51 t541.length co51 : Value).ownBlock ∧ some k_ ≠ (.slice Ao50 t553.length co50 : Value).ownBlock ∧ some k_ ≠ (.slice Ao56 t561.length co56 : Value).ownBlock) (Kd.S_keptB ((Kd.S_apart' HO549.out (Kd.R_typed HO546.out) (by decide))) hkp (fun k_ hk_ hs_ => (hk_.2) hs_)) (fun k_ hk_ => ⟨hk_.1.1.1.1.1.2, hk_.1.1.1.1.2, hk_.1.1.1.2, hk_.1.1.2⟩)); replace HO552 := Aside0.mk (Kd.R_mono (ok' := fun k_ => some k_ ≠ (.slice Ao41 t538.length co41 : Value).ownBlock ∧ some k_ ≠ (.slice Ao59 t565.length co59 : Value).ownBlock) (Kd.R_keptB ((Kd.R_apart' HO552.out (Kd.R_typed HO546.out) (by decide))) hkp (fun k_ hk_ hs_ => (hk_.2) hs_)) (fun k_ hk_ => ⟨hk_.1.1.1.2, hk_.1.1.2⟩)); replace HO555 := Aside0.mk (Kd.R_mono (ok' := fun k_ => some k_ ≠ (.slice Ao51 t541.length co51 : Value).ownBlock) (Kd.R_keptB ((Kd.R_apart' HO555.out (Kd.R_typed HO546.out) (by decide))) hkp (fun k_ hk_ hs_ => (hk_.2) hs_)) (fun k_ hk_ => hk_.1.1.2)); replace HO559 := Aside0.mk (Kd.R_mono (ok' := fun k_ => some k_ ≠ (.slice Ao39 t532.length co39 : Value).ownBlock ∧ some k_ ≠ (.slice Ao46 t544.length co46 : Value).ownBlock) (Kd.R_keptB (HO559.out) hkp (fun k_ hk_ hs_ => (hk_.2) hs_)) (fun k_ hk_ => ⟨hk_.1.1.2, hk_.1.2⟩)); replace HO563 := Aside0.mk (Kd.S_mono (ok' := fun k_ => some k_ ≠ (.slice Ao40 t535.length co40 : Value).ownBlock ∧ some k_ ≠ (.slice Ao51 t541.length co51 : Value).ownBlock ∧ some k_ ≠ (.slice Ao47 t547.length co47 : Value).ownBlock ∧ some k_ ≠ (.slice Ao50 t553.length co50 : Value).ownBlock) (Kd.S_keptB ((Kd.S_apart' HO563.out (Kd.R_typed HO546.out) (by decide))) hkp (fun k_ hk_ hs_ => (hk_.2) hs_)) (fun k_ hk_ => ⟨hk_.1.1.1.1.1.2, hk_.1.1.1.1.2, hk_.1.1.1.2, hk_.1.1.2⟩)); replace HO567 := Aside0.mk (Kd.R_mono (ok' := fun k_ => some k_ ≠ (.slice Ao41 t538.length co41 : Value).ownBlock ∧ some k_ ≠ (.slice Ao48 t550.length co48 : Value).ownBlock) (Kd.R_keptB ((Kd.R_apart' HO567.out (Kd.R_typed HO546.out) (by decide))) hkp (fun k_ hk_ hs_ => (hk_.2) hs_)) (fun k_ hk_ => ⟨hk_.1.1.1.2, hk_.1.1.2⟩)); replace HO546 := Aside0.mk (Kd.R_reok rfl hy0 (fun k_ e_ => HO546.out.1 k_ e_)); replace HB := Aside0.mk (hb); (try clear hb); (try clear hkp); (try clear hy0)) | ((with_reducible refine gate_callee (f := 21) rfl ?_); refine gL (some 73) Try.func21 #[.slice Ao47 t547.length co47, .int .i64 t569] ?_; (with_reducible refine (laws_markPartS.calls k (fun k_ => ((((((((some k_ ≠ (.slice Ao40 t535.length co40 : Value).ownBlock ∧ (some k_ ≠ (.slice Ao51 t541.length co51 : Value).ownBlock ∧ (some k_ ≠ (.slice Ao50 t553.length co50 : Value).ownBlock ∧ some k_ ≠ (.slice Ao56 t561.length co56 : Value).ownBlock))) ∧ some k_ ≠ (.slice Ao39 t532.length co39 : Value).ownBlock) ∧ some k_ ≠ (.slice Ao41 t538.length co41 : Value).ownBlock) ∧ some k_ ≠ (.slice Ao46 t544.length co46 : Value).ownBlock) ∧ some k_ ≠ (.slice Ao48 t550.length co48 : Value).ownBlock) ∧ some k_ ≠ (.slice Ao53 t557.length co53 : Value).ownBlock) ∧ some k_ ≠ (.slice Ao59 t565.length co59 : Value).ownBlock)) ∧ w.heap.size ≤ k_) (.slice Ao47 t547.length co47) t547 t569 t571 t572 w _ ?side1 ?side2 A32.out).mono ?_); (case side1 => repeat (first | (with_reducible first | exact HB.out | apply below_alloc | apply pw_below_drewN | apply below_drew1) | exact HB.out)); (case side2 => (with_reducible repeat (first | apply Kd.S_alloc | apply Kd.S_drewN | apply Kd.S_drew)); exact Kd.S_mono (Kd.S_bound (Kd.S_apart' (Kd.S_apart' (Kd.S_apart' (Kd.S_apart' (Kd.S_apart' (Kd.S_apart' (HO549.out) (Kd.R_typed HO534.out) (by decide)) (Kd.R_typed HO540.out) (by decide)) (Kd.R_typed HO546.out) (by decide)) (Kd.R_typed HO552.out) (by decide)) (Kd.R_typed HO559.out) (by decide)) (Kd.R_typed HO567.out) (by decide))) (fun k_ h_ => ⟨h_.1, h_.2.1⟩)); rintro e w62 ⟨rfl, hy0, hb, hkp⟩; refine ⟨_, rfl, ?_⟩; have n0_ := Aside0.mk (Kd.R_mono (ok' := fun k_ => some k_ ≠ (.slice Ao46 t544.length co46 : Value).ownBlock ∧ some k_ ≠ (.slice Ao53 t557.length co53 : Value).ownBlock) (Kd.R_keptB ((Kd.R_mono (ok' := fun k_ => (some k_ ≠ (.slice Ao46 t544.length co46 : Value).ownBlock ∧ some k_ ≠ (.slice Ao53 t557.length co53 : Value).ownBlock) ∧ ¬ (((((((((some k_ ≠ (.slice Ao40 t535.length co40 : Value).ownBlock ∧ (some k_ ≠ (.slice Ao51 t541.length co51 : Value).ownBlock ∧ (some k_ ≠ (.slice Ao50 t553.length co50 : Value).ownBlock ∧ some k_ ≠ (.slice Ao56 t561.length co56 : Value).ownBlock))) ∧ some k_ ≠ (.slice Ao39 t532.length co39 : Value).ownBlock) ∧ some k_ ≠ (.slice Ao41 t538.length co41 : Value).ownBlock) ∧ some k_ ≠ (.slice Ao46 t544.length co46 : Value).ownBlock) ∧ some k_ ≠ (.slice Ao48 t550.length co48 : Value).ownBlock) ∧ some k_ ≠ (.slice Ao53 t557.length co53 : Value).ownBlock) ∧ some k_ ≠ (.slice Ao59 t565.length co59 : Value).ownBlock)) ∧ w.heap.size ≤ k_)) (Kd.R_tight2 rfl HO534.out) (fun k_ hk => ⟨hk.2, fun hs_ => (hs_.1.1.1.1.1.1.2) hk.1⟩))) hkp (fun k_ hk_ hs_ => (hk_.2) hs_)) (fun k_ hk_ => ⟨hk_.1.1.1, hk_.1.1.2⟩)); have n1_ := Aside0.mk (Kd.R_mono (ok' := fun k_ => some k_ ≠ (.slice Ao48 t550.length co48 : Value).ownBlock ∧ some k_ ≠ (.slice Ao59 t565.length co59 : Value).ownBlock) (Kd.R_keptB ((Kd.R_mono (ok' := fun k_ => (some k_ ≠ (.slice Ao48 t550.length co48 : Value).ownBlock ∧ some k_ ≠ (.slice Ao59 t565.length co59 : Value).ownBlock) ∧ ¬ (((((((((some k_ ≠ (.slice Ao40 t535.length co40 : Value).ownBlock ∧ (some k_ ≠ (.slice Ao51 t541.length co51 : Value).ownBlock ∧ (some k_ ≠ (.slice Ao50 t553.length co50 : Value).ownBlock ∧ some k_ ≠ (.slice Ao56 t561.length co56 : Value).ownBlock))) ∧ some k_ ≠ (.slice Ao39 t532.length co39 : Value).ownBlock) ∧ some k_ ≠ (.slice Ao41 t538.length co41 : Value).ownBlock) ∧ some k_ ≠ (.slice Ao46 t544.length co46 : Value).ownBlock) ∧ some k_ ≠ (.slice Ao48 t550.length co48 : Value).ownBlock) ∧ some k_ ≠ (.slice Ao53 t557.length co53 : Value).ownBlock) ∧ some k_ ≠ (.slice Ao59 t565.length co59 : Value).ownBlock)) ∧ w.heap.size ≤ k_)) (Kd.R_tight2 rfl HO540.out) (fun k_ hk => ⟨hk.2, fun hs_ => (hs_.1.1.1.1.1.2) hk.1⟩))) hkp (fun k_ hk_ hs_ => (hk_.2) hs_)) (fun k_ hk_ => ⟨hk_.1.1.1, hk_.1.1.2⟩)); have n2_ := Aside0.mk (Kd.R_mono (ok' := fun k_ => some k_ ≠ (.slice Ao50 t553.length co50 : Value).ownBlock) (Kd.R_keptB ((Kd.R_mono (ok' := fun k_ => some k_ ≠ (.slice Ao50 t553.length co50 : Value).ownBlock ∧ ¬ (((((((((some k_ ≠ (.slice Ao40 t535.length co40 : Value).ownBlock ∧ (some k_ ≠ (.slice Ao51 t541.length co51 : Value).ownBlock ∧ (some k_ ≠ (.slice Ao50 t553.length co50 : Value).ownBlock ∧ some k_ ≠ (.slice Ao56 t561.length co56 : Value).ownBlock))) ∧ some k_ ≠ (.slice Ao39 t532.length co39 : Value).ownBlock) ∧ some k_ ≠ (.slice Ao41 t538.length co41 : Value).ownBlock) ∧ some k_ ≠ (.slice Ao46 t544.length co46 : Value).ownBlock) ∧ some k_ ≠ (.slice Ao48 t550.length co48 : Value).ownBlock) ∧ some k_ ≠ (.slice Ao53 t557.length co53 : Value).ownBlock) ∧ some k_ ≠ (.slice Ao59 t565.length co59 : Value).ownBlock)) ∧ w.heap.size ≤ k_)) (Kd.R_tight2 rfl HO543.out) (fun k_ hk => ⟨hk.2, fun hs_ => (hs_.1.1.1.1.1.1.1.2.1) hk.1⟩))) hkp (fun k_ hk_ hs_ => (hk_.2) hs_)) (fun k_ hk_ => hk_.1.1)); have n3_ := Aside0.mk (Kd.R_mono (ok' := fun k_ => some k_ ≠ (.slice Ao39 t532.length co39 : Value).ownBlock ∧ some k_ ≠ (.slice Ao53 t557.length co53 : Value).ownBlock) (Kd.R_keptB ((Kd.R_mono (ok' := fun k_ => ((True ∧ some k_ ≠ (.slice Ao39 t532.length co39 : Value).ownBlock) ∧ some k_ ≠ (.slice Ao53 t557.length co53 : Value).ownBlock) ∧ ¬ (((((((((some k_ ≠ (.slice Ao40 t535.length co40 : Value).ownBlock ∧ (some k_ ≠ (.slice Ao51 t541.length co51 : Value).ownBlock ∧ (some k_ ≠ (.slice Ao50 t553.length co50 : Value).ownBlock ∧ some k_ ≠ (.slice Ao56 t561.length co56 : Value).ownBlock))) ∧ some k_ ≠ (.slice Ao39 t532.length co39 : Value).ownBlock) ∧ some k_ ≠ (.slice Ao41 t538.length co41 : Value).ownBlock) ∧ some k_ ≠ (.slice Ao46 t544.length co46 : Value).ownBlock) ∧ some k_ ≠ (.slice Ao48 t550.length co48 : Value).ownBlock) ∧ some k_ ≠ (.slice Ao53 t557.length co53 : Value).ownBlock) ∧ some k_ ≠ (.slice Ao59 t565.length co59 : Value).ownBlock)) ∧ w.heap.size ≤ k_)) (Kd.R_tight2 rfl HO546.out) (fun k_ hk => ⟨hk.2, fun hs_ => (hs_.1.1.1.1.2) hk.1⟩))) hkp (fun k_ hk_ hs_ => (hk_.2) hs_)) (fun k_ hk_ => ⟨hk_.1.1.1.2, hk_.1.1.2⟩)); have n4_ := Aside0.mk (Kd.S_mono (ok' := fun k_ => (some k_ ≠ (.slice Ao40 t535.length co40 : Value).ownBlock ∧ (some k_ ≠ (.slice Ao51 t541.length co51 : Value).ownBlock ∧ (some k_ ≠ (.slice Ao50 t553.length co50 : Value).ownBlock ∧ some k_ ≠ (.slice Ao56 t561.length co56 : Value).ownBlock)))) hy0 (fun k_ hk_ => ⟨(Or.elim hk_ (fun hs_ => hs_.1.1.1.1.1.1.1.1) (fun hn_ => fun e_ => Nat.not_le.2 (Kd.S_lt (sK HO537) k_ e_.symm) hn_)), ⟨(Or.elim hk_ (fun hs_ => hs_.1.1.1.1.1.1.1.2.1) (fun hn_ => fun e_ => Nat.not_le.2 (Kd.R_lt (rK HO543) k_ e_.symm) hn_)), ⟨(Or.elim hk_ (fun hs_ => hs_.1.1.1.1.1.1.1.2.2.1) (fun hn_ => fun e_ => Nat.not_le.2 (Kd.R_lt (rK HO555) k_ e_.symm) hn_)), (Or.elim hk_ (fun hs_ => hs_.1.1.1.1.1.1.1.2.2.2) (fun hn_ => fun e_ => Nat.not_le.2 (Kd.S_lt (sK HO563) k_ e_.symm) hn_))⟩⟩⟩)); have n5_ := Aside0.mk (Kd.R_mono (ok' := fun k_ => some k_ ≠ (.slice Ao41 t538.length co41 : Value).ownBlock ∧ some k_ ≠ (.slice Ao59 t565.length co59 : Value).ownBlock) (Kd.R_keptB ((Kd.R_mono (ok' := fun k_ => (some k_ ≠ (.slice Ao41 t538.length co41 : Value).ownBlock ∧ some k_ ≠ (.slice Ao59 t565.length co59 : Value).ownBlock) ∧ ¬ (((((((((some k_ ≠ (.slice Ao40 t535.length co40 : Value).ownBlock ∧ (some k_ ≠ (.slice Ao51 t541.length co51 : Value).ownBlock ∧ (some k_ ≠ (.slice Ao50 t553.length co50 : Value).ownBlock ∧ some k_ ≠ (.slice Ao56 t561.length co56 : Value).ownBlock))) ∧ some k_ ≠ (.slice Ao39 t532.length co39 : Value).ownBlock) ∧ some k_ ≠ (.slice Ao41 t538.length co41 : Value).ownBlock) ∧ some k_ ≠ (.slice Ao46 t544.length co46 : Value).ownBlock) ∧ some k_ ≠ (.slice Ao48 t550.length co48 : Value).ownBlock) ∧ some k_ ≠ (.slice Ao53 t557.length co53 : Value).ownBlock) ∧ some k_ ≠ (.slice Ao59 t565.length co59 : Value).ownBlock)) ∧ w.heap.size ≤ k_)) (Kd.R_tight2 rfl HO552.out) (fun k_ hk => ⟨hk.2, fun hs_ => (hs_.1.1.1.2) hk.1⟩))) hkp (fun k_ hk_ hs_ => (hk_.2) hs_)) (fun k_ hk_ => ⟨hk_.1.1.1, hk_.1.1.2⟩)); have n6_ := Aside0.mk (Kd.R_mono (ok' := fun k_ => some k_ ≠ (.slice Ao51 t541.length co51 : Value).ownBlock) (Kd.R_keptB ((Kd.R_mono (ok' := fun k_ => some k_ ≠ (.slice Ao51 t541.length co51 : Value).ownBlock ∧ ¬ (((((((((some k_ ≠ (.slice Ao40 t535.length co40 : Value).ownBlock ∧ (some k_ ≠ (.slice Ao51 t541.length co51 : Value).ownBlock ∧ (some k_ ≠ (.slice Ao50 t553.length co50 : Value).ownBlock ∧ some k_ ≠ (.slice Ao56 t561.length co56 : Value).ownBlock))) ∧ some k_ ≠ (.slice Ao39 t532.length co39 : Value).ownBlock) ∧ some k_ ≠ (.slice Ao41 t538.length co41 : Value).ownBlock) ∧ some k_ ≠ (.slice Ao46 t544.length co46 : Value).ownBlock) ∧ some k_ ≠ (.slice Ao48 t550.length co48 : Value).ownBlock) ∧ some k_ ≠ (.slice Ao53 t557.length co53 : Value).ownBlock) ∧ some k_ ≠ (.slice Ao59 t565.length co59 : Value).ownBlock)) ∧ w.heap.size ≤ k_)) (Kd.R_tight2 rfl HO555.out) (fun k_ hk => ⟨hk.2, fun hs_ => (hs_.1.1.1.1.1.1.1.2.2.1) hk.1⟩))) hkp (fun k_ hk_ hs_ => (hk_.2) hs_)) (fun k_ hk_ => hk_.1.1)); have n7_ := Aside0.mk (Kd.R_mono (ok' := fun k_ => some k_ ≠ (.slice Ao39 t532.length co39 : Value).ownBlock ∧ some k_ ≠ (.slice Ao46 t544.length co46 : Value).ownBlock) (Kd.R_keptB ((Kd.R_mono (ok' := fun k_ => (some k_ ≠ (.slice Ao39 t532.length co39 : Value).ownBlock ∧ some k_ ≠ (.slice Ao46 t544.length co46 : Value).ownBlock) ∧ ¬ (((((((((some k_ ≠ (.slice Ao40 t535.length co40 : Value).ownBlock ∧ (some k_ ≠ (.slice Ao51 t541.length co51 : Value).ownBlock ∧ (some k_ ≠ (.slice Ao50 t553.length co50 : Value).ownBlock ∧ some k_ ≠ (.slice Ao56 t561.length co56 : Value).ownBlock))) ∧ some k_ ≠ (.slice Ao39 t532.length co39 : Value).ownBlock) ∧ some k_ ≠ (.slice Ao41 t538.length co41 : Value).ownBlock) ∧ some k_ ≠ (.slice Ao46 t544.length co46 : Value).ownBlock) ∧ some k_ ≠ (.slice Ao48 t550.length co48 : Value).ownBlock) ∧ some k_ ≠ (.slice Ao53 t557.length co53 : Value).ownBlock) ∧ some k_ ≠ (.slice Ao59 t565.length co59 : Value).ownBlock)) ∧ w.heap.size ≤ k_)) (Kd.R_tight2 rfl HO559.out) (fun k_ hk => ⟨hk.2, fun hs_ => (hs_.1.1.2) hk.1⟩))) hkp (fun k_ hk_ hs_ => (hk_.2) hs_)) (fun k_ hk_ => ⟨hk_.1.1.1, hk_.1.1.2⟩)); have n8_ := Aside0.mk (Kd.R_mono (ok' := fun k_ => some k_ ≠ (.slice Ao41 t538.length co41 : Value).ownBlock ∧ some k_ ≠ (.slice Ao48 t550.length co48 : Value).ownBlock) (Kd.R_keptB ((Kd.R_mono (ok' := fun k_ => (some k_ ≠ (.slice Ao41 t538.length co41 : Value).ownBlock ∧ some k_ ≠ (.slice Ao48 t550.length co48 : Value).ownBlock) ∧ ¬ (((((((((some k_ ≠ (.slice Ao40 t535.length co40 : Value).ownBlock ∧ (some k_ ≠ (.slice Ao51 t541.length co51 : Value).ownBlock ∧ (some k_ ≠ (.slice Ao50 t553.length co50 : Value).ownBlock ∧ some k_ ≠ (.slice Ao56 t561.length co56 : Value).ownBlock))) ∧ some k_ ≠ (.slice Ao39 t532.length co39 : Value).ownBlock) ∧ some k_ ≠ (.slice Ao41 t538.length co41 : Value).ownBlock) ∧ some k_ ≠ (.slice Ao46 t544.length co46 : Value).ownBlock) ∧ some k_ ≠ (.slice Ao48 t550.length co48 : Value).ownBlock) ∧ some k_ ≠ (.slice Ao53 t557.length co53 : Value).ownBlock) ∧ some k_ ≠ (.slice Ao59 t565.length co59 : Value).ownBlock)) ∧ w.heap.size ≤ k_)) (Kd.R_tight2 rfl HO567.out) (fun k_ hk => ⟨hk.2, fun hs_ => (hs_.1.2) hk.1⟩))) hkp (fun k_ hk_ hs_ => (hk_.2) hs_)) (fun k_ hk_ => ⟨hk_.1.1.1, hk_.1.1.2⟩)); have n9_ := Aside0.mk (hb); clear HO534; clear HO540; clear HO543; clear HO546; clear HO549; clear HO552; clear HO555; clear HO559; clear HO567; clear HB; clear HO537; clear HO563; have HO534 := n0_; have HO540 := n1_; have HO543 := n2_; have HO546 := n3_; have HO549 := n4_; have HO552 := n5_; have HO555 := n6_; have HO559 := n7_; have HO567 := n8_; have HB := n9_; clear n0_ n1_ n2_ n3_ n4_ n5_ n6_ n7_ n8_ n9_; (try clear hb); (try clear hkp); (try clear hy0)) | ((with_reducible refine gate_callee (f := 30) rfl ?_); refine gL (some 76) Try.func30 #[.slice Ao48 t550.length co48, .int .i64 t571] ?_; (with_reducible refine (laws_markCallS.calls k (fun k_ => some k_ = (.slice Ao48 t550.length co48 : Value).ownBlock) (.slice Ao48 t550.length co48) t550 t571 t573 t574 w _ ?side1 ?side2 A33.out).mono ?_); (case side1 => repeat (first | (with_reducible first | exact HB.out | apply below_alloc | apply pw_below_drewN | apply below_drew1) | exact HB.out)); (case side2 => exact Kd.R_tight rfl HO552.out); rintro e w63 ⟨rfl, hy0, hb, hkp⟩; refine ⟨_, rfl, ?_⟩; replace HO534 := Aside0.mk (Kd.R_mono (ok' := fun k_ => some k_ ≠ (.slice Ao46 t544.length co46 : Value).ownBlock ∧ some k_ ≠ (.slice Ao53 t557.length co53 : Value).ownBlock) (Kd.R_keptB ((Kd.R_apart' HO534.out (Kd.R_typed HO552.out) (by decide))) hkp (fun k_ hk_ hs_ => (hk_.2) hs_)) (fun k_ hk_ => ⟨hk_.1.1.1, hk_.1.1.2⟩)); replace HO540 := Aside0.mk (Kd.R_mono (ok' := fun k_ => some k_ ≠ (.slice Ao48 t550.length co48 : Value).ownBlock ∧ some k_ ≠ (.slice Ao59 t565.length co59 : Value).ownBlock) (Kd.R_keptB (HO540.out) hkp (fun k_ hk_ hs_ => (hk_.1) hs_)) (fun k_ hk_ => ⟨hk_.1.1, hk_.1.2⟩)); replace HO543 := Aside0.mk (Kd.R_mono (ok' := fun k_ => some k_ ≠ (.slice Ao50 t553.length co50 : Value).ownBlock) (Kd.R_keptB ((Kd.R_apart' HO543.out (Kd.R_typed HO552.out) (by decide))) hkp (fun k_ hk_ hs_ => (hk_.2) hs_)) (fun k_ hk_ => hk_.1.1)); replace HO546 := Aside0.mk (Kd.R_mono (ok' := fun k_ => some k_ ≠ (.slice Ao39 t532.length co39 : Value).ownBlock ∧ some k_ ≠ (.slice Ao53 t557.length co53 : Value).ownBlock) (Kd.R_keptB ((Kd.R_apart' HO546.out (Kd.R_typed HO552.out) (by decide))) hkp (fun k_ hk_ hs_ => (hk_.2) hs_)) (fun k_ hk_ => ⟨hk_.1.1.1, hk_.1.1.2⟩)); replace HO549 := Aside0.mk (Kd.S_mono (ok' := fun k_ => some k_ ≠ (.slice Ao51 t541.length co51 : Value).ownBlock ∧ some k_ ≠ (.slice Ao50 t553.length co50 : Value).ownBlock) (Kd.S_keptB ((Kd.S_apart' HO549.out (Kd.R_typed HO552.out) (by decide))) hkp (fun k_ hk_ hs_ => (hk_.2) hs_)) (fun k_ hk_ => ⟨hk_.1.1.2.1, hk_.1.1.2.2.1⟩)); replace HO555 := Aside0.mk (Kd.R_mono (ok' := fun k_ => some k_ ≠ (.slice Ao51 t541.length co51 : Value).ownBlock) (Kd.R_keptB ((Kd.R_apart' HO555.out (Kd.R_typed HO552.out) (by decide))) hkp (fun k_ hk_ hs_ => (hk_.2) hs_)) (fun k_ hk_ => hk_.1.1)); replace HO559 := Aside0.mk (Kd.R_mono (ok' := fun k_ => some k_ ≠ (.slice Ao39 t532.length co39 : Value).ownBlock ∧ some k_ ≠ (.slice Ao46 t544.length co46 : Value).ownBlock) (Kd.R_keptB ((Kd.R_apart' HO559.out (Kd.R_typed HO552.out) (by decide))) hkp (fun k_ hk_ hs_ => (hk_.2) hs_)) (fun k_ hk_ => ⟨hk_.1.1.1, hk_.1.1.2⟩)); replace HO552 := Aside0.mk (Kd.R_reok rfl hy0 (fun k_ e_ => HO552.out.1 k_ e_)); replace HO567 := Aside0.mk (Kd.R_mono (ok' := fun k_ => some k_ ≠ (.slice Ao41 t538.length co41 : Value).ownBlock ∧ some k_ ≠ (.slice Ao48 t550.length co48 : Value).ownBlock) (Kd.R_keptB (HO567.out) hkp (fun k_ hk_ hs_ => (hk_.2) hs_)) (fun k_ hk_ => ⟨hk_.1.1, hk_.1.2⟩)); replace HB := Aside0.mk (hb); (try clear hb); (try clear hkp); (try clear hy0)))
    (try simp only [Act.put, List.setIfInBounds_toArray, List.set_cons_zero, List.set_cons_succ])
    go_cut [84] (fun v84 wc => ∃ (kq : Nat) (x84_33 : Bool), v84 = .bool x84_33 ∧ Aside0 (laws_FnExactServedAt.j0 kq l0 l1 l2 t541 t553 x84_33 = some r) ∧ Aside0 (kq ≤ k) ∧ Aside0 (Kd.R (Kd.int .i64) 3 wc w.heap.size (fun k_ => some k_ ≠ ((.slice Ao50 t553.length co50) : Value).ownBlock) (.slice Ao51 t541.length co51) t541) ∧ Aside0 (Kd.R (Kd.int .i64) 3 wc w.heap.size (fun k_ => some k_ ≠ ((.slice Ao51 t541.length co51) : Value).ownBlock) (.slice Ao50 t553.length co50) t553) ∧ Aside0 (Below w.heap.size w wc))
    case first =>
     have H := HC34.out
     clear HC34
     by_cases c64 : t573 < 0
     ·
      rw [if_pos c64] at H
      have c64b0 := decide_eq_true c64
      clear c64
      (first | rw [c64b0] | (simp only [i64_w, i32_w]; rw [c64b0]) | skip)
      have H' := Aside0.mk H
      clear H
      go_wp2
      go_meet
      case rel => exact ⟨_, (true), rS, H', ⟨by first | omega | exact Nat.le_refl _⟩, ⟨rK HO543⟩, ⟨rK HO555⟩, ⟨bA⟩⟩
     ·
      rw [if_neg c64] at H
      have c64b0 := decide_eq_false c64
      clear c64
      (first | rw [c64b0] | (simp only [i64_w, i32_w]; rw [c64b0]) | skip)
      obtain ⟨t575, A65, H⟩ := bindE H
      try dsimp only at H
      have H' := Aside0.mk H
      clear H
      go_wp2_with (first | (go_at_call 28; (with_reducible refine (laws_eqIntS.calls k _ _ t553 _ _ t541 t575 _ ?side1 ?side2 ?side3 ?side4 A65.out).mono ?_); (case side1 => exact cO ⟨(Kd.R_reads' HO555.out).2.2⟩); (case side2 => exact (Kd.R_reads' HO555.out).2.1); (case side3 => exact cO ⟨(Kd.R_reads' HO543.out).2.2⟩); (case side4 => exact (Kd.R_reads' HO543.out).2.1); rintro e w' ⟨rfl, ⟨nd, rfl⟩⟩))
      go_meet
      case rel => exact ⟨_, (!t575), rS, H', ⟨by first | omega | exact Nat.le_refl _⟩, ⟨rK HO543⟩, ⟨rK HO555⟩, ⟨bA⟩⟩
    case rest =>
     clear HC34
     try clear c1
     try clear c2
     try clear p2
     try clear c3
     try clear c4
     try clear c5
     try clear c5b0
     try clear c6
     try clear c7
     try clear c7b0
     try clear c10
     try clear c10b0
     try clear c11
     try clear c12
     try clear c14
     try clear c15
     try clear c18
     try clear c19
     try clear c20
     try clear c21
     try clear c24
     try clear c25
     try clear c26
     try clear c27
     try clear c28
     try clear c29
     try clear c30
     try clear c64
     try clear c64b0
     obtain ⟨kq, x84_33, rfl, HA, HJ33, HO_8, HO_12, HB⟩ := hcut
     cases kq with
     | zero => exact absurd HA.out (by simp [laws_FnExactServedAt.j0])
     | succ kj33 =>
      have H := HA.out
      clear HA
      simp only [laws_FnExactServedAt.j0] at H
      have c66 := ifN' H
      replace H := ifT' H
      replace c66 := Bool.eq_false_iff.mpr c66
      subst c66
      obtain ⟨⟨t576, t577⟩, A67, H⟩ := bindE H
      try dsimp only at H
      obtain ⟨t578, A68, H⟩ := bindE H
      try dsimp only at H
      have c69 : ¬ (t578 < 0) := ifN' H
      replace H := ifT' H
      have c69b0 := decide_eq_false c69
      clear c69
      have c70 : t578 = t576 := ifN H
      replace H := ifT H
      have c70b0 : (t578 == t576) = true := beq_iff_eq.mpr c70
      have c70b1 : (t578 != t576) = false := bne_eq_false_iff_eq.mpr c70
      clear c70
      obtain ⟨t579, A71, H⟩ := bindE H
      try dsimp only at H
      obtain ⟨t582, A72, H⟩ := bindE H
      try dsimp only at H
      obtain ⟨t585, A73, H⟩ := bindE H
      try dsimp only at H
      obtain ⟨t588, A74, H⟩ := bindE H
      try dsimp only at H
      obtain ⟨t591, A75, H⟩ := bindE H
      try dsimp only at H
      have c76 := ifN H
      replace H := ifT H
      subst c76
      obtain ⟨t592, A77, H⟩ := bindE H
      try dsimp only at H
      have c78 : ¬ (t592 < 0) := ifN' H
      replace H := ifT' H
      have c78b0 := decide_eq_false c78
      clear c78
      have c79 : t592 = t576 := ifN H
      replace H := ifT H
      have c79b0 : (t592 == t576) = true := beq_iff_eq.mpr c79
      have c79b1 : (t592 != t576) = false := bne_eq_false_iff_eq.mpr c79
      clear c79
      obtain rfl := Option.some.inj H
      go_wp2_with (first | ((with_reducible refine gate_callee (f := 31) rfl ?_); refine gL (some 87) Try.func31 #[.slice Ao50 t553.length co50, .int .i64 1] ?_; (with_reducible refine (laws_markIntS.calls kj33 (fun k_ => some k_ = (.slice Ao50 t553.length co50 : Value).ownBlock) (.slice Ao50 t553.length co50) t553 1 t576 t577 w _ ?side1 ?side2 A67.out).mono ?_); (case side1 => repeat (first | (with_reducible first | exact HB.out | apply below_alloc | apply pw_below_drewN | apply below_drew1) | exact HB.out)); (case side2 => exact Kd.R_tight rfl HO_12.out); rintro e w80 ⟨rfl, hy0, hb, hkp⟩; refine ⟨_, rfl, ?_⟩; replace HO_8 := Aside0.mk (Kd.R_mono (ok' := fun k_ => some k_ ≠ (.slice Ao50 t553.length co50 : Value).ownBlock) (Kd.R_keptB (HO_8.out) hkp (fun k_ hk_ hs_ => (hk_) hs_)) (fun k_ hk_ => hk_.1)); replace HO_12 := Aside0.mk (Kd.R_reok rfl hy0 (fun k_ e_ => HO_12.out.1 k_ e_)); replace HB := Aside0.mk (hb); (try clear hb); (try clear hkp); (try clear hy0)) | ((with_reducible refine gate_callee (f := 32) rfl ?_); refine goesL_ (some 90) rfl rfl Try.func32 (by kernel_rfl) rfl #[.slice Ao50 t577.length co50, .int .i64 1] rfl (by (try simp only [List.map_toArray, List.map_cons, List.map_nil]); first | done | (rw [show t577.length = t553.length from (Kd.R_reads' HO_12.out).1.symm] <;> rfl) | rfl | (simp only [List.length_drop, List.length_take]; rfl)) ?_; (with_reducible refine (laws_heldIntS.calls kj33 _ _ t577 1 t578 _ ?side1 ?side2 A68.out).mono ?_); (case side1 => exact cO ⟨(Kd.R_reads' HO_12.out).2.2⟩); (case side2 => rw [show t577.length = t553.length from (Kd.R_reads' HO_12.out).1.symm]; exact (Kd.R_reads' HO_12.out).2.1); rintro e w' ⟨rfl, ⟨nd, rfl⟩⟩; refine ⟨_, rfl, ?_⟩) | ((with_reducible refine gate_callee (f := 14) rfl ?_); refine gL (some 97) Try.func14 #[.slice A0 l0.length c0] ?_; (with_reducible refine (laws_toPathS.calls kj33 _ _ l0 t579 _ ?side1 ?side2 A71.out).mono ?_); (case side1 => exact cG HR0); (case side2 => exact HC0.out); rintro e w81 ⟨v580, rfl, ho0, hb⟩; refine ⟨_, rfl, ?_⟩; replace HO_8 := Aside0.mk (Kd.R_below (rK HO_8) hb); replace HO_12 := Aside0.mk (Kd.R_below (rK HO_12) hb); have HO581 := Aside0.mk (Kd.R_lower ho0 (below_size bA)); replace HB := Aside0.mk (below_step bA hb); (try clear hb); (try clear ho0)) | ((with_reducible refine gate_callee (f := 15) rfl ?_); refine gL (some 99) Try.func15 #[.slice A1 l1.length c1] ?_; (with_reducible refine (laws_toPartS.calls kj33 _ _ l1 t582 _ ?side1 ?side2 A72.out).mono ?_); (case side1 => exact cB HR1); (case side2 => exact HC1.out); rintro e w82 ⟨v583, rfl, ho0, hb⟩; refine ⟨_, rfl, ?_⟩; replace HO581 := Aside0.mk (Kd.R_below (rK HO581) hb); have HO584 := Aside0.mk (Kd.S_lower (Kd.S_new' (Kd.S_new' ho0 (Kd.R_lt (rK HO_8))) (Kd.R_lt (rK HO_12))) (below_size bA)); replace HO_8 := Aside0.mk (Kd.R_below (rK HO_8) hb); replace HO_12 := Aside0.mk (Kd.R_below (rK HO_12) hb); replace HB := Aside0.mk (below_step bA hb); (try clear hb); (try clear ho0)) | ((with_reducible refine gate_callee (f := 26) rfl ?_); refine gL (some 101) Try.func26 #[.slice A2 l2.length c2] ?_; (with_reducible refine (laws_toCallS.calls kj33 _ _ l2 t585 _ ?side1 ?side2 A73.out).mono ?_); (case side1 => exact cB HR2); (case side2 => exact HC2.out); rintro e w83 ⟨v586, rfl, ho0, hb⟩; refine ⟨_, rfl, ?_⟩; replace HO_8 := Aside0.mk (Kd.R_below (rK HO_8) hb); replace HO_12 := Aside0.mk (Kd.R_below (rK HO_12) hb); replace HO581 := Aside0.mk (Kd.R_below (rK HO581) hb); replace HO584 := Aside0.mk (Kd.S_below (sK HO584) hb); have HO587 := Aside0.mk (Kd.R_lower ho0 (below_size bA)); replace HB := Aside0.mk (below_step bA hb); (try clear hb); (try clear ho0); obtain ⟨Ao84, co84, eo84⟩ := Kd.R_slice HO581.out; subst eo84; obtain ⟨Ao85, co85, eo85⟩ := Kd.S_slice HO584.out; subst eo85; obtain ⟨Ao86, co86, eo86⟩ := Kd.R_slice HO587.out; subst eo86) | ((with_reducible refine gate_callee (f := 27) rfl ?_); refine gL (some 102) Try.func27 #[.slice Ao84 t579.length co84, .slice Ao85 t582.length co85, .slice Ao86 t585.length co86] ?_; (with_reducible refine (impl_ServedAt.calls kj33 _ _ t579 _ _ t582 _ _ t585 t588 _ ?side1 ?side2 ?side3 ?side4 ?side5 ?side6 A74.out).mono ?_); (case side1 => exact cO ⟨(Kd.R_reads' HO581.out).2.2⟩); (case side2 => exact (Kd.R_reads' HO581.out).2.1); (case side3 => repeat (first | exact (Kd.S_reads' HO584.out).2.2 | (with_reducible refine Kd.C_alloc ?_ _) | (with_reducible refine Kd.C_drewN ?_ _) | (with_reducible refine Kd.C_drew ?_))); (case side4 => exact (Kd.S_reads' HO584.out).2.1); (case side5 => exact cO ⟨(Kd.R_reads' HO587.out).2.2⟩); (case side6 => exact (Kd.R_reads' HO587.out).2.1); rintro e w87 ⟨v589, rfl, ho0, hb⟩; refine ⟨_, rfl, ?_⟩; replace HO581 := Aside0.mk (Kd.R_below (rK HO581) hb); replace HO584 := Aside0.mk (Kd.S_elder' (sK HO584) (Kd.R_base ho0) hb); replace HO587 := Aside0.mk (Kd.R_below (rK HO587) hb); have HO590 := Aside0.mk (Kd.R_lower (Kd.R_new' (Kd.R_new' ho0 (Kd.R_lt (rK HO_8))) (Kd.R_lt (rK HO_12))) (below_size bA)); replace HO_8 := Aside0.mk (Kd.R_elder' (rK HO_8) (Kd.R_base ho0) hb); replace HO_12 := Aside0.mk (Kd.R_elder' (rK HO_12) (Kd.R_base ho0) hb); replace HB := Aside0.mk (below_step bA hb); (try clear hb); (try clear ho0); obtain ⟨Ao88, co88, eo88⟩ := Kd.R_slice HO590.out; subst eo88) | ((with_reducible refine gate_callee (f := 28) rfl ?_); refine gL (some 105) Try.func28 #[.slice Ao88 t588.length co88, .slice Ao51 t541.length co51] ?_; (with_reducible refine (laws_eqIntS.calls kj33 _ _ t588 _ _ t541 true _ ?side1 ?side2 ?side3 ?side4 A75.out).mono ?_); (case side1 => exact cO ⟨(Kd.R_reads' HO590.out).2.2⟩); (case side2 => exact (Kd.R_reads' HO590.out).2.1); (case side3 => exact cO ⟨(Kd.R_reads' HO_8.out).2.2⟩); (case side4 => exact (Kd.R_reads' HO_8.out).2.1); rintro e w' ⟨rfl, ⟨nd, rfl⟩⟩; refine ⟨_, rfl, ?_⟩) | ((with_reducible refine gate_callee (f := 32) rfl ?_); refine goesL_ (some 109) rfl rfl Try.func32 (by kernel_rfl) rfl #[.slice Ao50 t577.length co50, .int .i64 1] rfl (by (try simp only [List.map_toArray, List.map_cons, List.map_nil]); first | done | (rw [show t577.length = t553.length from (Kd.R_reads' HO_12.out).1.symm] <;> rfl) | rfl | (simp only [List.length_drop, List.length_take]; rfl)) ?_; (with_reducible refine (laws_heldIntS.calls kj33 _ _ t577 1 t592 _ ?side1 ?side2 A77.out).mono ?_); (case side1 => exact cO ⟨(Kd.R_reads' HO_12.out).2.2⟩); (case side2 => rw [show t577.length = t553.length from (Kd.R_reads' HO_12.out).1.symm]; exact (Kd.R_reads' HO_12.out).2.1); rintro e w' ⟨rfl, ⟨nd, rfl⟩⟩; refine ⟨_, rfl, ?_⟩))
      go_ret
      exact ⟨rA, bA⟩

end Go.Proofs.Ytdkmmefmhfbgkaa.P
