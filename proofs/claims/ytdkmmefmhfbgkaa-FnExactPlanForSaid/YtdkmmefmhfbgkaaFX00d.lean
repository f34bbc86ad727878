/- Printed by myprint.py (wip/tools) over the kit's print: what Go's functions compute, and that they do. Lean checks it. -/
import Derived.Test.YtdkmmefmhfbgkaaF0
import Derived.Test.YtdkmmefmhfbgkaaFX00
import Derived.Test.YtdkmmefmhfbgkaaFX00b
import Derived.Test.YtdkmmefmhfbgkaaFX00c
namespace Go.Proofs.Ytdkmmefmhfbgkaa.P
open Go.RowKit Go.Proofs.YtdkmmefmhfbgkaaW.PrintWords Go.Proofs.YtdkmmefmhfbgkaaW.PrintLast Go.Proofs.YtdkmmefmhfbgkaaW.PrintMore Go.Proofs.Ytdkmmefmhfbgkaa.Sq
attribute [local go_sem] max2_int min2_int max_two min_two max_three min_three max_four min_four
set_option linter.unusedVariables false
set_option linter.unusedSimpArgs false

/-! ### impl_IsPlan: function 78 -/
def impl_IsPlan.l0 : Nat → List (S89) → List (List Int) → List (S92) → Int → Int → Option (Bool)
 | 0, _, _, _, _, _ => none
 | k + 1, x0, x5, x13, x14, x15 => if x15 < x14 then (if 0 ≤ x15 then (if x15 < (x13.length : Int) then (if (((rd_T92 x13 x15).f0).length : Int) = 0 then (some false) else ((impl_IsTogether.f k x0 ((rd_T92 x13 x15).f0)).bind fun t399 => (if t399 = true then ((impl_LeastGreen.f k x0 ((rd_T92 x13 x15).f0)).bind fun t400 => ((impl_InRange.f ((rd_T92 x13 x15).f1) t400 60).bind fun t401 => (if t401 = true then (if x5.length < 5864062014805 then (impl_IsPlan.l0 k x0 (x5 ++ [(rd_T92 x13 x15).f0]) x13 x14 (wrap64 (x15 + 1))) else (none)) else (some false)))) else (some false)))) else (none)) else (none)) else ((impl_Covers.f k x0 x5).bind fun t396 => (some t396))
def impl_IsPlan.f (k : Nat) (l0 : List (S89)) (l1 : List (S92)) : Option (Bool) := (impl_InRange.f (l1.length : Int) 1 6).bind fun t392 => (if t392 = true then (impl_IsPlan.l0 k l0 (([] : List (List Int))) l1 (l1.length : Int) 0) else (some false))
theorem impl_IsPlan.mono_l : ∀ k, (∀ y0 y1 y2 y3 y4, LeO (impl_IsPlan.l0 k y0 y1 y2 y3 y4) (impl_IsPlan.l0 (k + 1) y0 y1 y2 y3 y4))
 | 0 => fun _ _ _ _ _ r h => by simp [impl_IsPlan.l0] at h
 | k + 1 => by
  have ih0 := impl_IsPlan.mono_l k
  ·
   intro y0 y1 y2 y3 y4
   unfold impl_IsPlan.l0
   repeat' first | (with_reducible first | exact LeO.refl _ | exact LeO.none _ | refine LeO.ite ?_ ?_ | refine LeO.bind ?_ (fun _ => ?_) | exact ih0 _ _ _ _ _ | exact impl_Covers.mono _ _ _ | exact impl_IsTogether.mono _ _ _ | exact impl_LeastGreen.mono _ _ _)
theorem impl_IsPlan.mono : ∀ a0 a1 k, LeO (impl_IsPlan.f k a0 a1) (impl_IsPlan.f (k + 1) a0 a1) := by
 intro a0 a1 k
 have ih0 := impl_IsPlan.mono_l k
 unfold impl_IsPlan.f
 repeat' first | (with_reducible first | exact LeO.refl _ | exact LeO.none _ | refine LeO.ite ?_ ?_ | refine LeO.bind ?_ (fun _ => ?_) | exact ih0 _ _ _ _ _ | exact impl_Covers.mono _ _ _ | exact impl_IsTogether.mono _ _ _ | exact impl_LeastGreen.mono _ _ _)
def impl_IsPlan.T7 : Bool × List (List Nat × List Nat) := (true, [([], []), ([0], [0]), ([1], [1]), ([2], [2]), ([3], [3]), ([4], [4]), ([4], [4]), ([6, 4], [4, 6]), ([5, 7, 4, 4], [4, 5, 7]), ([8, 4], [4, 8]), ([4, 9], [4, 9]), ([10, 8], [10]), ([11], [11]), ([12, 11], [11, 12]), ([11], [11]), ([11], [11]), ([15, 11], [11, 15]), ([14, 16, 11, 11], [11, 14, 16]), ([13, 17, 17, 11], [11, 13, 17]), ([18, 11], [11, 18]), ([11, 19], [11, 19])])
def impl_IsPlan.B7 : List Nat := [0, 1, 3, 7, 15, 31, 31, 95, 255, 511, 1023, 2047, 4095, 8191, 4095, 4095, 36863, 118783, 262143, 524287, 1048575]
theorem impl_IsPlan.tab7 : rtab .any (opsOf Try.f78 7) = impl_IsPlan.T7 := by kernel_rfl
theorem impl_IsPlan.bits7 : waitsOk impl_IsPlan.T7.2 impl_IsPlan.B7 = true := by kernel_rfl
set_option maxHeartbeats 8000000 in
set_option maxRecDepth 100000 in
theorem impl_IsPlan.calls (k : Nat) (A0 : Option Addr) (c0 : Nat) (l0 : List (S89)) (P1_ : Nat → Prop) (A1 : Option Addr) (c1 : Nat) (l1 : List (S92)) (r : Bool) (w : World) (hr0 : Kd.C k89 w A0 l0.length l0) (hc0 : l0.length ≤ c0) (hs1 : Kd.V k92 92 w w.heap.size (fun k_ => P1_ k_) (.slice A1 l1.length c1) l1) (h : impl_IsPlan.f k l0 l1 = some r) :
  Calls Try.prog 78 #[.slice A0 l0.length c0, .slice A1 l1.length c1] w fun e w' => e = .returned (.bool r) ∧ Below w.heap.size w w' := by
 have hu92 := Try.underlying92
 have HR0 := Aside0.mk hr0
 have HC0 := Aside0.mk hc0
 clear hr0 hc0
 have HO1 := Aside0.mk (show Kd.V k92 92 w w.heap.size (fun k_ => (P1_ k_ ∨ w.heap.size ≤ k_)) (.slice A1 l1.length c1) l1 from Kd.V_mono hs1 (fun k_ hk => .inl hk))
 have HB := Aside0.mk (Below.refl w.heap.size w)
 have H : ((impl_InRange.f (l1.length : Int) 1 6).bind fun t392 => (if t392 = true then (impl_IsPlan.l0 k l0 (([] : List (List Int))) l1 (l1.length : Int) 0) else (some false))) = some r := h
 clear h
 obtain ⟨t392, A3, H⟩ := bindE H
 try dsimp only at H
 by_cases c4 : t392 = true
 ·
  subst c4
  have H1 : (impl_IsPlan.l0 k l0 (([] : List (List Int))) l1 (l1.length : Int) 0) = some r := by rw [if_pos rfl] at H; exact H
  clear H
  have H := H1
  clear H1
  obtain ⟨y393, hy393⟩ : ∃ y_ : List (List Int), y_ = (([] : List (List Int))) := ⟨_, rfl⟩
  replace H : (impl_IsPlan.l0 k l0 y393 l1 (l1.length : Int) 0) = some r := rH H hy393
  have Ny393 := Aside0.mk hy393
  clear hy393
  have H' := Aside0.mk H
  clear H
  go_enter Try.func78, Try.ntmps78
  go_wp2_with (first | ((with_reducible refine gate_callee (f := 66) rfl ?_); refine gL (some 10) Try.func66 #[.int .i64 (l1.length : Int), .int .i64 1, .int .i64 6] ?_; (with_reducible refine (impl_InRange.calls (l1.length : Int) 1 6 true _ A3.out).mono ?_); rintro e w' ⟨rfl, ⟨nd, rfl⟩⟩; refine ⟨_, rfl, ?_⟩) | ((with_reducible refine gate_dst (N := 12) rfl ?_); refine Kd.N_lit (Kd.slice 3 (Kd.int .i64)) _ 41 ?hg (N' := 12) ?hd (xs := ([] : List (List Int))) (inner := []) (ok := (fun k_ => (P1_ k_ ∨ w.heap.size ≤ k_))) (okp := (fun k_ => (P1_ k_ ∨ w.heap.size ≤ k_))) ?hr ?hp (fun _ hk => hk) ((show ∀ k_, w.heap.size ≤ k_ → (fun k_ => (P1_ k_ ∨ w.heap.size ≤ k_)) k_ from fun k_ hk => (.inr (Nat.le_trans (below_size bA) hk))) _ (Nat.le_refl _)) (Below.refl _ _) (Nat.le_refl _) (by simp) ?_; (case hd => rfl); (case hg => rfl); (case hr => first | (go_simp; done) | (go_simp; rfl)); (case hp => exact (Reps.none _ _)); intro v394 w5 ho6 hb hg_ hnew_; clear hg_ hnew_; (first | rw [← Ny393.out] at ho6 | (simp only [Int.reduceToNat] at ho6; rw [← Ny393.out] at ho6)); have n0_ := Aside0.mk (Kd.V_elder' (by (with_reducible repeat (first | apply Kd.V_alloc | apply Kd.V_drewN | apply Kd.V_drew)); exact HO1.out) (by first | exact Kd.N_base ho6 | exact Kd.N_base (Kd.S_N ho6)) hb); have n1_ := Aside0.mk (Kd.N_lower ho6 (below_size bA)); have n2_ := Aside0.mk (below_step bA hb); clear HO1; clear HB; have HO1 := n0_; have HO395 := n1_; have HB := n2_; clear n0_ n1_ n2_; clear hb ho6))
  go_loopg [5, 15] k (fun kq v5 v15 w' => ∃ (x5_1 : List (List Int)) (x15_1 : Int), v15 = .int .i64 x15_1 ∧ Aside0 (impl_IsPlan.l0 kq l0 x5_1 l1 (l1.length : Int) x15_1 = some r) ∧ Aside0 (kq ≤ k) ∧ Aside0 (Kd.N (Kd.slice 3 (Kd.int .i64)) 41 w' w.heap.size (fun k_ => (P1_ k_ ∨ w.heap.size ≤ k_)) v5 x5_1) ∧ Aside0 (Kd.V k92 92 w' w.heap.size (fun k_ => (P1_ k_ ∨ w.heap.size ≤ k_) ∧ some k_ ≠ (v5 : Value).ownBlock) (.slice A1 l1.length c1) l1) ∧ Aside0 (Below w.heap.size w w'))
  case atStart => exact ⟨(y393), (0), rS, H', ⟨Nat.le_refl _⟩, ⟨by (with_reducible repeat (first | apply Kd.N_alloc | apply Kd.N_drewN | apply Kd.N_drew)); exact HO395.out⟩, ⟨by (with_reducible repeat (first | apply Kd.V_alloc | apply Kd.V_drewN | apply Kd.V_drew)); exact HO1.out⟩, ⟨bA⟩⟩
  case round =>
   clear H'
   try clear c1
   try clear p2
   try clear c4
   try clear c6
   obtain ⟨x5_1, x15_1, rfl, HA, HK1, HO_5, HO_13, HB⟩ := hrel
   cases gk with
   | zero => exact absurd HA.out (by simp [impl_IsPlan.l0])
   | succ k1 =>
    have H := HA.out
    clear HA
    simp only [impl_IsPlan.l0] at H
    by_cases c7 : x15_1 < (l1.length : Int)
    ·
     rw [if_pos c7] at H
     have c7b0 := decide_eq_true c7
     clear c7
     have c8 : 0 ≤ x15_1 := ifN H
     replace H := ifT H
     have c8b0 := decide_eq_true c8
     clear c8
     have c9 : x15_1 < (l1.length : Int) := ifN H
     replace H := ifT H
     have c9b0 := decide_eq_true c9
     clear c9
     by_cases c10 : (((rd_T92 l1 x15_1).f0).length : Int) = 0
     ·
      rw [if_pos c10] at H
      have c10b0 : ((((rd_T92 l1 x15_1).f0).length : Int) == 0) = true := beq_iff_eq.mpr c10
      have c10b1 : ((((rd_T92 l1 x15_1).f0).length : Int) != 0) = false := bne_eq_false_iff_eq.mpr c10
      clear c10
      obtain rfl := Option.some.inj H
      have p397 : 0 ≤ (x15_1 : Int) := dA
      have q397 : x15_1 < (l1.length : Int) := dA
      obtain ⟨ad397, A397_0, c397_0, e397, hx397_0, hx397_1, hl397_0, hi397_0⟩ := at_T92 (Kd.V_reads' HO_13.out).2.2 x15_1 p397 q397
      cases e397
      obtain ⟨ce397, hce397, hMe397, hcc397⟩ := Kd.V_get HO_13.out z92 x15_1 p397 (by first | exact q397 | exact dA | (have e_ := (Kd.V_reads' HO_13.out).1; omega))
      obtain ⟨ua397_0, uc397_0, rfl, ul397_0, ge397_0⟩ := k92_openF hMe397
      have hv397_0 := hcc397 0 _ rfl
      rw [Nat.add_zero] at hv397_0
      replace hv397_0 := Option.some.inj (hv397_0.symm.trans hx397_0)
      injection hv397_0 with hva_ hvn_ hvc_
      rw [hva_] at ge397_0
      rw [hvc_] at ul397_0
      have HL397_0 := Aside0.mk (show Kd.V (Kd.int .i64) 3 _ w.heap.size _ _ ((rd_T92 l1 x15_1).f0) from Kd.V_mk ul397_0 ge397_0)
      clear hva_ hvn_ hvc_ ge397_0 ul397_0
      clear hcc397 hce397
      have HR397_0 := Aside0.mk hi397_0
      have HC397_0 := Aside0.mk hl397_0
      clear hi397_0 hl397_0
      replace p397 := eq_true p397
      replace q397 := eq_true q397
      try go_wp2_with (first | ((with_reducible refine gate_dst (N := 7) rfl ?_); refine bE (N := 7) (cs := #[.slice none 0 0, .int .i64 0]) (t := 92) ?_; intro gb398 hg w11 hbox hb; have n0_ := Aside0.mk (Kd.N_below (Kd.N_elderB (by (with_reducible repeat (first | apply Kd.N_alloc | apply Kd.N_drewN | apply Kd.N_drew)); exact HO_5.out) gb398 (Nat.le_of_eq hg.symm)) hb); have n1_ := Aside0.mk (Kd.V_below (Kd.V_elderB (by (with_reducible repeat (first | apply Kd.V_alloc | apply Kd.V_drewN | apply Kd.V_drew)); exact HO_13.out) gb398 (Nat.le_of_eq hg.symm)) hb); have n2_ := Aside0.mk (Kd.V_below (Kd.V_elderB (by (with_reducible repeat (first | apply Kd.V_alloc | apply Kd.V_drewN | apply Kd.V_drew)); exact HL397_0.out) gb398 (Nat.le_of_eq hg.symm)) hb); have n3_ := Aside0.mk (Kd.C_below (by repeat (first | (with_reducible exact HR397_0.out) | (with_reducible refine Kd.C_alloc ?_ _) | (with_reducible refine Kd.C_drewN ?_ _) | (with_reducible refine Kd.C_drew ?_) | exact HR397_0.out)) hb); have n4_ := Aside0.mk (below_step bA hb); have n5_ := Aside0.mk (hbox); have n6_ := Aside0.mk ((by rw [hg]; exact (below_size bA) : w.heap.size ≤ gb398)); have n7_ := Aside0.mk ((by rw [hg]; exact (below_size bA) : w.heap.size ≤ gb398)); clear HO_5; clear HO_13; clear HL397_0; clear HR397_0; clear HB; have HO_5 := n0_; have HO_13 := n1_; have HL397_0 := n2_; have HR397_0 := n3_; have HB := n4_; have BK398 := n5_; have GW398 := n6_; have GE398 := n7_; clear n0_ n1_ n2_ n3_ n4_ n5_ n6_ n7_; clear hb hbox hg; obtain ⟨hcz12_0, hcz12_1, hfz12_0, hfz12_1⟩ := blkc2 BK398))
      have n0_ : Aside0 (Kd.N (Kd.slice 3 (Kd.int .i64)) 41 ((w11.setCell ⟨gb398, 0, none⟩ (.slice A397_0 ((rd_T92 l1 x15_1).f0).length c397_0)).setCell ⟨gb398, 1, none⟩ (.int .i64 ((rd_T92 l1 x15_1).f1))) w.heap.size (fun k_ => (P1_ k_ ∨ w.heap.size ≤ k_) ∧ k_ ≠ gb398) u5 x5_1) := ⟨by (with_reducible repeat (first | apply Kd.N_alloc | apply Kd.N_drewN | apply Kd.N_drew)); exact Kd.N_mono (Kd.N_far (p := ⟨gb398, 1, none⟩) (Kd.N_far (p := ⟨gb398, 0, none⟩) (Kd.N_mono HO_5.out (fun k_ hk => (⟨hk, hk.2⟩ : _ ∧ k_ ≠ gb398))) (fun _ hk => hk.2) (.slice A397_0 ((rd_T92 l1 x15_1).f0).length c397_0)) (fun _ hk => hk.2) (.int .i64 ((rd_T92 l1 x15_1).f1))) (fun _ hk => ⟨hk.1.1, hk.1.2⟩)⟩
      have n1_ : Aside0 (Kd.V k92 92 ((w11.setCell ⟨gb398, 0, none⟩ (.slice A397_0 ((rd_T92 l1 x15_1).f0).length c397_0)).setCell ⟨gb398, 1, none⟩ (.int .i64 ((rd_T92 l1 x15_1).f1))) w.heap.size (fun k_ => (P1_ k_ ∨ w.heap.size ≤ k_) ∧ some k_ ≠ (u5 : Value).ownBlock ∧ k_ ≠ gb398) (.slice (some ad397) l1.length c1) l1) := ⟨by (with_reducible repeat (first | apply Kd.V_alloc | apply Kd.V_drewN | apply Kd.V_drew)); exact Kd.V_mono (Kd.V_far (p := ⟨gb398, 1, none⟩) (Kd.V_far (p := ⟨gb398, 0, none⟩) (Kd.V_mono HO_13.out (fun k_ hk => (⟨hk, hk.2⟩ : _ ∧ k_ ≠ gb398))) (fun _ hk => hk.2) (.slice A397_0 ((rd_T92 l1 x15_1).f0).length c397_0)) (fun _ hk => hk.2) (.int .i64 ((rd_T92 l1 x15_1).f1))) (fun _ hk => ⟨hk.1.1.1, ⟨hk.1.1.2, hk.1.2⟩⟩)⟩
      have n2_ : Aside0 (Kd.V (Kd.int .i64) 3 ((w11.setCell ⟨gb398, 0, none⟩ (.slice A397_0 ((rd_T92 l1 x15_1).f0).length c397_0)).setCell ⟨gb398, 1, none⟩ (.int .i64 ((rd_T92 l1 x15_1).f1))) w.heap.size (fun k_ => (P1_ k_ ∨ w.heap.size ≤ k_) ∧ some k_ ≠ (u5 : Value).ownBlock ∧ k_ ≠ gb398) (.slice A397_0 ((rd_T92 l1 x15_1).f0).length c397_0) ((rd_T92 l1 x15_1).f0)) := ⟨by (with_reducible repeat (first | apply Kd.V_alloc | apply Kd.V_drewN | apply Kd.V_drew)); exact Kd.V_mono (Kd.V_far (p := ⟨gb398, 1, none⟩) (Kd.V_far (p := ⟨gb398, 0, none⟩) (Kd.V_mono HL397_0.out (fun k_ hk => (⟨hk, hk.2⟩ : _ ∧ k_ ≠ gb398))) (fun _ hk => hk.2) (.slice A397_0 ((rd_T92 l1 x15_1).f0).length c397_0)) (fun _ hk => hk.2) (.int .i64 ((rd_T92 l1 x15_1).f1))) (fun _ hk => ⟨hk.1.1.1, ⟨hk.1.1.2, hk.1.2⟩⟩)⟩
      have n3_ : Aside0 (((w11.setCell ⟨gb398, 0, none⟩ (.slice A397_0 ((rd_T92 l1 x15_1).f0).length c397_0)).setCell ⟨gb398, 1, none⟩ (.int .i64 ((rd_T92 l1 x15_1).f1))).heap[gb398]? = some (.cells #[.slice A397_0 ((rd_T92 l1 x15_1).f0).length c397_0, .int .i64 ((rd_T92 l1 x15_1).f1)] 92 (0, 0))) := ⟨by (with_reducible repeat (first | refine blk_drewN ?_ _ | refine blk_drew ?_ | refine blk_alloc ?_ _)); refine blk_put (cs := #[.slice A397_0 ((rd_T92 l1 x15_1).f0).length c397_0, .int .i64 0]) ?_ 1 _ rfl; (with_reducible repeat (first | refine blk_drewN ?_ _ | refine blk_drew ?_ | refine blk_alloc ?_ _)); refine blk_put (cs := #[.slice none 0 0, .int .i64 0]) ?_ 0 _ rfl; (with_reducible repeat (first | refine blk_drewN ?_ _ | refine blk_drew ?_ | refine blk_alloc ?_ _)); exact BK398.out⟩
      have n4_ : Aside0 (Below w.heap.size w ((w11.setCell ⟨gb398, 0, none⟩ (.slice A397_0 ((rd_T92 l1 x15_1).f0).length c397_0)).setCell ⟨gb398, 1, none⟩ (.int .i64 ((rd_T92 l1 x15_1).f1)))) := ⟨bG⟩
      (try clear HO_5)
      (try clear HO_13)
      (try clear HL397_0)
      (try clear BK398)
      (try clear HB)
      generalize ((w11.setCell ⟨gb398, 0, none⟩ (.slice A397_0 ((rd_T92 l1 x15_1).f0).length c397_0)).setCell ⟨gb398, 1, none⟩ (.int .i64 ((rd_T92 l1 x15_1).f1))) = w13 at n0_ n1_ n2_ n3_ n4_ ⊢
      have HO_5 := n0_
      have HO_13 := n1_
      have HL397_0 := n2_
      have BK398 := n3_
      have HB := n4_
      clear n0_ n1_ n2_ n3_ n4_
      replace HO_5 := Aside0.mk (Kd.N_drew HO_5.out)
      replace HO_13 := Aside0.mk (Kd.V_drew HO_13.out)
      replace HL397_0 := Aside0.mk (Kd.V_drew HL397_0.out)
      replace BK398 := Aside0.mk (blk_drew BK398.out)
      have HBo := HB
      replace HB := Aside0.mk (below_drew1 HB.out)
      refine start_ (n := 21) (S := fun w' => w'.cell? ⟨gb398, 0, none⟩ = some (.slice A397_0 ((rd_T92 l1 x15_1).f0).length c397_0) ∧ w'.cell? ⟨gb398, 1, none⟩ = some (.int .i64 ((rd_T92 l1 x15_1).f1))) (ds := []) (mb 21 0) (by kernel_rfl) rfl rfl ⟨bC BK398 0, bC BK398 1⟩ (fun hHeld => ?_); refine with_tabW impl_IsPlan.tab7 impl_IsPlan.bits7 (fun HT_ HW_ => ?_)
      generalize w13.drew = w14 at HO_5 HO_13 HL397_0 BK398 HB hHeld ⊢
      refine pa 0 19 (mb 21 1) HT_ ?_
      refine ta2 1 20 (mb 21 3) HT_ HW_ hHeld ?_
      refine pa 2 21 (mb 21 7) HT_ ?_
      refine pa 3 22 (mb 21 15) HT_ ?_
      refine pa 4 23 (mb 21 31) HT_ ?_
      refine pu 5 24 (mb 21 63) HT_ ?_
      refine pu 6 25 (mb 21 127) HT_ ?_
      refine pu 7 26 (mb 21 255) HT_ ?_
      refine pu 8 27 (mb 21 511) HT_ ?_
      refine pu 9 28 (mb 21 1023) HT_ ?_
      refine pa 10 29 (mb 21 2047) HT_ ?_
      refine pa 11 30 (mb 21 4095) HT_ ?_
      refine pu 12 31 (mb 21 8191) HT_ ?_
      refine pu 13 32 (mb 21 16383) HT_ ?_
      refine pu 14 33 (mb 21 32767) HT_ ?_
      refine pu 15 34 (mb 21 65535) HT_ ?_
      refine pu 16 35 (mb 21 131071) HT_ ?_
      refine pu 17 36 (mb 21 262143) HT_ ?_
      refine pu 18 37 (mb 21 524287) HT_ ?_
      refine pu 19 38 (mb 21 1048575) HT_ ?_
      refine pa 20 39 (mb 21 2097151) HT_ ?_
      refine eA HT_ ?_
      try go_wp2
      go_ret
      exact ⟨rA, bG⟩
     ·
      rw [if_neg c10] at H
      have c10b0 : ((((rd_T92 l1 x15_1).f0).length : Int) == 0) = false := beq_eq_false_iff_ne.mpr c10
      have c10b1 : ((((rd_T92 l1 x15_1).f0).length : Int) != 0) = true := bne_iff_ne.mpr c10
      have c10b2 : ¬ (((rd_T92 l1 x15_1).f0) = []) := fun h_ => c10 (by rw [h_]; rfl)
      obtain ⟨t399, A15, H⟩ := bindE H
      try dsimp only at H
      by_cases c16 : t399 = true
      ·
       subst c16
       have H1 : ((impl_LeastGreen.f k1 l0 ((rd_T92 l1 x15_1).f0)).bind fun t400 => ((impl_InRange.f ((rd_T92 l1 x15_1).f1) t400 60).bind fun t401 => (if t401 = true then (if x5_1.length < 5864062014805 then (impl_IsPlan.l0 k1 l0 (x5_1 ++ [(rd_T92 l1 x15_1).f0]) l1 (l1.length : Int) (wrap64 (x15_1 + 1))) else (none)) else (some false)))) = some r := by rw [if_pos rfl] at H; exact H
       clear H
       have H := H1
       clear H1
       obtain ⟨t400, A17, H⟩ := bindE H
       try dsimp only at H
       obtain ⟨t401, A18, H⟩ := bindE H
       try dsimp only at H
       by_cases c19 : t401 = true
       ·
        subst c19
        have H1 : (if x5_1.length < 5864062014805 then (impl_IsPlan.l0 k1 l0 (x5_1 ++ [(rd_T92 l1 x15_1).f0]) l1 (l1.length : Int) (wrap64 (x15_1 + 1))) else (none)) = some r := by rw [if_pos rfl] at H; exact H
        clear H
        have H := H1
        clear H1
        have c20 : x5_1.length < 5864062014805 := ifN H
        replace H := ifT H
        have LMc20 := Aside0.mk c20
        clear c20
        obtain ⟨y402, hy402⟩ : ∃ y_ : List (List Int), y_ = (x5_1 ++ [(rd_T92 l1 x15_1).f0]) := ⟨_, rfl⟩
        replace H : (impl_IsPlan.l0 k1 l0 y402 l1 (l1.length : Int) (wrap64 (x15_1 + 1))) = some r := rH H hy402
        have Ny402 := Aside0.mk hy402
        clear hy402
        have H' := Aside0.mk H
        clear H
        have p397 : 0 ≤ (x15_1 : Int) := dA
        have q397 : x15_1 < (l1.length : Int) := dA
        obtain ⟨ad397, A397_0, c397_0, e397, hx397_0, hx397_1, hl397_0, hi397_0⟩ := at_T92 (Kd.V_reads' HO_13.out).2.2 x15_1 p397 q397
        cases e397
        obtain ⟨ce397, hce397, hMe397, hcc397⟩ := Kd.V_get HO_13.out z92 x15_1 p397 (by first | exact q397 | exact dA | (have e_ := (Kd.V_reads' HO_13.out).1; omega))
        obtain ⟨ua397_0, uc397_0, rfl, ul397_0, ge397_0⟩ := k92_openF hMe397
        have hv397_0 := hcc397 0 _ rfl
        rw [Nat.add_zero] at hv397_0
        replace hv397_0 := Option.some.inj (hv397_0.symm.trans hx397_0)
        injection hv397_0 with hva_ hvn_ hvc_
        rw [hva_] at ge397_0
        rw [hvc_] at ul397_0
        have HL397_0 := Aside0.mk (show Kd.V (Kd.int .i64) 3 _ w.heap.size _ _ ((rd_T92 l1 x15_1).f0) from Kd.V_mk ul397_0 ge397_0)
        clear hva_ hvn_ hvc_ ge397_0 ul397_0
        clear hcc397 hce397
        have HR397_0 := Aside0.mk hi397_0
        have HC397_0 := Aside0.mk hl397_0
        clear hi397_0 hl397_0
        replace p397 := eq_true p397
        replace q397 := eq_true q397
        try go_wp2_with (first | ((with_reducible refine gate_dst (N := 7) rfl ?_); refine bE (N := 7) (cs := #[.slice none 0 0, .int .i64 0]) (t := 92) ?_; intro gb398 hg w21 hbox hb; have n0_ := Aside0.mk (Kd.N_below (Kd.N_elderB (by (with_reducible repeat (first | apply Kd.N_alloc | apply Kd.N_drewN | apply Kd.N_drew)); exact HO_5.out) gb398 (Nat.le_of_eq hg.symm)) hb); have n1_ := Aside0.mk (Kd.V_below (Kd.V_elderB (by (with_reducible repeat (first | apply Kd.V_alloc | apply Kd.V_drewN | apply Kd.V_drew)); exact HO_13.out) gb398 (Nat.le_of_eq hg.symm)) hb); have n2_ := Aside0.mk (Kd.V_below (Kd.V_elderB (by (with_reducible repeat (first | apply Kd.V_alloc | apply Kd.V_drewN | apply Kd.V_drew)); exact HL397_0.out) gb398 (Nat.le_of_eq hg.symm)) hb); have n3_ := Aside0.mk (Kd.C_below (by repeat (first | (with_reducible exact HR397_0.out) | (with_reducible refine Kd.C_alloc ?_ _) | (with_reducible refine Kd.C_drewN ?_ _) | (with_reducible refine Kd.C_drew ?_) | exact HR397_0.out)) hb); have n4_ := Aside0.mk (below_step bA hb); have n5_ := Aside0.mk (hbox); have n6_ := Aside0.mk ((by rw [hg]; exact (below_size bA) : w.heap.size ≤ gb398)); have n7_ := Aside0.mk ((by rw [hg]; exact (below_size bA) : w.heap.size ≤ gb398)); clear HO_5; clear HO_13; clear HL397_0; clear HR397_0; clear HB; have HO_5 := n0_; have HO_13 := n1_; have HL397_0 := n2_; have HR397_0 := n3_; have HB := n4_; have BK398 := n5_; have GW398 := n6_; have GE398 := n7_; clear n0_ n1_ n2_ n3_ n4_ n5_ n6_ n7_; clear hb hbox hg; obtain ⟨hcz22_0, hcz22_1, hfz22_0, hfz22_1⟩ := blkc2 BK398))
        have n0_ : Aside0 (Kd.N (Kd.slice 3 (Kd.int .i64)) 41 ((w21.setCell ⟨gb398, 0, none⟩ (.slice A397_0 ((rd_T92 l1 x15_1).f0).length c397_0)).setCell ⟨gb398, 1, none⟩ (.int .i64 ((rd_T92 l1 x15_1).f1))) w.heap.size (fun k_ => (P1_ k_ ∨ w.heap.size ≤ k_) ∧ k_ ≠ gb398) u5 x5_1) := ⟨by (with_reducible repeat (first | apply Kd.N_alloc | apply Kd.N_drewN | apply Kd.N_drew)); exact Kd.N_mono (Kd.N_far (p := ⟨gb398, 1, none⟩) (Kd.N_far (p := ⟨gb398, 0, none⟩) (Kd.N_mono HO_5.out (fun k_ hk => (⟨hk, hk.2⟩ : _ ∧ k_ ≠ gb398))) (fun _ hk => hk.2) (.slice A397_0 ((rd_T92 l1 x15_1).f0).length c397_0)) (fun _ hk => hk.2) (.int .i64 ((rd_T92 l1 x15_1).f1))) (fun _ hk => ⟨hk.1.1, hk.1.2⟩)⟩
        have n1_ : Aside0 (Kd.V k92 92 ((w21.setCell ⟨gb398, 0, none⟩ (.slice A397_0 ((rd_T92 l1 x15_1).f0).length c397_0)).setCell ⟨gb398, 1, none⟩ (.int .i64 ((rd_T92 l1 x15_1).f1))) w.heap.size (fun k_ => (P1_ k_ ∨ w.heap.size ≤ k_) ∧ some k_ ≠ (u5 : Value).ownBlock ∧ k_ ≠ gb398) (.slice (some ad397) l1.length c1) l1) := ⟨by (with_reducible repeat (first | apply Kd.V_alloc | apply Kd.V_drewN | apply Kd.V_drew)); exact Kd.V_mono (Kd.V_far (p := ⟨gb398, 1, none⟩) (Kd.V_far (p := ⟨gb398, 0, none⟩) (Kd.V_mono HO_13.out (fun k_ hk => (⟨hk, hk.2⟩ : _ ∧ k_ ≠ gb398))) (fun _ hk => hk.2) (.slice A397_0 ((rd_T92 l1 x15_1).f0).length c397_0)) (fun _ hk => hk.2) (.int .i64 ((rd_T92 l1 x15_1).f1))) (fun _ hk => ⟨hk.1.1.1, ⟨hk.1.1.2, hk.1.2⟩⟩)⟩
        have n2_ : Aside0 (Kd.V (Kd.int .i64) 3 ((w21.setCell ⟨gb398, 0, none⟩ (.slice A397_0 ((rd_T92 l1 x15_1).f0).length c397_0)).setCell ⟨gb398, 1, none⟩ (.int .i64 ((rd_T92 l1 x15_1).f1))) w.heap.size (fun k_ => (P1_ k_ ∨ w.heap.size ≤ k_) ∧ some k_ ≠ (u5 : Value).ownBlock ∧ k_ ≠ gb398) (.slice A397_0 ((rd_T92 l1 x15_1).f0).length c397_0) ((rd_T92 l1 x15_1).f0)) := ⟨by (with_reducible repeat (first | apply Kd.V_alloc | apply Kd.V_drewN | apply Kd.V_drew)); exact Kd.V_mono (Kd.V_far (p := ⟨gb398, 1, none⟩) (Kd.V_far (p := ⟨gb398, 0, none⟩) (Kd.V_mono HL397_0.out (fun k_ hk => (⟨hk, hk.2⟩ : _ ∧ k_ ≠ gb398))) (fun _ hk => hk.2) (.slice A397_0 ((rd_T92 l1 x15_1).f0).length c397_0)) (fun _ hk => hk.2) (.int .i64 ((rd_T92 l1 x15_1).f1))) (fun _ hk => ⟨hk.1.1.1, ⟨hk.1.1.2, hk.1.2⟩⟩)⟩
        have n3_ : Aside0 (((w21.setCell ⟨gb398, 0, none⟩ (.slice A397_0 ((rd_T92 l1 x15_1).f0).length c397_0)).setCell ⟨gb398, 1, none⟩ (.int .i64 ((rd_T92 l1 x15_1).f1))).heap[gb398]? = some (.cells #[.slice A397_0 ((rd_T92 l1 x15_1).f0).length c397_0, .int .i64 ((rd_T92 l1 x15_1).f1)] 92 (0, 0))) := ⟨by (with_reducible repeat (first | refine blk_drewN ?_ _ | refine blk_drew ?_ | refine blk_alloc ?_ _)); refine blk_put (cs := #[.slice A397_0 ((rd_T92 l1 x15_1).f0).length c397_0, .int .i64 0]) ?_ 1 _ rfl; (with_reducible repeat (first | refine blk_drewN ?_ _ | refine blk_drew ?_ | refine blk_alloc ?_ _)); refine blk_put (cs := #[.slice none 0 0, .int .i64 0]) ?_ 0 _ rfl; (with_reducible repeat (first | refine blk_drewN ?_ _ | refine blk_drew ?_ | refine blk_alloc ?_ _)); exact BK398.out⟩
        have n4_ : Aside0 (Below w.heap.size w ((w21.setCell ⟨gb398, 0, none⟩ (.slice A397_0 ((rd_T92 l1 x15_1).f0).length c397_0)).setCell ⟨gb398, 1, none⟩ (.int .i64 ((rd_T92 l1 x15_1).f1)))) := ⟨bG⟩
        (try clear HO_5)
        (try clear HO_13)
        (try clear HL397_0)
        (try clear BK398)
        (try clear HB)
        generalize ((w21.setCell ⟨gb398, 0, none⟩ (.slice A397_0 ((rd_T92 l1 x15_1).f0).length c397_0)).setCell ⟨gb398, 1, none⟩ (.int .i64 ((rd_T92 l1 x15_1).f1))) = w23 at n0_ n1_ n2_ n3_ n4_ ⊢
        have HO_5 := n0_
        have HO_13 := n1_
        have HL397_0 := n2_
        have BK398 := n3_
        have HB := n4_
        clear n0_ n1_ n2_ n3_ n4_
        replace HO_5 := Aside0.mk (Kd.N_drew HO_5.out)
        replace HO_13 := Aside0.mk (Kd.V_drew HO_13.out)
        replace HL397_0 := Aside0.mk (Kd.V_drew HL397_0.out)
        replace BK398 := Aside0.mk (blk_drew BK398.out)
        have HBo := HB
        replace HB := Aside0.mk (below_drew1 HB.out)
        refine start_ (n := 21) (S := fun w' => w'.cell? ⟨gb398, 0, none⟩ = some (.slice A397_0 ((rd_T92 l1 x15_1).f0).length c397_0) ∧ w'.cell? ⟨gb398, 1, none⟩ = some (.int .i64 ((rd_T92 l1 x15_1).f1))) (ds := []) (mb 21 0) (by kernel_rfl) rfl rfl ⟨bC BK398 0, bC BK398 1⟩ (fun hHeld => ?_); refine with_tabW impl_IsPlan.tab7 impl_IsPlan.bits7 (fun HT_ HW_ => ?_)
        generalize w23.drew = w24 at HO_5 HO_13 HL397_0 BK398 HB hHeld ⊢
        refine pa 0 19 (mb 21 1) HT_ ?_
        refine ta2 1 20 (mb 21 3) HT_ HW_ hHeld ?_
        refine pa 2 21 (mb 21 7) HT_ ?_
        refine pa 3 22 (mb 21 15) HT_ ?_
        refine pa 4 23 (mb 21 31) HT_ ?_
        refine pa 5 24 (mb 21 63) HT_ ?_
        refine pa 6 25 (mb 21 127) HT_ ?_
        refine ta2 7 26 (mb 21 255) HT_ HW_ hHeld ?_
        refine oa 8 27 (mb 21 511) HT_ (fun K hK => ?_)
        refine gA Try.func87 #[.slice A0 l0.length c0, .slice A397_0 ((rd_T92 l1 x15_1).f0).length c397_0] ?_
        with_reducible refine (impl_IsTogether.calls k1 _ _ l0 _ _ ((rd_T92 l1 x15_1).f0) true _ ?side1 ?side2 ?side3 ?side4 A15.out).mono ?_
        (case side1 => exact cB HR0)
        (case side2 => exact HC0.out)
        (case side3 => repeat (first | exact ((Kd.V_reads' (by (with_reducible repeat (first | apply Kd.V_alloc | apply Kd.V_drewN | apply Kd.V_drew)); exact HL397_0.out)).2.2) | (with_reducible refine Kd.C_alloc ?_ _) | (with_reducible refine Kd.C_drewN ?_ _) | (with_reducible refine Kd.C_drew ?_)))
        (case side4 => exact HC397_0.out)
        rintro e w25 ⟨rfl, hb⟩
        refine ⟨_, rfl, ?_⟩
        replace HO_5 := Aside0.mk (Kd.N_below (by (with_reducible repeat (first | apply Kd.N_alloc | apply Kd.N_drewN | apply Kd.N_drew)); exact HO_5.out) hb)
        replace HO_13 := Aside0.mk (Kd.V_below (by (with_reducible repeat (first | apply Kd.V_alloc | apply Kd.V_drewN | apply Kd.V_drew)); exact HO_13.out) hb)
        replace HL397_0 := Aside0.mk (Kd.V_below (by (with_reducible repeat (first | apply Kd.V_alloc | apply Kd.V_drewN | apply Kd.V_drew)); exact HL397_0.out) hb)
        replace BK398 := Aside0.mk (blk_below (g := gb398) (bK BK398) hb)
        replace HB := Aside0.mk (below_step bG hb)
        (try clear hb)
        (try clear hb2)
        (try clear hk)
        (try clear hi)
        refine hK.out _ _ ⟨bC BK398 0, bC BK398 1⟩ (fun hHeld => ?_)
        clear hK K
        refine nB ?_
        refine pa 9 28 (mb 21 1023) HT_ ?_
        refine pa 10 29 (mb 21 2047) HT_ ?_
        refine pa 11 30 (mb 21 4095) HT_ ?_
        refine pa 12 31 (mb 21 8191) HT_ ?_
        refine pa 14 33 (mb 21 24575) HT_ ?_
        refine pa 15 34 (mb 21 57343) HT_ ?_
        refine ta2 13 32 (mb 21 65535) HT_ HW_ hHeld ?_
        refine ta2 16 35 (mb 21 131071) HT_ HW_ hHeld ?_
        refine oa 17 36 (mb 21 262143) HT_ (fun K hK => ?_)
        refine gA Try.func77 #[.slice A0 l0.length c0, .slice A397_0 ((rd_T92 l1 x15_1).f0).length c397_0] ?_
        with_reducible refine (impl_LeastGreen.calls k1 _ _ l0 _ _ ((rd_T92 l1 x15_1).f0) t400 _ ?side1 ?side2 ?side3 ?side4 A17.out).mono ?_
        (case side1 => exact cB HR0)
        (case side2 => exact HC0.out)
        (case side3 => repeat (first | exact ((Kd.V_reads' (by (with_reducible repeat (first | apply Kd.V_alloc | apply Kd.V_drewN | apply Kd.V_drew)); exact HL397_0.out)).2.2) | (with_reducible refine Kd.C_alloc ?_ _) | (with_reducible refine Kd.C_drewN ?_ _) | (with_reducible refine Kd.C_drew ?_)))
        (case side4 => exact HC397_0.out)
        rintro e w26 ⟨rfl, hb⟩
        refine ⟨_, rfl, ?_⟩
        replace HO_5 := Aside0.mk (Kd.N_below (by (with_reducible repeat (first | apply Kd.N_alloc | apply Kd.N_drewN | apply Kd.N_drew)); exact HO_5.out) hb)
        replace HO_13 := Aside0.mk (Kd.V_below (by (with_reducible repeat (first | apply Kd.V_alloc | apply Kd.V_drewN | apply Kd.V_drew)); exact HO_13.out) hb)
        replace HL397_0 := Aside0.mk (Kd.V_below (by (with_reducible repeat (first | apply Kd.V_alloc | apply Kd.V_drewN | apply Kd.V_drew)); exact HL397_0.out) hb)
        replace BK398 := Aside0.mk (blk_below (g := gb398) (bK BK398) hb)
        replace HB := Aside0.mk (below_step bG hb)
        (try clear hb)
        (try clear hb2)
        (try clear hk)
        (try clear hi)
        refine hK.out _ _ ⟨bC BK398 0, bC BK398 1⟩ (fun hHeld => ?_)
        clear hK K
        refine nB ?_
        refine oa 18 37 (mb 21 524287) HT_ (fun K hK => ?_)
        refine gA Try.func66 #[.int .i64 ((rd_T92 l1 x15_1).f1), .int .i64 t400, .int .i64 60] ?_
        with_reducible refine (impl_InRange.calls ((rd_T92 l1 x15_1).f1) t400 60 true _ A18.out).mono ?_
        rintro e w' ⟨rfl, ⟨nd, rfl⟩⟩
        refine ⟨_, rfl, ?_⟩
        refine hK.out _ _ ⟨bC BK398 0, bC BK398 1⟩ (fun hHeld => ?_)
        clear hK K
        refine nB ?_
        refine pa 19 38 (mb 21 1048575) HT_ ?_
        refine pa 20 39 (mb 21 2097151) HT_ ?_
        refine eA HT_ ?_
        obtain ⟨hcz27_0, hcz27_1, hfz27_0, hfz27_1⟩ := blkc2 BK398
        try go_wp2_with (first | ((with_reducible refine gate_builtin (b := .append) (xs := #[.tmp 40, .tmp 43]) rfl ?_); at_builtin; refine Kd.N_append (Kd.slice 3 (Kd.int .i64)) (w0 := w) w.heap.size rfl (.tmp 40) (.tmp 43) 103 41 (.slice none 0 0) 24 rfl Try.underlying103 info41 rfl (by decide) (by omega) u5 x5_1 ((rd_T92 l1 x15_1).f0) [.slice A397_0 ((rd_T92 l1 x15_1).f0).length c397_0] (fun k_ => (P1_ k_ ∨ w.heap.size ≤ k_) ∧ k_ ≠ gb398) (fun k_ => ((fun k_ => (P1_ k_ ∨ w.heap.size ≤ k_) ∧ k_ ≠ gb398)) k_ ∧ some k_ ≠ (u5 : Value).ownBlock) rfl rfl ?aP (fun _ hk => hk) ?aF ?aO ?aB ?aS ?aL ?_; (case aP => first | exact (Kd.FK_slice_mk (Kd.V_reads' (Kd.V_mono (ok' := (fun k_ => ((fun k_ => (P1_ k_ ∨ w.heap.size ≤ k_) ∧ k_ ≠ gb398)) k_ ∧ some k_ ≠ (u5 : Value).ownBlock)) (HL397_0.out) (fun k_ hk => ⟨⟨hk.1, hk.2.2⟩, hk.2.1⟩))).2.1 (Kd.V_F (Kd.V_mono (ok' := (fun k_ => ((fun k_ => (P1_ k_ ∨ w.heap.size ≤ k_) ∧ k_ ≠ gb398)) k_ ∧ some k_ ≠ (u5 : Value).ownBlock)) (HL397_0.out) (fun k_ hk => ⟨⟨hk.1, hk.2.2⟩, hk.2.1⟩)))) | exact (Kd.FK_slice_mk (Kd.V_reads' (Kd.V_mono (ok' := (fun k_ => ((fun k_ => (P1_ k_ ∨ w.heap.size ≤ k_) ∧ k_ ≠ gb398)) k_ ∧ some k_ ≠ (u5 : Value).ownBlock)) (HL397_0.out) (fun k_ hk => by first | exact ⟨⟨hk.1, hk.2.2⟩, hk.2.1⟩ | exact ⟨⟨hk.1.1, hk.2⟩, hk.1.2⟩ | exact ⟨⟨hk.1.1, hk.1.2⟩, hk.2⟩ | exact ⟨hk.1.1, hk.2, hk.1.2⟩ | exact hk.1 | simp_all))).2.1 (Kd.V_F (Kd.V_mono (ok' := (fun k_ => ((fun k_ => (P1_ k_ ∨ w.heap.size ≤ k_) ∧ k_ ≠ gb398)) k_ ∧ some k_ ≠ (u5 : Value).ownBlock)) (by (with_reducible repeat (first | apply Kd.V_alloc | apply Kd.V_drewN | apply Kd.V_drew)); exact HL397_0.out) (fun k_ hk => by first | exact ⟨⟨hk.1, hk.2.2⟩, hk.2.1⟩ | exact ⟨⟨hk.1.1, hk.2⟩, hk.1.2⟩ | exact ⟨⟨hk.1.1, hk.1.2⟩, hk.2⟩ | exact ⟨hk.1.1, hk.2, hk.1.2⟩ | exact hk.1 | simp_all))))); (case aB => exact bG); (case aF => exact (fun k_ hk => ⟨(.inr (Nat.le_trans (below_size bG) hk)), Kd.freshB (g := gb398) (o := .cells #[.slice A397_0 ((rd_T92 l1 x15_1).f0).length c397_0, .int .i64 ((rd_T92 l1 x15_1).f1)] 92 (0, 0)) (bK BK398) k_ hk⟩)); (case aO => exact (by (with_reducible repeat (first | apply Kd.N_alloc | apply Kd.N_drewN | apply Kd.N_drew)); exact HO_5.out)); (case aS => exact (below_size bG)); (case aL => have := LMc20.out; omega); intro v403 w28 ho hb hg hat; rw [← Ny402.out] at ho; have n0_ := Aside0.mk (Kd.V_afterv (ok := (fun k_ => (P1_ k_ ∨ w.heap.size ≤ k_) ∧ k_ ≠ gb398)) (by (with_reducible repeat (first | apply Kd.V_alloc | apply Kd.V_drewN | apply Kd.V_drew)); exact Kd.V_mono HO_13.out (fun _ hk => ⟨⟨hk.1, hk.2.2⟩, hk.2.1⟩)) hg hat); have n1_ := Aside0.mk (Kd.V_afterv (ok := (fun k_ => (P1_ k_ ∨ w.heap.size ≤ k_) ∧ k_ ≠ gb398)) (by (with_reducible repeat (first | apply Kd.V_alloc | apply Kd.V_drewN | apply Kd.V_drew)); exact Kd.V_mono HL397_0.out (fun _ hk => ⟨⟨hk.1, hk.2.2⟩, hk.2.1⟩)) hg hat); have n2_ := Aside0.mk (blk_grown (g := gb398) (o := .cells #[.slice A397_0 ((rd_T92 l1 x15_1).f0).length c397_0, .int .i64 ((rd_T92 l1 x15_1).f1)] 92 (0, 0)) (bK BK398) hg (Kd.N_ne HO_5.out BK398.out (by decide))); have n3_ := Aside0.mk (hb); have n4_ := Aside0.mk (ho); clear HO_13; clear HL397_0; clear BK398; clear HB; clear HO_5; have HO_13 := n0_; have HL397_0 := n1_; have BK398 := n2_; have HB := n3_; have HO404 := n4_; clear n0_ n1_ n2_ n3_ n4_; clear ho hb hg hat))
        go_roundg k1
        case measure => have := HK1.out; omega
        case rel => exact ⟨(y402), (wrap64 (x15_1 + 1)), rS, H', ⟨by have := HK1.out; omega⟩, ⟨by (with_reducible repeat (first | apply Kd.N_alloc | apply Kd.N_drewN | apply Kd.N_drew)); exact Kd.N_mono HO404.out (fun _ hk => hk.1)⟩, ⟨by (with_reducible repeat (first | apply Kd.V_alloc | apply Kd.V_drewN | apply Kd.V_drew)); exact Kd.V_mono HO_13.out (fun _ hk => ⟨hk.1.1, hk.2⟩)⟩, ⟨bG⟩⟩
       ·
        replace c19 := Bool.eq_false_iff.mpr c19
        subst c19
        have H1 : (some false) = some r := by rw [if_neg (show ¬ (false = true) by decide)] at H; exact H
        clear H
        have H := H1
        clear H1
        obtain rfl := Option.some.inj H
        have p397 : 0 ≤ (x15_1 : Int) := dA
        have q397 : x15_1 < (l1.length : Int) := dA
        obtain ⟨ad397, A397_0, c397_0, e397, hx397_0, hx397_1, hl397_0, hi397_0⟩ := at_T92 (Kd.V_reads' HO_13.out).2.2 x15_1 p397 q397
        cases e397
        obtain ⟨ce397, hce397, hMe397, hcc397⟩ := Kd.V_get HO_13.out z92 x15_1 p397 (by first | exact q397 | exact dA | (have e_ := (Kd.V_reads' HO_13.out).1; omega))
        obtain ⟨ua397_0, uc397_0, rfl, ul397_0, ge397_0⟩ := k92_openF hMe397
        have hv397_0 := hcc397 0 _ rfl
        rw [Nat.add_zero] at hv397_0
        replace hv397_0 := Option.some.inj (hv397_0.symm.trans hx397_0)
        injection hv397_0 with hva_ hvn_ hvc_
        rw [hva_] at ge397_0
        rw [hvc_] at ul397_0
        have HL397_0 := Aside0.mk (show Kd.V (Kd.int .i64) 3 _ w.heap.size _ _ ((rd_T92 l1 x15_1).f0) from Kd.V_mk ul397_0 ge397_0)
        clear hva_ hvn_ hvc_ ge397_0 ul397_0
        clear hcc397 hce397
        have HR397_0 := Aside0.mk hi397_0
        have HC397_0 := Aside0.mk hl397_0
        clear hi397_0 hl397_0
        replace p397 := eq_true p397
        replace q397 := eq_true q397
        try go_wp2_with (first | ((with_reducible refine gate_dst (N := 7) rfl ?_); refine bE (N := 7) (cs := #[.slice none 0 0, .int .i64 0]) (t := 92) ?_; intro gb398 hg w29 hbox hb; have n0_ := Aside0.mk (Kd.N_below (Kd.N_elderB (by (with_reducible repeat (first | apply Kd.N_alloc | apply Kd.N_drewN | apply Kd.N_drew)); exact HO_5.out) gb398 (Nat.le_of_eq hg.symm)) hb); have n1_ := Aside0.mk (Kd.V_below (Kd.V_elderB (by (with_reducible repeat (first | apply Kd.V_alloc | apply Kd.V_drewN | apply Kd.V_drew)); exact HO_13.out) gb398 (Nat.le_of_eq hg.symm)) hb); have n2_ := Aside0.mk (Kd.V_below (Kd.V_elderB (by (with_reducible repeat (first | apply Kd.V_alloc | apply Kd.V_drewN | apply Kd.V_drew)); exact HL397_0.out) gb398 (Nat.le_of_eq hg.symm)) hb); have n3_ := Aside0.mk (Kd.C_below (by repeat (first | (with_reducible exact HR397_0.out) | (with_reducible refine Kd.C_alloc ?_ _) | (with_reducible refine Kd.C_drewN ?_ _) | (with_reducible refine Kd.C_drew ?_) | exact HR397_0.out)) hb); have n4_ := Aside0.mk (below_step bA hb); have n5_ := Aside0.mk (hbox); have n6_ := Aside0.mk ((by rw [hg]; exact (below_size bA) : w.heap.size ≤ gb398)); have n7_ := Aside0.mk ((by rw [hg]; exact (below_size bA) : w.heap.size ≤ gb398)); clear HO_5; clear HO_13; clear HL397_0; clear HR397_0; clear HB; have HO_5 := n0_; have HO_13 := n1_; have HL397_0 := n2_; have HR397_0 := n3_; have HB := n4_; have BK398 := n5_; have GW398 := n6_; have GE398 := n7_; clear n0_ n1_ n2_ n3_ n4_ n5_ n6_ n7_; clear hb hbox hg; obtain ⟨hcz30_0, hcz30_1, hfz30_0, hfz30_1⟩ := blkc2 BK398))
        have n0_ : Aside0 (Kd.N (Kd.slice 3 (Kd.int .i64)) 41 ((w29.setCell ⟨gb398, 0, none⟩ (.slice A397_0 ((rd_T92 l1 x15_1).f0).length c397_0)).setCell ⟨gb398, 1, none⟩ (.int .i64 ((rd_T92 l1 x15_1).f1))) w.heap.size (fun k_ => (P1_ k_ ∨ w.heap.size ≤ k_) ∧ k_ ≠ gb398) u5 x5_1) := ⟨by (with_reducible repeat (first | apply Kd.N_alloc | apply Kd.N_drewN | apply Kd.N_drew)); exact Kd.N_mono (Kd.N_far (p := ⟨gb398, 1, none⟩) (Kd.N_far (p := ⟨gb398, 0, none⟩) (Kd.N_mono HO_5.out (fun k_ hk => (⟨hk, hk.2⟩ : _ ∧ k_ ≠ gb398))) (fun _ hk => hk.2) (.slice A397_0 ((rd_T92 l1 x15_1).f0).length c397_0)) (fun _ hk => hk.2) (.int .i64 ((rd_T92 l1 x15_1).f1))) (fun _ hk => ⟨hk.1.1, hk.1.2⟩)⟩
        have n1_ : Aside0 (Kd.V k92 92 ((w29.setCell ⟨gb398, 0, none⟩ (.slice A397_0 ((rd_T92 l1 x15_1).f0).length c397_0)).setCell ⟨gb398, 1, none⟩ (.int .i64 ((rd_T92 l1 x15_1).f1))) w.heap.size (fun k_ => (P1_ k_ ∨ w.heap.size ≤ k_) ∧ some k_ ≠ (u5 : Value).ownBlock ∧ k_ ≠ gb398) (.slice (some ad397) l1.length c1) l1) := ⟨by (with_reducible repeat (first | apply Kd.V_alloc | apply Kd.V_drewN | apply Kd.V_drew)); exact Kd.V_mono (Kd.V_far (p := ⟨gb398, 1, none⟩) (Kd.V_far (p := ⟨gb398, 0, none⟩) (Kd.V_mono HO_13.out (fun k_ hk => (⟨hk, hk.2⟩ : _ ∧ k_ ≠ gb398))) (fun _ hk => hk.2) (.slice A397_0 ((rd_T92 l1 x15_1).f0).length c397_0)) (fun _ hk => hk.2) (.int .i64 ((rd_T92 l1 x15_1).f1))) (fun _ hk => ⟨hk.1.1.1, ⟨hk.1.1.2, hk.1.2⟩⟩)⟩
        have n2_ : Aside0 (Kd.V (Kd.int .i64) 3 ((w29.setCell ⟨gb398, 0, none⟩ (.slice A397_0 ((rd_T92 l1 x15_1).f0).length c397_0)).setCell ⟨gb398, 1, none⟩ (.int .i64 ((rd_T92 l1 x15_1).f1))) w.heap.size (fun k_ => (P1_ k_ ∨ w.heap.size ≤ k_) ∧ some k_ ≠ (u5 : Value).ownBlock ∧ k_ ≠ gb398) (.slice A397_0 ((rd_T92 l1 x15_1).f0).length c397_0) ((rd_T92 l1 x15_1).f0)) := ⟨by (with_reducible repeat (first | apply Kd.V_alloc | apply Kd.V_drewN | apply Kd.V_drew)); exact Kd.V_mono (Kd.V_far (p := ⟨gb398, 1, none⟩) (Kd.V_far (p := ⟨gb398, 0, none⟩) (Kd.V_mono HL397_0.out (fun k_ hk => (⟨hk, hk.2⟩ : _ ∧ k_ ≠ gb398))) (fun _ hk => hk.2) (.slice A397_0 ((rd_T92 l1 x15_1).f0).length c397_0)) (fun _ hk => hk.2) (.int .i64 ((rd_T92 l1 x15_1).f1))) (fun _ hk => ⟨hk.1.1.1, ⟨hk.1.1.2, hk.1.2⟩⟩)⟩
        have n3_ : Aside0 (((w29.setCell ⟨gb398, 0, none⟩ (.slice A397_0 ((rd_T92 l1 x15_1).f0).length c397_0)).setCell ⟨gb398, 1, none⟩ (.int .i64 ((rd_T92 l1 x15_1).f1))).heap[gb398]? = some (.cells #[.slice A397_0 ((rd_T92 l1 x15_1).f0).length c397_0, .int .i64 ((rd_T92 l1 x15_1).f1)] 92 (0, 0))) := ⟨by (with_reducible repeat (first | refine blk_drewN ?_ _ | refine blk_drew ?_ | refine blk_alloc ?_ _)); refine blk_put (cs := #[.slice A397_0 ((rd_T92 l1 x15_1).f0).length c397_0, .int .i64 0]) ?_ 1 _ rfl; (with_reducible repeat (first | refine blk_drewN ?_ _ | refine blk_drew ?_ | refine blk_alloc ?_ _)); refine blk_put (cs := #[.slice none 0 0, .int .i64 0]) ?_ 0 _ rfl; (with_reducible repeat (first | refine blk_drewN ?_ _ | refine blk_drew ?_ | refine blk_alloc ?_ _)); exact BK398.out⟩
        have n4_ : Aside0 (Below w.heap.size w ((w29.setCell ⟨gb398, 0, none⟩ (.slice A397_0 ((rd_T92 l1 x15_1).f0).length c397_0)).setCell ⟨gb398, 1, none⟩ (.int .i64 ((rd_T92 l1 x15_1).f1)))) := ⟨bG⟩
        (try clear HO_5)
        (try clear HO_13)
        (try clear HL397_0)
        (try clear BK398)
        (try clear HB)
        generalize ((w29.setCell ⟨gb398, 0, none⟩ (.slice A397_0 ((rd_T92 l1 x15_1).f0).length c397_0)).setCell ⟨gb398, 1, none⟩ (.int .i64 ((rd_T92 l1 x15_1).f1))) = w31 at n0_ n1_ n2_ n3_ n4_ ⊢
        have HO_5 := n0_
        have HO_13 := n1_
        have HL397_0 := n2_
        have BK398 := n3_
        have HB := n4_
        clear n0_ n1_ n2_ n3_ n4_
        replace HO_5 := Aside0.mk (Kd.N_drew HO_5.out)
        replace HO_13 := Aside0.mk (Kd.V_drew HO_13.out)
        replace HL397_0 := Aside0.mk (Kd.V_drew HL397_0.out)
        replace BK398 := Aside0.mk (blk_drew BK398.out)
        have HBo := HB
        replace HB := Aside0.mk (below_drew1 HB.out)
        refine start_ (n := 21) (S := fun w' => w'.cell? ⟨gb398, 0, none⟩ = some (.slice A397_0 ((rd_T92 l1 x15_1).f0).length c397_0) ∧ w'.cell? ⟨gb398, 1, none⟩ = some (.int .i64 ((rd_T92 l1 x15_1).f1))) (ds := []) (mb 21 0) (by kernel_rfl) rfl rfl ⟨bC BK398 0, bC BK398 1⟩ (fun hHeld => ?_); refine with_tabW impl_IsPlan.tab7 impl_IsPlan.bits7 (fun HT_ HW_ => ?_)
        generalize w31.drew = w32 at HO_5 HO_13 HL397_0 BK398 HB hHeld ⊢
        refine pa 0 19 (mb 21 1) HT_ ?_
        refine ta2 1 20 (mb 21 3) HT_ HW_ hHeld ?_
        refine pa 2 21 (mb 21 7) HT_ ?_
        refine pa 3 22 (mb 21 15) HT_ ?_
        refine pa 4 23 (mb 21 31) HT_ ?_
        refine pa 5 24 (mb 21 63) HT_ ?_
        refine pa 6 25 (mb 21 127) HT_ ?_
        refine ta2 7 26 (mb 21 255) HT_ HW_ hHeld ?_
        refine oa 8 27 (mb 21 511) HT_ (fun K hK => ?_)
        refine gA Try.func87 #[.slice A0 l0.length c0, .slice A397_0 ((rd_T92 l1 x15_1).f0).length c397_0] ?_
        with_reducible refine (impl_IsTogether.calls k1 _ _ l0 _ _ ((rd_T92 l1 x15_1).f0) true _ ?side1 ?side2 ?side3 ?side4 A15.out).mono ?_
        (case side1 => exact cB HR0)
        (case side2 => exact HC0.out)
        (case side3 => repeat (first | exact ((Kd.V_reads' (by (with_reducible repeat (first | apply Kd.V_alloc | apply Kd.V_drewN | apply Kd.V_drew)); exact HL397_0.out)).2.2) | (with_reducible refine Kd.C_alloc ?_ _) | (with_reducible refine Kd.C_drewN ?_ _) | (with_reducible refine Kd.C_drew ?_)))
        (case side4 => exact HC397_0.out)
        rintro e w33 ⟨rfl, hb⟩
        refine ⟨_, rfl, ?_⟩
        replace HO_5 := Aside0.mk (Kd.N_below (by (with_reducible repeat (first | apply Kd.N_alloc | apply Kd.N_drewN | apply Kd.N_drew)); exact HO_5.out) hb)
        replace HO_13 := Aside0.mk (Kd.V_below (by (with_reducible repeat (first | apply Kd.V_alloc | apply Kd.V_drewN | apply Kd.V_drew)); exact HO_13.out) hb)
        replace HL397_0 := Aside0.mk (Kd.V_below (by (with_reducible repeat (first | apply Kd.V_alloc | apply Kd.V_drewN | apply Kd.V_drew)); exact HL397_0.out) hb)
        replace BK398 := Aside0.mk (blk_below (g := gb398) (bK BK398) hb)
        replace HB := Aside0.mk (below_step bG hb)
        (try clear hb)
        (try clear hb2)
        (try clear hk)
        (try clear hi)
        refine hK.out _ _ ⟨bC BK398 0, bC BK398 1⟩ (fun hHeld => ?_)
        clear hK K
        refine nB ?_
        refine pa 9 28 (mb 21 1023) HT_ ?_
        refine pa 10 29 (mb 21 2047) HT_ ?_
        refine pa 11 30 (mb 21 4095) HT_ ?_
        refine pa 12 31 (mb 21 8191) HT_ ?_
        refine pa 14 33 (mb 21 24575) HT_ ?_
        refine pa 15 34 (mb 21 57343) HT_ ?_
        refine ta2 13 32 (mb 21 65535) HT_ HW_ hHeld ?_
        refine ta2 16 35 (mb 21 131071) HT_ HW_ hHeld ?_
        refine oa 17 36 (mb 21 262143) HT_ (fun K hK => ?_)
        refine gA Try.func77 #[.slice A0 l0.length c0, .slice A397_0 ((rd_T92 l1 x15_1).f0).length c397_0] ?_
        with_reducible refine (impl_LeastGreen.calls k1 _ _ l0 _ _ ((rd_T92 l1 x15_1).f0) t400 _ ?side1 ?side2 ?side3 ?side4 A17.out).mono ?_
        (case side1 => exact cB HR0)
        (case side2 => exact HC0.out)
        (case side3 => repeat (first | exact ((Kd.V_reads' (by (with_reducible repeat (first | apply Kd.V_alloc | apply Kd.V_drewN | apply Kd.V_drew)); exact HL397_0.out)).2.2) | (with_reducible refine Kd.C_alloc ?_ _) | (with_reducible refine Kd.C_drewN ?_ _) | (with_reducible refine Kd.C_drew ?_)))
        (case side4 => exact HC397_0.out)
        rintro e w34 ⟨rfl, hb⟩
        refine ⟨_, rfl, ?_⟩
        replace HO_5 := Aside0.mk (Kd.N_below (by (with_reducible repeat (first | apply Kd.N_alloc | apply Kd.N_drewN | apply Kd.N_drew)); exact HO_5.out) hb)
        replace HO_13 := Aside0.mk (Kd.V_below (by (with_reducible repeat (first | apply Kd.V_alloc | apply Kd.V_drewN | apply Kd.V_drew)); exact HO_13.out) hb)
        replace HL397_0 := Aside0.mk (Kd.V_below (by (with_reducible repeat (first | apply Kd.V_alloc | apply Kd.V_drewN | apply Kd.V_drew)); exact HL397_0.out) hb)
        replace BK398 := Aside0.mk (blk_below (g := gb398) (bK BK398) hb)
        replace HB := Aside0.mk (below_step bG hb)
        (try clear hb)
        (try clear hb2)
        (try clear hk)
        (try clear hi)
        refine hK.out _ _ ⟨bC BK398 0, bC BK398 1⟩ (fun hHeld => ?_)
        clear hK K
        refine nB ?_
        refine oa 18 37 (mb 21 524287) HT_ (fun K hK => ?_)
        refine gA Try.func66 #[.int .i64 ((rd_T92 l1 x15_1).f1), .int .i64 t400, .int .i64 60] ?_
        with_reducible refine (impl_InRange.calls ((rd_T92 l1 x15_1).f1) t400 60 false _ A18.out).mono ?_
        rintro e w' ⟨rfl, ⟨nd, rfl⟩⟩
        refine ⟨_, rfl, ?_⟩
        refine hK.out _ _ ⟨bC BK398 0, bC BK398 1⟩ (fun hHeld => ?_)
        clear hK K
        refine nB ?_
        refine pa 19 38 (mb 21 1048575) HT_ ?_
        refine pa 20 39 (mb 21 2097151) HT_ ?_
        refine eA HT_ ?_
        try go_wp2
        go_ret
        exact ⟨rA, bG⟩
      ·
       replace c16 := Bool.eq_false_iff.mpr c16
       subst c16
       have H1 : (some false) = some r := by rw [if_neg (show ¬ (false = true) by decide)] at H; exact H
       clear H
       have H := H1
       clear H1
       obtain rfl := Option.some.inj H
       have p397 : 0 ≤ (x15_1 : Int) := dA
       have q397 : x15_1 < (l1.length : Int) := dA
       obtain ⟨ad397, A397_0, c397_0, e397, hx397_0, hx397_1, hl397_0, hi397_0⟩ := at_T92 (Kd.V_reads' HO_13.out).2.2 x15_1 p397 q397
       cases e397
       obtain ⟨ce397, hce397, hMe397, hcc397⟩ := Kd.V_get HO_13.out z92 x15_1 p397 (by first | exact q397 | exact dA | (have e_ := (Kd.V_reads' HO_13.out).1; omega))
       obtain ⟨ua397_0, uc397_0, rfl, ul397_0, ge397_0⟩ := k92_openF hMe397
       have hv397_0 := hcc397 0 _ rfl
       rw [Nat.add_zero] at hv397_0
       replace hv397_0 := Option.some.inj (hv397_0.symm.trans hx397_0)
       injection hv397_0 with hva_ hvn_ hvc_
       rw [hva_] at ge397_0
       rw [hvc_] at ul397_0
       have HL397_0 := Aside0.mk (show Kd.V (Kd.int .i64) 3 _ w.heap.size _ _ ((rd_T92 l1 x15_1).f0) from Kd.V_mk ul397_0 ge397_0)
       clear hva_ hvn_ hvc_ ge397_0 ul397_0
       clear hcc397 hce397
       have HR397_0 := Aside0.mk hi397_0
       have HC397_0 := Aside0.mk hl397_0
       clear hi397_0 hl397_0
       replace p397 := eq_true p397
       replace q397 := eq_true q397
       try go_wp2_with (first | ((with_reducible refine gate_dst (N := 7) rfl ?_); refine bE (N := 7) (cs := #[.slice none 0 0, .int .i64 0]) (t := 92) ?_; intro gb398 hg w35 hbox hb; have n0_ := Aside0.mk (Kd.N_below (Kd.N_elderB (by (with_reducible repeat (first | apply Kd.N_alloc | apply Kd.N_drewN | apply Kd.N_drew)); exact HO_5.out) gb398 (Nat.le_of_eq hg.symm)) hb); have n1_ := Aside0.mk (Kd.V_below (Kd.V_elderB (by (with_reducible repeat (first | apply Kd.V_alloc | apply Kd.V_drewN | apply Kd.V_drew)); exact HO_13.out) gb398 (Nat.le_of_eq hg.symm)) hb); have n2_ := Aside0.mk (Kd.V_below (Kd.V_elderB (by (with_reducible repeat (first | apply Kd.V_alloc | apply Kd.V_drewN | apply Kd.V_drew)); exact HL397_0.out) gb398 (Nat.le_of_eq hg.symm)) hb); have n3_ := Aside0.mk (Kd.C_below (by repeat (first | (with_reducible exact HR397_0.out) | (with_reducible refine Kd.C_alloc ?_ _) | (with_reducible refine Kd.C_drewN ?_ _) | (with_reducible refine Kd.C_drew ?_) | exact HR397_0.out)) hb); have n4_ := Aside0.mk (below_step bA hb); have n5_ := Aside0.mk (hbox); have n6_ := Aside0.mk ((by rw [hg]; exact (below_size bA) : w.heap.size ≤ gb398)); have n7_ := Aside0.mk ((by rw [hg]; exact (below_size bA) : w.heap.size ≤ gb398)); clear HO_5; clear HO_13; clear HL397_0; clear HR397_0; clear HB; have HO_5 := n0_; have HO_13 := n1_; have HL397_0 := n2_; have HR397_0 := n3_; have HB := n4_; have BK398 := n5_; have GW398 := n6_; have GE398 := n7_; clear n0_ n1_ n2_ n3_ n4_ n5_ n6_ n7_; clear hb hbox hg; obtain ⟨hcz36_0, hcz36_1, hfz36_0, hfz36_1⟩ := blkc2 BK398))
       have n0_ : Aside0 (Kd.N (Kd.slice 3 (Kd.int .i64)) 41 ((w35.setCell ⟨gb398, 0, none⟩ (.slice A397_0 ((rd_T92 l1 x15_1).f0).length c397_0)).setCell ⟨gb398, 1, none⟩ (.int .i64 ((rd_T92 l1 x15_1).f1))) w.heap.size (fun k_ => (P1_ k_ ∨ w.heap.size ≤ k_) ∧ k_ ≠ gb398) u5 x5_1) := ⟨by (with_reducible repeat (first | apply Kd.N_alloc | apply Kd.N_drewN | apply Kd.N_drew)); exact Kd.N_mono (Kd.N_far (p := ⟨gb398, 1, none⟩) (Kd.N_far (p := ⟨gb398, 0, none⟩) (Kd.N_mono HO_5.out (fun k_ hk => (⟨hk, hk.2⟩ : _ ∧ k_ ≠ gb398))) (fun _ hk => hk.2) (.slice A397_0 ((rd_T92 l1 x15_1).f0).length c397_0)) (fun _ hk => hk.2) (.int .i64 ((rd_T92 l1 x15_1).f1))) (fun _ hk => ⟨hk.1.1, hk.1.2⟩)⟩
       have n1_ : Aside0 (Kd.V k92 92 ((w35.setCell ⟨gb398, 0, none⟩ (.slice A397_0 ((rd_T92 l1 x15_1).f0).length c397_0)).setCell ⟨gb398, 1, none⟩ (.int .i64 ((rd_T92 l1 x15_1).f1))) w.heap.size (fun k_ => (P1_ k_ ∨ w.heap.size ≤ k_) ∧ some k_ ≠ (u5 : Value).ownBlock ∧ k_ ≠ gb398) (.slice (some ad397) l1.length c1) l1) := ⟨by (with_reducible repeat (first | apply Kd.V_alloc | apply Kd.V_drewN | apply Kd.V_drew)); exact Kd.V_mono (Kd.V_far (p := ⟨gb398, 1, none⟩) (Kd.V_far (p := ⟨gb398, 0, none⟩) (Kd.V_mono HO_13.out (fun k_ hk => (⟨hk, hk.2⟩ : _ ∧ k_ ≠ gb398))) (fun _ hk => hk.2) (.slice A397_0 ((rd_T92 l1 x15_1).f0).length c397_0)) (fun _ hk => hk.2) (.int .i64 ((rd_T92 l1 x15_1).f1))) (fun _ hk => ⟨hk.1.1.1, ⟨hk.1.1.2, hk.1.2⟩⟩)⟩
       have n2_ : Aside0 (Kd.V (Kd.int .i64) 3 ((w35.setCell ⟨gb398, 0, none⟩ (.slice A397_0 ((rd_T92 l1 x15_1).f0).length c397_0)).setCell ⟨gb398, 1, none⟩ (.int .i64 ((rd_T92 l1 x15_1).f1))) w.heap.size (fun k_ => (P1_ k_ ∨ w.heap.size ≤ k_) ∧ some k_ ≠ (u5 : Value).ownBlock ∧ k_ ≠ gb398) (.slice A397_0 ((rd_T92 l1 x15_1).f0).length c397_0) ((rd_T92 l1 x15_1).f0)) := ⟨by (with_reducible repeat (first | apply Kd.V_alloc | apply Kd.V_drewN | apply Kd.V_drew)); exact Kd.V_mono (Kd.V_far (p := ⟨gb398, 1, none⟩) (Kd.V_far (p := ⟨gb398, 0, none⟩) (Kd.V_mono HL397_0.out (fun k_ hk => (⟨hk, hk.2⟩ : _ ∧ k_ ≠ gb398))) (fun _ hk => hk.2) (.slice A397_0 ((rd_T92 l1 x15_1).f0).length c397_0)) (fun _ hk => hk.2) (.int .i64 ((rd_T92 l1 x15_1).f1))) (fun _ hk => ⟨hk.1.1.1, ⟨hk.1.1.2, hk.1.2⟩⟩)⟩
       have n3_ : Aside0 (((w35.setCell ⟨gb398, 0, none⟩ (.slice A397_0 ((rd_T92 l1 x15_1).f0).length c397_0)).setCell ⟨gb398, 1, none⟩ (.int .i64 ((rd_T92 l1 x15_1).f1))).heap[gb398]? = some (.cells #[.slice A397_0 ((rd_T92 l1 x15_1).f0).length c397_0, .int .i64 ((rd_T92 l1 x15_1).f1)] 92 (0, 0))) := ⟨by (with_reducible repeat (first | refine blk_drewN ?_ _ | refine blk_drew ?_ | refine blk_alloc ?_ _)); refine blk_put (cs := #[.slice A397_0 ((rd_T92 l1 x15_1).f0).length c397_0, .int .i64 0]) ?_ 1 _ rfl; (with_reducible repeat (first | refine blk_drewN ?_ _ | refine blk_drew ?_ | refine blk_alloc ?_ _)); refine blk_put (cs := #[.slice none 0 0, .int .i64 0]) ?_ 0 _ rfl; (with_reducible repeat (first | refine blk_drewN ?_ _ | refine blk_drew ?_ | refine blk_alloc ?_ _)); exact BK398.out⟩
       have n4_ : Aside0 (Below w.heap.size w ((w35.setCell ⟨gb398, 0, none⟩ (.slice A397_0 ((rd_T92 l1 x15_1).f0).length c397_0)).setCell ⟨gb398, 1, none⟩ (.int .i64 ((rd_T92 l1 x15_1).f1)))) := ⟨bG⟩
       (try clear HO_5)
       (try clear HO_13)
       (try clear HL397_0)
       (try clear BK398)
       (try clear HB)
       generalize ((w35.setCell ⟨gb398, 0, none⟩ (.slice A397_0 ((rd_T92 l1 x15_1).f0).length c397_0)).setCell ⟨gb398, 1, none⟩ (.int .i64 ((rd_T92 l1 x15_1).f1))) = w37 at n0_ n1_ n2_ n3_ n4_ ⊢
       have HO_5 := n0_
       have HO_13 := n1_
       have HL397_0 := n2_
       have BK398 := n3_
       have HB := n4_
       clear n0_ n1_ n2_ n3_ n4_
       replace HO_5 := Aside0.mk (Kd.N_drew HO_5.out)
       replace HO_13 := Aside0.mk (Kd.V_drew HO_13.out)
       replace HL397_0 := Aside0.mk (Kd.V_drew HL397_0.out)
       replace BK398 := Aside0.mk (blk_drew BK398.out)
       have HBo := HB
       replace HB := Aside0.mk (below_drew1 HB.out)
       refine start_ (n := 21) (S := fun w' => w'.cell? ⟨gb398, 0, none⟩ = some (.slice A397_0 ((rd_T92 l1 x15_1).f0).length c397_0) ∧ w'.cell? ⟨gb398, 1, none⟩ = some (.int .i64 ((rd_T92 l1 x15_1).f1))) (ds := []) (mb 21 0) (by kernel_rfl) rfl rfl ⟨bC BK398 0, bC BK398 1⟩ (fun hHeld => ?_); refine with_tabW impl_IsPlan.tab7 impl_IsPlan.bits7 (fun HT_ HW_ => ?_)
       generalize w37.drew = w38 at HO_5 HO_13 HL397_0 BK398 HB hHeld ⊢
       refine pa 0 19 (mb 21 1) HT_ ?_
       refine ta2 1 20 (mb 21 3) HT_ HW_ hHeld ?_
       refine pa 2 21 (mb 21 7) HT_ ?_
       refine pa 3 22 (mb 21 15) HT_ ?_
       refine pa 4 23 (mb 21 31) HT_ ?_
       refine pa 5 24 (mb 21 63) HT_ ?_
       refine pa 6 25 (mb 21 127) HT_ ?_
       refine ta2 7 26 (mb 21 255) HT_ HW_ hHeld ?_
       refine oa 8 27 (mb 21 511) HT_ (fun K hK => ?_)
       refine gA Try.func87 #[.slice A0 l0.length c0, .slice A397_0 ((rd_T92 l1 x15_1).f0).length c397_0] ?_
       with_reducible refine (impl_IsTogether.calls k1 _ _ l0 _ _ ((rd_T92 l1 x15_1).f0) false _ ?side1 ?side2 ?side3 ?side4 A15.out).mono ?_
       (case side1 => exact cB HR0)
       (case side2 => exact HC0.out)
       (case side3 => repeat (first | exact ((Kd.V_reads' (by (with_reducible repeat (first | apply Kd.V_alloc | apply Kd.V_drewN | apply Kd.V_drew)); exact HL397_0.out)).2.2) | (with_reducible refine Kd.C_alloc ?_ _) | (with_reducible refine Kd.C_drewN ?_ _) | (with_reducible refine Kd.C_drew ?_)))
       (case side4 => exact HC397_0.out)
       rintro e w39 ⟨rfl, hb⟩
       refine ⟨_, rfl, ?_⟩
       replace HO_5 := Aside0.mk (Kd.N_below (by (with_reducible repeat (first | apply Kd.N_alloc | apply Kd.N_drewN | apply Kd.N_drew)); exact HO_5.out) hb)
       replace HO_13 := Aside0.mk (Kd.V_below (by (with_reducible repeat (first | apply Kd.V_alloc | apply Kd.V_drewN | apply Kd.V_drew)); exact HO_13.out) hb)
       replace HL397_0 := Aside0.mk (Kd.V_below (by (with_reducible repeat (first | apply Kd.V_alloc | apply Kd.V_drewN | apply Kd.V_drew)); exact HL397_0.out) hb)
       replace BK398 := Aside0.mk (blk_below (g := gb398) (bK BK398) hb)
       replace HB := Aside0.mk (below_step bG hb)
       (try clear hb)
       (try clear hb2)
       (try clear hk)
       (try clear hi)
       refine hK.out _ _ ⟨bC BK398 0, bC BK398 1⟩ (fun hHeld => ?_)
       clear hK K
       refine nB ?_
       refine pa 9 28 (mb 21 1023) HT_ ?_
       refine pa 10 29 (mb 21 2047) HT_ ?_
       refine pa 11 30 (mb 21 4095) HT_ ?_
       refine pu 12 31 (mb 21 8191) HT_ ?_
       refine pu 13 32 (mb 21 16383) HT_ ?_
       refine pu 14 33 (mb 21 32767) HT_ ?_
       refine pu 15 34 (mb 21 65535) HT_ ?_
       refine pu 16 35 (mb 21 131071) HT_ ?_
       refine pu 17 36 (mb 21 262143) HT_ ?_
       refine pu 18 37 (mb 21 524287) HT_ ?_
       refine pu 19 38 (mb 21 1048575) HT_ ?_
       refine pa 20 39 (mb 21 2097151) HT_ ?_
       refine eA HT_ ?_
       try go_wp2
       go_ret
       exact ⟨rA, bG⟩
    ·
     rw [if_neg c7] at H
     have c7b0 := decide_eq_false c7
     clear c7
     obtain ⟨t396, A40, H⟩ := bindE H
     try dsimp only at H
     obtain rfl := Option.some.inj H
     obtain ⟨Ao41, co41, eo41⟩ := Kd.N_slice HO_5.out
     subst eo41
     go_wp2_with (first | ((with_reducible refine gate_callee (f := 128) rfl ?_); refine gL (some 48) Try.func128 #[.slice A0 l0.length c0, .slice Ao41 x5_1.length co41] ?_; (with_reducible refine (impl_Covers.calls k1 _ _ l0 _ _ x5_1 t396 _ ?side1 ?side2 ?side3 ?side4 A40.out).mono ?_); (case side1 => exact cB HR0); (case side2 => exact HC0.out); (case side3 => repeat (first | exact (Kd.N_reads' HO_5.out).2.2 | (with_reducible refine Kd.C_alloc ?_ _) | (with_reducible refine Kd.C_drewN ?_ _) | (with_reducible refine Kd.C_drew ?_))); (case side4 => exact (Kd.N_reads' HO_5.out).2.1); rintro e w42 ⟨rfl, hb⟩; refine ⟨_, rfl, ?_⟩; have n0_ := Aside0.mk (Kd.N_below (by (with_reducible repeat (first | apply Kd.N_alloc | apply Kd.N_drewN | apply Kd.N_drew)); exact HO_5.out) hb); have n1_ := Aside0.mk (Kd.V_below (by (with_reducible repeat (first | apply Kd.V_alloc | apply Kd.V_drewN | apply Kd.V_drew)); exact HO_13.out) hb); have n2_ := Aside0.mk (below_step bA hb); clear HO_5; clear HO_13; clear HB; have HO_5 := n0_; have HO_13 := n1_; have HB := n2_; clear n0_ n1_ n2_; (try clear hb)))
     go_ret
     exact ⟨rA, bA⟩
 ·
  replace c4 := Bool.eq_false_iff.mpr c4
  subst c4
  have H1 : (some false) = some r := by rw [if_neg (show ¬ (false = true) by decide)] at H; exact H
  clear H
  have H := H1
  clear H1
  obtain rfl := Option.some.inj H
  go_enter Try.func78, Try.ntmps78
  go_wp2_with (first | ((with_reducible refine gate_callee (f := 66) rfl ?_); refine gL (some 10) Try.func66 #[.int .i64 (l1.length : Int), .int .i64 1, .int .i64 6] ?_; (with_reducible refine (impl_InRange.calls (l1.length : Int) 1 6 false _ A3.out).mono ?_); rintro e w' ⟨rfl, ⟨nd, rfl⟩⟩; refine ⟨_, rfl, ?_⟩))
  go_ret
  exact ⟨rA, bA⟩

/-! ### impl_PlanFor: function 36 -/
def impl_PlanFor.l0 : Nat → List (S89) → List (S92) → List (List Int) → Int → Int → Option ((List (S92)))
 | 0, _, _, _, _, _ => none
 | k + 1, x0, x3, x8, x9, x10 => if x10 < x9 then (if 0 ≤ x10 then (if x10 < (x8.length : Int) then ((impl_LeastGreen.f k x0 (rd_L3 x8 x10)).bind fun t412 => (if x3.length < 4398046511104 then (impl_PlanFor.l0 k x0 (x3 ++ [(⟨rd_L3 x8 x10, t412⟩ : S92)]) x8 x9 (wrap64 (x10 + 1))) else (none))) else (none)) else (none)) else ((impl_IsPlan.f k x0 x3).bind fun t416 => (if t416 = true then (some x3) else (some (([] : List (S92))))))
def impl_PlanFor.f (k : Nat) (l0 : List (S89)) : Option ((List (S92))) := (impl_CoverOf.f k l0).bind fun t408 => (impl_PlanFor.l0 k l0 (([] : List (S92))) t408 (t408.length : Int) 0)
theorem impl_PlanFor.mono_l : ∀ k, (∀ y0 y1 y2 y3 y4, LeO (impl_PlanFor.l0 k y0 y1 y2 y3 y4) (impl_PlanFor.l0 (k + 1) y0 y1 y2 y3 y4))
 | 0 => fun _ _ _ _ _ r h => by simp [impl_PlanFor.l0] at h
 | k + 1 => by
  have ih0 := impl_PlanFor.mono_l k
  ·
   intro y0 y1 y2 y3 y4
   unfold impl_PlanFor.l0
   repeat' first | (with_reducible first | exact LeO.refl _ | exact LeO.none _ | refine LeO.ite ?_ ?_ | refine LeO.bind ?_ (fun _ => ?_) | exact ih0 _ _ _ _ _ | exact impl_CoverOf.mono _ _ | exact impl_IsPlan.mono _ _ _ | exact impl_LeastGreen.mono _ _ _)
theorem impl_PlanFor.mono : ∀ a0 k, LeO (impl_PlanFor.f k a0) (impl_PlanFor.f (k + 1) a0) := by
 intro a0 k
 have ih0 := impl_PlanFor.mono_l k
 unfold impl_PlanFor.f
 repeat' first | (with_reducible first | exact LeO.refl _ | exact LeO.none _ | refine LeO.ite ?_ ?_ | refine LeO.bind ?_ (fun _ => ?_) | exact ih0 _ _ _ _ _ | exact impl_CoverOf.mono _ _ | exact impl_IsPlan.mono _ _ _ | exact impl_LeastGreen.mono _ _ _)
theorem impl_PlanFor.retag {α β : Type} {d : Kd α} {d' : Kd β} {e base : Nat} {w : World} {ok : Nat → Prop} {v : Value} (hs : d'.sz = d.sz) (h : d.R e w base ok v ([] : List α)) : d'.R e w base ok v ([] : List β) := by
  obtain ⟨h0, inner, ho, hr⟩ := h
  have hi : inner = [] := List.eq_nil_of_length_eq_zero (by rw [hr.1]; simp)
  subst hi
  exact ⟨h0, [], by rw [hs]; exact ho, ⟨by simp, fun j p hj => by simp at hj⟩⟩
theorem impl_PlanFor.toS {α : Type} {d : Kd α} {f : Nat → Nat} {e base : Nat} {w : World} {ok : Nat → Prop} {v : Value} {xs : List α} (h : (Kd.tag f d).R e w base ok v xs.zipIdx) : Kd.S d e w base ok v xs := ⟨f, h⟩
theorem impl_PlanFor.nilS {α : Type} {d : Kd α} {e base : Nat} {w : World} {ok : Nat → Prop} {v : Value} (h : d.R e w base ok v ([] : List α)) : Kd.S d e w base ok v ([] : List α) := ⟨fun _ => 0, (impl_PlanFor.retag (d := d) (d' := Kd.tag (fun _ => 0) d) rfl h : (Kd.tag (fun _ => 0) d).R e w base ok v ([] : List (α × Nat)))⟩
theorem impl_PlanFor.el {f : Nat → Nat} {e base n c : Nat} {w : World} {ok : Nat → Prop} {ad : Addr} {xs : List (List Int)} (h : (Kd.tag f (Kd.slice 3 (Kd.int .i64))).R e w base ok (.slice (some ad) n c) xs.zipIdx) (j : Nat) (hj : j < xs.length) :
    ∃ v, w.cell? (ad.add j) = some v ∧ (Kd.int .i64).R 3 w base (fun k => (ok k ∧ some k ≠ (Value.slice (some ad) n c).ownBlock) ∧ f k = j) v (xs.getD j ([] : List Int)) := by
  have h1 := Kd.R_reads' (Kd.S_R (impl_PlanFor.toS h))
  obtain ⟨h0, inner, ho, hr⟩ := h
  have h2 := hr.2 j (xs[j], j) (Kd.zip_at (List.getElem?_eq_getElem hj))
  obtain ⟨v, hv, hR⟩ := h2
  have e1 : xs.getD j ([] : List Int) = xs[j] := by simp [List.getD_eq_getElem?_getD, List.getElem?_eq_getElem hj]
  have hi : inner[j]? = some v := by
    have h3 : ((inner.drop (j * 1)).take 1)[0]? = some v := by
      rw [show (inner.drop (j * 1)).take 1 = [v] from hv]
      rfl
    rw [List.getElem?_take, if_pos (by decide), List.getElem?_drop] at h3
    simpa using h3
  refine ⟨v, ?_, by rw [e1]; exact hR⟩
  rcases ho.2 with ⟨hq, _⟩ | ⟨g, c', cur, hq, _, hh, _, _, _, ht⟩
  · cases hq
  · injection hq with ha _ _
    injection ha with ha
    subst ha
    rw [add_at, cell_of_row w g _ cur e (0, 0) hh, ← Array.getElem?_toList]
    have ht' : cur.toList.take (xs.zipIdx.length * 1) = inner := ht
    rw [← ht', List.getElem?_take] at hi
    split at hi
    · simpa using hi
    · cases hi
set_option maxHeartbeats 8000000 in
set_option maxRecDepth 100000 in
theorem impl_PlanFor.calls (k : Nat) (A0 : Option Addr) (c0 : Nat) (l0 : List (S89)) (r : List (S92)) (w : World) (hr0 : Kd.C k89 w A0 l0.length l0) (hc0 : l0.length ≤ c0) (h : impl_PlanFor.f k l0 = some r) :
  Calls Try.prog 36 #[.slice A0 l0.length c0] w fun e w' => ∃ v0_ : Value, e = .returned (v0_) ∧ Kd.S k92 92 w' w.heap.size (fun _ => True) v0_ r ∧ Below w.heap.size w w' := by
 have hu92 := Try.underlying92
 have HR0 := Aside0.mk hr0
 have HC0 := Aside0.mk hc0
 clear hr0 hc0
 have HB := Aside0.mk (Below.refl w.heap.size w)
 have H : ((impl_CoverOf.f k l0).bind fun t408 => (impl_PlanFor.l0 k l0 (([] : List (S92))) t408 (t408.length : Int) 0)) = some r := h
 clear h
 obtain ⟨y405, hy405⟩ : ∃ y_ : List (S92), y_ = (([] : List (S92))) := ⟨_, rfl⟩
 replace H : ((impl_CoverOf.f k l0).bind fun t408 => (impl_PlanFor.l0 k l0 y405 t408 (t408.length : Int) 0)) = some r := rH H hy405
 have Ny405 := Aside0.mk hy405
 clear hy405
 obtain ⟨t408, A2, H⟩ := bindE H
 try dsimp only at H
 have H' := Aside0.mk H
 clear H
 go_enter Try.func36, Try.ntmps36
 go_wp2_with (first | ((with_reducible refine gate_dst (N := 6) rfl ?_); refine Kd.R_lit k92 _ 92 ?hg (N := 6) ?hd (xs := ([] : List (S92))) (inner := []) (ok := fun _ => True) (okp := fun _ => True) ?hr ?hp (fun _ hk => hk) trivial (Below.refl _ _) (Nat.le_refl _) (by simp) ?_; (case hd => rfl); (case hg => rfl); (case hr => first | (go_simp; done) | (go_simp; rfl)); (case hp => exact (Reps.none _ _)); intro v406 w3 ho4 hb hg_ hnew_; clear hg_ hnew_; have HO407 := Aside0.mk (Kd.R_lower ho4 (below_size bA)); replace HB := Aside0.mk (below_step bA hb); clear hb ho4) | ((with_reducible refine gate_callee (f := 76) rfl ?_); refine gL (some 8) Try.func76 #[.slice A0 l0.length c0] ?_; (with_reducible refine (impl_CoverOf.calls k _ _ l0 t408 _ ?side1 ?side2 A2.out).mono ?_); (case side1 => exact cB HR0); (case side2 => exact HC0.out); rintro e w5 ⟨v409, rfl, ⟨f_, ho0⟩, hb⟩; refine ⟨_, rfl, ?_⟩; have n0_ := Aside0.mk (impl_PlanFor.retag (d := k92) (d' := Kd.tag f_ k92) rfl (Kd.R_below (rK HO407) hb)); have n1_ := Aside0.mk (Kd.R_lower (Kd.R_mono (ok' := fun k_ => True ∧ some k_ ≠ (v406 : Value).ownBlock) (Kd.R_bound ho0) (fun k_ hk_ => ⟨trivial, fun e_ => Nat.not_lt.2 hk_.2.1 (Kd.R_lt (rK HO407) k_ e_.symm)⟩)) (below_size bA)); have n2_ := Aside0.mk (below_step bA hb); clear HO407; clear HB; have HO407 := n0_; have HO410 := n1_; have HB := n2_; clear n0_ n1_ n2_; (try clear hb); (try clear ho0); obtain ⟨Ao6, co6, eo6⟩ := Kd.R_slice HO410.out; rw [List.length_zipIdx] at eo6; subst eo6))
 go_loopg [3, 10] k (fun kq v3 v10 w' => ∃ (x3_1 : List (S92)) (x10_1 : Int), v10 = .int .i64 x10_1 ∧ Aside0 (impl_PlanFor.l0 kq l0 x3_1 t408 (t408.length : Int) x10_1 = some r) ∧ Aside0 (kq ≤ k) ∧ Aside0 ((Kd.tag f_ k92).R 92 w' w.heap.size (fun _ => True) v3 x3_1.zipIdx) ∧ Aside0 ((Kd.tag f_ (Kd.slice 3 (Kd.int .i64))).R 41 w' w.heap.size (fun k_ => True ∧ some k_ ≠ (v3 : Value).ownBlock) (.slice Ao6 t408.length co6) t408.zipIdx) ∧ Aside0 ((x3_1.length : Int) = x10_1) ∧ Aside0 (Below w.heap.size w w'))
 case atStart => exact ⟨(y405), (0), rS, H', ⟨Nat.le_refl _⟩, ⟨by rw [Ny405.out]; (with_reducible repeat (first | apply Kd.R_alloc | apply Kd.R_drewN | apply Kd.R_drew)); exact HO407.out⟩, ⟨by (with_reducible repeat (first | apply Kd.R_alloc | apply Kd.R_drewN | apply Kd.R_drew)); exact HO410.out⟩, ⟨by rw [Ny405.out]; rfl⟩, ⟨bA⟩⟩
 case round =>
  clear H'
  try clear p2
  try clear c3
  obtain ⟨x3_1, x10_1, rfl, HA, HK1, HO_3, HO_8, HN, HB⟩ := hrel
  cases gk with
  | zero => exact absurd HA.out (by simp [impl_PlanFor.l0])
  | succ k1 =>
   have H := HA.out
   clear HA
   simp only [impl_PlanFor.l0] at H
   by_cases c7 : x10_1 < (t408.length : Int)
   ·
    rw [if_pos c7] at H
    have c7b0 := decide_eq_true c7
    clear c7
    have c8 : 0 ≤ x10_1 := ifN H
    replace H := ifT H
    have c8b0 := decide_eq_true c8
    clear c8
    have c9 : x10_1 < (t408.length : Int) := ifN H
    replace H := ifT H
    have c9b0 := decide_eq_true c9
    clear c9
    obtain ⟨t412, A10, H⟩ := bindE H
    try dsimp only at H
    have c11 : x3_1.length < 4398046511104 := ifN H
    replace H := ifT H
    have LMc11 := Aside0.mk c11
    clear c11
    obtain ⟨y413, hy413⟩ : ∃ y_ : List (S92), y_ = (x3_1 ++ [(⟨rd_L3 t408 x10_1, t412⟩ : S92)]) := ⟨_, rfl⟩
    replace H : (impl_PlanFor.l0 k1 l0 y413 t408 (t408.length : Int) (wrap64 (x10_1 + 1))) = some r := rH H hy413
    have Ny413 := Aside0.mk hy413
    clear hy413
    have H' := Aside0.mk H
    clear H
    have p411 : 0 ≤ (x10_1 : Int) := dA
    have q411 : x10_1 < (t408.length : Int) := dA
    obtain ⟨ad411, A411_0, c411_0, e411, hx411_0, hl411_0, hi411_0⟩ := at_L3 (Kd.R_reads' (Kd.S_R (impl_PlanFor.toS HO_8.out))).2.2 x10_1 p411 q411
    cases e411
    obtain ⟨ve411, hve411, hRe411⟩ := impl_PlanFor.el HO_8.out x10_1.toNat (by omega)
    obtain rfl := Option.some.inj (hve411.symm.trans hx411_0)
    have HL411_0 := Aside0.mk (hRe411)
    have HR411_0 := Aside0.mk hi411_0
    have HC411_0 := Aside0.mk hl411_0
    clear hi411_0 hl411_0
    replace p411 := eq_true p411
    replace q411 := eq_true q411
    go_wp2_with (first | ((with_reducible refine gate_callee (f := 77) rfl ?_); refine gL (some 18) Try.func77 #[.slice A0 l0.length c0, .slice A411_0 (rd_L3 t408 x10_1).length c411_0] ?_; (with_reducible refine (impl_LeastGreen.calls k1 _ _ l0 _ _ (rd_L3 t408 x10_1) t412 _ ?side1 ?side2 ?side3 ?side4 A10.out).mono ?_); (case side1 => exact cB HR0); (case side2 => exact HC0.out); (case side3 => repeat (first | exact (by repeat (first | (with_reducible exact HR411_0.out) | (with_reducible refine Kd.C_alloc ?_ _) | (with_reducible refine Kd.C_drewN ?_ _) | (with_reducible refine Kd.C_drew ?_) | exact HR411_0.out)) | (with_reducible refine Kd.C_alloc ?_ _) | (with_reducible refine Kd.C_drewN ?_ _) | (with_reducible refine Kd.C_drew ?_))); (case side4 => exact HC411_0.out); rintro e w12 ⟨rfl, hb⟩; refine ⟨_, rfl, ?_⟩; have n0_ := Aside0.mk (Kd.R_below (by (with_reducible repeat (first | apply Kd.R_alloc | apply Kd.R_drewN | apply Kd.R_drew)); exact HO_3.out) hb); have n1_ := Aside0.mk (Kd.R_below (by (with_reducible repeat (first | apply Kd.R_alloc | apply Kd.R_drewN | apply Kd.R_drew)); exact HO_8.out) hb); have n2_ := Aside0.mk (Kd.R_below (by (with_reducible repeat (first | apply Kd.R_alloc | apply Kd.R_drewN | apply Kd.R_drew)); exact HL411_0.out) hb); have n3_ := Aside0.mk (Kd.C_below (by repeat (first | (with_reducible exact HR411_0.out) | (with_reducible refine Kd.C_alloc ?_ _) | (with_reducible refine Kd.C_drewN ?_ _) | (with_reducible refine Kd.C_drew ?_) | exact HR411_0.out)) hb); have n4_ := Aside0.mk (below_step bA hb); clear HO_3; clear HO_8; clear HL411_0; clear HR411_0; clear HB; have HO_3 := n0_; have HO_8 := n1_; have HL411_0 := n2_; have HR411_0 := n3_; have HB := n4_; clear n0_ n1_ n2_ n3_ n4_; (try clear hb)) | ((with_reducible refine gate_builtin (b := .append) (xs := #[.tmp 14, .tmp 20]) rfl ?_); at_builtin; refine Kd.R_append (Kd.tag f_ k92) (w0 := w) w.heap.size rfl (.tmp 14) (.tmp 20) 30 92 (.agg #[(.slice none 0 0), (.int .i64 0)]) 32 rfl Try.underlying30 info92 rfl (show 0 < k92.sz by decide) (by omega) u3 x3_1.zipIdx ((⟨rd_L3 t408 x10_1, t412⟩ : S92), x3_1.length) [.slice A411_0 (rd_L3 t408 x10_1).length c411_0, .int .i64 t412] (fun _ => True) (fun k_ => some k_ ≠ (u3 : Value).ownBlock) rfl rfl ?aP (fun _ hk => ⟨trivial, hk⟩) (fun _ _ => trivial) ?aO ?aB ?aS ?aL ?_; (case aP => have hz_ := Kd.R_mono HL411_0.out (fun k_ hk => (⟨hk.1.1.2, hk.2.trans (by have := HN.out; omega)⟩ : some k_ ≠ (u3 : Value).ownBlock ∧ f_ k_ = x3_1.length)); exact (show k92.M _ _ (fun k_ => some k_ ≠ (u3 : Value).ownBlock ∧ f_ k_ = x3_1.length) _ _ from k92_mkM _ _ _ (⟨rd_L3 t408 x10_1, t412⟩ : S92) (by (with_reducible repeat (first | apply Kd.R_alloc | apply Kd.R_drewN | apply Kd.R_drew)); exact hz_))); (case aB => exact bA); (case aO => exact (by (with_reducible repeat (first | apply Kd.R_alloc | apply Kd.R_drewN | apply Kd.R_drew)); exact HO_3.out)); (case aS => exact (below_size bA)); (case aL => have := LMc11.out; rw [List.length_zipIdx]; omega); intro v414 w13 ho hb hg hat; rw [← Kd.zip_snoc, ← Ny413.out] at ho; have n0_ := Aside0.mk (Kd.R_after (ok := fun _ => True) (by (with_reducible repeat (first | apply Kd.R_alloc | apply Kd.R_drewN | apply Kd.R_drew)); exact HO_8.out) hg hat); have n1_ := HL411_0; have n2_ := Aside0.mk (hb); have n3_ := Aside0.mk (ho); clear HO_8; clear HL411_0; clear HB; clear HO_3; have HO_8 := n0_; have HL411_0 := n1_; have HB := n2_; have HO415 := n3_; clear n0_ n1_ n2_ n3_; clear ho hb hg hat))
    go_roundg k1
    case measure => have := HK1.out; omega
    case rel => exact ⟨(y413), (wrap64 (x10_1 + 1)), rS, H', ⟨by have := HK1.out; omega⟩, ⟨by (with_reducible repeat (first | apply Kd.R_alloc | apply Kd.R_drewN | apply Kd.R_drew)); exact HO415.out⟩, ⟨by (with_reducible repeat (first | apply Kd.R_alloc | apply Kd.R_drewN | apply Kd.R_drew)); exact HO_8.out⟩, ⟨by (have h1_ := HN.out; have h2_ := LMc11.out; rw [Ny413.out, List.length_append, List.length_singleton]; unfold wrap64; omega)⟩, ⟨bA⟩⟩
   ·
    rw [if_neg c7] at H
    have c7b0 := decide_eq_false c7
    clear c7
    obtain ⟨t416, A14, H⟩ := bindE H
    try dsimp only at H
    by_cases c15 : t416 = true
    ·
     subst c15
     have H1 : (some x3_1) = some r := by rw [if_pos rfl] at H; exact H
     clear H
     have H := H1
     clear H1
     obtain rfl := Option.some.inj H
     obtain ⟨Ao16, co16, eo16⟩ := Kd.R_slice HO_3.out
     rw [List.length_zipIdx] at eo16
     subst eo16
     go_wp2_with (first | ((with_reducible refine gate_callee (f := 78) rfl ?_); refine gL (some 25) Try.func78 #[.slice A0 l0.length c0, .slice Ao16 x3_1.length co16] ?_; (with_reducible refine (impl_IsPlan.calls k1 _ _ l0 (fun k_ => True) _ _ x3_1 true _ ?side1 ?side2 ?side3 A14.out).mono ?_); (case side1 => exact cB HR0); (case side2 => exact HC0.out); (case side3 => exact Kd.N_V (Kd.R_N (Kd.S_R (impl_PlanFor.toS HO_3.out)))); rintro e w17 ⟨rfl, hb⟩; refine ⟨_, rfl, ?_⟩; have n0_ := Aside0.mk (Kd.R_below (by (with_reducible repeat (first | apply Kd.R_alloc | apply Kd.R_drewN | apply Kd.R_drew)); exact HO_3.out) hb); have n1_ := Aside0.mk (Kd.R_below (by (with_reducible repeat (first | apply Kd.R_alloc | apply Kd.R_drewN | apply Kd.R_drew)); exact HO_8.out) hb); have n2_ := Aside0.mk (below_step bA hb); clear HO_3; clear HO_8; clear HB; have HO_3 := n0_; have HO_8 := n1_; have HB := n2_; clear n0_ n1_ n2_; (try clear hb)))
     go_ret
     exact ⟨_, by first | rfl | (simp [errW_none, errW_some] <;> rfl) | (simp [*, errW_none, errW_some] <;> rfl), impl_PlanFor.toS (by (with_reducible repeat (first | apply Kd.R_alloc | apply Kd.R_drewN | apply Kd.R_drew)); exact HO_3.out), bA⟩
    ·
     replace c15 := Bool.eq_false_iff.mpr c15
     subst c15
     have H1 : (some (([] : List (S92)))) = some r := by rw [if_neg (show ¬ (false = true) by decide)] at H; exact H
     clear H
     have H := H1
     clear H1
     obtain ⟨y417, hy417⟩ : ∃ y_ : List (S92), y_ = (([] : List (S92))) := ⟨_, rfl⟩
     replace H : (some y417) = some r := rH H hy417
     have Ny417 := Aside0.mk hy417
     clear hy417
     obtain rfl := Option.some.inj H
     obtain ⟨Ao18, co18, eo18⟩ := Kd.R_slice HO_3.out
     rw [List.length_zipIdx] at eo18
     subst eo18
     go_wp2_with (first | ((with_reducible refine gate_callee (f := 78) rfl ?_); refine gL (some 25) Try.func78 #[.slice A0 l0.length c0, .slice Ao18 x3_1.length co18] ?_; (with_reducible refine (impl_IsPlan.calls k1 _ _ l0 (fun k_ => True) _ _ x3_1 false _ ?side1 ?side2 ?side3 A14.out).mono ?_); (case side1 => exact cB HR0); (case side2 => exact HC0.out); (case side3 => exact Kd.N_V (Kd.R_N (Kd.S_R (impl_PlanFor.toS HO_3.out)))); rintro e w19 ⟨rfl, hb⟩; refine ⟨_, rfl, ?_⟩; have n0_ := Aside0.mk (Kd.R_below (by (with_reducible repeat (first | apply Kd.R_alloc | apply Kd.R_drewN | apply Kd.R_drew)); exact HO_3.out) hb); have n1_ := Aside0.mk (Kd.R_below (by (with_reducible repeat (first | apply Kd.R_alloc | apply Kd.R_drewN | apply Kd.R_drew)); exact HO_8.out) hb); have n2_ := Aside0.mk (below_step bA hb); clear HO_3; clear HO_8; clear HB; have HO_3 := n0_; have HO_8 := n1_; have HB := n2_; clear n0_ n1_ n2_; (try clear hb)) | ((with_reducible refine gate_dst (N := 27) rfl ?_); refine Kd.R_lit k92 _ 92 ?hg (N := 27) ?hd (xs := ([] : List (S92))) (inner := []) (ok := fun _ => True) (okp := fun _ => True) ?hr ?hp (fun _ hk => hk) trivial (Below.refl _ _) (Nat.le_refl _) (by simp) ?_; (case hd => rfl); (case hg => rfl); (case hr => first | (go_simp; done) | (go_simp; rfl)); (case hp => exact (Reps.none _ _)); intro v418 w20 ho21 hb hg_ hnew_; clear hg_ hnew_; have n0_ := Aside0.mk (Kd.R_below (by (with_reducible repeat (first | apply Kd.R_alloc | apply Kd.R_drewN | apply Kd.R_drew)); exact HO_3.out) hb); have n1_ := Aside0.mk (Kd.R_below (by (with_reducible repeat (first | apply Kd.R_alloc | apply Kd.R_drewN | apply Kd.R_drew)); exact HO_8.out) hb); have n2_ := Aside0.mk (Kd.R_lower ho21 (below_size bA)); have n3_ := Aside0.mk (below_step bA hb); clear HO_3; clear HO_8; clear HB; have HO_3 := n0_; have HO_8 := n1_; have HO419 := n2_; have HB := n3_; clear n0_ n1_ n2_ n3_; clear hb ho21))
     go_ret
     exact ⟨_, by first | rfl | (simp [errW_none, errW_some] <;> rfl) | (simp [*, errW_none, errW_some] <;> rfl), by rw [Ny417.out]; exact impl_PlanFor.nilS (by (with_reducible repeat (first | apply Kd.R_alloc | apply Kd.R_drewN | apply Kd.R_drew)); exact HO419.out), bA⟩

/-! ### laws_heldIntS: function 32 -/
def laws_heldIntS.l0 : Nat → List Int → Int → Int → Option (Int)
 | 0, _, _, _ => none
 | k + 1, x0, x1, x5 => if x5 < (x0.length : Int) then (if 0 ≤ x5 then (if (rd x0 x5) = x1 then (laws_heldIntS.l0 k x0 (wrap64 (x1 + 1)) (wrap64 (x5 + 1))) else (some (-1))) else (none)) else (some x1)
def laws_heldIntS.f (k : Nat) (l0 : List Int) (a1 : Int) : Option (Int) := laws_heldIntS.l0 k l0 a1 0
theorem laws_heldIntS.mono_l : ∀ k, (∀ y0 y1 y2, LeO (laws_heldIntS.l0 k y0 y1 y2) (laws_heldIntS.l0 (k + 1) y0 y1 y2))
 | 0 => fun _ _ _ r h => by simp [laws_heldIntS.l0] at h
 | k + 1 => by
  have ih0 := laws_heldIntS.mono_l k
  ·
   intro y0 y1 y2
   unfold laws_heldIntS.l0
   repeat' first | (with_reducible first | exact LeO.refl _ | exact LeO.none _ | refine LeO.ite ?_ ?_ | refine LeO.bind ?_ (fun _ => ?_) | exact ih0 _ _ _)
theorem laws_heldIntS.mono : ∀ a0 a1 k, LeO (laws_heldIntS.f k a0 a1) (laws_heldIntS.f (k + 1) a0 a1) := by
 intro a0 a1 k
 have ih0 := laws_heldIntS.mono_l k
 unfold laws_heldIntS.f
 repeat' first | (with_reducible first | exact LeO.refl _ | exact LeO.none _ | refine LeO.ite ?_ ?_ | refine LeO.bind ?_ (fun _ => ?_) | exact ih0 _ _ _)
set_option maxHeartbeats 8000000 in
set_option maxRecDepth 100000 in
theorem laws_heldIntS.calls (k : Nat) (A0 : Option Addr) (c0 : Nat) (l0 : List Int) (a1 : Int) (r : Int) (w : World) (hr0 : Kd.C (Kd.int .i64) w A0 l0.length l0) (hc0 : l0.length ≤ c0) (h : laws_heldIntS.f k l0 a1 = some r) :
  Calls Try.prog 32 #[.slice A0 l0.length c0, .int .i64 a1] w fun e w' => e = .returned (.int .i64 r) ∧ Drawn0 w w' := by
 have HR0 := Aside0.mk hr0
 have HC0 := Aside0.mk hc0
 clear hr0 hc0
 have H : (laws_heldIntS.l0 k l0 a1 0) = some r := h
 clear h
 have H' := Aside0.mk H
 clear H
 go_enter Try.func32, Try.ntmps32
 go_wp2
 go_loopg [1, 5] k (fun kq v1 v5 w' => ∃ (x1_1 : Int) (x5_1 : Int), v1 = .int .i64 x1_1 ∧ v5 = .int .i64 x5_1 ∧ Aside0 (laws_heldIntS.l0 kq l0 x1_1 x5_1 = some r) ∧ Aside0 (kq ≤ k) ∧ Drawn0 w w')
 case atStart => exact ⟨(a1), (0), rS, rS, H', ⟨Nat.le_refl _⟩, by repeat (first | exact Drawn0.refl _ | apply Drawn0.step)⟩
 case round =>
  clear H'
  try clear p2
  obtain ⟨x1_1, x5_1, rfl, rfl, HA, HK1, ⟨m1, rfl⟩⟩ := hrel
  cases gk with
  | zero => exact absurd HA.out (by simp [laws_heldIntS.l0])
  | succ k1 =>
   have H := HA.out
   clear HA
   simp only [laws_heldIntS.l0] at H
   by_cases c3 : x5_1 < (l0.length : Int)
   ·
    rw [if_pos c3] at H
    have c3b0 := decide_eq_true c3
    clear c3
    have c4 : 0 ≤ x5_1 := ifN H
    replace H := ifT H
    have c4b0 := decide_eq_true c4
    clear c4
    by_cases c5 : (rd l0 x5_1) = x1_1
    ·
     rw [if_pos c5] at H
     have c5b0 : ((rd l0 x5_1) == x1_1) = true := beq_iff_eq.mpr c5
     have c5b1 : ((rd l0 x5_1) != x1_1) = false := bne_eq_false_iff_eq.mpr c5
     clear c5
     have H' := Aside0.mk H
     clear H
     have p420 : 0 ≤ (x5_1 : Int) := dA
     have q420 : x5_1 < (l0.length : Int) := dA
     obtain ⟨ad420, e420, hx420_0⟩ := Kd.at_int HR0.out x5_1 p420 q420
     cases e420
     replace p420 := eq_true p420
     replace q420 := eq_true q420
     go_wp2
     go_roundg k1
     case measure => have := HK1.out; omega
     case rel => exact ⟨(wrap64 (x1_1 + 1)), (wrap64 (x5_1 + 1)), rS, rS, H', ⟨by have := HK1.out; omega⟩, by repeat (first | exact Drawn0.refl _ | apply Drawn0.step)⟩
    ·
     rw [if_neg c5] at H
     have c5b0 : ((rd l0 x5_1) == x1_1) = false := beq_eq_false_iff_ne.mpr c5
     have c5b1 : ((rd l0 x5_1) != x1_1) = true := bne_iff_ne.mpr c5
     obtain rfl := Option.some.inj H
     have p420 : 0 ≤ (x5_1 : Int) := dA
     have q420 : x5_1 < (l0.length : Int) := dA
     obtain ⟨ad420, e420, hx420_0⟩ := Kd.at_int HR0.out x5_1 p420 q420
     cases e420
     replace p420 := eq_true p420
     replace q420 := eq_true q420
     go_wp2
     go_ret
     exact ⟨by first | rfl | (simp; done) | (simp [*]; done), by repeat (first | exact Drawn0.refl _ | apply Drawn0.step)⟩
   ·
    rw [if_neg c3] at H
    have c3b0 := decide_eq_false c3
    clear c3
    obtain rfl := Option.some.inj H
    go_wp2
    go_ret
    exact ⟨by first | rfl | (simp; done) | (simp [*]; done), by repeat (first | exact Drawn0.refl _ | apply Drawn0.step)⟩

/-! ### laws_heldPartS: function 37 -/
def laws_heldPartS.l0 : Nat → List (S92) → Int → Int → Option (Int)
 | 0, _, _, _ => none
 | k + 1, x0, x1, x5 => if x5 < (x0.length : Int) then (if 0 ≤ x5 then ((laws_heldIntS.f k ((rd_T92 x0 x5).f0) x1).bind fun t422 => (if t422 < 0 then (some (-1)) else (if ((rd_T92 x0 x5).f1) = t422 then (laws_heldPartS.l0 k x0 (wrap64 (t422 + 1)) (wrap64 (x5 + 1))) else (some (-1))))) else (none)) else (some x1)
def laws_heldPartS.f (k : Nat) (l0 : List (S92)) (a1 : Int) : Option (Int) := laws_heldPartS.l0 k l0 a1 0
theorem laws_heldPartS.mono_l : ∀ k, (∀ y0 y1 y2, LeO (laws_heldPartS.l0 k y0 y1 y2) (laws_heldPartS.l0 (k + 1) y0 y1 y2))
 | 0 => fun _ _ _ r h => by simp [laws_heldPartS.l0] at h
 | k + 1 => by
  have ih0 := laws_heldPartS.mono_l k
  ·
   intro y0 y1 y2
   unfold laws_heldPartS.l0
   repeat' first | (with_reducible first | exact LeO.refl _ | exact LeO.none _ | refine LeO.ite ?_ ?_ | refine LeO.bind ?_ (fun _ => ?_) | exact ih0 _ _ _ | exact laws_heldIntS.mono _ _ _)
theorem laws_heldPartS.mono : ∀ a0 a1 k, LeO (laws_heldPartS.f k a0 a1) (laws_heldPartS.f (k + 1) a0 a1) := by
 intro a0 a1 k
 have ih0 := laws_heldPartS.mono_l k
 unfold laws_heldPartS.f
 repeat' first | (with_reducible first | exact LeO.refl _ | exact LeO.none _ | refine LeO.ite ?_ ?_ | refine LeO.bind ?_ (fun _ => ?_) | exact ih0 _ _ _ | exact laws_heldIntS.mono _ _ _)
set_option maxHeartbeats 8000000 in
set_option maxRecDepth 100000 in
theorem laws_heldPartS.calls (k : Nat) (A0 : Option Addr) (c0 : Nat) (l0 : List (S92)) (a1 : Int) (r : Int) (w : World) (hr0 : Kd.C k92 w A0 l0.length l0) (hc0 : l0.length ≤ c0) (h : laws_heldPartS.f k l0 a1 = some r) :
  Calls Try.prog 37 #[.slice A0 l0.length c0, .int .i64 a1] w fun e w' => e = .returned (.int .i64 r) ∧ Drawn0 w w' := by
 have HR0 := Aside0.mk hr0
 have HC0 := Aside0.mk hc0
 clear hr0 hc0
 have H : (laws_heldPartS.l0 k l0 a1 0) = some r := h
 clear h
 have H' := Aside0.mk H
 clear H
 go_enter Try.func37, Try.ntmps37
 go_wp2
 go_loopg [1, 5] k (fun kq v1 v5 w' => ∃ (x1_1 : Int) (x5_1 : Int), v1 = .int .i64 x1_1 ∧ v5 = .int .i64 x5_1 ∧ Aside0 (laws_heldPartS.l0 kq l0 x1_1 x5_1 = some r) ∧ Aside0 (kq ≤ k) ∧ Drawn0 w w')
 case atStart => exact ⟨(a1), (0), rS, rS, H', ⟨Nat.le_refl _⟩, by repeat (first | exact Drawn0.refl _ | apply Drawn0.step)⟩
 case round =>
  clear H'
  try clear p2
  obtain ⟨x1_1, x5_1, rfl, rfl, HA, HK1, ⟨m1, rfl⟩⟩ := hrel
  cases gk with
  | zero => exact absurd HA.out (by simp [laws_heldPartS.l0])
  | succ k1 =>
   have H := HA.out
   clear HA
   simp only [laws_heldPartS.l0] at H
   by_cases c3 : x5_1 < (l0.length : Int)
   ·
    rw [if_pos c3] at H
    have c3b0 := decide_eq_true c3
    clear c3
    have c4 : 0 ≤ x5_1 := ifN H
    replace H := ifT H
    have c4b0 := decide_eq_true c4
    clear c4
    obtain ⟨t422, A5, H⟩ := bindE H
    try dsimp only at H
    by_cases c6 : t422 < 0
    ·
     rw [if_pos c6] at H
     have c6b0 := decide_eq_true c6
     clear c6
     obtain rfl := Option.some.inj H
     have p421 : 0 ≤ (x5_1 : Int) := dA
     have q421 : x5_1 < (l0.length : Int) := dA
     obtain ⟨ad421, A421_0, c421_0, e421, hx421_0, hx421_1, hl421_0, hi421_0⟩ := at_T92 HR0.out x5_1 p421 q421
     cases e421
     have HR421_0 := Aside0.mk hi421_0
     have HC421_0 := Aside0.mk hl421_0
     clear hi421_0 hl421_0
     replace p421 := eq_true p421
     replace q421 := eq_true q421
     go_wp2_with (first | ((with_reducible refine gate_callee (f := 32) rfl ?_); refine gL (some 18) Try.func32 #[.slice A421_0 ((rd_T92 l0 x5_1).f0).length c421_0, .int .i64 x1_1] ?_; (with_reducible refine (laws_heldIntS.calls k1 _ _ ((rd_T92 l0 x5_1).f0) x1_1 t422 _ ?side1 ?side2 A5.out).mono ?_); (case side1 => exact cO HR421_0); (case side2 => exact HC421_0.out); rintro e w' ⟨rfl, ⟨nd, rfl⟩⟩; refine ⟨_, rfl, ?_⟩))
     go_ret
     exact ⟨by first | rfl | (simp; done) | (simp [*]; done), by repeat (first | exact Drawn0.refl _ | apply Drawn0.step)⟩
    ·
     rw [if_neg c6] at H
     have c6b0 := decide_eq_false c6
     clear c6
     by_cases c7 : ((rd_T92 l0 x5_1).f1) = t422
     ·
      rw [if_pos c7] at H
      have c7b0 : (((rd_T92 l0 x5_1).f1) == t422) = true := beq_iff_eq.mpr c7
      have c7b1 : (((rd_T92 l0 x5_1).f1) != t422) = false := bne_eq_false_iff_eq.mpr c7
      clear c7
      have H' := Aside0.mk H
      clear H
      have p421 : 0 ≤ (x5_1 : Int) := dA
      have q421 : x5_1 < (l0.length : Int) := dA
      obtain ⟨ad421, A421_0, c421_0, e421, hx421_0, hx421_1, hl421_0, hi421_0⟩ := at_T92 HR0.out x5_1 p421 q421
      cases e421
      have HR421_0 := Aside0.mk hi421_0
      have HC421_0 := Aside0.mk hl421_0
      clear hi421_0 hl421_0
      replace p421 := eq_true p421
      replace q421 := eq_true q421
      go_wp2_with (first | ((with_reducible refine gate_callee (f := 32) rfl ?_); refine gL (some 18) Try.func32 #[.slice A421_0 ((rd_T92 l0 x5_1).f0).length c421_0, .int .i64 x1_1] ?_; (with_reducible refine (laws_heldIntS.calls k1 _ _ ((rd_T92 l0 x5_1).f0) x1_1 t422 _ ?side1 ?side2 A5.out).mono ?_); (case side1 => exact cO HR421_0); (case side2 => exact HC421_0.out); rintro e w' ⟨rfl, ⟨nd, rfl⟩⟩; refine ⟨_, rfl, ?_⟩; have p423 : 0 ≤ (x5_1 : Int) := dA; have q423 : x5_1 < (l0.length : Int) := dA; obtain ⟨ad423, A423_0, c423_0, e423, hx423_0, hx423_1, hl423_0, hi423_0⟩ := at_T92 HR0.out x5_1 p423 q423; obtain rfl : ad421 = ad423 := (by injection e423); have HR423_0 := Aside0.mk hi423_0; have HC423_0 := Aside0.mk hl423_0; clear hi423_0 hl423_0; replace p423 := eq_true p423; replace q423 := eq_true q423; have ea_ := Option.some.inj (hx421_0.symm.trans hx423_0); injection ea_ with ea_ en_ ec_; subst ea_; subst ec_; clear en_))
      go_roundg k1
      case measure => have := HK1.out; omega
      case rel => exact ⟨(wrap64 (t422 + 1)), (wrap64 (x5_1 + 1)), rS, rS, H', ⟨by have := HK1.out; omega⟩, by repeat (first | exact Drawn0.refl _ | apply Drawn0.step)⟩
     ·
      rw [if_neg c7] at H
      have c7b0 : (((rd_T92 l0 x5_1).f1) == t422) = false := beq_eq_false_iff_ne.mpr c7
      have c7b1 : (((rd_T92 l0 x5_1).f1) != t422) = true := bne_iff_ne.mpr c7
      obtain rfl := Option.some.inj H
      have p421 : 0 ≤ (x5_1 : Int) := dA
      have q421 : x5_1 < (l0.length : Int) := dA
      obtain ⟨ad421, A421_0, c421_0, e421, hx421_0, hx421_1, hl421_0, hi421_0⟩ := at_T92 HR0.out x5_1 p421 q421
      cases e421
      have HR421_0 := Aside0.mk hi421_0
      have HC421_0 := Aside0.mk hl421_0
      clear hi421_0 hl421_0
      replace p421 := eq_true p421
      replace q421 := eq_true q421
      go_wp2_with (first | ((with_reducible refine gate_callee (f := 32) rfl ?_); refine gL (some 18) Try.func32 #[.slice A421_0 ((rd_T92 l0 x5_1).f0).length c421_0, .int .i64 x1_1] ?_; (with_reducible refine (laws_heldIntS.calls k1 _ _ ((rd_T92 l0 x5_1).f0) x1_1 t422 _ ?side1 ?side2 A5.out).mono ?_); (case side1 => exact cO HR421_0); (case side2 => exact HC421_0.out); rintro e w' ⟨rfl, ⟨nd, rfl⟩⟩; refine ⟨_, rfl, ?_⟩; have p423 : 0 ≤ (x5_1 : Int) := dA; have q423 : x5_1 < (l0.length : Int) := dA; obtain ⟨ad423, A423_0, c423_0, e423, hx423_0, hx423_1, hl423_0, hi423_0⟩ := at_T92 HR0.out x5_1 p423 q423; obtain rfl : ad421 = ad423 := (by injection e423); have HR423_0 := Aside0.mk hi423_0; have HC423_0 := Aside0.mk hl423_0; clear hi423_0 hl423_0; replace p423 := eq_true p423; replace q423 := eq_true q423; have ea_ := Option.some.inj (hx421_0.symm.trans hx423_0); injection ea_ with ea_ en_ ec_; subst ea_; subst ec_; clear en_))
      go_ret
      exact ⟨by first | rfl | (simp; done) | (simp [*]; done), by repeat (first | exact Drawn0.refl _ | apply Drawn0.step)⟩
   ·
    rw [if_neg c3] at H
    have c3b0 := decide_eq_false c3
    clear c3
    obtain rfl := Option.some.inj H
    go_wp2
    go_ret
    exact ⟨by first | rfl | (simp; done) | (simp [*]; done), by repeat (first | exact Drawn0.refl _ | apply Drawn0.step)⟩

/-! ### laws_FnExactPlanFor: function 6 -/
def laws_FnExactPlanFor.j0 : Nat → List (S91) → List (S92) → List (S92) → Bool → Option (Bool)
 | 0, _, _, _, _ => none
 | k + 1, x0, x4, x6, x42 => if x42 = true then (none) else ((laws_markPartS.f k x6 1).bind fun bt445 => ((laws_heldPartS.f k bt445.2 1).bind fun t447 => (if t447 < 0 then (none) else (if t447 = bt445.1 then ((laws_toPathS.f k x0).bind fun t448 => ((impl_PlanFor.f k t448).bind fun t451 => ((laws_eqPartS.f k t451 x4).bind fun t454 => (if t454 = true then ((laws_heldPartS.f k bt445.2 1).bind fun t455 => (if t455 < 0 then (none) else (if t455 = bt445.1 then (some true) else (none)))) else (none))))) else (none)))))
def laws_FnExactPlanFor.f (k : Nat) (l0 : List (S91)) : Option (Bool) := (laws_szPathS.f l0 1048576).bind fun t424 => (if t424 < 0 then (some true) else ((laws_toPathS.f k l0).bind fun t425 => ((spec_PlanFor.f k t425).bind fun t428 => ((laws_toPathS.f k l0).bind fun t431 => ((impl_PlanFor.f k t431).bind fun t434 => ((laws_eqPartS.f k t434 t428).bind fun t437 => (if t437 = true then ((laws_toPathS.f k l0).bind fun t438 => ((laws_eqPathS.f k t431 t438).bind fun t441 => (if t441 = true then ((laws_markPathS.f k t431 1).bind fun bt442 => (if bt442.1 < 0 then (laws_FnExactPlanFor.j0 k l0 t428 t434 true) else ((laws_eqPartS.f k t434 t428).bind fun t444 => (laws_FnExactPlanFor.j0 k l0 t428 t434 (!t444))))) else (none)))) else (none))))))))
theorem laws_FnExactPlanFor.mono_l : ∀ k, (∀ y0 y1 y2 y3, LeO (laws_FnExactPlanFor.j0 k y0 y1 y2 y3) (laws_FnExactPlanFor.j0 (k + 1) y0 y1 y2 y3))
 | 0 => fun _ _ _ _ r h => by simp [laws_FnExactPlanFor.j0] at h
 | k + 1 => by
  have ih0 := laws_FnExactPlanFor.mono_l k
  ·
   intro y0 y1 y2 y3
   unfold laws_FnExactPlanFor.j0
   repeat' first | (with_reducible first | exact LeO.refl _ | exact LeO.none _ | refine LeO.ite ?_ ?_ | refine LeO.bind ?_ (fun _ => ?_) | exact ih0 _ _ _ _ | exact impl_PlanFor.mono _ _ | exact laws_eqPartS.mono _ _ _ | exact laws_eqPathS.mono _ _ _ | exact laws_heldPartS.mono _ _ _ | exact laws_markPartS.mono _ _ _ | exact laws_markPathS.mono _ _ _ | exact laws_toPathS.mono _ _ | exact spec_PlanFor.mono _ _)
theorem laws_FnExactPlanFor.mono : ∀ a0 k, LeO (laws_FnExactPlanFor.f k a0) (laws_FnExactPlanFor.f (k + 1) a0) := by
 intro a0 k
 have ih0 := laws_FnExactPlanFor.mono_l k
 unfold laws_FnExactPlanFor.f
 repeat' first | (with_reducible first | exact LeO.refl _ | exact LeO.none _ | refine LeO.ite ?_ ?_ | refine LeO.bind ?_ (fun _ => ?_) | exact ih0 _ _ _ _ | exact impl_PlanFor.mono _ _ | exact laws_eqPartS.mono _ _ _ | exact laws_eqPathS.mono _ _ _ | exact laws_heldPartS.mono _ _ _ | exact laws_markPartS.mono _ _ _ | exact laws_markPathS.mono _ _ _ | exact laws_toPathS.mono _ _ | exact spec_PlanFor.mono _ _)
theorem laws_FnExactPlanFor.split {α β : Type} {d : Kd α} {d' : Kd β} {e e' : Nat} {W w1 : World} {base : Nat} {v u : Value} {xs : List α} {ys : List β} (h0 : Kd.S d e w1 W.heap.size (fun _ => True) v xs) (ho : Kd.S d' e' W base (fun _ => True) u ys) (hb : Below W.heap.size W w1) (hl : base ≤ W.heap.size) :
    ∃ B : Nat, Kd.S d e w1 base (fun k => some k ≠ u.ownBlock ∧ B ≤ k) v xs ∧ Kd.S d' e' w1 base (fun k => some k ≠ v.ownBlock ∧ k < B) u ys :=
  ⟨W.heap.size, Kd.S_lower (Kd.S_mono (Kd.S_bound h0) (fun k hk => ⟨fun e => Nat.not_lt.2 hk.2.1 (Kd.S_lt ho k e.symm), hk.2.1⟩)) hl, Kd.S_below (Kd.S_mono (Kd.S_bound ho) (fun k hk => ⟨fun e => Nat.not_lt.2 (Kd.S_base h0 k e.symm) hk.2.2.1, hk.2.2.1⟩)) hb⟩
set_option maxHeartbeats 8000000 in
set_option maxRecDepth 100000 in
theorem laws_FnExactPlanFor.calls (k : Nat) (A0 : Option Addr) (c0 : Nat) (l0 : List (S91)) (r : Bool) (w : World) (hr0 : Kd.C k91 w A0 l0.length l0) (hc0 : l0.length ≤ c0) (h : laws_FnExactPlanFor.f k l0 = some r) :
  Calls Try.prog 6 #[.slice A0 l0.length c0] w fun e w' => e = .returned (.bool r) ∧ Below w.heap.size w w' := by
 have HR0 := Aside0.mk hr0
 have HC0 := Aside0.mk hc0
 clear hr0 hc0
 have HB := Aside0.mk (Below.refl w.heap.size w)
 have H : ((laws_szPathS.f l0 1048576).bind fun t424 => (if t424 < 0 then (some true) else ((laws_toPathS.f k l0).bind fun t425 => ((spec_PlanFor.f k t425).bind fun t428 => ((laws_toPathS.f k l0).bind fun t431 => ((impl_PlanFor.f k t431).bind fun t434 => ((laws_eqPartS.f k t434 t428).bind fun t437 => (if t437 = true then ((laws_toPathS.f k l0).bind fun t438 => ((laws_eqPathS.f k t431 t438).bind fun t441 => (if t441 = true then ((laws_markPathS.f k t431 1).bind fun bt442 => (if bt442.1 < 0 then (laws_FnExactPlanFor.j0 k l0 t428 t434 true) else ((laws_eqPartS.f k t434 t428).bind fun t444 => (laws_FnExactPlanFor.j0 k l0 t428 t434 (!t444))))) else (none)))) else (none))))))))) = some r := h
 clear h
 obtain ⟨t424, A2, H⟩ := bindE H
 try dsimp only at H
 by_cases c3 : t424 < 0
 ·
  rw [if_pos c3] at H
  have c3b0 := decide_eq_true c3
  clear c3
  obtain rfl := Option.some.inj H
  go_enter Try.func6, Try.ntmps6
  go_wp2_with (first | ((with_reducible refine gate_callee (f := 11) rfl ?_); refine gL (some 13) Try.func11 #[.slice A0 l0.length c0, .int .i64 1048576] ?_; (with_reducible refine (laws_szPathS.calls _ _ l0 1048576 t424 _ ?side1 ?side2 A2.out).mono ?_); (case side1 => exact cO HR0); (case side2 => exact HC0.out); rintro e w' ⟨rfl, ⟨nd, rfl⟩⟩; refine ⟨_, rfl, ?_⟩))
  go_ret
  exact ⟨rA, bA⟩
 ·
  rw [if_neg c3] at H
  have c3b0 := decide_eq_false c3
  clear c3
  obtain ⟨t425, A4, H⟩ := bindE H
  try dsimp only at H
  obtain ⟨t428, A5, H⟩ := bindE H
  try dsimp only at H
  obtain ⟨t431, A6, H⟩ := bindE H
  try dsimp only at H
  obtain ⟨t434, A7, H⟩ := bindE H
  try dsimp only at H
  obtain ⟨t437, A8, H⟩ := bindE H
  try dsimp only at H
  have c9 := ifN H
  replace H := ifT H
  subst c9
  obtain ⟨t438, A10, H⟩ := bindE H
  try dsimp only at H
  obtain ⟨t441, A11, H⟩ := bindE H
  try dsimp only at H
  have c12 := ifN H
  replace H := ifT H
  subst c12
  obtain ⟨⟨t442, t443⟩, A13, H⟩ := bindE H
  try dsimp only at H
  have HC14 := Aside0.mk H
  clear H
  go_enter Try.func6, Try.ntmps6
  go_upto_region 14 with (first | ((with_reducible refine gate_callee (f := 11) rfl ?_); refine gL (some 13) Try.func11 #[.slice A0 l0.length c0, .int .i64 1048576] ?_; (with_reducible refine (laws_szPathS.calls _ _ l0 1048576 t424 _ ?side1 ?side2 A2.out).mono ?_); (case side1 => exact cO HR0); (case side2 => exact HC0.out); rintro e w' ⟨rfl, ⟨nd, rfl⟩⟩; refine ⟨_, rfl, ?_⟩) | ((with_reducible refine gate_callee (f := 14) rfl ?_); refine gL (some 17) Try.func14 #[.slice A0 l0.length c0] ?_; (with_reducible refine (laws_toPathS.calls k _ _ l0 t425 _ ?side1 ?side2 A4.out).mono ?_); (case side1 => exact cO HR0); (case side2 => exact HC0.out); rintro e w15 ⟨v426, rfl, ho0, hb⟩; refine ⟨_, rfl, ?_⟩; have HO427 := Aside0.mk (Kd.R_lower ho0 (below_size bA)); replace HB := Aside0.mk (below_step bA hb); (try clear hb); (try clear ho0); obtain ⟨Ao16, co16, eo16⟩ := Kd.R_slice HO427.out; subst eo16) | ((with_reducible refine gate_callee (f := 35) rfl ?_); refine gL (some 18) Try.func35 #[.slice Ao16 t425.length co16] ?_; (with_reducible refine (spec_PlanFor.calls k _ _ t425 t428 _ ?side1 ?side2 A5.out).mono ?_); (case side1 => exact cO ⟨(Kd.R_reads' HO427.out).2.2⟩); (case side2 => exact (Kd.R_reads' HO427.out).2.1); rintro e w17 ⟨v429, rfl, ho0, hb⟩; refine ⟨_, rfl, ?_⟩; replace HO427 := Aside0.mk (Kd.R_below (rK HO427) hb); have HO430 := Aside0.mk (Kd.S_lower ho0 (below_size bA)); replace HB := Aside0.mk (below_step bA hb); (try clear hb); (try clear ho0)) | ((with_reducible refine gate_callee (f := 14) rfl ?_); refine gL (some 20) Try.func14 #[.slice A0 l0.length c0] ?_; (with_reducible refine (laws_toPathS.calls k _ _ l0 t431 _ ?side1 ?side2 A6.out).mono ?_); (case side1 => exact cB HR0); (case side2 => exact HC0.out); rintro e w18 ⟨v432, rfl, ho0, hb⟩; refine ⟨_, rfl, ?_⟩; replace HO430 := Aside0.mk (Kd.S_below (sK HO430) hb); have HO433 := Aside0.mk (Kd.R_lower (Kd.R_new' ho0 (Kd.R_lt (rK HO427))) (below_size bA)); replace HO427 := Aside0.mk (Kd.R_elder' (rK HO427) (Kd.R_base ho0) hb); replace HB := Aside0.mk (below_step bA hb); (try clear hb); (try clear ho0); obtain ⟨Ao19, co19, eo19⟩ := Kd.R_slice HO433.out; subst eo19) | ((with_reducible refine gate_callee (f := 36) rfl ?_); refine gL (some 22) Try.func36 #[.slice Ao19 t431.length co19] ?_; (with_reducible refine (impl_PlanFor.calls k _ _ t431 t434 _ ?side1 ?side2 A7.out).mono ?_); (case side1 => exact cO ⟨(Kd.R_reads' HO433.out).2.2⟩); (case side2 => exact (Kd.R_reads' HO433.out).2.1); rintro e w20 ⟨v435, rfl, ho0, hb⟩; refine ⟨_, rfl, ?_⟩; replace HO427 := Aside0.mk (Kd.R_below (rK HO427) hb); replace HO433 := Aside0.mk (Kd.R_below (rK HO433) hb); obtain ⟨B_, hs1_, hs2_⟩ := laws_FnExactPlanFor.split (base := w.heap.size) ho0 (by (with_reducible repeat (first | apply Kd.S_alloc | apply Kd.S_drewN | apply Kd.S_drew)); exact HO430.out) hb (below_size bA); have HO436 := Aside0.mk hs1_; replace HO430 := Aside0.mk hs2_; clear hs1_ hs2_; replace HB := Aside0.mk (below_step bA hb); (try clear hb); (try clear ho0); obtain ⟨Ao21, co21, eo21⟩ := Kd.S_slice HO436.out; subst eo21; obtain ⟨Ao22, co22, eo22⟩ := Kd.S_slice HO430.out; subst eo22) | ((with_reducible refine gate_callee (f := 19) rfl ?_); refine gL (some 25) Try.func19 #[.slice Ao21 t434.length co21, .slice Ao22 t428.length co22] ?_; (with_reducible refine (laws_eqPartS.calls k _ _ t434 _ _ t428 true _ ?side1 ?side2 ?side3 ?side4 A8.out).mono ?_); (case side1 => repeat (first | exact (Kd.S_reads' HO436.out).2.2 | (with_reducible refine Kd.C_alloc ?_ _) | (with_reducible refine Kd.C_drewN ?_ _) | (with_reducible refine Kd.C_drew ?_))); (case side2 => exact (Kd.S_reads' HO436.out).2.1); (case side3 => repeat (first | exact (Kd.S_reads' HO430.out).2.2 | (with_reducible refine Kd.C_alloc ?_ _) | (with_reducible refine Kd.C_drewN ?_ _) | (with_reducible refine Kd.C_drew ?_))); (case side4 => exact (Kd.S_reads' HO430.out).2.1); rintro e w23 ⟨rfl, hb⟩; refine ⟨_, rfl, ?_⟩; replace HO427 := Aside0.mk (Kd.R_below (rK HO427) hb); replace HO430 := Aside0.mk (Kd.S_below (sK HO430) hb); replace HO433 := Aside0.mk (Kd.R_below (rK HO433) hb); replace HO436 := Aside0.mk (Kd.S_below (sK HO436) hb); replace HB := Aside0.mk (below_step bA hb); (try clear hb)) | ((with_reducible refine gate_callee (f := 14) rfl ?_); refine gL (some 29) Try.func14 #[.slice A0 l0.length c0] ?_; (with_reducible refine (laws_toPathS.calls k _ _ l0 t438 _ ?side1 ?side2 A10.out).mono ?_); (case side1 => exact cB HR0); (case side2 => exact HC0.out); rintro e w24 ⟨v439, rfl, ho0, hb⟩; refine ⟨_, rfl, ?_⟩; replace HO430 := Aside0.mk (Kd.S_below (sK HO430) hb); replace HO436 := Aside0.mk (Kd.S_below (sK HO436) hb); have HO440 := Aside0.mk (Kd.R_lower (Kd.R_new' (Kd.R_new' ho0 (Kd.R_lt (rK HO427))) (Kd.R_lt (rK HO433))) (below_size bA)); replace HO427 := Aside0.mk (Kd.R_elder' (rK HO427) (Kd.R_base ho0) hb); replace HO433 := Aside0.mk (Kd.R_elder' (rK HO433) (Kd.R_base ho0) hb); replace HB := Aside0.mk (below_step bA hb); (try clear hb); (try clear ho0); obtain ⟨Ao25, co25, eo25⟩ := Kd.R_slice HO440.out; subst eo25) | ((with_reducible refine gate_callee (f := 18) rfl ?_); refine gL (some 30) Try.func18 #[.slice Ao19 t431.length co19, .slice Ao25 t438.length co25] ?_; (with_reducible refine (laws_eqPathS.calls k _ _ t431 _ _ t438 true _ ?side1 ?side2 ?side3 ?side4 A11.out).mono ?_); (case side1 => exact cO ⟨(Kd.R_reads' HO433.out).2.2⟩); (case side2 => exact (Kd.R_reads' HO433.out).2.1); (case side3 => exact cO ⟨(Kd.R_reads' HO440.out).2.2⟩); (case side4 => exact (Kd.R_reads' HO440.out).2.1); rintro e w26 ⟨rfl, hb⟩; refine ⟨_, rfl, ?_⟩; replace HO427 := Aside0.mk (Kd.R_below (rK HO427) hb); replace HO430 := Aside0.mk (Kd.S_below (sK HO430) hb); replace HO433 := Aside0.mk (Kd.R_below (rK HO433) hb); replace HO436 := Aside0.mk (Kd.S_below (sK HO436) hb); replace HO440 := Aside0.mk (Kd.R_below (rK HO440) hb); replace HB := Aside0.mk (below_step bA hb); (try clear hb)) | ((with_reducible refine gate_callee (f := 20) rfl ?_); refine gL (some 34) Try.func20 #[.slice Ao19 t431.length co19, .int .i64 1] ?_; (with_reducible refine (laws_markPathS.calls k (fun k_ => some k_ = (.slice Ao19 t431.length co19 : Value).ownBlock) (.slice Ao19 t431.length co19) t431 1 t442 t443 w _ ?side1 ?side2 A13.out).mono ?_); (case side1 => repeat (first | (with_reducible first | exact HB.out | apply below_alloc | apply pw_below_drewN | apply below_drew1) | exact HB.out)); (case side2 => exact Kd.R_tight rfl HO433.out); rintro e w27 ⟨rfl, hy0, hb, hkp⟩; refine ⟨_, rfl, ?_⟩; replace HO427 := Aside0.mk (Kd.R_mono (ok' := fun k_ => some k_ ≠ (.slice Ao19 t431.length co19 : Value).ownBlock ∧ some k_ ≠ (.slice Ao25 t438.length co25 : Value).ownBlock) (Kd.R_keptB (HO427.out) hkp (fun k_ hk_ hs_ => (hk_.1.2) hs_)) (fun k_ hk_ => ⟨hk_.1.1.2, hk_.1.2⟩)); replace HO430 := Aside0.mk (Kd.S_mono (ok' := fun k_ => some k_ ≠ (.slice Ao21 t434.length co21 : Value).ownBlock ∧ k_ < B_) (Kd.S_keptB ((Kd.S_apart' HO430.out (Kd.R_typed HO433.out) (by decide))) hkp (fun k_ hk_ hs_ => (hk_.2) hs_)) (fun k_ hk_ => hk_.1.1)); replace HO436 := Aside0.mk (Kd.S_mono (ok' := fun k_ => some k_ ≠ (.slice Ao22 t428.length co22 : Value).ownBlock ∧ B_ ≤ k_) (Kd.S_keptB ((Kd.S_apart' HO436.out (Kd.R_typed HO433.out) (by decide))) hkp (fun k_ hk_ hs_ => (hk_.2) hs_)) (fun k_ hk_ => hk_.1.1)); replace HO433 := Aside0.mk (Kd.R_reok rfl hy0 (fun k_ e_ => HO433.out.1 k_ e_)); replace HO440 := Aside0.mk (Kd.R_mono (ok' := fun k_ => some k_ ≠ (.slice Ao16 t425.length co16 : Value).ownBlock ∧ some k_ ≠ (.slice Ao19 t431.length co19 : Value).ownBlock) (Kd.R_keptB (HO440.out) hkp (fun k_ hk_ hs_ => (hk_.2) hs_)) (fun k_ hk_ => ⟨hk_.1.1.2, hk_.1.2⟩)); replace HB := Aside0.mk (hb); (try clear hb); (try clear hkp); (try clear hy0)))
  (try simp only [Act.put, List.setIfInBounds_toArray, List.set_cons_zero, List.set_cons_succ])
  go_cut [42] (fun v42 wc => ∃ (kq : Nat) (x42_13 : Bool), v42 = .bool x42_13 ∧ Aside0 (laws_FnExactPlanFor.j0 kq l0 t428 t434 x42_13 = some r) ∧ Aside0 (kq ≤ k) ∧ Aside0 (Kd.S k92 92 wc w.heap.size (fun k_ => some k_ ≠ ((.slice Ao21 t434.length co21) : Value).ownBlock ∧ k_ < B_) (.slice Ao22 t428.length co22) t428) ∧ Aside0 (Kd.S k92 92 wc w.heap.size (fun k_ => some k_ ≠ ((.slice Ao22 t428.length co22) : Value).ownBlock ∧ B_ ≤ k_) (.slice Ao21 t434.length co21) t434) ∧ Aside0 (Below w.heap.size w wc))
  case first =>
   have H := HC14.out
   clear HC14
   by_cases c28 : t442 < 0
   ·
    rw [if_pos c28] at H
    have c28b0 := decide_eq_true c28
    clear c28
    (first | rw [c28b0] | (simp only [i64_w, i32_w]; rw [c28b0]) | skip)
    have H' := Aside0.mk H
    clear H
    go_wp2
    go_meet
    case rel => exact ⟨_, (true), rS, H', ⟨by first | omega | exact Nat.le_refl _⟩, ⟨sK HO430⟩, ⟨sK HO436⟩, ⟨bA⟩⟩
   ·
    rw [if_neg c28] at H
    have c28b0 := decide_eq_false c28
    clear c28
    (first | rw [c28b0] | (simp only [i64_w, i32_w]; rw [c28b0]) | skip)
    obtain ⟨t444, A29, H⟩ := bindE H
    try dsimp only at H
    have H' := Aside0.mk H
    clear H
    go_wp2_with (first | (go_at_call 19; (with_reducible refine (laws_eqPartS.calls k _ _ t434 _ _ t428 t444 _ ?side1 ?side2 ?side3 ?side4 A29.out).mono ?_); (case side1 => repeat (first | exact (Kd.S_reads' HO436.out).2.2 | (with_reducible refine Kd.C_alloc ?_ _) | (with_reducible refine Kd.C_drewN ?_ _) | (with_reducible refine Kd.C_drew ?_))); (case side2 => exact (Kd.S_reads' HO436.out).2.1); (case side3 => repeat (first | exact (Kd.S_reads' HO430.out).2.2 | (with_reducible refine Kd.C_alloc ?_ _) | (with_reducible refine Kd.C_drewN ?_ _) | (with_reducible refine Kd.C_drew ?_))); (case side4 => exact (Kd.S_reads' HO430.out).2.1); rintro e w30 ⟨rfl, hb⟩; replace HO427 := Aside0.mk (Kd.R_below (rK HO427) hb); replace HO430 := Aside0.mk (Kd.S_below (sK HO430) hb); replace HO433 := Aside0.mk (Kd.R_below (rK HO433) hb); replace HO436 := Aside0.mk (Kd.S_below (sK HO436) hb); replace HO440 := Aside0.mk (Kd.R_below (rK HO440) hb); replace HB := Aside0.mk (below_step bA hb); (try clear hb)))
    go_meet
    case rel => exact ⟨_, (!t444), rS, H', ⟨by first | omega | exact Nat.le_refl _⟩, ⟨sK HO430⟩, ⟨sK HO436⟩, ⟨bA⟩⟩
  case rest =>
   clear HC14
   try clear c1
   try clear c2
   try clear p2
   try clear c3
   try clear c3b0
   try clear c6
   try clear c9
   try clear c11
   try clear c12
   try clear c14
   try clear c18
   try clear c19
   try clear c20
   try clear c28
   try clear c28b0
   obtain ⟨kq, x42_13, rfl, HA, HJ13, HO_4, HO_6, HB⟩ := hcut
   cases kq with
   | zero => exact absurd HA.out (by simp [laws_FnExactPlanFor.j0])
   | succ kj13 =>
    have H := HA.out
    clear HA
    simp only [laws_FnExactPlanFor.j0] at H
    have c31 := ifN' H
    replace H := ifT' H
    replace c31 := Bool.eq_false_iff.mpr c31
    subst c31
    obtain ⟨⟨t445, t446⟩, A32, H⟩ := bindE H
    try dsimp only at H
    obtain ⟨t447, A33, H⟩ := bindE H
    try dsimp only at H
    have c34 : ¬ (t447 < 0) := ifN' H
    replace H := ifT' H
    have c34b0 := decide_eq_false c34
    clear c34
    have c35 : t447 = t445 := ifN H
    replace H := ifT H
    have c35b0 : (t447 == t445) = true := beq_iff_eq.mpr c35
    have c35b1 : (t447 != t445) = false := bne_eq_false_iff_eq.mpr c35
    clear c35
    obtain ⟨t448, A36, H⟩ := bindE H
    try dsimp only at H
    obtain ⟨t451, A37, H⟩ := bindE H
    try dsimp only at H
    obtain ⟨t454, A38, H⟩ := bindE H
    try dsimp only at H
    have c39 := ifN H
    replace H := ifT H
    subst c39
    obtain ⟨t455, A40, H⟩ := bindE H
    try dsimp only at H
    have c41 : ¬ (t455 < 0) := ifN' H
    replace H := ifT' H
    have c41b0 := decide_eq_false c41
    clear c41
    have c42 : t455 = t445 := ifN H
    replace H := ifT H
    have c42b0 : (t455 == t445) = true := beq_iff_eq.mpr c42
    have c42b1 : (t455 != t445) = false := bne_eq_false_iff_eq.mpr c42
    clear c42
    obtain rfl := Option.some.inj H
    go_wp2_with (first | ((with_reducible refine gate_callee (f := 21) rfl ?_); refine gL (some 45) Try.func21 #[.slice Ao21 t434.length co21, .int .i64 1] ?_; (with_reducible refine (laws_markPartS.calls kj13 (fun k_ => ((some k_ ≠ (.slice Ao22 t428.length co22 : Value).ownBlock) ∧ B_ ≤ k_) ∧ w.heap.size ≤ k_) (.slice Ao21 t434.length co21) t434 1 t445 t446 w _ ?side1 ?side2 A32.out).mono ?_); (case side1 => repeat (first | (with_reducible first | exact HB.out | apply below_alloc | apply pw_below_drewN | apply below_drew1) | exact HB.out)); (case side2 => (with_reducible repeat (first | apply Kd.S_alloc | apply Kd.S_drewN | apply Kd.S_drew)); exact Kd.S_mono (Kd.S_bound (HO_6.out)) (fun k_ h_ => ⟨h_.1, h_.2.1⟩)); rintro e w43 ⟨rfl, hy0, hb, hkp⟩; refine ⟨_, rfl, ?_⟩; have n0_ := Aside0.mk (Kd.S_mono (ok' := fun k_ => some k_ ≠ (.slice Ao22 t428.length co22 : Value).ownBlock) hy0 (fun k_ hk_ => (Or.elim hk_ (fun hs_ => hs_.1.1) (fun hn_ => fun e_ => Nat.not_le.2 (Kd.S_lt (sK HO_4) k_ e_.symm) hn_)))); have n1_ := Aside0.mk (hb); have n2_ := Aside0.mk (Kd.S_mono (ok' := fun _ => True) (Kd.S_keptB (ok := fun k_ => some k_ ≠ ((.slice Ao21 t434.length co21) : Value).ownBlock ∧ k_ < B_) (by (with_reducible repeat (first | apply Kd.S_alloc | apply Kd.S_drewN | apply Kd.S_drew)); exact HO_4.out) hkp (fun k_ hk_ hs_ => Nat.not_lt.2 hs_.1.2 hk_.2)) (fun _ _ => trivial)); clear HO_6; clear HB; clear HO_4; have HO_6 := n0_; have HB := n1_; have HO_4 := n2_; clear n0_ n1_ n2_; (try clear hb); (try clear hkp); (try clear hy0)) | ((with_reducible refine gate_callee (f := 37) rfl ?_); refine goesL_ (some 48) rfl rfl Try.func37 (by kernel_rfl) rfl #[.slice Ao21 t446.length co21, .int .i64 1] rfl (by (try simp only [List.map_toArray, List.map_cons, List.map_nil]); first | done | (rw [show t446.length = t434.length from (Kd.S_reads' HO_6.out).1.symm] <;> rfl) | rfl | (simp only [List.length_drop, List.length_take]; rfl)) ?_; (with_reducible refine (laws_heldPartS.calls kj13 _ _ t446 1 t447 _ ?side1 ?side2 A33.out).mono ?_); (case side1 => repeat (first | exact (Kd.S_reads' HO_6.out).2.2 | (with_reducible refine Kd.C_alloc ?_ _) | (with_reducible refine Kd.C_drewN ?_ _) | (with_reducible refine Kd.C_drew ?_))); (case side2 => rw [show t446.length = t434.length from (Kd.S_reads' HO_6.out).1.symm]; exact (Kd.S_reads' HO_6.out).2.1); rintro e w' ⟨rfl, ⟨nd, rfl⟩⟩; refine ⟨_, rfl, ?_⟩) | ((with_reducible refine gate_callee (f := 14) rfl ?_); refine gL (some 55) Try.func14 #[.slice A0 l0.length c0] ?_; (with_reducible refine (laws_toPathS.calls kj13 _ _ l0 t448 _ ?side1 ?side2 A36.out).mono ?_); (case side1 => exact cG HR0); (case side2 => exact HC0.out); rintro e w44 ⟨v449, rfl, ho0, hb⟩; refine ⟨_, rfl, ?_⟩; replace HO_6 := Aside0.mk (Kd.S_below (sK HO_6) hb); replace HO_4 := Aside0.mk (Kd.S_below (sK HO_4) hb); have HO450 := Aside0.mk (Kd.R_lower ho0 (below_size bA)); replace HB := Aside0.mk (below_step bA hb); (try clear hb); (try clear ho0); obtain ⟨Ao45, co45, eo45⟩ := Kd.R_slice HO450.out; subst eo45) | ((with_reducible refine gate_callee (f := 36) rfl ?_); refine gL (some 56) Try.func36 #[.slice Ao45 t448.length co45] ?_; (with_reducible refine (impl_PlanFor.calls kj13 _ _ t448 t451 _ ?side1 ?side2 A37.out).mono ?_); (case side1 => exact cO ⟨(Kd.R_reads' HO450.out).2.2⟩); (case side2 => exact (Kd.R_reads' HO450.out).2.1); rintro e w46 ⟨v452, rfl, ho0, hb⟩; refine ⟨_, rfl, ?_⟩; replace HO450 := Aside0.mk (Kd.R_below (rK HO450) hb); have HO453 := Aside0.mk (Kd.S_lower (Kd.S_new' ho0 (Kd.S_lt (sK HO_6))) (below_size bA)); replace HO_6 := Aside0.mk (Kd.S_elder' (sK HO_6) (Kd.S_base ho0) hb); replace HO_4 := Aside0.mk (Kd.S_below (sK HO_4) hb); replace HB := Aside0.mk (below_step bA hb); (try clear hb); (try clear ho0); obtain ⟨Ao47, co47, eo47⟩ := Kd.S_slice HO453.out; subst eo47) | ((with_reducible refine gate_callee (f := 19) rfl ?_); refine gL (some 59) Try.func19 #[.slice Ao47 t451.length co47, .slice Ao22 t428.length co22] ?_; (with_reducible refine (laws_eqPartS.calls kj13 _ _ t451 _ _ t428 true _ ?side1 ?side2 ?side3 ?side4 A38.out).mono ?_); (case side1 => repeat (first | exact (Kd.S_reads' HO453.out).2.2 | (with_reducible refine Kd.C_alloc ?_ _) | (with_reducible refine Kd.C_drewN ?_ _) | (with_reducible refine Kd.C_drew ?_))); (case side2 => exact (Kd.S_reads' HO453.out).2.1); (case side3 => repeat (first | exact (Kd.S_reads' HO_4.out).2.2 | (with_reducible refine Kd.C_alloc ?_ _) | (with_reducible refine Kd.C_drewN ?_ _) | (with_reducible refine Kd.C_drew ?_))); (case side4 => exact (Kd.S_reads' HO_4.out).2.1); rintro e w48 ⟨rfl, hb⟩; refine ⟨_, rfl, ?_⟩; replace HO_6 := Aside0.mk (Kd.S_below (sK HO_6) hb); replace HO_4 := Aside0.mk (Kd.S_below (sK HO_4) hb); replace HO450 := Aside0.mk (Kd.R_below (rK HO450) hb); replace HO453 := Aside0.mk (Kd.S_below (sK HO453) hb); replace HB := Aside0.mk (below_step bA hb); (try clear hb)) | ((with_reducible refine gate_callee (f := 37) rfl ?_); refine goesL_ (some 63) rfl rfl Try.func37 (by kernel_rfl) rfl #[.slice Ao21 t446.length co21, .int .i64 1] rfl (by (try simp only [List.map_toArray, List.map_cons, List.map_nil]); first | done | (rw [show t446.length = t434.length from (Kd.S_reads' HO_6.out).1.symm] <;> rfl) | rfl | (simp only [List.length_drop, List.length_take]; rfl)) ?_; (with_reducible refine (laws_heldPartS.calls kj13 _ _ t446 1 t455 _ ?side1 ?side2 A40.out).mono ?_); (case side1 => repeat (first | exact (Kd.S_reads' HO_6.out).2.2 | (with_reducible refine Kd.C_alloc ?_ _) | (with_reducible refine Kd.C_drewN ?_ _) | (with_reducible refine Kd.C_drew ?_))); (case side2 => rw [show t446.length = t434.length from (Kd.S_reads' HO_6.out).1.symm]; exact (Kd.S_reads' HO_6.out).2.1); rintro e w' ⟨rfl, ⟨nd, rfl⟩⟩; refine ⟨_, rfl, ?_⟩))
    go_ret
    exact ⟨rA, bA⟩

end Go.Proofs.Ytdkmmefmhfbgkaa.P
