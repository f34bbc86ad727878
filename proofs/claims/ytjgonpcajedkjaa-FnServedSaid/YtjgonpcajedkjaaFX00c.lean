/- Printed by myprint.py (wip/tools) over the kit's print: what Go's functions compute, and that they do. Lean checks it. -/
import Derived.Test.YtjgonpcajedkjaaF0
import Derived.Test.YtjgonpcajedkjaaFX00b
namespace Go.Proofs.Ytjgonpcajedkjaa.P
open Go.RowKit Go.Proofs.YtjgonpcajedkjaaW.PrintWords Go.Proofs.YtjgonpcajedkjaaW.PrintLast Go.Proofs.YtjgonpcajedkjaaW.PrintMore Go.Proofs.Ytjgonpcajedkjaa.Sq
attribute [local go_sem] max2_int min2_int max_two min_two max_three min_three max_four min_four
set_option linter.unusedVariables false
set_option linter.unusedSimpArgs false

/-! ### impl_ArePaths: function 32 -/
def impl_ArePaths.l0 : Nat → List (S50) → List (S50) → Int → Int → Option (Bool)
 | 0, _, _, _, _ => none
 | k + 1, x0, x8, x9, x10 => if x10 < x9 then (if 0 ≤ x10 then (if x10 < (x8.length : Int) then ((impl_IsPath.f ((rd_T50 x8 x10).f0) ((rd_T50 x8 x10).f1) ((rd_T50 x8 x10).f2) ((rd_T50 x8 x10).f3)).bind fun t468 => (if t468 = true then (if x10 > 0 then (if 0 ≤ (wrap64 (x10 - 1)) then (if (wrap64 (x10 - 1)) < (x0.length : Int) then (if ((rd_T50 x8 x10).f0) ≤ ((rd_T50 x0 (wrap64 (x10 - 1))).f0) then (some false) else (impl_ArePaths.l0 k x0 x8 x9 (wrap64 (x10 + 1)))) else (none)) else (none)) else (impl_ArePaths.l0 k x0 x8 x9 (wrap64 (x10 + 1)))) else (some false))) else (none)) else (none)) else (some true)
def impl_ArePaths.f (k : Nat) (l0 : List (S50)) : Option (Bool) := if (l0.length : Int) > 12 then (some false) else (impl_ArePaths.l0 k l0 l0 (l0.length : Int) 0)
theorem impl_ArePaths.mono_l : ∀ k, (∀ y0 y1 y2 y3, LeO (impl_ArePaths.l0 k y0 y1 y2 y3) (impl_ArePaths.l0 (k + 1) y0 y1 y2 y3))
 | 0 => fun _ _ _ _ r h => by simp [impl_ArePaths.l0] at h
 | k + 1 => by
  have ih0 := impl_ArePaths.mono_l k
  ·
   intro y0 y1 y2 y3
   unfold impl_ArePaths.l0
   exact mz1 ih0
theorem impl_ArePaths.mono : ∀ a0 k, LeO (impl_ArePaths.f k a0) (impl_ArePaths.f (k + 1) a0) := by
 intro a0 k
 have ih0 := impl_ArePaths.mono_l k
 unfold impl_ArePaths.f
 exact mz1 ih0
def impl_ArePaths.T6 : Bool × List (List Nat × List Nat) := (true, [([], []), ([0], [0]), ([1], [1]), ([2, 1], [2]), ([3], [3]), ([4, 3], [3, 4]), ([5, 3, 3], [3, 5]), ([6], [6]), ([7, 6], [6, 7]), ([6], [6]), ([6], [6]), ([10, 6], [6, 10]), ([9, 11, 6], [6, 9, 11]), ([12, 6], [6, 12]), ([13, 6], [6, 13]), ([8, 14, 6], [6, 8, 14]), ([6, 15, 3], [3, 6, 15]), ([3, 16], [3, 16])])
def impl_ArePaths.B6 : List Nat := [0, 1, 3, 7, 15, 31, 63, 127, 255, 127, 127, 1151, 3711, 7807, 15999, 32767, 65535, 131071]
theorem impl_ArePaths.tab6 : rtab .any (opsOf Try.f32 6) = impl_ArePaths.T6 := by kernel_rfl
theorem impl_ArePaths.bits6 : waitsOk impl_ArePaths.T6.2 impl_ArePaths.B6 = true := by kernel_rfl
set_option maxHeartbeats 8000000 in
set_option maxRecDepth 100000 in
theorem impl_ArePaths.calls (k : Nat) (A0 : Option Addr) (c0 : Nat) (l0 : List (S50)) (r : Bool) (w : World) (hr0 : Kd.C k50 w A0 l0.length l0) (hc0 : l0.length ≤ c0) (h : impl_ArePaths.f k l0 = some r) :
  Calls Try.prog 32 #[.slice A0 l0.length c0] w fun e w' => e = .returned (.bool r) ∧ Below w.heap.size w w' := by
 have hu50 := Try.underlying50
 have HR0 := Aside0.mk hr0
 have HC0 := Aside0.mk hc0
 clear hr0 hc0
 have HB := Aside0.mk (Below.refl w.heap.size w)
 have H : (if (l0.length : Int) > 12 then (some false) else (impl_ArePaths.l0 k l0 l0 (l0.length : Int) 0)) = some r := h
 clear h
 by_cases c2 : (l0.length : Int) > 12
 ·
  rw [if_pos c2] at H
  have c2b0 := decide_eq_true c2
  have c2b1 : decide (12 < l0.length) = true := decide_eq_true (by omega)
  clear c2
  obtain rfl := Option.some.inj H
  go_enter Try.func32, Try.ntmps32
  go_wp2
  go_ret
  exact ⟨rA, bA⟩
 rw [if_neg c2] at H
 have c2b0 := decide_eq_false c2
 have c2b1 : decide (12 < l0.length) = false := decide_eq_false (by omega)
 clear c2
 have H' := Aside0.mk H
 clear H
 go_enter Try.func32, Try.ntmps32
 go_wp2
 go_loopg [10] k (fun kq v10 w' => ∃ (x10_1 : Int), v10 = .int .i64 x10_1 ∧ Aside0 (impl_ArePaths.l0 kq l0 l0 (l0.length : Int) x10_1 = some r) ∧ Aside0 (kq ≤ k) ∧ Aside0 (Below w.heap.size w w'))
 case atStart => exact ⟨(0), rS, H', ⟨Nat.le_refl _⟩, ⟨bA⟩⟩
 case round =>
  clear H'
  obtain ⟨x10_1, rfl, HA, HK1, HB⟩ := hrel
  cases gk with
  | zero => exact absurd HA.out (by simp [impl_ArePaths.l0])
  | succ k1 =>
   have H := HA.out
   clear HA
   simp only [impl_ArePaths.l0] at H
   by_cases c3 : x10_1 < (l0.length : Int)
   ·
    rw [if_pos c3] at H
    have c3b0 := decide_eq_true c3
    clear c3
    have c4 : 0 ≤ x10_1 := ifN H
    replace H := ifT H
    have c4b0 := decide_eq_true c4
    clear c4
    have c5 : x10_1 < (l0.length : Int) := ifN H
    replace H := ifT H
    have c5b0 := decide_eq_true c5
    clear c5
    obtain ⟨t468, A6, H⟩ := bindE H
    try dsimp only at H
    by_cases c7 : t468 = true
    ·
     subst c7
     have H1 : (if x10_1 > 0 then (if 0 ≤ (wrap64 (x10_1 - 1)) then (if (wrap64 (x10_1 - 1)) < (l0.length : Int) then (if ((rd_T50 l0 x10_1).f0) ≤ ((rd_T50 l0 (wrap64 (x10_1 - 1))).f0) then (some false) else (impl_ArePaths.l0 k1 l0 l0 (l0.length : Int) (wrap64 (x10_1 + 1)))) else (none)) else (none)) else (impl_ArePaths.l0 k1 l0 l0 (l0.length : Int) (wrap64 (x10_1 + 1)))) = some r := by rw [if_pos rfl] at H; exact H
     clear H
     have H := H1
     clear H1
     by_cases c8 : x10_1 > 0
     ·
      rw [if_pos c8] at H
      have c8b0 := decide_eq_true c8
      clear c8
      obtain ⟨ji9, hji9⟩ : ∃ j_ : Int, (wrap64 (x10_1 - 1)) = j_ := ⟨_, rfl⟩
      replace H : (if 0 ≤ (ji9) then (if (ji9) < (l0.length : Int) then (if ((rd_T50 l0 x10_1).f0) ≤ ((rd_T50 l0 (ji9)).f0) then (some false) else (impl_ArePaths.l0 k1 l0 l0 (l0.length : Int) (wrap64 (x10_1 + 1)))) else (none)) else (none)) = some r := by first | (rw [hji9] at H; exact H) | (simp only [hji9] at H ⊢; exact H)
      (try rw [hji9] at A6)
      have hji9w : (IntKind.i64.wrap (x10_1 - 1)) = ji9 := (i64_w _).trans hji9
      have c10 : 0 ≤ (ji9) := ifN H
      replace H := ifT H
      have c10b0 := decide_eq_true c10
      clear c10
      have c11 : (ji9) < (l0.length : Int) := ifN H
      replace H := ifT H
      have c11b0 := decide_eq_true c11
      clear c11
      by_cases c12 : ((rd_T50 l0 x10_1).f0) ≤ ((rd_T50 l0 (ji9)).f0)
      ·
       rw [if_pos c12] at H
       have c12b0 := decide_eq_true c12
       clear c12
       obtain rfl := Option.some.inj H
       obtain ⟨p466, q466⟩ : 0 ≤ (x10_1 : Int) ∧ x10_1 < (l0.length : Int) := ⟨dA, dA⟩
       obtain ⟨ad466, e466, hx466_0, hx466_1, hx466_2, hx466_3⟩ := at_T50 (Kd.C_below HR0.out HB.out) x10_1 p466 q466
       cases e466
       obtain ⟨p466, q466⟩ := eT p466 q466
       try go_wp2_with (first | ((with_reducible refine gate_dst (N := 4) rfl ?_); refine bE (N := 4) (cs := #[.int .i64 0, .int .i64 0, .int .i64 0, .int .i64 0]) (t := 50) ?_; intro gb467 hg w13 hbox hb; have BK467 := Aside0.mk (hbox); have GW467 := gw w hg; have GE467 := gw w hg; replace HB := bs HB hb; clear hb hbox hg; obtain ⟨_, _, _, _, _, _, _, _⟩ := blkc4 BK467))
       have n0_ : Aside0 (((((w13.setCell ⟨gb467, 0, none⟩ (.int .i64 ((rd_T50 l0 x10_1).f0))).setCell ⟨gb467, 1, none⟩ (.int .i64 ((rd_T50 l0 x10_1).f1))).setCell ⟨gb467, 2, none⟩ (.int .i64 ((rd_T50 l0 x10_1).f2))).setCell ⟨gb467, 3, none⟩ (.int .i64 ((rd_T50 l0 x10_1).f3))).heap[gb467]? = some (.cells #[.int .i64 ((rd_T50 l0 x10_1).f0), .int .i64 ((rd_T50 l0 x10_1).f1), .int .i64 ((rd_T50 l0 x10_1).f2), .int .i64 ((rd_T50 l0 x10_1).f3)] 50 (0, 0))) := ⟨kp BK467⟩
       have n1_ : Aside0 (Below w.heap.size w ((((w13.setCell ⟨gb467, 0, none⟩ (.int .i64 ((rd_T50 l0 x10_1).f0))).setCell ⟨gb467, 1, none⟩ (.int .i64 ((rd_T50 l0 x10_1).f1))).setCell ⟨gb467, 2, none⟩ (.int .i64 ((rd_T50 l0 x10_1).f2))).setCell ⟨gb467, 3, none⟩ (.int .i64 ((rd_T50 l0 x10_1).f3)))) := ⟨bG⟩
       (try clear BK467)
       (try clear HB)
       generalize ((((w13.setCell ⟨gb467, 0, none⟩ (.int .i64 ((rd_T50 l0 x10_1).f0))).setCell ⟨gb467, 1, none⟩ (.int .i64 ((rd_T50 l0 x10_1).f1))).setCell ⟨gb467, 2, none⟩ (.int .i64 ((rd_T50 l0 x10_1).f2))).setCell ⟨gb467, 3, none⟩ (.int .i64 ((rd_T50 l0 x10_1).f3))) = w15 at n0_ n1_ ⊢
       have BK467 := n0_
       have HB := n1_
       clear n0_ n1_
       replace BK467 := dk BK467
       have HBo := HB
       replace HB := db HB
       obtain ⟨p469, q469⟩ : 0 ≤ ((ji9) : Int) ∧ (ji9) < (l0.length : Int) := ⟨dA, dA⟩
       obtain ⟨ad469, e469, hx469_0, hx469_1, hx469_2, hx469_3⟩ := at_T50 HR0.out (ji9) p469 q469
       have hw469_3 := hx469_3
       have hw469_2 := hx469_2
       have hw469_1 := hx469_1
       have hw469_0 := hx469_0
       obtain rfl : ad466 = ad469 := (by injection e469)
       replace hx469_0 := hC HB hx469_0
       replace hx469_1 := hC HB hx469_1
       replace hx469_2 := hC HB hx469_2
       replace hx469_3 := hC HB hx469_3
       obtain ⟨p469, q469⟩ := eT p469 q469
       refine sw (ds := []) 18 (mb 18 0) impl_ArePaths.tab6 impl_ArePaths.bits6 (h4c BK467 (h1c (hC HB hw469_0) (h1c (hC HB hw469_1) (h1c (hC HB hw469_2) (h1 (hC HB hw469_3)))))) (fun hHeld HT_ HW_ => ?_)
       generalize w15.drew = w16 at BK467 HB hx469_0 hx469_1 hx469_2 hx469_3 hHeld ⊢
       refine ta8 0 15 (mb 18 1) HT_ HW_ hHeld ?_
       refine oa 1 16 (mb 18 3) HT_ (fun K hK => ?_)
       refine gA Try.func90 #[.agg #[.int .i64 ((rd_T50 l0 x10_1).f0), .int .i64 ((rd_T50 l0 x10_1).f1), .int .i64 ((rd_T50 l0 x10_1).f2), .int .i64 ((rd_T50 l0 x10_1).f3)]] ?_
       with_reducible refine (impl_IsPath.calls ((rd_T50 l0 x10_1).f0) ((rd_T50 l0 x10_1).f1) ((rd_T50 l0 x10_1).f2) ((rd_T50 l0 x10_1).f3) true _ A6.out).mono ?_
       rintro e w17 ⟨rfl, hb⟩
       refine ⟨_, rfl, ?_⟩
       replace BK467 := kb BK467 hb
       replace HB := bs HB hb
       (try clear hb)
       (try clear hb2)
       (try clear hk)
       (try clear hi)
       refine hK.out _ _ (cm4 BK467 ⟨(hC HB hw469_0), (hC HB hw469_1), (hC HB hw469_2), (hC HB hw469_3)⟩) (fun hHeld => ?_)
       clear hK K
       refine nB ?_
       refine pa 2 17 (mb 18 7) HT_ ?_
       refine pa 3 18 (mb 18 15) HT_ ?_
       refine pa 4 19 (mb 18 31) HT_ ?_
       refine pa 5 20 (mb 18 63) HT_ ?_
       refine pa 6 21 (mb 18 127) HT_ ?_
       refine pa 7 22 (mb 18 255) HT_ ?_
       refine pa 9 24 (mb 18 767) HT_ ?_
       refine pa 10 25 (mb 18 1791) HT_ ?_
       refine pa 11 26 (mb 18 3839) HT_ ?_
       refine pa 12 27 (mb 18 7935) HT_ ?_
       refine pa 13 28 (mb 18 16127) HT_ ?_
       refine ta8 8 23 (mb 18 16383) HT_ HW_ hHeld ?_
       refine ta8 14 29 (mb 18 32767) HT_ HW_ hHeld ?_
       refine pa 15 30 (mb 18 65535) HT_ ?_
       refine pa 16 31 (mb 18 131071) HT_ ?_
       refine pa 17 32 (mb 18 262143) HT_ ?_
       refine eA HT_ ?_
       try go_wp2
       go_ret
       exact ⟨by first | rfl | (simp [errW_none, errW_some] <;> rfl) | (simp only [← hji9]; first | rfl | (simp [errW_none, errW_some] <;> rfl)) | (simp [*, errW_none, errW_some] <;> rfl), bG⟩
      rw [if_neg c12] at H
      have c12b0 := decide_eq_false c12
      clear c12
      have H' := Aside0.mk H
      clear H
      obtain ⟨p466, q466⟩ : 0 ≤ (x10_1 : Int) ∧ x10_1 < (l0.length : Int) := ⟨dA, dA⟩
      obtain ⟨ad466, e466, hx466_0, hx466_1, hx466_2, hx466_3⟩ := at_T50 (Kd.C_below HR0.out HB.out) x10_1 p466 q466
      cases e466
      obtain ⟨p466, q466⟩ := eT p466 q466
      try go_wp2_with (first | ((with_reducible refine gate_dst (N := 4) rfl ?_); refine bE (N := 4) (cs := #[.int .i64 0, .int .i64 0, .int .i64 0, .int .i64 0]) (t := 50) ?_; intro gb467 hg w18 hbox hb; have BK467 := Aside0.mk (hbox); have GW467 := gw w hg; have GE467 := gw w hg; replace HB := bs HB hb; clear hb hbox hg; obtain ⟨_, _, _, _, _, _, _, _⟩ := blkc4 BK467))
      have n0_ : Aside0 (((((w18.setCell ⟨gb467, 0, none⟩ (.int .i64 ((rd_T50 l0 x10_1).f0))).setCell ⟨gb467, 1, none⟩ (.int .i64 ((rd_T50 l0 x10_1).f1))).setCell ⟨gb467, 2, none⟩ (.int .i64 ((rd_T50 l0 x10_1).f2))).setCell ⟨gb467, 3, none⟩ (.int .i64 ((rd_T50 l0 x10_1).f3))).heap[gb467]? = some (.cells #[.int .i64 ((rd_T50 l0 x10_1).f0), .int .i64 ((rd_T50 l0 x10_1).f1), .int .i64 ((rd_T50 l0 x10_1).f2), .int .i64 ((rd_T50 l0 x10_1).f3)] 50 (0, 0))) := ⟨kp BK467⟩
      have n1_ : Aside0 (Below w.heap.size w ((((w18.setCell ⟨gb467, 0, none⟩ (.int .i64 ((rd_T50 l0 x10_1).f0))).setCell ⟨gb467, 1, none⟩ (.int .i64 ((rd_T50 l0 x10_1).f1))).setCell ⟨gb467, 2, none⟩ (.int .i64 ((rd_T50 l0 x10_1).f2))).setCell ⟨gb467, 3, none⟩ (.int .i64 ((rd_T50 l0 x10_1).f3)))) := ⟨bG⟩
      (try clear BK467)
      (try clear HB)
      generalize ((((w18.setCell ⟨gb467, 0, none⟩ (.int .i64 ((rd_T50 l0 x10_1).f0))).setCell ⟨gb467, 1, none⟩ (.int .i64 ((rd_T50 l0 x10_1).f1))).setCell ⟨gb467, 2, none⟩ (.int .i64 ((rd_T50 l0 x10_1).f2))).setCell ⟨gb467, 3, none⟩ (.int .i64 ((rd_T50 l0 x10_1).f3))) = w20 at n0_ n1_ ⊢
      have BK467 := n0_
      have HB := n1_
      clear n0_ n1_
      replace BK467 := dk BK467
      have HBo := HB
      replace HB := db HB
      obtain ⟨p469, q469⟩ : 0 ≤ ((ji9) : Int) ∧ (ji9) < (l0.length : Int) := ⟨dA, dA⟩
      obtain ⟨ad469, e469, hx469_0, hx469_1, hx469_2, hx469_3⟩ := at_T50 HR0.out (ji9) p469 q469
      have hw469_3 := hx469_3
      have hw469_2 := hx469_2
      have hw469_1 := hx469_1
      have hw469_0 := hx469_0
      obtain rfl : ad466 = ad469 := (by injection e469)
      replace hx469_0 := hC HB hx469_0
      replace hx469_1 := hC HB hx469_1
      replace hx469_2 := hC HB hx469_2
      replace hx469_3 := hC HB hx469_3
      obtain ⟨p469, q469⟩ := eT p469 q469
      refine sw (ds := []) 18 (mb 18 0) impl_ArePaths.tab6 impl_ArePaths.bits6 (h4c BK467 (h1c (hC HB hw469_0) (h1c (hC HB hw469_1) (h1c (hC HB hw469_2) (h1 (hC HB hw469_3)))))) (fun hHeld HT_ HW_ => ?_)
      generalize w20.drew = w21 at BK467 HB hx469_0 hx469_1 hx469_2 hx469_3 hHeld ⊢
      refine ta8 0 15 (mb 18 1) HT_ HW_ hHeld ?_
      refine oa 1 16 (mb 18 3) HT_ (fun K hK => ?_)
      refine gA Try.func90 #[.agg #[.int .i64 ((rd_T50 l0 x10_1).f0), .int .i64 ((rd_T50 l0 x10_1).f1), .int .i64 ((rd_T50 l0 x10_1).f2), .int .i64 ((rd_T50 l0 x10_1).f3)]] ?_
      with_reducible refine (impl_IsPath.calls ((rd_T50 l0 x10_1).f0) ((rd_T50 l0 x10_1).f1) ((rd_T50 l0 x10_1).f2) ((rd_T50 l0 x10_1).f3) true _ A6.out).mono ?_
      rintro e w22 ⟨rfl, hb⟩
      refine ⟨_, rfl, ?_⟩
      replace BK467 := kb BK467 hb
      replace HB := bs HB hb
      (try clear hb)
      (try clear hb2)
      (try clear hk)
      (try clear hi)
      refine hK.out _ _ (cm4 BK467 ⟨(hC HB hw469_0), (hC HB hw469_1), (hC HB hw469_2), (hC HB hw469_3)⟩) (fun hHeld => ?_)
      clear hK K
      refine nB ?_
      refine pa 2 17 (mb 18 7) HT_ ?_
      refine pa 3 18 (mb 18 15) HT_ ?_
      refine pa 4 19 (mb 18 31) HT_ ?_
      refine pa 5 20 (mb 18 63) HT_ ?_
      refine pa 6 21 (mb 18 127) HT_ ?_
      refine pa 7 22 (mb 18 255) HT_ ?_
      refine pa 9 24 (mb 18 767) HT_ ?_
      refine pa 10 25 (mb 18 1791) HT_ ?_
      refine pa 11 26 (mb 18 3839) HT_ ?_
      refine pa 12 27 (mb 18 7935) HT_ ?_
      refine pa 13 28 (mb 18 16127) HT_ ?_
      refine ta8 8 23 (mb 18 16383) HT_ HW_ hHeld ?_
      refine ta8 14 29 (mb 18 32767) HT_ HW_ hHeld ?_
      refine pa 15 30 (mb 18 65535) HT_ ?_
      refine pa 16 31 (mb 18 131071) HT_ ?_
      refine pa 17 32 (mb 18 262143) HT_ ?_
      refine eA HT_ ?_
      try go_wp2
      go_roundg k1
      case measure => have := HK1.out; omega
      case rel => exact ⟨(wrap64 (x10_1 + 1)), rS, H', ⟨by have := HK1.out; omega⟩, ⟨bG⟩⟩
     rw [if_neg c8] at H
     have c8b0 := decide_eq_false c8
     clear c8
     have H' := Aside0.mk H
     clear H
     obtain ⟨p466, q466⟩ : 0 ≤ (x10_1 : Int) ∧ x10_1 < (l0.length : Int) := ⟨dA, dA⟩
     obtain ⟨ad466, e466, hx466_0, hx466_1, hx466_2, hx466_3⟩ := at_T50 (Kd.C_below HR0.out HB.out) x10_1 p466 q466
     cases e466
     obtain ⟨p466, q466⟩ := eT p466 q466
     try go_wp2_with (first | ((with_reducible refine gate_dst (N := 4) rfl ?_); refine bE (N := 4) (cs := #[.int .i64 0, .int .i64 0, .int .i64 0, .int .i64 0]) (t := 50) ?_; intro gb467 hg w23 hbox hb; have BK467 := Aside0.mk (hbox); have GW467 := gw w hg; have GE467 := gw w hg; replace HB := bs HB hb; clear hb hbox hg; obtain ⟨_, _, _, _, _, _, _, _⟩ := blkc4 BK467))
     have n0_ : Aside0 (((((w23.setCell ⟨gb467, 0, none⟩ (.int .i64 ((rd_T50 l0 x10_1).f0))).setCell ⟨gb467, 1, none⟩ (.int .i64 ((rd_T50 l0 x10_1).f1))).setCell ⟨gb467, 2, none⟩ (.int .i64 ((rd_T50 l0 x10_1).f2))).setCell ⟨gb467, 3, none⟩ (.int .i64 ((rd_T50 l0 x10_1).f3))).heap[gb467]? = some (.cells #[.int .i64 ((rd_T50 l0 x10_1).f0), .int .i64 ((rd_T50 l0 x10_1).f1), .int .i64 ((rd_T50 l0 x10_1).f2), .int .i64 ((rd_T50 l0 x10_1).f3)] 50 (0, 0))) := ⟨kp BK467⟩
     have n1_ : Aside0 (Below w.heap.size w ((((w23.setCell ⟨gb467, 0, none⟩ (.int .i64 ((rd_T50 l0 x10_1).f0))).setCell ⟨gb467, 1, none⟩ (.int .i64 ((rd_T50 l0 x10_1).f1))).setCell ⟨gb467, 2, none⟩ (.int .i64 ((rd_T50 l0 x10_1).f2))).setCell ⟨gb467, 3, none⟩ (.int .i64 ((rd_T50 l0 x10_1).f3)))) := ⟨bG⟩
     (try clear BK467)
     (try clear HB)
     generalize ((((w23.setCell ⟨gb467, 0, none⟩ (.int .i64 ((rd_T50 l0 x10_1).f0))).setCell ⟨gb467, 1, none⟩ (.int .i64 ((rd_T50 l0 x10_1).f1))).setCell ⟨gb467, 2, none⟩ (.int .i64 ((rd_T50 l0 x10_1).f2))).setCell ⟨gb467, 3, none⟩ (.int .i64 ((rd_T50 l0 x10_1).f3))) = w25 at n0_ n1_ ⊢
     have BK467 := n0_
     have HB := n1_
     clear n0_ n1_
     replace BK467 := dk BK467
     have HBo := HB
     replace HB := db HB
     refine sw (ds := []) 18 (mb 18 0) impl_ArePaths.tab6 impl_ArePaths.bits6 (h4 BK467) (fun hHeld HT_ HW_ => ?_)
     generalize w25.drew = w26 at BK467 HB hHeld ⊢
     refine ta4 0 15 (mb 18 1) HT_ HW_ hHeld ?_
     refine oa 1 16 (mb 18 3) HT_ (fun K hK => ?_)
     refine gA Try.func90 #[.agg #[.int .i64 ((rd_T50 l0 x10_1).f0), .int .i64 ((rd_T50 l0 x10_1).f1), .int .i64 ((rd_T50 l0 x10_1).f2), .int .i64 ((rd_T50 l0 x10_1).f3)]] ?_
     with_reducible refine (impl_IsPath.calls ((rd_T50 l0 x10_1).f0) ((rd_T50 l0 x10_1).f1) ((rd_T50 l0 x10_1).f2) ((rd_T50 l0 x10_1).f3) true _ A6.out).mono ?_
     rintro e w27 ⟨rfl, hb⟩
     refine ⟨_, rfl, ?_⟩
     replace BK467 := kb BK467 hb
     replace HB := bs HB hb
     (try clear hb)
     (try clear hb2)
     (try clear hk)
     (try clear hi)
     refine hK.out _ _ (cn4 BK467) (fun hHeld => ?_)
     clear hK K
     refine nB ?_
     refine pa 2 17 (mb 18 7) HT_ ?_
     refine pa 3 18 (mb 18 15) HT_ ?_
     refine pa 4 19 (mb 18 31) HT_ ?_
     refine pa 5 20 (mb 18 63) HT_ ?_
     refine pa 6 21 (mb 18 127) HT_ ?_
     refine pu 7 22 (mb 18 255) HT_ ?_
     refine pu 8 23 (mb 18 511) HT_ ?_
     refine pu 9 24 (mb 18 1023) HT_ ?_
     refine pu 10 25 (mb 18 2047) HT_ ?_
     refine pu 11 26 (mb 18 4095) HT_ ?_
     refine pu 12 27 (mb 18 8191) HT_ ?_
     refine pu 13 28 (mb 18 16383) HT_ ?_
     refine pu 14 29 (mb 18 32767) HT_ ?_
     refine pu 15 30 (mb 18 65535) HT_ ?_
     refine pa 16 31 (mb 18 131071) HT_ ?_
     refine pa 17 32 (mb 18 262143) HT_ ?_
     refine eA HT_ ?_
     try go_wp2
     go_roundg k1
     case measure => have := HK1.out; omega
     case rel => exact ⟨(wrap64 (x10_1 + 1)), rS, H', ⟨by have := HK1.out; omega⟩, ⟨bG⟩⟩
    replace c7 := Bool.eq_false_iff.mpr c7
    subst c7
    have H1 : (some false) = some r := by rw [if_neg (show ¬ (false = true) by decide)] at H; exact H
    clear H
    have H := H1
    clear H1
    obtain rfl := Option.some.inj H
    obtain ⟨p466, q466⟩ : 0 ≤ (x10_1 : Int) ∧ x10_1 < (l0.length : Int) := ⟨dA, dA⟩
    obtain ⟨ad466, e466, hx466_0, hx466_1, hx466_2, hx466_3⟩ := at_T50 (Kd.C_below HR0.out HB.out) x10_1 p466 q466
    cases e466
    obtain ⟨p466, q466⟩ := eT p466 q466
    try go_wp2_with (first | ((with_reducible refine gate_dst (N := 4) rfl ?_); refine bE (N := 4) (cs := #[.int .i64 0, .int .i64 0, .int .i64 0, .int .i64 0]) (t := 50) ?_; intro gb467 hg w28 hbox hb; have BK467 := Aside0.mk (hbox); have GW467 := gw w hg; have GE467 := gw w hg; replace HB := bs HB hb; clear hb hbox hg; obtain ⟨_, _, _, _, _, _, _, _⟩ := blkc4 BK467))
    have n0_ : Aside0 (((((w28.setCell ⟨gb467, 0, none⟩ (.int .i64 ((rd_T50 l0 x10_1).f0))).setCell ⟨gb467, 1, none⟩ (.int .i64 ((rd_T50 l0 x10_1).f1))).setCell ⟨gb467, 2, none⟩ (.int .i64 ((rd_T50 l0 x10_1).f2))).setCell ⟨gb467, 3, none⟩ (.int .i64 ((rd_T50 l0 x10_1).f3))).heap[gb467]? = some (.cells #[.int .i64 ((rd_T50 l0 x10_1).f0), .int .i64 ((rd_T50 l0 x10_1).f1), .int .i64 ((rd_T50 l0 x10_1).f2), .int .i64 ((rd_T50 l0 x10_1).f3)] 50 (0, 0))) := ⟨kp BK467⟩
    have n1_ : Aside0 (Below w.heap.size w ((((w28.setCell ⟨gb467, 0, none⟩ (.int .i64 ((rd_T50 l0 x10_1).f0))).setCell ⟨gb467, 1, none⟩ (.int .i64 ((rd_T50 l0 x10_1).f1))).setCell ⟨gb467, 2, none⟩ (.int .i64 ((rd_T50 l0 x10_1).f2))).setCell ⟨gb467, 3, none⟩ (.int .i64 ((rd_T50 l0 x10_1).f3)))) := ⟨bG⟩
    (try clear BK467)
    (try clear HB)
    generalize ((((w28.setCell ⟨gb467, 0, none⟩ (.int .i64 ((rd_T50 l0 x10_1).f0))).setCell ⟨gb467, 1, none⟩ (.int .i64 ((rd_T50 l0 x10_1).f1))).setCell ⟨gb467, 2, none⟩ (.int .i64 ((rd_T50 l0 x10_1).f2))).setCell ⟨gb467, 3, none⟩ (.int .i64 ((rd_T50 l0 x10_1).f3))) = w30 at n0_ n1_ ⊢
    have BK467 := n0_
    have HB := n1_
    clear n0_ n1_
    replace BK467 := dk BK467
    have HBo := HB
    replace HB := db HB
    refine sw (ds := []) 18 (mb 18 0) impl_ArePaths.tab6 impl_ArePaths.bits6 (h4 BK467) (fun hHeld HT_ HW_ => ?_)
    generalize w30.drew = w31 at BK467 HB hHeld ⊢
    refine ta4 0 15 (mb 18 1) HT_ HW_ hHeld ?_
    refine oa 1 16 (mb 18 3) HT_ (fun K hK => ?_)
    refine gA Try.func90 #[.agg #[.int .i64 ((rd_T50 l0 x10_1).f0), .int .i64 ((rd_T50 l0 x10_1).f1), .int .i64 ((rd_T50 l0 x10_1).f2), .int .i64 ((rd_T50 l0 x10_1).f3)]] ?_
    with_reducible refine (impl_IsPath.calls ((rd_T50 l0 x10_1).f0) ((rd_T50 l0 x10_1).f1) ((rd_T50 l0 x10_1).f2) ((rd_T50 l0 x10_1).f3) false _ A6.out).mono ?_
    rintro e w32 ⟨rfl, hb⟩
    refine ⟨_, rfl, ?_⟩
    replace BK467 := kb BK467 hb
    replace HB := bs HB hb
    (try clear hb)
    (try clear hb2)
    (try clear hk)
    (try clear hi)
    refine hK.out _ _ (cn4 BK467) (fun hHeld => ?_)
    clear hK K
    refine nB ?_
    refine pa 2 17 (mb 18 7) HT_ ?_
    refine pa 3 18 (mb 18 15) HT_ ?_
    refine pu 4 19 (mb 18 31) HT_ ?_
    refine pu 5 20 (mb 18 63) HT_ ?_
    refine pu 6 21 (mb 18 127) HT_ ?_
    refine pu 7 22 (mb 18 255) HT_ ?_
    refine pu 8 23 (mb 18 511) HT_ ?_
    refine pu 9 24 (mb 18 1023) HT_ ?_
    refine pu 10 25 (mb 18 2047) HT_ ?_
    refine pu 11 26 (mb 18 4095) HT_ ?_
    refine pu 12 27 (mb 18 8191) HT_ ?_
    refine pu 13 28 (mb 18 16383) HT_ ?_
    refine pu 14 29 (mb 18 32767) HT_ ?_
    refine pu 15 30 (mb 18 65535) HT_ ?_
    refine pu 16 31 (mb 18 131071) HT_ ?_
    refine pa 17 32 (mb 18 262143) HT_ ?_
    refine eA HT_ ?_
    try go_wp2
    go_ret
    exact ⟨rA, bG⟩
   rw [if_neg c3] at H
   have c3b0 := decide_eq_false c3
   clear c3
   obtain rfl := Option.some.inj H
   go_wp2
   go_ret
   exact ⟨rA, bA⟩

/-! ### impl_Interleave: function 139 -/
def impl_Interleave.l0 : Nat → Int → Int → Int → Int → List Int → Int → Int → Option (Bool)
 | 0, _, _, _, _, _, _, _ => none
 | k + 1, x0, x1, x2, x3, x16, x17, x18 => if x18 < x17 then (if 0 ≤ x18 then (if x18 < (x16.length : Int) then ((impl_InRange.f (rd x16 x18) 0 7).bind fun t474 => (if t474 = true then (impl_Interleave.l0 k x0 x1 x2 x3 x16 x17 (wrap64 (x18 + 1))) else (some false))) else (none)) else (none)) else (if x0 = x1 then (some false) else (if x0 = x2 then (some false) else (if x0 = x3 then (some false) else (if x1 = x2 then (some false) else (if x1 = x3 then (some false) else (if x2 = x3 then (some false) else (some ((decide ((Int.tmod (wrap64 ((wrap64 (x2 - x0)) + 8)) 8) < (Int.tmod (wrap64 ((wrap64 (x1 - x0)) + 8)) 8))) != (decide ((Int.tmod (wrap64 ((wrap64 (x3 - x0)) + 8)) 8) < (Int.tmod (wrap64 ((wrap64 (x1 - x0)) + 8)) 8)))))))))))
def impl_Interleave.f (k : Nat) (a0 : Int) (a1 : Int) (a2 : Int) (a3 : Int) : Option (Bool) := (some (([a0, a1, a2, a3] : List Int) : List Int)).bind fun y470 => (impl_Interleave.l0 k a0 a1 a2 a3 y470 (y470.length : Int) 0)
theorem impl_Interleave.mono_l : ∀ k, (∀ y0 y1 y2 y3 y4 y5 y6, LeO (impl_Interleave.l0 k y0 y1 y2 y3 y4 y5 y6) (impl_Interleave.l0 (k + 1) y0 y1 y2 y3 y4 y5 y6))
 | 0 => fun _ _ _ _ _ _ _ r h => by simp [impl_Interleave.l0] at h
 | k + 1 => by
  have ih0 := impl_Interleave.mono_l k
  ·
   intro y0 y1 y2 y3 y4 y5 y6
   unfold impl_Interleave.l0
   exact mz1 ih0
theorem impl_Interleave.mono : ∀ a0 a1 a2 a3 k, LeO (impl_Interleave.f k a0 a1 a2 a3) (impl_Interleave.f (k + 1) a0 a1 a2 a3) := by
 intro a0 a1 a2 a3 k
 have ih0 := impl_Interleave.mono_l k
 unfold impl_Interleave.f
 exact mz1 ih0
set_option maxHeartbeats 8000000 in
set_option maxRecDepth 100000 in
theorem impl_Interleave.calls (k : Nat) (a0 : Int) (a1 : Int) (a2 : Int) (a3 : Int) (r : Bool) (w : World) (h : impl_Interleave.f k a0 a1 a2 a3 = some r) :
  Calls Try.prog 139 #[.int .i64 a0, .int .i64 a1, .int .i64 a2, .int .i64 a3] w fun e w' => e = .returned (.bool r) ∧ Below w.heap.size w w' := by
 have HB := Aside0.mk (Below.refl w.heap.size w)
 have H : ((some (([a0, a1, a2, a3] : List Int) : List Int)).bind fun y470 => (impl_Interleave.l0 k a0 a1 a2 a3 y470 (y470.length : Int) 0)) = some r := h
 clear h
 obtain ⟨y470, hy470⟩ : ∃ y_ : List Int, y_ = (([a0, a1, a2, a3] : List Int)) := ⟨_, rfl⟩
 replace H : (impl_Interleave.l0 k a0 a1 a2 a3 y470 (y470.length : Int) 0) = some r := rH H hy470
 have Ny470 := Aside0.mk hy470
 clear hy470
 have H' := Aside0.mk H
 clear H
 go_enter Try.func139, Try.ntmps139
 go_wp2_with (first | ((with_reducible refine gate_dst (N := 16) rfl ?_); refine Kd.R_lit (Kd.int .i64) _ 3 ?hg (N := 16) ?hd (xs := ([a0, a1, a2, a3] : List Int)) (inner := [.int .i64 a0, .int .i64 a1, .int .i64 a2, .int .i64 a3]) (ok := fun _ => True) (okp := fun _ => True) ?hr ?hp (fun _ hk => hk) trivial (Below.refl _ _) (Nat.le_refl _) (by simp) ?_; (case hd => rfl); (case hg => rfl); (case hr => first | (go_simp; done) | (go_simp; rfl)); (case hp => exact (Reps.one (show Kd.M (Kd.int .i64) _ _ _ a0 [.int .i64 a0] from rfl) (Reps.one (show Kd.M (Kd.int .i64) _ _ _ a1 [.int .i64 a1] from rfl) (Reps.one (show Kd.M (Kd.int .i64) _ _ _ a2 [.int .i64 a2] from rfl) (Reps.one (show Kd.M (Kd.int .i64) _ _ _ a3 [.int .i64 a3] from rfl) (Reps.none _ _)))))); intro v471 w5 ho6 hb hg_ hnew_; clear hg_ hnew_; (first | rw [← Ny470.out] at ho6 | (simp only [Int.reduceToNat] at ho6; rw [← Ny470.out] at ho6)); have HO472 := rl w ho6; replace HB := bs HB hb; clear hb ho6; obtain ⟨Ao7, co7, eo7⟩ := Kd.R_slice HO472.out; subst eo7))
 go_loopg [18] k (fun kq v18 w' => ∃ (x18_1 : Int), v18 = .int .i64 x18_1 ∧ Aside0 (impl_Interleave.l0 kq a0 a1 a2 a3 y470 (y470.length : Int) x18_1 = some r) ∧ Aside0 (kq ≤ k) ∧ Aside0 (Kd.R (Kd.int .i64) 3 w' w.heap.size (fun _ => True) (.slice Ao7 y470.length co7) y470) ∧ Aside0 (Below w.heap.size w w'))
 case atStart => exact ⟨(0), rS, H', ⟨Nat.le_refl _⟩, ⟨rK HO472⟩, ⟨bA⟩⟩
 case round =>
  clear H'
  obtain ⟨x18_1, rfl, HA, HK1, HO_16, HB⟩ := hrel
  cases gk with
  | zero => exact absurd HA.out (by simp [impl_Interleave.l0])
  | succ k1 =>
   have H := HA.out
   clear HA
   simp only [impl_Interleave.l0] at H
   by_cases c8 : x18_1 < (y470.length : Int)
   ·
    rw [if_pos c8] at H
    have c8b0 := decide_eq_true c8
    clear c8
    have c9 : 0 ≤ x18_1 := ifN H
    replace H := ifT H
    have c9b0 := decide_eq_true c9
    clear c9
    have c10 : x18_1 < (y470.length : Int) := ifN H
    replace H := ifT H
    have c10b0 := decide_eq_true c10
    clear c10
    obtain ⟨t474, A11, H⟩ := bindE H
    try dsimp only at H
    by_cases c12 : t474 = true
    ·
     subst c12
     have H1 : (impl_Interleave.l0 k1 a0 a1 a2 a3 y470 (y470.length : Int) (wrap64 (x18_1 + 1))) = some r := by rw [if_pos rfl] at H; exact H
     clear H
     have H := H1
     clear H1
     have H' := Aside0.mk H
     clear H
     obtain ⟨p473, q473⟩ : 0 ≤ (x18_1 : Int) ∧ x18_1 < (y470.length : Int) := ⟨dA, dA⟩
     obtain ⟨ad473, e473, hx473_0⟩ := Kd.at_int (Kd.R_reads' HO_16.out).2.2 x18_1 p473 q473
     cases e473
     obtain ⟨p473, q473⟩ := eT p473 q473
     go_wp2_with (first | ((with_reducible refine gate_callee (f := 75) rfl ?_); refine gL (some 23) Try.func75 #[.int .i64 (rd y470 x18_1), .int .i64 0, .int .i64 7] ?_; (with_reducible refine (impl_InRange.calls (rd y470 x18_1) 0 7 true _ A11.out).mono ?_); rintro e w' ⟨rfl, ⟨nd, rfl⟩⟩; refine ⟨_, rfl, ?_⟩))
     go_roundg k1
     case measure => have := HK1.out; omega
     case rel => exact ⟨(wrap64 (x18_1 + 1)), rS, H', ⟨by have := HK1.out; omega⟩, ⟨rK HO_16⟩, ⟨bA⟩⟩
    replace c12 := Bool.eq_false_iff.mpr c12
    subst c12
    have H1 : (some false) = some r := by rw [if_neg (show ¬ (false = true) by decide)] at H; exact H
    clear H
    have H := H1
    clear H1
    obtain rfl := Option.some.inj H
    obtain ⟨p473, q473⟩ : 0 ≤ (x18_1 : Int) ∧ x18_1 < (y470.length : Int) := ⟨dA, dA⟩
    obtain ⟨ad473, e473, hx473_0⟩ := Kd.at_int (Kd.R_reads' HO_16.out).2.2 x18_1 p473 q473
    cases e473
    obtain ⟨p473, q473⟩ := eT p473 q473
    go_wp2_with (first | ((with_reducible refine gate_callee (f := 75) rfl ?_); refine gL (some 23) Try.func75 #[.int .i64 (rd y470 x18_1), .int .i64 0, .int .i64 7] ?_; (with_reducible refine (impl_InRange.calls (rd y470 x18_1) 0 7 false _ A11.out).mono ?_); rintro e w' ⟨rfl, ⟨nd, rfl⟩⟩; refine ⟨_, rfl, ?_⟩))
    go_ret
    exact ⟨rA, bA⟩
   rw [if_neg c8] at H
   have c8b0 := decide_eq_false c8
   clear c8
   by_cases c13 : a0 = a1
   ·
    rw [if_pos c13] at H
    have c13b0 : (a0 == a1) = true := beq_iff_eq.mpr c13
    have c13b1 : (a0 != a1) = false := bne_eq_false_iff_eq.mpr c13
    clear c13
    obtain rfl := Option.some.inj H
    go_wp2
    go_ret
    exact ⟨rA, bA⟩
   rw [if_neg c13] at H
   have c13b0 : (a0 == a1) = false := beq_eq_false_iff_ne.mpr c13
   have c13b1 : (a0 != a1) = true := bne_iff_ne.mpr c13
   by_cases c14 : a0 = a2
   ·
    rw [if_pos c14] at H
    have c14b0 : (a0 == a2) = true := beq_iff_eq.mpr c14
    have c14b1 : (a0 != a2) = false := bne_eq_false_iff_eq.mpr c14
    clear c14
    obtain rfl := Option.some.inj H
    go_wp2
    go_ret
    exact ⟨rA, bA⟩
   rw [if_neg c14] at H
   have c14b0 : (a0 == a2) = false := beq_eq_false_iff_ne.mpr c14
   have c14b1 : (a0 != a2) = true := bne_iff_ne.mpr c14
   by_cases c15 : a0 = a3
   ·
    rw [if_pos c15] at H
    have c15b0 : (a0 == a3) = true := beq_iff_eq.mpr c15
    have c15b1 : (a0 != a3) = false := bne_eq_false_iff_eq.mpr c15
    clear c15
    obtain rfl := Option.some.inj H
    go_wp2
    go_ret
    exact ⟨rA, bA⟩
   rw [if_neg c15] at H
   have c15b0 : (a0 == a3) = false := beq_eq_false_iff_ne.mpr c15
   have c15b1 : (a0 != a3) = true := bne_iff_ne.mpr c15
   by_cases c16 : a1 = a2
   ·
    rw [if_pos c16] at H
    have c16b0 : (a1 == a2) = true := beq_iff_eq.mpr c16
    have c16b1 : (a1 != a2) = false := bne_eq_false_iff_eq.mpr c16
    clear c16
    obtain rfl := Option.some.inj H
    go_wp2
    go_ret
    exact ⟨rA, bA⟩
   rw [if_neg c16] at H
   have c16b0 : (a1 == a2) = false := beq_eq_false_iff_ne.mpr c16
   have c16b1 : (a1 != a2) = true := bne_iff_ne.mpr c16
   by_cases c17 : a1 = a3
   ·
    rw [if_pos c17] at H
    have c17b0 : (a1 == a3) = true := beq_iff_eq.mpr c17
    have c17b1 : (a1 != a3) = false := bne_eq_false_iff_eq.mpr c17
    clear c17
    obtain rfl := Option.some.inj H
    go_wp2
    go_ret
    exact ⟨rA, bA⟩
   rw [if_neg c17] at H
   have c17b0 : (a1 == a3) = false := beq_eq_false_iff_ne.mpr c17
   have c17b1 : (a1 != a3) = true := bne_iff_ne.mpr c17
   by_cases c18 : a2 = a3
   ·
    rw [if_pos c18] at H
    have c18b0 : (a2 == a3) = true := beq_iff_eq.mpr c18
    have c18b1 : (a2 != a3) = false := bne_eq_false_iff_eq.mpr c18
    clear c18
    obtain rfl := Option.some.inj H
    go_wp2
    go_ret
    exact ⟨rA, bA⟩
   rw [if_neg c18] at H
   have c18b0 : (a2 == a3) = false := beq_eq_false_iff_ne.mpr c18
   have c18b1 : (a2 != a3) = true := bne_iff_ne.mpr c18
   obtain rfl := Option.some.inj H
   go_wp2
   go_ret
   exact ⟨rA, bA⟩

/-! ### impl_InPlace: function 140 -/
def impl_InPlace.f (a0 : Int) : Option (Int) := (impl_InRange.f a0 0 3).bind fun t475 => (if t475 = true then (some (wrap64 (2 * a0))) else (some (-1)))
set_option maxHeartbeats 8000000 in
set_option maxRecDepth 100000 in
theorem impl_InPlace.calls (a0 : Int) (r : Int) (w : World) (h : impl_InPlace.f a0 = some r) :
  Calls Try.prog 140 #[.int .i64 a0] w fun e w' => e = .returned (.int .i64 r) ∧ Drawn0 w w' := by
 have H : ((impl_InRange.f a0 0 3).bind fun t475 => (if t475 = true then (some (wrap64 (2 * a0))) else (some (-1)))) = some r := h
 clear h
 obtain ⟨t475, A2, H⟩ := bindE H
 try dsimp only at H
 by_cases c3 : t475 = true
 ·
  subst c3
  have H1 : (some (wrap64 (2 * a0))) = some r := by rw [if_pos rfl] at H; exact H
  clear H
  have H := H1
  clear H1
  obtain rfl := Option.some.inj H
  go_enter Try.func140, Try.ntmps140
  go_wp2_with (first | ((with_reducible refine gate_callee (f := 75) rfl ?_); refine gL (some 4) Try.func75 #[.int .i64 a0, .int .i64 0, .int .i64 3] ?_; (with_reducible refine (impl_InRange.calls a0 0 3 true _ A2.out).mono ?_); rintro e w' ⟨rfl, ⟨nd, rfl⟩⟩; refine ⟨_, rfl, ?_⟩))
  go_ret
  exact ⟨rS, dD⟩
 replace c3 := Bool.eq_false_iff.mpr c3
 subst c3
 have H1 : (some (-1)) = some r := by rw [if_neg (show ¬ (false = true) by decide)] at H; exact H
 clear H
 have H := H1
 clear H1
 obtain rfl := Option.some.inj H
 go_enter Try.func140, Try.ntmps140
 go_wp2_with (first | ((with_reducible refine gate_callee (f := 75) rfl ?_); refine gL (some 4) Try.func75 #[.int .i64 a0, .int .i64 0, .int .i64 3] ?_; (with_reducible refine (impl_InRange.calls a0 0 3 false _ A2.out).mono ?_); rintro e w' ⟨rfl, ⟨nd, rfl⟩⟩; refine ⟨_, rfl, ?_⟩))
 go_ret
 exact ⟨rS, dD⟩

/-! ### impl_OutPlace: function 141 -/
def impl_OutPlace.f (a0 : Int) : Option (Int) := (impl_InRange.f a0 0 3).bind fun t476 => (if t476 = true then (some (wrap64 ((wrap64 (2 * a0)) + 1))) else (some (-1)))
set_option maxHeartbeats 8000000 in
set_option maxRecDepth 100000 in
theorem impl_OutPlace.calls (a0 : Int) (r : Int) (w : World) (h : impl_OutPlace.f a0 = some r) :
  Calls Try.prog 141 #[.int .i64 a0] w fun e w' => e = .returned (.int .i64 r) ∧ Drawn0 w w' := by
 have H : ((impl_InRange.f a0 0 3).bind fun t476 => (if t476 = true then (some (wrap64 ((wrap64 (2 * a0)) + 1))) else (some (-1)))) = some r := h
 clear h
 obtain ⟨t476, A2, H⟩ := bindE H
 try dsimp only at H
 by_cases c3 : t476 = true
 ·
  subst c3
  have H1 : (some (wrap64 ((wrap64 (2 * a0)) + 1))) = some r := by rw [if_pos rfl] at H; exact H
  clear H
  have H := H1
  clear H1
  obtain rfl := Option.some.inj H
  go_enter Try.func141, Try.ntmps141
  go_wp2_with (first | ((with_reducible refine gate_callee (f := 75) rfl ?_); refine gL (some 4) Try.func75 #[.int .i64 a0, .int .i64 0, .int .i64 3] ?_; (with_reducible refine (impl_InRange.calls a0 0 3 true _ A2.out).mono ?_); rintro e w' ⟨rfl, ⟨nd, rfl⟩⟩; refine ⟨_, rfl, ?_⟩))
  go_ret
  exact ⟨rS, dD⟩
 replace c3 := Bool.eq_false_iff.mpr c3
 subst c3
 have H1 : (some (-1)) = some r := by rw [if_neg (show ¬ (false = true) by decide)] at H; exact H
 clear H
 have H := H1
 clear H1
 obtain rfl := Option.some.inj H
 go_enter Try.func141, Try.ntmps141
 go_wp2_with (first | ((with_reducible refine gate_callee (f := 75) rfl ?_); refine gL (some 4) Try.func75 #[.int .i64 a0, .int .i64 0, .int .i64 3] ?_; (with_reducible refine (impl_InRange.calls a0 0 3 false _ A2.out).mono ?_); rintro e w' ⟨rfl, ⟨nd, rfl⟩⟩; refine ⟨_, rfl, ?_⟩))
 go_ret
 exact ⟨rS, dD⟩

/-! ### impl_Conflict: function 101 -/
def impl_Conflict.j0 : Nat → Bool → Int → Int → Int → Int → Int → Int → Int → Int → Option (Bool)
 | 0, _, _, _, _, _, _, _, _, _ => none
 | k + 1, x22, x478000, x478001, x478002, x478003, x479000, x479001, x479002, x479003 => if x22 = true then (some false) else (if x478001 = 2 then (if x479002 = x478002 then (some true) else (some (x479003 == x478002))) else (if x479001 = 2 then (if x478002 = x479002 then (some true) else (some (x478003 == x479002))) else (if x478002 = x479002 then ((impl_InPlace.f x478002).bind fun t481 => ((impl_OutPlace.f x478003).bind fun t482 => ((impl_InPlace.f x479002).bind fun t483 => ((impl_OutPlace.f x479003).bind fun t484 => ((impl_Interleave.f k t481 t482 t483 t484).bind fun t485 => (some t485)))))) else (if x478003 = x479003 then (some true) else ((impl_InPlace.f x478002).bind fun t486 => ((impl_OutPlace.f x478003).bind fun t487 => ((impl_InPlace.f x479002).bind fun t488 => ((impl_OutPlace.f x479003).bind fun t489 => ((impl_Interleave.f k t486 t487 t488 t489).bind fun t490 => (some t490))))))))))
def impl_Conflict.f (k : Nat) (a0_0 : Int) (a0_1 : Int) (a0_2 : Int) (a0_3 : Int) (a1_0 : Int) (a1_1 : Int) (a1_2 : Int) (a1_3 : Int) : Option (Bool) := (impl_IsPath.f a0_0 a0_1 a0_2 a0_3).bind fun t479 => (if t479 = true then ((impl_IsPath.f a1_0 a1_1 a1_2 a1_3).bind fun t480 => (if t480 = true then (if a0_1 = 2 then (impl_Conflict.j0 k (a1_1 == 2) a0_0 a0_1 a0_2 a0_3 a1_0 a1_1 a1_2 a1_3) else (impl_Conflict.j0 k false a0_0 a0_1 a0_2 a0_3 a1_0 a1_1 a1_2 a1_3)) else (impl_Conflict.j0 k true a0_0 a0_1 a0_2 a0_3 a1_0 a1_1 a1_2 a1_3))) else (impl_Conflict.j0 k true a0_0 a0_1 a0_2 a0_3 a1_0 a1_1 a1_2 a1_3))
theorem impl_Conflict.mono_l : ∀ k, (∀ y0 y1 y2 y3 y4 y5 y6 y7 y8, LeO (impl_Conflict.j0 k y0 y1 y2 y3 y4 y5 y6 y7 y8) (impl_Conflict.j0 (k + 1) y0 y1 y2 y3 y4 y5 y6 y7 y8))
 | 0 => fun _ _ _ _ _ _ _ _ _ r h => by simp [impl_Conflict.j0] at h
 | k + 1 => by
  have ih0 := impl_Conflict.mono_l k
  ·
   intro y0 y1 y2 y3 y4 y5 y6 y7 y8
   unfold impl_Conflict.j0
   exact mz2 ih0 impl_Interleave.mono
theorem impl_Conflict.mono : ∀ a0 a1 a2 a3 a4 a5 a6 a7 k, LeO (impl_Conflict.f k a0 a1 a2 a3 a4 a5 a6 a7) (impl_Conflict.f (k + 1) a0 a1 a2 a3 a4 a5 a6 a7) := by
 intro a0 a1 a2 a3 a4 a5 a6 a7 k
 have ih0 := impl_Conflict.mono_l k
 unfold impl_Conflict.f
 exact mz2 ih0 impl_Interleave.mono
def impl_Conflict.T7 : Bool × List (List Nat × List Nat) := (true, [([], []), ([0], [0]), ([], []), ([2], [2]), ([1, 3], [1, 3]), ([4], [4]), ([5], [5]), ([6, 5], [5, 6]), ([5], [5]), ([8, 5], [5, 8]), ([7, 9, 5], [5, 7, 9]), ([5, 10], [5, 10]), ([11, 5], [11]), ([12], [12]), ([13, 12], [12, 13]), ([14, 12, 12], [12, 14]), ([12], [12]), ([16, 12], [12, 16]), ([17, 15, 12], [12, 17]), ([12], [12]), ([19, 12], [12, 19]), ([20, 18, 12], [12, 20]), ([12], [12]), ([22, 12], [12, 22]), ([23, 21, 12], [12, 23]), ([15, 18, 21, 24, 24, 12], [12, 15, 18, 21, 24]), ([12, 25], [12, 25]), ([26, 25, 0, 1, 2, 3, 4, 5, 6, 7, 8, 9, 10, 11, 12, 13, 14, 15, 16, 17, 18, 19, 20, 21, 22, 23, 24, 25, 26], [26])])
def impl_Conflict.B7 : List Nat := [0, 1, 0, 4, 15, 31, 63, 127, 63, 319, 1023, 2047, 4095, 8191, 16383, 32767, 8191, 73727, 262143, 8191, 532479, 2097151, 8191, 4202495, 16777215, 33554431, 67108863, 134217727]
theorem impl_Conflict.tab7 : rtab .any (opsOf Try.f101 7) = impl_Conflict.T7 := by kernel_rfl
theorem impl_Conflict.bits7 : waitsOk impl_Conflict.T7.2 impl_Conflict.B7 = true := by kernel_rfl
set_option maxHeartbeats 8000000 in
set_option maxRecDepth 100000 in
theorem impl_Conflict.calls (k : Nat) (a0_0 : Int) (a0_1 : Int) (a0_2 : Int) (a0_3 : Int) (a1_0 : Int) (a1_1 : Int) (a1_2 : Int) (a1_3 : Int) (r : Bool) (w : World) (h : impl_Conflict.f k a0_0 a0_1 a0_2 a0_3 a1_0 a1_1 a1_2 a1_3 = some r) :
  Calls Try.prog 101 #[.agg #[.int .i64 a0_0, .int .i64 a0_1, .int .i64 a0_2, .int .i64 a0_3], .agg #[.int .i64 a1_0, .int .i64 a1_1, .int .i64 a1_2, .int .i64 a1_3]] w fun e w' => e = .returned (.bool r) ∧ Below w.heap.size w w' := by
 have hu50 := Try.underlying50
 have HB := Aside0.mk (Below.refl w.heap.size w)
 have H : ((impl_IsPath.f a0_0 a0_1 a0_2 a0_3).bind fun t479 => (if t479 = true then ((impl_IsPath.f a1_0 a1_1 a1_2 a1_3).bind fun t480 => (if t480 = true then (if a0_1 = 2 then (impl_Conflict.j0 k (a1_1 == 2) a0_0 a0_1 a0_2 a0_3 a1_0 a1_1 a1_2 a1_3) else (impl_Conflict.j0 k false a0_0 a0_1 a0_2 a0_3 a1_0 a1_1 a1_2 a1_3)) else (impl_Conflict.j0 k true a0_0 a0_1 a0_2 a0_3 a1_0 a1_1 a1_2 a1_3))) else (impl_Conflict.j0 k true a0_0 a0_1 a0_2 a0_3 a1_0 a1_1 a1_2 a1_3))) = some r := h
 clear h
 have HC3 := Aside0.mk H
 clear H
 go_enter Try.func101, Try.ntmps101
 go_upto_region 1 with (first | ((with_reducible refine gate_dst (N := 2) rfl ?_); refine bE (N := 2) (cs := #[.int .i64 a0_0, .int .i64 a0_1, .int .i64 a0_2, .int .i64 a0_3]) (t := 50) ?_; intro gb477 hg w4 hbox hb; have BK477 := Aside0.mk (hbox); have GW477 := gw w hg; have GE477 := gw w hg; replace HB := bs HB hb; clear hb hbox hg) | ((with_reducible refine gate_dst (N := 3) rfl ?_); refine bE (N := 3) (cs := #[.int .i64 a1_0, .int .i64 a1_1, .int .i64 a1_2, .int .i64 a1_3]) (t := 50) ?_; intro gb478 hg w5 hbox hb; have BK478 := Aside0.mk (hbox); have GW478 := gw w hg; have GE478 := gw w hg; replace HB := bs HB hb; have NB477_478 := nl BK477 hg; have NB478_477 := nr BK477 hg; replace BK477 := kb BK477 hb; clear hb hbox hg))
 (try simp only [Act.put, List.setIfInBounds_toArray, List.set_cons_zero, List.set_cons_succ])
 go_cut [22] (fun v22 wc => ∃ (kq : Nat) (x22_2 : Bool), v22 = .bool x22_2 ∧ Aside0 (impl_Conflict.j0 kq x22_2 a0_0 a0_1 a0_2 a0_3 a1_0 a1_1 a1_2 a1_3 = some r) ∧ Aside0 (kq ≤ k) ∧ Aside0 (wc.heap[gb477]? = some (.cells #[.int .i64 a0_0, .int .i64 a0_1, .int .i64 a0_2, .int .i64 a0_3] 50 (0, 0))) ∧ Aside0 (wc.heap[gb478]? = some (.cells #[.int .i64 a1_0, .int .i64 a1_1, .int .i64 a1_2, .int .i64 a1_3] 50 (0, 0))) ∧ Aside0 (Below w.heap.size w wc))
 case first =>
  have H := HC3.out
  clear HC3
  obtain ⟨t479, A6, H⟩ := bindE H
  try dsimp only at H
  by_cases c7 : t479 = true
  ·
   subst c7
   have H1 : ((impl_IsPath.f a1_0 a1_1 a1_2 a1_3).bind fun t480 => (if t480 = true then (if a0_1 = 2 then (impl_Conflict.j0 k (a1_1 == 2) a0_0 a0_1 a0_2 a0_3 a1_0 a1_1 a1_2 a1_3) else (impl_Conflict.j0 k false a0_0 a0_1 a0_2 a0_3 a1_0 a1_1 a1_2 a1_3)) else (impl_Conflict.j0 k true a0_0 a0_1 a0_2 a0_3 a1_0 a1_1 a1_2 a1_3))) = some r := by rw [if_pos rfl] at H; exact H
   clear H
   have H := H1
   clear H1
   obtain ⟨t480, A8, H⟩ := bindE H
   try dsimp only at H
   by_cases c9 : t480 = true
   ·
    subst c9
    have H1 : (if a0_1 = 2 then (impl_Conflict.j0 k (a1_1 == 2) a0_0 a0_1 a0_2 a0_3 a1_0 a1_1 a1_2 a1_3) else (impl_Conflict.j0 k false a0_0 a0_1 a0_2 a0_3 a1_0 a1_1 a1_2 a1_3)) = some r := by rw [if_pos rfl] at H; exact H
    clear H
    have H := H1
    clear H1
    by_cases c10 : a0_1 = 2
    ·
     rw [if_pos c10] at H
     have c10b0 : (a0_1 == 2) = true := beq_iff_eq.mpr c10
     have c10b1 : (a0_1 != 2) = false := bne_eq_false_iff_eq.mpr c10
     clear c10
     (first | rw [c10b0] | (simp only [i64_w, i32_w]; rw [c10b0]) | skip)
     have H' := Aside0.mk H
     clear H
     have hnb11 := NB477_478.out
     have hnc11 := NB478_477.out
     obtain ⟨_, _, _, _, _, _, _, _⟩ := blkc4 BK477
     go_wp2_with (first | ((with_reducible refine gate_callee (f := 90) rfl ?_); refine gL (some 6) Try.func90 #[.agg #[.int .i64 a0_0, .int .i64 a0_1, .int .i64 a0_2, .int .i64 a0_3]] ?_; (with_reducible refine (impl_IsPath.calls a0_0 a0_1 a0_2 a0_3 true _ A6.out).mono ?_); rintro e w13 ⟨rfl, hb⟩; refine ⟨_, rfl, ?_⟩; replace BK477 := kb BK477 hb; replace BK478 := kb BK478 hb; replace HB := bs HB hb; (try clear hb); obtain ⟨_, _, _, _, _, _, _, _⟩ := blkc4 BK478) | (go_at_call 90; (with_reducible refine (impl_IsPath.calls a1_0 a1_1 a1_2 a1_3 true _ A8.out).mono ?_); rintro e w15 ⟨rfl, hb⟩; replace BK477 := kb BK477 hb; replace BK478 := kb BK478 hb; replace HB := bs HB hb; (try clear hb); obtain ⟨_, _, _, _, _, _, _, _⟩ := blkc4 BK477; obtain ⟨_, _, _, _, _, _, _, _⟩ := blkc4 BK478))
     go_meet
     case rel => exact ⟨_, ((a1_1 == 2)), rS, H', ⟨oL⟩, ⟨bK BK477⟩, ⟨bK BK478⟩, ⟨bG⟩⟩
    rw [if_neg c10] at H
    have c10b0 : (a0_1 == 2) = false := beq_eq_false_iff_ne.mpr c10
    have c10b1 : (a0_1 != 2) = true := bne_iff_ne.mpr c10
    (first | rw [c10b0] | (simp only [i64_w, i32_w]; rw [c10b0]) | skip)
    have H' := Aside0.mk H
    clear H
    have hnb18 := NB477_478.out
    have hnc18 := NB478_477.out
    obtain ⟨_, _, _, _, _, _, _, _⟩ := blkc4 BK477
    go_wp2_with (first | ((with_reducible refine gate_callee (f := 90) rfl ?_); refine gL (some 6) Try.func90 #[.agg #[.int .i64 a0_0, .int .i64 a0_1, .int .i64 a0_2, .int .i64 a0_3]] ?_; (with_reducible refine (impl_IsPath.calls a0_0 a0_1 a0_2 a0_3 true _ A6.out).mono ?_); rintro e w20 ⟨rfl, hb⟩; refine ⟨_, rfl, ?_⟩; replace BK477 := kb BK477 hb; replace BK478 := kb BK478 hb; replace HB := bs HB hb; (try clear hb); obtain ⟨_, _, _, _, _, _, _, _⟩ := blkc4 BK478) | (go_at_call 90; (with_reducible refine (impl_IsPath.calls a1_0 a1_1 a1_2 a1_3 true _ A8.out).mono ?_); rintro e w22 ⟨rfl, hb⟩; replace BK477 := kb BK477 hb; replace BK478 := kb BK478 hb; replace HB := bs HB hb; (try clear hb); obtain ⟨_, _, _, _, _, _, _, _⟩ := blkc4 BK477))
    go_meet
    case rel => exact ⟨_, (false), rS, H', ⟨oL⟩, ⟨bK BK477⟩, ⟨bK BK478⟩, ⟨bG⟩⟩
   replace c9 := Bool.eq_false_iff.mpr c9
   subst c9
   have H1 : (impl_Conflict.j0 k true a0_0 a0_1 a0_2 a0_3 a1_0 a1_1 a1_2 a1_3) = some r := by rw [if_neg (show ¬ (false = true) by decide)] at H; exact H
   clear H
   have H := H1
   clear H1
   have H' := Aside0.mk H
   clear H
   have hnb24 := NB477_478.out
   have hnc24 := NB478_477.out
   obtain ⟨_, _, _, _, _, _, _, _⟩ := blkc4 BK477
   go_wp2_with (first | ((with_reducible refine gate_callee (f := 90) rfl ?_); refine gL (some 6) Try.func90 #[.agg #[.int .i64 a0_0, .int .i64 a0_1, .int .i64 a0_2, .int .i64 a0_3]] ?_; (with_reducible refine (impl_IsPath.calls a0_0 a0_1 a0_2 a0_3 true _ A6.out).mono ?_); rintro e w26 ⟨rfl, hb⟩; refine ⟨_, rfl, ?_⟩; replace BK477 := kb BK477 hb; replace BK478 := kb BK478 hb; replace HB := bs HB hb; (try clear hb); obtain ⟨_, _, _, _, _, _, _, _⟩ := blkc4 BK478) | (go_at_call 90; (with_reducible refine (impl_IsPath.calls a1_0 a1_1 a1_2 a1_3 false _ A8.out).mono ?_); rintro e w28 ⟨rfl, hb⟩; replace BK477 := kb BK477 hb; replace BK478 := kb BK478 hb; replace HB := bs HB hb; (try clear hb)))
   go_meet
   case rel => exact ⟨_, (true), rS, H', ⟨oL⟩, ⟨bK BK477⟩, ⟨bK BK478⟩, ⟨bG⟩⟩
  replace c7 := Bool.eq_false_iff.mpr c7
  subst c7
  have H1 : (impl_Conflict.j0 k true a0_0 a0_1 a0_2 a0_3 a1_0 a1_1 a1_2 a1_3) = some r := by rw [if_neg (show ¬ (false = true) by decide)] at H; exact H
  clear H
  have H := H1
  clear H1
  have H' := Aside0.mk H
  clear H
  have hnb29 := NB477_478.out
  have hnc29 := NB478_477.out
  obtain ⟨_, _, _, _, _, _, _, _⟩ := blkc4 BK477
  go_wp2_with (first | ((with_reducible refine gate_callee (f := 90) rfl ?_); refine gL (some 6) Try.func90 #[.agg #[.int .i64 a0_0, .int .i64 a0_1, .int .i64 a0_2, .int .i64 a0_3]] ?_; (with_reducible refine (impl_IsPath.calls a0_0 a0_1 a0_2 a0_3 false _ A6.out).mono ?_); rintro e w31 ⟨rfl, hb⟩; refine ⟨_, rfl, ?_⟩; replace BK477 := kb BK477 hb; replace BK478 := kb BK478 hb; replace HB := bs HB hb; (try clear hb)))
  go_meet
  case rel => exact ⟨_, (true), rS, H', ⟨oL⟩, ⟨bK BK477⟩, ⟨bK BK478⟩, ⟨bG⟩⟩
 case rest =>
  clear HC3
  obtain ⟨kq, x22_2, rfl, HA, HJ2, BK477, BK478, HB⟩ := hcut
  cases kq with
  | zero => exact absurd HA.out (by simp [impl_Conflict.j0])
  | succ kj2 =>
   have H := HA.out
   clear HA
   simp only [impl_Conflict.j0] at H
   by_cases c32 : x22_2 = true
   ·
    subst c32
    have H1 : (some false) = some r := by rw [if_pos rfl] at H; exact H
    clear H
    have H := H1
    clear H1
    obtain rfl := Option.some.inj H
    go_wp2
    go_ret
    exact ⟨rA, bG⟩
   replace c32 := Bool.eq_false_iff.mpr c32
   subst c32
   have H1 : (if a0_1 = 2 then (if a1_2 = a0_2 then (some true) else (some (a1_3 == a0_2))) else (if a1_1 = 2 then (if a0_2 = a1_2 then (some true) else (some (a0_3 == a1_2))) else (if a0_2 = a1_2 then ((impl_InPlace.f a0_2).bind fun t481 => ((impl_OutPlace.f a0_3).bind fun t482 => ((impl_InPlace.f a1_2).bind fun t483 => ((impl_OutPlace.f a1_3).bind fun t484 => ((impl_Interleave.f kj2 t481 t482 t483 t484).bind fun t485 => (some t485)))))) else (if a0_3 = a1_3 then (some true) else ((impl_InPlace.f a0_2).bind fun t486 => ((impl_OutPlace.f a0_3).bind fun t487 => ((impl_InPlace.f a1_2).bind fun t488 => ((impl_OutPlace.f a1_3).bind fun t489 => ((impl_Interleave.f kj2 t486 t487 t488 t489).bind fun t490 => (some t490)))))))))) = some r := by rw [if_neg (show ¬ (false = true) by decide)] at H; exact H
   clear H
   have H := H1
   clear H1
   by_cases c33 : a0_1 = 2
   ·
    rw [if_pos c33] at H
    have c33b0 : (a0_1 == 2) = true := beq_iff_eq.mpr c33
    have c33b1 : (a0_1 != 2) = false := bne_eq_false_iff_eq.mpr c33
    clear c33
    by_cases c34 : a1_2 = a0_2
    ·
     rw [if_pos c34] at H
     have c34b0 : (a1_2 == a0_2) = true := beq_iff_eq.mpr c34
     have c34b1 : (a1_2 != a0_2) = false := bne_eq_false_iff_eq.mpr c34
     clear c34
     obtain rfl := Option.some.inj H
     have hnb35 := NB477_478.out
     have hnc35 := NB478_477.out
     obtain ⟨_, _, _, _, _, _, _, _⟩ := blkc4 BK477
     obtain ⟨_, _, _, _, _, _, _, _⟩ := blkc4 BK478
     go_wp2
     go_ret
     exact ⟨rA, bG⟩
    rw [if_neg c34] at H
    have c34b0 : (a1_2 == a0_2) = false := beq_eq_false_iff_ne.mpr c34
    have c34b1 : (a1_2 != a0_2) = true := bne_iff_ne.mpr c34
    obtain rfl := Option.some.inj H
    have hnb38 := NB477_478.out
    have hnc38 := NB478_477.out
    obtain ⟨_, _, _, _, _, _, _, _⟩ := blkc4 BK477
    obtain ⟨_, _, _, _, _, _, _, _⟩ := blkc4 BK478
    go_wp2
    go_ret
    exact ⟨rA, bG⟩
   rw [if_neg c33] at H
   have c33b0 : (a0_1 == 2) = false := beq_eq_false_iff_ne.mpr c33
   have c33b1 : (a0_1 != 2) = true := bne_iff_ne.mpr c33
   by_cases c41 : a1_1 = 2
   ·
    rw [if_pos c41] at H
    have c41b0 : (a1_1 == 2) = true := beq_iff_eq.mpr c41
    have c41b1 : (a1_1 != 2) = false := bne_eq_false_iff_eq.mpr c41
    clear c41
    by_cases c42 : a0_2 = a1_2
    ·
     rw [if_pos c42] at H
     have c42b0 : (a0_2 == a1_2) = true := beq_iff_eq.mpr c42
     have c42b1 : (a0_2 != a1_2) = false := bne_eq_false_iff_eq.mpr c42
     clear c42
     obtain rfl := Option.some.inj H
     have hnb43 := NB477_478.out
     have hnc43 := NB478_477.out
     obtain ⟨_, _, _, _, _, _, _, _⟩ := blkc4 BK477
     obtain ⟨_, _, _, _, _, _, _, _⟩ := blkc4 BK478
     go_wp2
     go_ret
     exact ⟨rA, bG⟩
    rw [if_neg c42] at H
    have c42b0 : (a0_2 == a1_2) = false := beq_eq_false_iff_ne.mpr c42
    have c42b1 : (a0_2 != a1_2) = true := bne_iff_ne.mpr c42
    obtain rfl := Option.some.inj H
    have hnb46 := NB477_478.out
    have hnc46 := NB478_477.out
    obtain ⟨_, _, _, _, _, _, _, _⟩ := blkc4 BK477
    obtain ⟨_, _, _, _, _, _, _, _⟩ := blkc4 BK478
    go_wp2
    go_ret
    exact ⟨rA, bG⟩
   rw [if_neg c41] at H
   have c41b0 : (a1_1 == 2) = false := beq_eq_false_iff_ne.mpr c41
   have c41b1 : (a1_1 != 2) = true := bne_iff_ne.mpr c41
   by_cases c49 : a0_2 = a1_2
   ·
    rw [if_pos c49] at H
    have c49b0 : (a0_2 == a1_2) = true := beq_iff_eq.mpr c49
    have c49b1 : (a0_2 != a1_2) = false := bne_eq_false_iff_eq.mpr c49
    clear c49
    obtain ⟨t481, A50, H⟩ := bindE H
    try dsimp only at H
    obtain ⟨t482, A51, H⟩ := bindE H
    try dsimp only at H
    obtain ⟨t483, A52, H⟩ := bindE H
    try dsimp only at H
    obtain ⟨t484, A53, H⟩ := bindE H
    try dsimp only at H
    obtain ⟨t485, A54, H⟩ := bindE H
    try dsimp only at H
    obtain rfl := Option.some.inj H
    have hnb55 := NB477_478.out
    have hnc55 := NB478_477.out
    obtain ⟨_, _, _, _, _, _, _, _⟩ := blkc4 BK477
    obtain ⟨_, _, _, _, _, _, _, _⟩ := blkc4 BK478
    try go_wp2
    replace BK477 := dk BK477
    replace BK478 := dk BK478
    have HBo := HB
    replace HB := db HB
    refine sw (ds := []) 28 (mb 28 0) impl_Conflict.tab7 impl_Conflict.bits7 (h4c BK477 (h4 BK478)) (fun hHeld HT_ HW_ => ?_)
    generalize wc.drew = w58 at BK477 BK478 HB hHeld ⊢
    refine pa 0 53 (mb 28 1) HT_ ?_
    refine pa 2 55 (mb 28 5) HT_ ?_
    refine ta8 1 54 (mb 28 7) HT_ HW_ hHeld ?_
    refine ta8 3 56 (mb 28 15) HT_ HW_ hHeld ?_
    refine pa 4 57 (mb 28 31) HT_ ?_
    refine pa 5 58 (mb 28 63) HT_ ?_
    refine pu 6 59 (mb 28 127) HT_ ?_
    refine pu 7 60 (mb 28 255) HT_ ?_
    refine pu 8 61 (mb 28 511) HT_ ?_
    refine pu 9 62 (mb 28 1023) HT_ ?_
    refine pu 10 63 (mb 28 2047) HT_ ?_
    refine pa 11 64 (mb 28 4095) HT_ ?_
    refine pa 12 65 (mb 28 8191) HT_ ?_
    refine pa 13 66 (mb 28 16383) HT_ ?_
    refine pa 16 69 (mb 28 81919) HT_ ?_
    refine pa 19 72 (mb 28 606207) HT_ ?_
    refine pa 22 75 (mb 28 4800511) HT_ ?_
    refine ta8 14 67 (mb 28 4816895) HT_ HW_ hHeld ?_
    refine ta8 17 70 (mb 28 4947967) HT_ HW_ hHeld ?_
    refine ta8 20 73 (mb 28 5996543) HT_ HW_ hHeld ?_
    refine ta8 23 76 (mb 28 14385151) HT_ HW_ hHeld ?_
    refine oa 15 68 (mb 28 14417919) HT_ (fun K hK => ?_)
    refine gA Try.func140 #[.int .i64 a0_2] ?_
    with_reducible refine (impl_InPlace.calls a0_2 t481 _ A50.out).mono ?_
    rintro e w' ⟨rfl, ⟨nd, rfl⟩⟩
    refine ⟨_, rfl, ?_⟩
    refine hK.out _ _ (cm4 BK477 (cn4 BK478)) (fun hHeld => ?_)
    clear hK K
    refine nB ?_
    refine oa 18 71 (mb 28 14680063) HT_ (fun K hK => ?_)
    refine gA Try.func141 #[.int .i64 a0_3] ?_
    with_reducible refine (impl_OutPlace.calls a0_3 t482 _ A51.out).mono ?_
    rintro e w' ⟨rfl, ⟨nd, rfl⟩⟩
    refine ⟨_, rfl, ?_⟩
    refine hK.out _ _ (cm4 BK477 (cn4 BK478)) (fun hHeld => ?_)
    clear hK K
    refine nB ?_
    refine oa 21 74 (mb 28 16777215) HT_ (fun K hK => ?_)
    refine gA Try.func140 #[.int .i64 a1_2] ?_
    with_reducible refine (impl_InPlace.calls a1_2 t483 _ A52.out).mono ?_
    rintro e w' ⟨rfl, ⟨nd, rfl⟩⟩
    refine ⟨_, rfl, ?_⟩
    refine hK.out _ _ (cm4 BK477 (cn4 BK478)) (fun hHeld => ?_)
    clear hK K
    refine nB ?_
    refine oa 24 77 (mb 28 33554431) HT_ (fun K hK => ?_)
    refine gA Try.func141 #[.int .i64 a1_3] ?_
    with_reducible refine (impl_OutPlace.calls a1_3 t484 _ A53.out).mono ?_
    rintro e w' ⟨rfl, ⟨nd, rfl⟩⟩
    refine ⟨_, rfl, ?_⟩
    refine hK.out _ _ (cm4 BK477 (cn4 BK478)) (fun hHeld => ?_)
    clear hK K
    refine nB ?_
    refine oa 25 78 (mb 28 67108863) HT_ (fun K hK => ?_)
    refine gA Try.func139 #[.int .i64 t481, .int .i64 t482, .int .i64 t483, .int .i64 t484] ?_
    with_reducible refine (impl_Interleave.calls kj2 t481 t482 t483 t484 t485 _ A54.out).mono ?_
    rintro e w59 ⟨rfl, hb⟩
    refine ⟨_, rfl, ?_⟩
    replace BK477 := kb BK477 hb
    replace BK478 := kb BK478 hb
    replace HB := bs HB hb
    (try clear hb)
    (try clear hb2)
    (try clear hk)
    (try clear hi)
    refine hK.out _ _ (cm4 BK477 (cn4 BK478)) (fun hHeld => ?_)
    clear hK K
    refine nB ?_
    refine pa 26 79 (mb 28 134217727) HT_ ?_
    refine pa 27 4 (mb 28 268435455) HT_ ?_
    refine eA HT_ ?_
    try go_wp2
    go_ret
    exact ⟨rA, bG⟩
   rw [if_neg c49] at H
   have c49b0 : (a0_2 == a1_2) = false := beq_eq_false_iff_ne.mpr c49
   have c49b1 : (a0_2 != a1_2) = true := bne_iff_ne.mpr c49
   by_cases c60 : a0_3 = a1_3
   ·
    rw [if_pos c60] at H
    have c60b0 : (a0_3 == a1_3) = true := beq_iff_eq.mpr c60
    have c60b1 : (a0_3 != a1_3) = false := bne_eq_false_iff_eq.mpr c60
    clear c60
    obtain rfl := Option.some.inj H
    have hnb61 := NB477_478.out
    have hnc61 := NB478_477.out
    obtain ⟨_, _, _, _, _, _, _, _⟩ := blkc4 BK477
    obtain ⟨_, _, _, _, _, _, _, _⟩ := blkc4 BK478
    try go_wp2
    replace BK477 := dk BK477
    replace BK478 := dk BK478
    have HBo := HB
    replace HB := db HB
    refine sw (ds := []) 28 (mb 28 0) impl_Conflict.tab7 impl_Conflict.bits7 (h4c BK477 (h4 BK478)) (fun hHeld HT_ HW_ => ?_)
    generalize wc.drew = w64 at BK477 BK478 HB hHeld ⊢
    refine pa 0 53 (mb 28 1) HT_ ?_
    refine pa 2 55 (mb 28 5) HT_ ?_
    refine ta8 1 54 (mb 28 7) HT_ HW_ hHeld ?_
    refine ta8 3 56 (mb 28 15) HT_ HW_ hHeld ?_
    refine pa 4 57 (mb 28 31) HT_ ?_
    refine pa 5 58 (mb 28 63) HT_ ?_
    refine pa 6 59 (mb 28 127) HT_ ?_
    refine pa 8 61 (mb 28 383) HT_ ?_
    refine ta8 7 60 (mb 28 511) HT_ HW_ hHeld ?_
    refine ta8 9 62 (mb 28 1023) HT_ HW_ hHeld ?_
    refine pa 10 63 (mb 28 2047) HT_ ?_
    refine pa 11 64 (mb 28 4095) HT_ ?_
    refine pa 12 65 (mb 28 8191) HT_ ?_
    refine pu 13 66 (mb 28 16383) HT_ ?_
    refine pu 14 67 (mb 28 32767) HT_ ?_
    refine pu 15 68 (mb 28 65535) HT_ ?_
    refine pu 16 69 (mb 28 131071) HT_ ?_
    refine pu 17 70 (mb 28 262143) HT_ ?_
    refine pu 18 71 (mb 28 524287) HT_ ?_
    refine pu 19 72 (mb 28 1048575) HT_ ?_
    refine pu 20 73 (mb 28 2097151) HT_ ?_
    refine pu 21 74 (mb 28 4194303) HT_ ?_
    refine pu 22 75 (mb 28 8388607) HT_ ?_
    refine pu 23 76 (mb 28 16777215) HT_ ?_
    refine pu 24 77 (mb 28 33554431) HT_ ?_
    refine pu 25 78 (mb 28 67108863) HT_ ?_
    refine pa 26 79 (mb 28 134217727) HT_ ?_
    refine pa 27 4 (mb 28 268435455) HT_ ?_
    refine eA HT_ ?_
    try go_wp2
    go_ret
    exact ⟨rA, bG⟩
   rw [if_neg c60] at H
   have c60b0 : (a0_3 == a1_3) = false := beq_eq_false_iff_ne.mpr c60
   have c60b1 : (a0_3 != a1_3) = true := bne_iff_ne.mpr c60
   obtain ⟨t486, A65, H⟩ := bindE H
   try dsimp only at H
   obtain ⟨t487, A66, H⟩ := bindE H
   try dsimp only at H
   obtain ⟨t488, A67, H⟩ := bindE H
   try dsimp only at H
   obtain ⟨t489, A68, H⟩ := bindE H
   try dsimp only at H
   obtain ⟨t490, A69, H⟩ := bindE H
   try dsimp only at H
   obtain rfl := Option.some.inj H
   have hnb70 := NB477_478.out
   have hnc70 := NB478_477.out
   obtain ⟨_, _, _, _, _, _, _, _⟩ := blkc4 BK477
   obtain ⟨_, _, _, _, _, _, _, _⟩ := blkc4 BK478
   try go_wp2
   replace BK477 := dk BK477
   replace BK478 := dk BK478
   have HBo := HB
   replace HB := db HB
   refine sw (ds := []) 28 (mb 28 0) impl_Conflict.tab7 impl_Conflict.bits7 (h4c BK477 (h4 BK478)) (fun hHeld HT_ HW_ => ?_)
   generalize wc.drew = w73 at BK477 BK478 HB hHeld ⊢
   refine pa 0 53 (mb 28 1) HT_ ?_
   refine pa 2 55 (mb 28 5) HT_ ?_
   refine ta8 1 54 (mb 28 7) HT_ HW_ hHeld ?_
   refine ta8 3 56 (mb 28 15) HT_ HW_ hHeld ?_
   refine pa 4 57 (mb 28 31) HT_ ?_
   refine pa 5 58 (mb 28 63) HT_ ?_
   refine pa 6 59 (mb 28 127) HT_ ?_
   refine pa 8 61 (mb 28 383) HT_ ?_
   refine ta8 7 60 (mb 28 511) HT_ HW_ hHeld ?_
   refine ta8 9 62 (mb 28 1023) HT_ HW_ hHeld ?_
   refine pa 10 63 (mb 28 2047) HT_ ?_
   refine pa 11 64 (mb 28 4095) HT_ ?_
   refine pa 12 65 (mb 28 8191) HT_ ?_
   refine pa 13 66 (mb 28 16383) HT_ ?_
   refine pa 16 69 (mb 28 81919) HT_ ?_
   refine pa 19 72 (mb 28 606207) HT_ ?_
   refine pa 22 75 (mb 28 4800511) HT_ ?_
   refine ta8 14 67 (mb 28 4816895) HT_ HW_ hHeld ?_
   refine ta8 17 70 (mb 28 4947967) HT_ HW_ hHeld ?_
   refine ta8 20 73 (mb 28 5996543) HT_ HW_ hHeld ?_
   refine ta8 23 76 (mb 28 14385151) HT_ HW_ hHeld ?_
   refine oa 15 68 (mb 28 14417919) HT_ (fun K hK => ?_)
   refine gA Try.func140 #[.int .i64 a0_2] ?_
   with_reducible refine (impl_InPlace.calls a0_2 t486 _ A65.out).mono ?_
   rintro e w' ⟨rfl, ⟨nd, rfl⟩⟩
   refine ⟨_, rfl, ?_⟩
   refine hK.out _ _ (cm4 BK477 (cn4 BK478)) (fun hHeld => ?_)
   clear hK K
   refine nB ?_
   refine oa 18 71 (mb 28 14680063) HT_ (fun K hK => ?_)
   refine gA Try.func141 #[.int .i64 a0_3] ?_
   with_reducible refine (impl_OutPlace.calls a0_3 t487 _ A66.out).mono ?_
   rintro e w' ⟨rfl, ⟨nd, rfl⟩⟩
   refine ⟨_, rfl, ?_⟩
   refine hK.out _ _ (cm4 BK477 (cn4 BK478)) (fun hHeld => ?_)
   clear hK K
   refine nB ?_
   refine oa 21 74 (mb 28 16777215) HT_ (fun K hK => ?_)
   refine gA Try.func140 #[.int .i64 a1_2] ?_
   with_reducible refine (impl_InPlace.calls a1_2 t488 _ A67.out).mono ?_
   rintro e w' ⟨rfl, ⟨nd, rfl⟩⟩
   refine ⟨_, rfl, ?_⟩
   refine hK.out _ _ (cm4 BK477 (cn4 BK478)) (fun hHeld => ?_)
   clear hK K
   refine nB ?_
   refine oa 24 77 (mb 28 33554431) HT_ (fun K hK => ?_)
   refine gA Try.func141 #[.int .i64 a1_3] ?_
   with_reducible refine (impl_OutPlace.calls a1_3 t489 _ A68.out).mono ?_
   rintro e w' ⟨rfl, ⟨nd, rfl⟩⟩
   refine ⟨_, rfl, ?_⟩
   refine hK.out _ _ (cm4 BK477 (cn4 BK478)) (fun hHeld => ?_)
   clear hK K
   refine nB ?_
   refine oa 25 78 (mb 28 67108863) HT_ (fun K hK => ?_)
   refine gA Try.func139 #[.int .i64 t486, .int .i64 t487, .int .i64 t488, .int .i64 t489] ?_
   with_reducible refine (impl_Interleave.calls kj2 t486 t487 t488 t489 t490 _ A69.out).mono ?_
   rintro e w74 ⟨rfl, hb⟩
   refine ⟨_, rfl, ?_⟩
   replace BK477 := kb BK477 hb
   replace BK478 := kb BK478 hb
   replace HB := bs HB hb
   (try clear hb)
   (try clear hb2)
   (try clear hk)
   (try clear hi)
   refine hK.out _ _ (cm4 BK477 (cn4 BK478)) (fun hHeld => ?_)
   clear hK K
   refine nB ?_
   refine pa 26 79 (mb 28 134217727) HT_ ?_
   refine pa 27 4 (mb 28 268435455) HT_ ?_
   refine eA HT_ ?_
   try go_wp2
   go_ret
   exact ⟨rA, bG⟩

/-! ### impl_IsTogether: function 68 -/
mutual
def impl_IsTogether.l0 : Nat → List (S50) → List Int → List Int → Int → Int → Option (Bool)
 | 0, _, _, _, _, _ => none
 | k + 1, x0, x1, x13, x14, x15 => if x15 < x14 then (if 0 ≤ x15 then (if x15 < (x13.length : Int) then ((impl_FindPath.f x0 (rd x13 x15)).bind fun t493 => (if t493 < 0 then (impl_IsTogether.j1 k x0 x1 x15 t493 x13 x14 x15 true) else (if x15 > 0 then (if 0 ≤ (wrap64 (x15 - 1)) then (if (wrap64 (x15 - 1)) < (x1.length : Int) then (impl_IsTogether.j1 k x0 x1 x15 t493 x13 x14 x15 (decide ((rd x13 x15) ≤ (rd x1 (wrap64 (x15 - 1)))))) else (none)) else (none)) else (impl_IsTogether.j1 k x0 x1 x15 t493 x13 x14 x15 false)))) else (none)) else (none)) else (some true)
def impl_IsTogether.j1 : Nat → List (S50) → List Int → Int → Int → List Int → Int → Int → Bool → Option (Bool)
 | 0, _, _, _, _, _, _, _, _ => none
 | k + 1, x0, x1, x5, x7, x13, x14, x15, x37 => if x37 = true then (some false) else (if 0 ≤ x5 then (if x5 ≤ (x1.length : Int) then (impl_IsTogether.l1 k x0 x1 x7 x13 x14 x15 (x1.take (x5 : Int).toNat) ((x1.take (x5 : Int).toNat).length : Int) 0) else (none)) else (none))
def impl_IsTogether.l1 : Nat → List (S50) → List Int → Int → List Int → Int → Int → List Int → Int → Int → Option (Bool)
 | 0, _, _, _, _, _, _, _, _, _ => none
 | k + 1, x0, x1, x7, x13, x14, x15, x40, x41, x42 => if x42 < x41 then (if 0 ≤ x42 then (if x42 < (x40.length : Int) then (if 0 ≤ x7 then (if x7 < (x0.length : Int) then ((impl_FindPath.f x0 (rd x40 x42)).bind fun t498 => (if 0 ≤ t498 then (if t498 < (x0.length : Int) then ((impl_Conflict.f k ((rd_T50 x0 x7).f0) ((rd_T50 x0 x7).f1) ((rd_T50 x0 x7).f2) ((rd_T50 x0 x7).f3) ((rd_T50 x0 t498).f0) ((rd_T50 x0 t498).f1) ((rd_T50 x0 t498).f2) ((rd_T50 x0 t498).f3)).bind fun t500 => (if t500 = true then (some false) else (impl_IsTogether.l1 k x0 x1 x7 x13 x14 x15 x40 x41 (wrap64 (x42 + 1))))) else (none)) else (none))) else (none)) else (none)) else (none)) else (none)) else (impl_IsTogether.l0 k x0 x1 x13 x14 (wrap64 (x15 + 1)))
end
def impl_IsTogether.f (k : Nat) (l0 : List (S50)) (l1 : List Int) : Option (Bool) := (impl_ArePaths.f k l0).bind fun t491 => (if t491 = true then (impl_IsTogether.l0 k l0 l1 l1 (l1.length : Int) 0) else (some false))
theorem impl_IsTogether.mono_l : ∀ k, (∀ y0 y1 y2 y3 y4, LeO (impl_IsTogether.l0 k y0 y1 y2 y3 y4) (impl_IsTogether.l0 (k + 1) y0 y1 y2 y3 y4)) ∧ (∀ y0 y1 y2 y3 y4 y5 y6 y7, LeO (impl_IsTogether.j1 k y0 y1 y2 y3 y4 y5 y6 y7) (impl_IsTogether.j1 (k + 1) y0 y1 y2 y3 y4 y5 y6 y7)) ∧ (∀ y0 y1 y2 y3 y4 y5 y6 y7 y8, LeO (impl_IsTogether.l1 k y0 y1 y2 y3 y4 y5 y6 y7 y8) (impl_IsTogether.l1 (k + 1) y0 y1 y2 y3 y4 y5 y6 y7 y8))
 | 0 => ⟨fun _ _ _ _ _ r h => by simp [impl_IsTogether.l0] at h, fun _ _ _ _ _ _ _ _ r h => by simp [impl_IsTogether.j1] at h, fun _ _ _ _ _ _ _ _ _ r h => by simp [impl_IsTogether.l1] at h⟩
 | k + 1 => by
  obtain ⟨ih0, ih1, ih2⟩ := impl_IsTogether.mono_l k
  refine ⟨?_, ?_, ?_⟩
  ·
   intro y0 y1 y2 y3 y4
   unfold impl_IsTogether.l0
   exact mz5 ih0 ih1 ih2 impl_ArePaths.mono impl_Conflict.mono
  ·
   intro y0 y1 y2 y3 y4 y5 y6 y7
   unfold impl_IsTogether.j1
   exact mz5 ih0 ih1 ih2 impl_ArePaths.mono impl_Conflict.mono
  ·
   intro y0 y1 y2 y3 y4 y5 y6 y7 y8
   unfold impl_IsTogether.l1
   exact mz5 ih0 ih1 ih2 impl_ArePaths.mono impl_Conflict.mono
theorem impl_IsTogether.mono : ∀ a0 a1 k, LeO (impl_IsTogether.f k a0 a1) (impl_IsTogether.f (k + 1) a0 a1) := by
 intro a0 a1 k
 obtain ⟨ih0, ih1, ih2⟩ := impl_IsTogether.mono_l k
 unfold impl_IsTogether.f
 exact mz5 ih0 ih1 ih2 impl_ArePaths.mono impl_Conflict.mono
def impl_IsTogether.T12 : Bool × List (List Nat × List Nat) := (true, [([], []), ([], []), ([0, 1], [0, 1]), ([2], [2]), ([], []), ([], []), ([], []), ([5, 6], [5, 6]), ([4, 7], [4, 7]), ([8], [8]), ([3, 9, 7], [3, 9])])
def impl_IsTogether.B12 : List Nat := [0, 0, 3, 7, 0, 0, 0, 96, 240, 496, 1023]
theorem impl_IsTogether.tab12 : rtab .any (opsOf Try.f68 12) = impl_IsTogether.T12 := by kernel_rfl
theorem impl_IsTogether.bits12 : waitsOk impl_IsTogether.T12.2 impl_IsTogether.B12 = true := by kernel_rfl
set_option maxHeartbeats 8000000 in
set_option maxRecDepth 100000 in
theorem impl_IsTogether.calls (k : Nat) (A0 : Option Addr) (c0 : Nat) (l0 : List (S50)) (A1 : Option Addr) (c1 : Nat) (l1 : List Int) (r : Bool) (w : World) (hr0 : Kd.C k50 w A0 l0.length l0) (hc0 : l0.length ≤ c0) (hr1 : Kd.C (Kd.int .i64) w A1 l1.length l1) (hc1 : l1.length ≤ c1) (h : impl_IsTogether.f k l0 l1 = some r) :
  Calls Try.prog 68 #[.slice A0 l0.length c0, .slice A1 l1.length c1] w fun e w' => e = .returned (.bool r) ∧ Below w.heap.size w w' := by
 have hu50 := Try.underlying50
 have HR0 := Aside0.mk hr0
 have HC0 := Aside0.mk hc0
 clear hr0 hc0
 have HR1 := Aside0.mk hr1
 have HC1 := Aside0.mk hc1
 clear hr1 hc1
 have HB := Aside0.mk (Below.refl w.heap.size w)
 have H : ((impl_ArePaths.f k l0).bind fun t491 => (if t491 = true then (impl_IsTogether.l0 k l0 l1 l1 (l1.length : Int) 0) else (some false))) = some r := h
 clear h
 obtain ⟨t491, A3, H⟩ := bindE H
 try dsimp only at H
 by_cases c4 : t491 = true
 ·
  subst c4
  have H1 : (impl_IsTogether.l0 k l0 l1 l1 (l1.length : Int) 0) = some r := by rw [if_pos rfl] at H; exact H
  clear H
  have H := H1
  clear H1
  have H' := Aside0.mk H
  clear H
  go_enter Try.func68, Try.ntmps68
  go_wp2_with (first | ((with_reducible refine gate_callee (f := 32) rfl ?_); refine gL (some 11) Try.func32 #[.slice A0 l0.length c0] ?_; (with_reducible refine (impl_ArePaths.calls k _ _ l0 true _ ?_ ?_ A3.out).mono ?_); exact cO HR0; exact HC0.out; rintro e w5 ⟨rfl, hb⟩; refine ⟨_, rfl, ?_⟩; replace HB := bs HB hb; (try clear hb)))
  go_loopg [15] k (fun kq v15 w' => ∃ (x15_1 : Int), v15 = .int .i64 x15_1 ∧ Aside0 (impl_IsTogether.l0 kq l0 l1 l1 (l1.length : Int) x15_1 = some r) ∧ Aside0 (kq ≤ k) ∧ Aside0 (Below w.heap.size w w'))
  case atStart => exact ⟨(0), rS, H', ⟨Nat.le_refl _⟩, ⟨bA⟩⟩
  case round =>
   clear H'
   obtain ⟨x15_1, rfl, HA, HK1, HB⟩ := hrel
   cases gk with
   | zero => exact absurd HA.out (by simp [impl_IsTogether.l0])
   | succ k1 =>
    have H := HA.out
    clear HA
    simp only [impl_IsTogether.l0] at H
    by_cases c6 : x15_1 < (l1.length : Int)
    ·
     rw [if_pos c6] at H
     have c6b0 := decide_eq_true c6
     clear c6
     have c7 : 0 ≤ x15_1 := ifN H
     replace H := ifT H
     have c7b0 := decide_eq_true c7
     clear c7
     have c8 : x15_1 < (l1.length : Int) := ifN H
     replace H := ifT H
     have c8b0 := decide_eq_true c8
     clear c8
     obtain ⟨t493, A9, H⟩ := bindE H
     try dsimp only at H
     have HC10 := Aside0.mk H
     clear H
     obtain ⟨p492, q492⟩ : 0 ≤ (x15_1 : Int) ∧ x15_1 < (l1.length : Int) := ⟨dA, dA⟩
     obtain ⟨ad492, e492, hx492_0⟩ := Kd.at_int (Kd.C_below HR1.out HB.out) x15_1 p492 q492
     cases e492
     obtain ⟨p492, q492⟩ := eT p492 q492
     go_upto_region 7 with (first | ((with_reducible refine gate_callee (f := 16) rfl ?_); refine gL (some 22) Try.func16 #[.slice A0 l0.length c0, .int .i64 (rd l1 x15_1)] ?_; (with_reducible refine (impl_FindPath.calls _ _ l0 (rd l1 x15_1) t493 _ ?_ ?_ A9.out).mono ?_); exact cB HR0; exact HC0.out; rintro e w11 ⟨rfl, hb⟩; refine ⟨_, rfl, ?_⟩; replace HB := bs HB hb; (try clear hb)))
     (try simp only [Act.put, List.setIfInBounds_toArray, List.set_cons_zero, List.set_cons_succ])
     go_cut [37] (fun v37 wc => ∃ (kq : Nat) (x37_9 : Bool), v37 = .bool x37_9 ∧ Aside0 (impl_IsTogether.j1 kq l0 l1 x15_1 t493 l1 (l1.length : Int) x15_1 x37_9 = some r) ∧ Aside0 (kq ≤ k1) ∧ Aside0 (Below w.heap.size w wc))
     case first =>
      have H := HC10.out
      clear HC10
      by_cases c12 : t493 < 0
      ·
       rw [if_pos c12] at H
       have c12b0 := decide_eq_true c12
       clear c12
       (first | rw [c12b0] | (simp only [i64_w, i32_w]; rw [c12b0]) | skip)
       have H' := Aside0.mk H
       clear H
       go_wp2
       go_meet
       case rel => exact ⟨_, (true), rS, H', ⟨by have := HK1.out; first | omega | exact Nat.le_refl _⟩, ⟨bA⟩⟩
      rw [if_neg c12] at H
      have c12b0 := decide_eq_false c12
      clear c12
      (first | rw [c12b0] | (simp only [i64_w, i32_w]; rw [c12b0]) | skip)
      by_cases c13 : x15_1 > 0
      ·
       rw [if_pos c13] at H
       have c13b0 := decide_eq_true c13
       clear c13
       obtain ⟨ji14, hji14⟩ : ∃ j_ : Int, (wrap64 (x15_1 - 1)) = j_ := ⟨_, rfl⟩
       replace H : (if 0 ≤ (ji14) then (if (ji14) < (l1.length : Int) then (impl_IsTogether.j1 k1 l0 l1 x15_1 t493 l1 (l1.length : Int) x15_1 (decide ((rd l1 x15_1) ≤ (rd l1 (ji14))))) else (none)) else (none)) = some r := by first | (rw [hji14] at H; exact H) | (simp only [hji14] at H ⊢; exact H)
       have hji14w : (IntKind.i64.wrap (x15_1 - 1)) = ji14 := (i64_w _).trans hji14
       have c15 : 0 ≤ (ji14) := ifN H
       replace H := ifT H
       have c15b0 := decide_eq_true c15
       clear c15
       have c16 : (ji14) < (l1.length : Int) := ifN H
       replace H := ifT H
       have c16b0 := decide_eq_true c16
       clear c16
       have H' := Aside0.mk H
       clear H
       obtain ⟨p494, q494⟩ : 0 ≤ ((ji14) : Int) ∧ (ji14) < (l1.length : Int) := ⟨dA, dA⟩
       obtain ⟨ad494, e494, hx494_0⟩ := Kd.at_int (Kd.C_below HR1.out HB.out) (ji14) p494 q494
       obtain rfl : ad492 = ad494 := (by injection e494)
       obtain ⟨p494, q494⟩ := eT p494 q494
       go_wp2
       go_meet
       case rel => exact ⟨_, (decide ((rd l1 x15_1) ≤ (rd l1 (ji14)))), (by first | rfl | (simp; done) | (simp only [← hji14] <;> (first | rfl | simp)) | (simp [*]; done)), H', ⟨by have := HK1.out; first | omega | exact Nat.le_refl _⟩, ⟨bA⟩⟩
      rw [if_neg c13] at H
      have c13b0 := decide_eq_false c13
      clear c13
      have H' := Aside0.mk H
      clear H
      go_wp2
      go_meet
      case rel => exact ⟨_, (false), rS, H', ⟨by have := HK1.out; first | omega | exact Nat.le_refl _⟩, ⟨bA⟩⟩
     case rest =>
      clear HC10
      obtain ⟨kq, x37_9, rfl, HA, HJ9, HB⟩ := hcut
      cases kq with
      | zero => exact absurd HA.out (by simp [impl_IsTogether.j1])
      | succ kj9 =>
       have H := HA.out
       clear HA
       simp only [impl_IsTogether.j1] at H
       by_cases c17 : x37_9 = true
       ·
        subst c17
        have H1 : (some false) = some r := by rw [if_pos rfl] at H; exact H
        clear H
        have H := H1
        clear H1
        obtain rfl := Option.some.inj H
        go_wp2
        go_ret
        exact ⟨rA, bA⟩
       replace c17 := Bool.eq_false_iff.mpr c17
       subst c17
       have H1 : (if 0 ≤ x15_1 then (if x15_1 ≤ (l1.length : Int) then (impl_IsTogether.l1 kj9 l0 l1 t493 l1 (l1.length : Int) x15_1 (l1.take (x15_1 : Int).toNat) ((l1.take (x15_1 : Int).toNat).length : Int) 0) else (none)) else (none)) = some r := by rw [if_neg (show ¬ (false = true) by decide)] at H; exact H
       clear H
       have H := H1
       clear H1
       have c18 : 0 ≤ x15_1 := ifN H
       replace H := ifT H
       have c18b0 := eq_true c18
       have c18b1 := decide_eq_true c18
       clear c18
       have c19 : x15_1 ≤ (l1.length : Int) := ifN H
       replace H := ifT H
       have c19b0 := eq_true c19
       have c19b1 := decide_eq_true c19
       clear c19
       have H' := Aside0.mk H
       clear H
       obtain ⟨i020, hi020, _, hsz20, _⟩ := info_parts info3
       obtain ⟨hcut20, hA20, hC20⟩ := print_take_of (P := Try.prog) (Value.int .i64) 0 35 3 .i64 Try.underlying35 hi020 hsz20 (some ad492) c1 l1 x15_1 (dA) (dA) HC1.out
       have HR495 := Aside0.mk (Kd.C_of_reads (h1 := fun _ => rfl) (hA20 _ (Kd.reads_of_C HR1.out)))
       have HC495 := Aside0.mk hC20
       clear hA20 hC20 hi020 hsz20
       have HL495 := Aside0.mk (show (x15_1 : Int) ≤ (l1.length : Int) from (dA))
       go_wp2
       go_loopg [42] kj9 (fun kq v42 w' => ∃ (x42_3 : Int), v42 = .int .i64 x42_3 ∧ Aside0 (impl_IsTogether.l1 kq l0 l1 t493 l1 (l1.length : Int) x15_1 (l1.take (x15_1 : Int).toNat) ((l1.take (x15_1 : Int).toNat).length : Int) x42_3 = some r) ∧ Aside0 (kq ≤ kj9) ∧ Aside0 (Below w.heap.size w w'))
       case atStart => exact ⟨(0), rS, H', ⟨Nat.le_refl _⟩, ⟨bA⟩⟩
       case round =>
        clear H'
        obtain ⟨x42_3, rfl, HA, HK3, HB⟩ := hrel
        cases gk with
        | zero => exact absurd HA.out (by simp [impl_IsTogether.l1])
        | succ k3 =>
         have H := HA.out
         clear HA
         simp only [impl_IsTogether.l1] at H
         by_cases c21 : x42_3 < ((l1.take (x15_1 : Int).toNat).length : Int)
         ·
          rw [if_pos c21] at H
          have c21b0 := decide_eq_true c21
          (try (have c21b1 : decide (x42_3 < max x15_1 0) = true := decide_eq_true (by rw [List.length_take] at c21; omega)))
          clear c21
          have c22 : 0 ≤ x42_3 := ifN H
          replace H := ifT H
          have c22b0 := decide_eq_true c22
          clear c22
          have c23 : x42_3 < ((l1.take (x15_1 : Int).toNat).length : Int) := ifN H
          replace H := ifT H
          have c23b0 := decide_eq_true c23
          (try (have c23b1 : decide (x42_3 < max x15_1 0) = true := decide_eq_true (by rw [List.length_take] at c23; omega)))
          clear c23
          have c24 : 0 ≤ t493 := ifN H
          replace H := ifT H
          have c24b0 := decide_eq_true c24
          clear c24
          have c25 : t493 < (l0.length : Int) := ifN H
          replace H := ifT H
          have c25b0 := decide_eq_true c25
          clear c25
          obtain ⟨t498, A26, H⟩ := bindE H
          try dsimp only at H
          have c27 : 0 ≤ t498 := ifN H
          replace H := ifT H
          have c27b0 := decide_eq_true c27
          clear c27
          have c28 : t498 < (l0.length : Int) := ifN H
          replace H := ifT H
          have c28b0 := decide_eq_true c28
          clear c28
          obtain ⟨t500, A29, H⟩ := bindE H
          try dsimp only at H
          by_cases c30 : t500 = true
          ·
           subst c30
           have H1 : (some false) = some r := by rw [if_pos rfl] at H; exact H
           clear H
           have H := H1
           clear H1
           obtain rfl := Option.some.inj H
           obtain ⟨p496, q496⟩ : 0 ≤ (x42_3 : Int) ∧ x42_3 < ((l1.take (x15_1 : Int).toNat).length : Int) := ⟨dA, dA⟩
           (try have q496m : (x42_3 < max x15_1 0) = True := eq_true (of_decide_eq_true (by assumption)))
           obtain ⟨ad496, e496, hx496_0⟩ := Kd.at_int (Kd.C_below HR495.out HB.out) x42_3 p496 q496
           obtain rfl : ad492 = ad496 := (by injection e496)
           obtain ⟨p496, q496⟩ := eT p496 q496
           try go_wp2
           have HBo := HB
           replace HB := db HB
           obtain ⟨p497, q497⟩ : 0 ≤ (t493 : Int) ∧ t493 < (l0.length : Int) := ⟨dA, dA⟩
           obtain ⟨ad497, e497, hx497_0, hx497_1, hx497_2, hx497_3⟩ := at_T50 HR0.out t493 p497 q497
           have hw497_3 := hx497_3
           have hw497_2 := hx497_2
           have hw497_1 := hx497_1
           have hw497_0 := hx497_0
           cases e497
           replace hx497_0 := hC HB hx497_0
           replace hx497_1 := hC HB hx497_1
           replace hx497_2 := hC HB hx497_2
           replace hx497_3 := hC HB hx497_3
           obtain ⟨p497, q497⟩ := eT p497 q497
           obtain ⟨p499, q499⟩ : 0 ≤ (t498 : Int) ∧ t498 < (l0.length : Int) := ⟨dA, dA⟩
           obtain ⟨ad499, e499, hx499_0, hx499_1, hx499_2, hx499_3⟩ := at_T50 HR0.out t498 p499 q499
           have hw499_3 := hx499_3
           have hw499_2 := hx499_2
           have hw499_1 := hx499_1
           have hw499_0 := hx499_0
           obtain rfl : ad497 = ad499 := (by injection e499)
           replace hx499_0 := hC HB hx499_0
           replace hx499_1 := hC HB hx499_1
           replace hx499_2 := hC HB hx499_2
           replace hx499_3 := hC HB hx499_3
           obtain ⟨p499, q499⟩ := eT p499 q499
           refine sw (ds := []) 11 (mb 11 0) impl_IsTogether.tab12 impl_IsTogether.bits12 (h1c (hC HB hw497_0) (h1c (hC HB hw497_1) (h1c (hC HB hw497_2) (h1c (hC HB hw497_3) (h1c (hC HB hw499_0) (h1c (hC HB hw499_1) (h1c (hC HB hw499_2) (h1 (hC HB hw499_3))))))))) (fun hHeld HT_ HW_ => ?_)
           generalize wr.drew = w31 at HB hx497_0 hx497_1 hx497_2 hx497_3 hx499_0 hx499_1 hx499_2 hx499_3 hHeld ⊢
           refine pa 0 46 (mb 11 1) HT_ ?_
           refine pa 1 47 (mb 11 3) HT_ ?_
           refine pa 2 48 (mb 11 7) HT_ ?_
           refine pa 4 50 (mb 11 23) HT_ ?_
           refine pa 5 51 (mb 11 55) HT_ ?_
           refine pa 6 52 (mb 11 119) HT_ ?_
           refine ta8 3 49 (mb 11 127) HT_ HW_ hHeld ?_
           refine oa 7 53 (mb 11 255) HT_ (fun K hK => ?_)
           refine gA Try.func16 #[.slice (some ad497) l0.length c0, .int .i64 (rd (l1.take (x15_1 : Int).toNat) x42_3)] ?_
           with_reducible refine (impl_FindPath.calls _ _ l0 (rd (l1.take (x15_1 : Int).toNat) x42_3) t498 _ ?side1 ?side2 A26.out).mono ?_
           (case side1 => exact cB HR0)
           (case side2 => exact HC0.out)
           rintro e w32 ⟨rfl, hb⟩
           refine ⟨_, rfl, ?_⟩
           replace HB := bs HB hb
           (try clear hb)
           (try clear hb2)
           (try clear hk)
           (try clear hi)
           refine hK.out _ _ ⟨(hC HB hw497_0), (hC HB hw497_1), (hC HB hw497_2), (hC HB hw497_3), (hC HB hw499_0), (hC HB hw499_1), (hC HB hw499_2), (hC HB hw499_3)⟩ (fun hHeld => ?_)
           clear hK K
           refine nB ?_
           refine pa 8 54 (mb 11 511) HT_ ?_
           refine ta8 9 55 (mb 11 1023) HT_ HW_ hHeld ?_
           refine oa 10 56 (mb 11 2047) HT_ (fun K hK => ?_)
           refine gA Try.func101 #[.agg #[.int .i64 ((rd_T50 l0 t493).f0), .int .i64 ((rd_T50 l0 t493).f1), .int .i64 ((rd_T50 l0 t493).f2), .int .i64 ((rd_T50 l0 t493).f3)], .agg #[.int .i64 ((rd_T50 l0 t498).f0), .int .i64 ((rd_T50 l0 t498).f1), .int .i64 ((rd_T50 l0 t498).f2), .int .i64 ((rd_T50 l0 t498).f3)]] ?_
           with_reducible refine (impl_Conflict.calls k3 ((rd_T50 l0 t493).f0) ((rd_T50 l0 t493).f1) ((rd_T50 l0 t493).f2) ((rd_T50 l0 t493).f3) ((rd_T50 l0 t498).f0) ((rd_T50 l0 t498).f1) ((rd_T50 l0 t498).f2) ((rd_T50 l0 t498).f3) true _ A29.out).mono ?_
           rintro e w33 ⟨rfl, hb⟩
           refine ⟨_, rfl, ?_⟩
           replace HB := bs HB hb
           (try clear hb)
           (try clear hb2)
           (try clear hk)
           (try clear hi)
           refine hK.out _ _ ⟨(hC HB hw497_0), (hC HB hw497_1), (hC HB hw497_2), (hC HB hw497_3), (hC HB hw499_0), (hC HB hw499_1), (hC HB hw499_2), (hC HB hw499_3)⟩ (fun hHeld => ?_)
           clear hK K
           refine nB ?_
           refine eA HT_ ?_
           try go_wp2
           go_ret
           exact ⟨rA, bA⟩
          replace c30 := Bool.eq_false_iff.mpr c30
          subst c30
          have H1 : (impl_IsTogether.l1 k3 l0 l1 t493 l1 (l1.length : Int) x15_1 (l1.take (x15_1 : Int).toNat) ((l1.take (x15_1 : Int).toNat).length : Int) (wrap64 (x42_3 + 1))) = some r := by rw [if_neg (show ¬ (false = true) by decide)] at H; exact H
          clear H
          have H := H1
          clear H1
          have H' := Aside0.mk H
          clear H
          obtain ⟨p496, q496⟩ : 0 ≤ (x42_3 : Int) ∧ x42_3 < ((l1.take (x15_1 : Int).toNat).length : Int) := ⟨dA, dA⟩
          (try have q496m : (x42_3 < max x15_1 0) = True := eq_true (of_decide_eq_true (by assumption)))
          obtain ⟨ad496, e496, hx496_0⟩ := Kd.at_int (Kd.C_below HR495.out HB.out) x42_3 p496 q496
          obtain rfl : ad492 = ad496 := (by injection e496)
          obtain ⟨p496, q496⟩ := eT p496 q496
          try go_wp2
          have HBo := HB
          replace HB := db HB
          obtain ⟨p497, q497⟩ : 0 ≤ (t493 : Int) ∧ t493 < (l0.length : Int) := ⟨dA, dA⟩
          obtain ⟨ad497, e497, hx497_0, hx497_1, hx497_2, hx497_3⟩ := at_T50 HR0.out t493 p497 q497
          have hw497_3 := hx497_3
          have hw497_2 := hx497_2
          have hw497_1 := hx497_1
          have hw497_0 := hx497_0
          cases e497
          replace hx497_0 := hC HB hx497_0
          replace hx497_1 := hC HB hx497_1
          replace hx497_2 := hC HB hx497_2
          replace hx497_3 := hC HB hx497_3
          obtain ⟨p497, q497⟩ := eT p497 q497
          obtain ⟨p499, q499⟩ : 0 ≤ (t498 : Int) ∧ t498 < (l0.length : Int) := ⟨dA, dA⟩
          obtain ⟨ad499, e499, hx499_0, hx499_1, hx499_2, hx499_3⟩ := at_T50 HR0.out t498 p499 q499
          have hw499_3 := hx499_3
          have hw499_2 := hx499_2
          have hw499_1 := hx499_1
          have hw499_0 := hx499_0
          obtain rfl : ad497 = ad499 := (by injection e499)
          replace hx499_0 := hC HB hx499_0
          replace hx499_1 := hC HB hx499_1
          replace hx499_2 := hC HB hx499_2
          replace hx499_3 := hC HB hx499_3
          obtain ⟨p499, q499⟩ := eT p499 q499
          refine sw (ds := []) 11 (mb 11 0) impl_IsTogether.tab12 impl_IsTogether.bits12 (h1c (hC HB hw497_0) (h1c (hC HB hw497_1) (h1c (hC HB hw497_2) (h1c (hC HB hw497_3) (h1c (hC HB hw499_0) (h1c (hC HB hw499_1) (h1c (hC HB hw499_2) (h1 (hC HB hw499_3))))))))) (fun hHeld HT_ HW_ => ?_)
          generalize wr.drew = w34 at HB hx497_0 hx497_1 hx497_2 hx497_3 hx499_0 hx499_1 hx499_2 hx499_3 hHeld ⊢
          refine pa 0 46 (mb 11 1) HT_ ?_
          refine pa 1 47 (mb 11 3) HT_ ?_
          refine pa 2 48 (mb 11 7) HT_ ?_
          refine pa 4 50 (mb 11 23) HT_ ?_
          refine pa 5 51 (mb 11 55) HT_ ?_
          refine pa 6 52 (mb 11 119) HT_ ?_
          refine ta8 3 49 (mb 11 127) HT_ HW_ hHeld ?_
          refine oa 7 53 (mb 11 255) HT_ (fun K hK => ?_)
          refine gA Try.func16 #[.slice (some ad497) l0.length c0, .int .i64 (rd (l1.take (x15_1 : Int).toNat) x42_3)] ?_
          with_reducible refine (impl_FindPath.calls _ _ l0 (rd (l1.take (x15_1 : Int).toNat) x42_3) t498 _ ?side1 ?side2 A26.out).mono ?_
          (case side1 => exact cB HR0)
          (case side2 => exact HC0.out)
          rintro e w35 ⟨rfl, hb⟩
          refine ⟨_, rfl, ?_⟩
          replace HB := bs HB hb
          (try clear hb)
          (try clear hb2)
          (try clear hk)
          (try clear hi)
          refine hK.out _ _ ⟨(hC HB hw497_0), (hC HB hw497_1), (hC HB hw497_2), (hC HB hw497_3), (hC HB hw499_0), (hC HB hw499_1), (hC HB hw499_2), (hC HB hw499_3)⟩ (fun hHeld => ?_)
          clear hK K
          refine nB ?_
          refine pa 8 54 (mb 11 511) HT_ ?_
          refine ta8 9 55 (mb 11 1023) HT_ HW_ hHeld ?_
          refine oa 10 56 (mb 11 2047) HT_ (fun K hK => ?_)
          refine gA Try.func101 #[.agg #[.int .i64 ((rd_T50 l0 t493).f0), .int .i64 ((rd_T50 l0 t493).f1), .int .i64 ((rd_T50 l0 t493).f2), .int .i64 ((rd_T50 l0 t493).f3)], .agg #[.int .i64 ((rd_T50 l0 t498).f0), .int .i64 ((rd_T50 l0 t498).f1), .int .i64 ((rd_T50 l0 t498).f2), .int .i64 ((rd_T50 l0 t498).f3)]] ?_
          with_reducible refine (impl_Conflict.calls k3 ((rd_T50 l0 t493).f0) ((rd_T50 l0 t493).f1) ((rd_T50 l0 t493).f2) ((rd_T50 l0 t493).f3) ((rd_T50 l0 t498).f0) ((rd_T50 l0 t498).f1) ((rd_T50 l0 t498).f2) ((rd_T50 l0 t498).f3) false _ A29.out).mono ?_
          rintro e w36 ⟨rfl, hb⟩
          refine ⟨_, rfl, ?_⟩
          replace HB := bs HB hb
          (try clear hb)
          (try clear hb2)
          (try clear hk)
          (try clear hi)
          refine hK.out _ _ ⟨(hC HB hw497_0), (hC HB hw497_1), (hC HB hw497_2), (hC HB hw497_3), (hC HB hw499_0), (hC HB hw499_1), (hC HB hw499_2), (hC HB hw499_3)⟩ (fun hHeld => ?_)
          clear hK K
          refine nB ?_
          refine eA HT_ ?_
          try go_wp2
          go_roundg k3
          case measure => have := HK1.out; have := HJ9.out; have := HK3.out; omega
          case rel => exact ⟨(wrap64 (x42_3 + 1)), rS, H', ⟨by have := HK1.out; have := HJ9.out; have := HK3.out; omega⟩, ⟨bA⟩⟩
         rw [if_neg c21] at H
         have c21b0 := decide_eq_false c21
         (try (have c21b1 : decide (x42_3 < max x15_1 0) = false := decide_eq_false (by have g_ : x15_1 ≤ (l1.length : Int) := (by first | exact dA | exact Int.le_of_lt dA | exact (show Aside0 (x15_1 ≤ (l1.length : Int)) by assumption).out); rw [List.length_take] at c21; omega)))
         clear c21
         have H' := Aside0.mk H
         clear H
         go_wp2
         go_roundg k3
         case measure => have := HK1.out; have := HJ9.out; have := HK3.out; omega
         case rel => exact ⟨(wrap64 (x15_1 + 1)), rS, H', ⟨by have := HK1.out; have := HJ9.out; have := HK3.out; omega⟩, ⟨bA⟩⟩
    rw [if_neg c6] at H
    have c6b0 := decide_eq_false c6
    clear c6
    obtain rfl := Option.some.inj H
    go_wp2
    go_ret
    exact ⟨rA, bA⟩
 replace c4 := Bool.eq_false_iff.mpr c4
 subst c4
 have H1 : (some false) = some r := by rw [if_neg (show ¬ (false = true) by decide)] at H; exact H
 clear H
 have H := H1
 clear H1
 obtain rfl := Option.some.inj H
 go_enter Try.func68, Try.ntmps68
 go_wp2_with (first | ((with_reducible refine gate_callee (f := 32) rfl ?_); refine gL (some 11) Try.func32 #[.slice A0 l0.length c0] ?_; (with_reducible refine (impl_ArePaths.calls k _ _ l0 false _ ?_ ?_ A3.out).mono ?_); exact cO HR0; exact HC0.out; rintro e w37 ⟨rfl, hb⟩; refine ⟨_, rfl, ?_⟩; replace HB := bs HB hb; (try clear hb)))
 go_ret
 exact ⟨rA, bA⟩

/-! ### impl_LeastGreen: function 77 -/
def impl_LeastGreen.l0 : Nat → List (S50) → List Int → Int → Int → Option (Int)
 | 0, _, _, _, _ => none
 | k + 1, x0, x8, x9, x10 => if x10 < x9 then (if 0 ≤ x10 then (if x10 < (x8.length : Int) then ((impl_FindPath.f x0 (rd x8 x10)).bind fun t502 => (if t502 ≥ 0 then (if 0 ≤ t502 then (if t502 < (x0.length : Int) then (if ((rd_T50 x0 t502).f1) = 2 then (some 7) else (impl_LeastGreen.l0 k x0 x8 x9 (wrap64 (x10 + 1)))) else (none)) else (none)) else (impl_LeastGreen.l0 k x0 x8 x9 (wrap64 (x10 + 1))))) else (none)) else (none)) else (some 5)
def impl_LeastGreen.f (k : Nat) (l0 : List (S50)) (l1 : List Int) : Option (Int) := impl_LeastGreen.l0 k l0 l1 (l1.length : Int) 0
theorem impl_LeastGreen.mono_l : ∀ k, (∀ y0 y1 y2 y3, LeO (impl_LeastGreen.l0 k y0 y1 y2 y3) (impl_LeastGreen.l0 (k + 1) y0 y1 y2 y3))
 | 0 => fun _ _ _ _ r h => by simp [impl_LeastGreen.l0] at h
 | k + 1 => by
  have ih0 := impl_LeastGreen.mono_l k
  ·
   intro y0 y1 y2 y3
   unfold impl_LeastGreen.l0
   exact mz1 ih0
theorem impl_LeastGreen.mono : ∀ a0 a1 k, LeO (impl_LeastGreen.f k a0 a1) (impl_LeastGreen.f (k + 1) a0 a1) := by
 intro a0 a1 k
 have ih0 := impl_LeastGreen.mono_l k
 unfold impl_LeastGreen.f
 exact mz1 ih0
set_option maxHeartbeats 8000000 in
set_option maxRecDepth 100000 in
theorem impl_LeastGreen.calls (k : Nat) (A0 : Option Addr) (c0 : Nat) (l0 : List (S50)) (A1 : Option Addr) (c1 : Nat) (l1 : List Int) (r : Int) (w : World) (hr0 : Kd.C k50 w A0 l0.length l0) (hc0 : l0.length ≤ c0) (hr1 : Kd.C (Kd.int .i64) w A1 l1.length l1) (hc1 : l1.length ≤ c1) (h : impl_LeastGreen.f k l0 l1 = some r) :
  Calls Try.prog 77 #[.slice A0 l0.length c0, .slice A1 l1.length c1] w fun e w' => e = .returned (.int .i64 r) ∧ Below w.heap.size w w' := by
 have HR0 := Aside0.mk hr0
 have HC0 := Aside0.mk hc0
 clear hr0 hc0
 have HR1 := Aside0.mk hr1
 have HC1 := Aside0.mk hc1
 clear hr1 hc1
 have HB := Aside0.mk (Below.refl w.heap.size w)
 have H : (impl_LeastGreen.l0 k l0 l1 (l1.length : Int) 0) = some r := h
 clear h
 have H' := Aside0.mk H
 clear H
 go_enter Try.func77, Try.ntmps77
 go_wp2
 go_loopg [10] k (fun kq v10 w' => ∃ (x10_1 : Int), v10 = .int .i64 x10_1 ∧ Aside0 (impl_LeastGreen.l0 kq l0 l1 (l1.length : Int) x10_1 = some r) ∧ Aside0 (kq ≤ k) ∧ Aside0 (Below w.heap.size w w'))
 case atStart => exact ⟨(0), rS, H', ⟨Nat.le_refl _⟩, ⟨bA⟩⟩
 case round =>
  clear H'
  obtain ⟨x10_1, rfl, HA, HK1, HB⟩ := hrel
  cases gk with
  | zero => exact absurd HA.out (by simp [impl_LeastGreen.l0])
  | succ k1 =>
   have H := HA.out
   clear HA
   simp only [impl_LeastGreen.l0] at H
   by_cases c3 : x10_1 < (l1.length : Int)
   ·
    rw [if_pos c3] at H
    have c3b0 := decide_eq_true c3
    clear c3
    have c4 : 0 ≤ x10_1 := ifN H
    replace H := ifT H
    have c4b0 := decide_eq_true c4
    clear c4
    have c5 : x10_1 < (l1.length : Int) := ifN H
    replace H := ifT H
    have c5b0 := decide_eq_true c5
    clear c5
    obtain ⟨t502, A6, H⟩ := bindE H
    try dsimp only at H
    by_cases c7 : t502 ≥ 0
    ·
     rw [if_pos c7] at H
     have c7b0 := decide_eq_true c7
     clear c7
     have c8 : 0 ≤ t502 := ifN H
     replace H := ifT H
     have c8b0 := decide_eq_true c8
     clear c8
     have c9 : t502 < (l0.length : Int) := ifN H
     replace H := ifT H
     have c9b0 := decide_eq_true c9
     clear c9
     by_cases c10 : ((rd_T50 l0 t502).f1) = 2
     ·
      rw [if_pos c10] at H
      have c10b0 : (((rd_T50 l0 t502).f1) == 2) = true := beq_iff_eq.mpr c10
      have c10b1 : (((rd_T50 l0 t502).f1) != 2) = false := bne_eq_false_iff_eq.mpr c10
      clear c10
      obtain rfl := Option.some.inj H
      obtain ⟨p501, q501⟩ : 0 ≤ (x10_1 : Int) ∧ x10_1 < (l1.length : Int) := ⟨dA, dA⟩
      obtain ⟨ad501, e501, hx501_0⟩ := Kd.at_int (Kd.C_below HR1.out HB.out) x10_1 p501 q501
      cases e501
      obtain ⟨p501, q501⟩ := eT p501 q501
      go_wp2_with (first | ((with_reducible refine gate_callee (f := 16) rfl ?_); refine gL (some 16) Try.func16 #[.slice A0 l0.length c0, .int .i64 (rd l1 x10_1)] ?_; (with_reducible refine (impl_FindPath.calls _ _ l0 (rd l1 x10_1) t502 _ ?_ ?_ A6.out).mono ?_); exact cB HR0; exact HC0.out; rintro e w11 ⟨rfl, hb⟩; refine ⟨_, rfl, ?_⟩; replace HB := bs HB hb; (try clear hb); have p503 : 0 ≤ (t502 : Int) := dA; have q503 : t502 < (l0.length : Int) := dA; obtain ⟨ad503, e503, hx503_0, hx503_1, hx503_2, hx503_3⟩ := at_T50 HR0.out t502 p503 q503; cases e503; replace hx503_0 := hC HB hx503_0; replace hx503_1 := hC HB hx503_1; replace hx503_2 := hC HB hx503_2; replace hx503_3 := hC HB hx503_3; replace p503 := eq_true p503; replace q503 := eq_true q503))
      go_ret
      exact ⟨rA, bA⟩
     rw [if_neg c10] at H
     have c10b0 : (((rd_T50 l0 t502).f1) == 2) = false := beq_eq_false_iff_ne.mpr c10
     have c10b1 : (((rd_T50 l0 t502).f1) != 2) = true := bne_iff_ne.mpr c10
     have H' := Aside0.mk H
     clear H
     obtain ⟨p501, q501⟩ : 0 ≤ (x10_1 : Int) ∧ x10_1 < (l1.length : Int) := ⟨dA, dA⟩
     obtain ⟨ad501, e501, hx501_0⟩ := Kd.at_int (Kd.C_below HR1.out HB.out) x10_1 p501 q501
     cases e501
     obtain ⟨p501, q501⟩ := eT p501 q501
     go_wp2_with (first | ((with_reducible refine gate_callee (f := 16) rfl ?_); refine gL (some 16) Try.func16 #[.slice A0 l0.length c0, .int .i64 (rd l1 x10_1)] ?_; (with_reducible refine (impl_FindPath.calls _ _ l0 (rd l1 x10_1) t502 _ ?_ ?_ A6.out).mono ?_); exact cB HR0; exact HC0.out; rintro e w12 ⟨rfl, hb⟩; refine ⟨_, rfl, ?_⟩; replace HB := bs HB hb; (try clear hb); have p503 : 0 ≤ (t502 : Int) := dA; have q503 : t502 < (l0.length : Int) := dA; obtain ⟨ad503, e503, hx503_0, hx503_1, hx503_2, hx503_3⟩ := at_T50 HR0.out t502 p503 q503; cases e503; replace hx503_0 := hC HB hx503_0; replace hx503_1 := hC HB hx503_1; replace hx503_2 := hC HB hx503_2; replace hx503_3 := hC HB hx503_3; replace p503 := eq_true p503; replace q503 := eq_true q503))
     go_roundg k1
     case measure => have := HK1.out; omega
     case rel => exact ⟨(wrap64 (x10_1 + 1)), rS, H', ⟨by have := HK1.out; omega⟩, ⟨bA⟩⟩
    rw [if_neg c7] at H
    have c7b0 := decide_eq_false c7
    clear c7
    have H' := Aside0.mk H
    clear H
    obtain ⟨p501, q501⟩ : 0 ≤ (x10_1 : Int) ∧ x10_1 < (l1.length : Int) := ⟨dA, dA⟩
    obtain ⟨ad501, e501, hx501_0⟩ := Kd.at_int (Kd.C_below HR1.out HB.out) x10_1 p501 q501
    cases e501
    obtain ⟨p501, q501⟩ := eT p501 q501
    go_wp2_with (first | ((with_reducible refine gate_callee (f := 16) rfl ?_); refine gL (some 16) Try.func16 #[.slice A0 l0.length c0, .int .i64 (rd l1 x10_1)] ?_; (with_reducible refine (impl_FindPath.calls _ _ l0 (rd l1 x10_1) t502 _ ?_ ?_ A6.out).mono ?_); exact cB HR0; exact HC0.out; rintro e w13 ⟨rfl, hb⟩; refine ⟨_, rfl, ?_⟩; replace HB := bs HB hb; (try clear hb)))
    go_roundg k1
    case measure => have := HK1.out; omega
    case rel => exact ⟨(wrap64 (x10_1 + 1)), rS, H', ⟨by have := HK1.out; omega⟩, ⟨bA⟩⟩
   rw [if_neg c3] at H
   have c3b0 := decide_eq_false c3
   clear c3
   obtain rfl := Option.some.inj H
   go_wp2
   go_ret
   exact ⟨rA, bA⟩

/-! ### slices_Index_int_int: function 142 -/
def slices_Index_int_int.l0 : Nat → List Int → Int → Int → Int → Option (Int)
 | 0, _, _, _, _ => none
 | k + 1, x0, x1, x7, x8 => if x8 < x7 then (if 0 ≤ x8 then (if x8 < (x0.length : Int) then (if x1 = (rd x0 x8) then (some x8) else (slices_Index_int_int.l0 k x0 x1 x7 (wrap64 (x8 + 1)))) else (none)) else (none)) else (some (-1))
def slices_Index_int_int.f (k : Nat) (l0 : List Int) (a1 : Int) : Option (Int) := slices_Index_int_int.l0 k l0 a1 (l0.length : Int) 0
theorem slices_Index_int_int.mono_l : ∀ k, (∀ y0 y1 y2 y3, LeO (slices_Index_int_int.l0 k y0 y1 y2 y3) (slices_Index_int_int.l0 (k + 1) y0 y1 y2 y3))
 | 0 => fun _ _ _ _ r h => by simp [slices_Index_int_int.l0] at h
 | k + 1 => by
  have ih0 := slices_Index_int_int.mono_l k
  ·
   intro y0 y1 y2 y3
   unfold slices_Index_int_int.l0
   exact mz1 ih0
theorem slices_Index_int_int.mono : ∀ a0 a1 k, LeO (slices_Index_int_int.f k a0 a1) (slices_Index_int_int.f (k + 1) a0 a1) := by
 intro a0 a1 k
 have ih0 := slices_Index_int_int.mono_l k
 unfold slices_Index_int_int.f
 exact mz1 ih0
set_option maxHeartbeats 8000000 in
set_option maxRecDepth 100000 in
theorem slices_Index_int_int.calls (k : Nat) (A0 : Option Addr) (c0 : Nat) (l0 : List Int) (a1 : Int) (r : Int) (w : World) (hr0 : Kd.C (Kd.int .i64) w A0 l0.length l0) (hc0 : l0.length ≤ c0) (h : slices_Index_int_int.f k l0 a1 = some r) :
  Calls Try.prog 142 #[.slice A0 l0.length c0, .int .i64 a1] w fun e w' => e = .returned (.int .i64 r) ∧ Drawn0 w w' := by
 have HR0 := Aside0.mk hr0
 have HC0 := Aside0.mk hc0
 clear hr0 hc0
 have H : (slices_Index_int_int.l0 k l0 a1 (l0.length : Int) 0) = some r := h
 clear h
 have H' := Aside0.mk H
 clear H
 go_enter Try.func142, Try.ntmps142
 go_wp2
 go_loopg [8] k (fun kq v8 w' => ∃ (x8_1 : Int), v8 = .int .i64 x8_1 ∧ Aside0 (slices_Index_int_int.l0 kq l0 a1 (l0.length : Int) x8_1 = some r) ∧ Aside0 (kq ≤ k) ∧ Drawn0 w w')
 case atStart => exact ⟨(0), rS, H', ⟨Nat.le_refl _⟩, by repeat (first | exact Drawn0.refl _ | apply Drawn0.step)⟩
 case round =>
  clear H'
  obtain ⟨x8_1, rfl, HA, HK1, ⟨m1, rfl⟩⟩ := hrel
  cases gk with
  | zero => exact absurd HA.out (by simp [slices_Index_int_int.l0])
  | succ k1 =>
   have H := HA.out
   clear HA
   simp only [slices_Index_int_int.l0] at H
   by_cases c3 : x8_1 < (l0.length : Int)
   ·
    rw [if_pos c3] at H
    have c3b0 := decide_eq_true c3
    clear c3
    have c4 : 0 ≤ x8_1 := ifN H
    replace H := ifT H
    have c4b0 := decide_eq_true c4
    clear c4
    have c5 : x8_1 < (l0.length : Int) := ifN H
    replace H := ifT H
    have c5b0 := decide_eq_true c5
    clear c5
    by_cases c6 : a1 = (rd l0 x8_1)
    ·
     rw [if_pos c6] at H
     have c6b0 : (a1 == (rd l0 x8_1)) = true := beq_iff_eq.mpr c6
     have c6b1 : (a1 != (rd l0 x8_1)) = false := bne_eq_false_iff_eq.mpr c6
     clear c6
     obtain rfl := Option.some.inj H
     obtain ⟨p525, q525⟩ : 0 ≤ (x8_1 : Int) ∧ x8_1 < (l0.length : Int) := ⟨dA, dA⟩
     obtain ⟨ad525, e525, hx525_0⟩ := Kd.at_int HR0.out x8_1 p525 q525
     cases e525
     obtain ⟨p525, q525⟩ := eT p525 q525
     go_wp2
     go_ret
     exact ⟨rS, dD⟩
    rw [if_neg c6] at H
    have c6b0 : (a1 == (rd l0 x8_1)) = false := beq_eq_false_iff_ne.mpr c6
    have c6b1 : (a1 != (rd l0 x8_1)) = true := bne_iff_ne.mpr c6
    have H' := Aside0.mk H
    clear H
    obtain ⟨p525, q525⟩ : 0 ≤ (x8_1 : Int) ∧ x8_1 < (l0.length : Int) := ⟨dA, dA⟩
    obtain ⟨ad525, e525, hx525_0⟩ := Kd.at_int HR0.out x8_1 p525 q525
    cases e525
    obtain ⟨p525, q525⟩ := eT p525 q525
    go_wp2
    go_roundg k1
    case measure => have := HK1.out; omega
    case rel => exact ⟨(wrap64 (x8_1 + 1)), rS, H', ⟨by have := HK1.out; omega⟩, by repeat (first | exact Drawn0.refl _ | apply Drawn0.step)⟩
   rw [if_neg c3] at H
   have c3b0 := decide_eq_false c3
   clear c3
   obtain rfl := Option.some.inj H
   go_wp2
   go_ret
   exact ⟨rS, dD⟩

/-! ### slices_Contains_int_int: function 102 -/
def slices_Contains_int_int.f (k : Nat) (l0 : List Int) (a1 : Int) : Option (Bool) := (slices_Index_int_int.f k l0 a1).bind fun t526 => (some (decide (t526 ≥ 0)))
theorem slices_Contains_int_int.mono : ∀ a0 a1 k, LeO (slices_Contains_int_int.f k a0 a1) (slices_Contains_int_int.f (k + 1) a0 a1) := by
 intro a0 a1 k
 unfold slices_Contains_int_int.f
 exact mz1 slices_Index_int_int.mono
set_option maxHeartbeats 8000000 in
set_option maxRecDepth 100000 in
theorem slices_Contains_int_int.calls (k : Nat) (A0 : Option Addr) (c0 : Nat) (l0 : List Int) (a1 : Int) (r : Bool) (w : World) (hr0 : Kd.C (Kd.int .i64) w A0 l0.length l0) (hc0 : l0.length ≤ c0) (h : slices_Contains_int_int.f k l0 a1 = some r) :
  Calls Try.prog 102 #[.slice A0 l0.length c0, .int .i64 a1] w fun e w' => e = .returned (.bool r) ∧ Drawn0 w w' := by
 have HR0 := Aside0.mk hr0
 have HC0 := Aside0.mk hc0
 clear hr0 hc0
 have H : ((slices_Index_int_int.f k l0 a1).bind fun t526 => (some (decide (t526 ≥ 0)))) = some r := h
 clear h
 obtain ⟨t526, A3, H⟩ := bindE H
 try dsimp only at H
 obtain rfl := Option.some.inj H
 go_enter Try.func102, Try.ntmps102
 go_wp2_with (first | ((with_reducible refine gate_callee (f := 142) rfl ?_); refine gL (some 7) Try.func142 #[.slice A0 l0.length c0, .int .i64 a1] ?_; (with_reducible refine (slices_Index_int_int.calls k _ _ l0 a1 t526 _ ?_ ?_ A3.out).mono ?_); exact cO HR0; exact HC0.out; rintro e w' ⟨rfl, ⟨nd, rfl⟩⟩; refine ⟨_, rfl, ?_⟩))
 go_ret
 exact ⟨rS, dD⟩

/-! ### impl_isCovered: function 123 -/
theorem impl_isCovered.has_loop (l : List Int) (x : Int) (hl : l.length ≤ 9223372036854775807) : ∀ d i, i + d = l.length → ∃ r : Int, slices_Index_int_int.l0 (d + 1) l x (l.length : Int) (i : Int) = some r ∧ (0 ≤ r ↔ x ∈ l.drop i)
 | 0, i, h => by
  refine ⟨-1, ?_, ?_⟩
  ·
   rw [slices_Index_int_int.l0, if_neg (by omega)]
  ·
   rw [List.drop_of_length_le (by omega)]; simp
 | d + 1, i, h => by
  have hi : i < l.length := by omega
  have e : rd l (i : Int) = l[i] := by unfold rd; simp [List.getD_eq_getElem?_getD, List.getElem?_eq_getElem hi]
  rw [slices_Index_int_int.l0, if_pos (by omega), if_pos (by omega), if_pos (by omega), e, List.drop_eq_getElem_cons hi]
  by_cases c : x = l[i]
  ·
   exact ⟨i, if_pos c, ⟨fun _ => by rw [c]; exact List.mem_cons_self .., fun _ => by omega⟩⟩
  ·
   obtain ⟨r, h1, h2⟩ := impl_isCovered.has_loop l x hl d (i + 1) (by omega)
   refine ⟨r, ?_, h2.trans ⟨fun hh => List.mem_cons_of_mem _ hh, fun hh => (List.mem_cons.1 hh).resolve_left c⟩⟩
   rw [if_neg c, show wrap64 ((i : Int) + 1) = ((i + 1 : Nat) : Int) by unfold wrap64; omega]
   exact h1
theorem impl_isCovered.has (l : List Int) (x : Int) (hl : l.length ≤ 9223372036854775807) : slices_Contains_int_int.f (l.length + 1) l x = some (decide (x ∈ l)) := by
 obtain ⟨r, h1, h2⟩ := impl_isCovered.has_loop l x hl l.length 0 (by omega)
 unfold slices_Contains_int_int.f slices_Index_int_int.f
 have h1 : slices_Index_int_int.l0 (l.length + 1) l x (l.length : Int) 0 = some r := h1
 rw [h1, Option.bind_some]
 congr 1
 exact decide_eq_decide.2 (by rw [List.drop_zero] at h2; exact h2)
def impl_isCovered.q (id : Int) (x : List Int) : Bool := decide (id ∈ x)
set_option maxHeartbeats 400000 in
set_option maxRecDepth 100000 in
theorem impl_isCovered.clo (id : Int) (g : Nat) (A0 : Option Addr) (c0 : Nat) (x : List Int) (w : World) (hc : w.cell? ⟨g, 0, none⟩ = some (.int .i64 id)) (hr : Kd.C (Kd.int .i64) w A0 x.length x) (hk : x.length ≤ c0) :
  Calls Try.prog 149 #[.slice A0 x.length c0, .pointer (some ⟨g, 0, none⟩)] w fun e w' => e = .returned (.bool (impl_isCovered.q id x)) ∧ Below w.heap.size w w' := by
 have hg : g < w.heap.size := World.block_lt_of_cell? w _ hc
 have HI := Aside0.mk (impl_isCovered.has x id hr.2.1)
 have HR := Aside0.mk hr
 have HK := Aside0.mk hk
 clear hr hk
 go_enter Try.func149, Try.ntmps149
 go_wp2_with (go_at_call 102; refine (slices_Contains_int_int.calls _ _ _ x id _ _ ?s1 HK.out HI.out).mono ?_; (case s1 => first | exact HR.out | exact Kd.C_drew HR.out | exact Kd.C_alloc HR.out _); rintro e w1 ⟨rfl, hb1⟩)
 go_ret
 exact ⟨rfl, hb1.below⟩
def impl_isCovered.ix (id : Int) : List (List Int) → Int → Int
 | [], _ => -1
 | x :: l, i => if impl_isCovered.q id x = true then i else impl_isCovered.ix id l (i + 1)
theorem impl_isCovered.ix_hit (id : Int) : ∀ (l : List (List Int)) (i : Int) (m : Nat) (hm : m < l.length), (∀ j (hj : j < m), impl_isCovered.q id (l[j]'(by omega)) = false) → impl_isCovered.q id l[m] = true → impl_isCovered.ix id l i = i + m
 | [], i, m, hm, _, _ => absurd hm (by simp)
 | p :: l, i, 0, hm, _, h => by
  unfold impl_isCovered.ix
  rw [if_pos (show impl_isCovered.q id p = true from h)]
  simp
 | p :: l, i, m + 1, hm, hne, h => by
  unfold impl_isCovered.ix
  have h2 : impl_isCovered.q id p = false := hne 0 (by omega)
  rw [if_neg (by rw [h2]; decide), impl_isCovered.ix_hit id l (i + 1) m (by simpa using hm) (fun j hj => hne (j + 1) (by omega)) h]
  omega
theorem impl_isCovered.ix_miss (id : Int) : ∀ (l : List (List Int)) (i : Int), (∀ j (hj : j < l.length), impl_isCovered.q id l[j] = false) → impl_isCovered.ix id l i = -1
 | [], i, _ => rfl
 | p :: l, i, h => by
  unfold impl_isCovered.ix
  have h2 : impl_isCovered.q id p = false := h 0 (by simp)
  rw [if_neg (by rw [h2]; decide), impl_isCovered.ix_miss id l (i + 1) (fun j hj => h (j + 1) (by simpa using hj))]
theorem impl_isCovered.rd_ (l : List (List Int)) (j : Nat) (hj : j < l.length) : rd_L3 l (j : Int) = l[j] := by
 unfold rd_L3; simp [List.getD_eq_getElem?_getD, List.getElem?_eq_getElem hj]
set_option maxHeartbeats 4000000 in
set_option maxRecDepth 100000 in
theorem impl_isCovered.idx (id : Int) (g : Nat) (A0 : Option Addr) (c0 : Nat) (l0 : List (List Int)) (w : World) (hr0 : Kd.C (Kd.slice 3 (Kd.int .i64)) w A0 l0.length l0) (hc0 : l0.length ≤ c0) (hc : w.cell? ⟨g, 0, none⟩ = some (.int .i64 id)) :
  Calls Try.prog 173 #[.slice A0 l0.length c0, .func (.func 149) #[] #[.pointer (some ⟨g, 0, none⟩)]] w fun e w' => e = .returned (.int .i64 (impl_isCovered.ix id l0 0)) ∧ Below w.heap.size w w' := by
 have HC := Aside0.mk hc
 clear hc
 have HR0 := Aside0.mk hr0
 have HC0 := Aside0.mk hc0
 have hlen : l0.length ≤ 9223372036854775807 := hr0.2.1
 clear hr0 hc0
 have HB := Aside0.mk (Below.refl w.heap.size w)
 go_enter Try.func173, Try.ntmps173
 go_wp2
 go_loopg [5, 8] l0.length (fun gg v5 v8 w' => ∃ kk : Nat, v8 = .int .i64 kk ∧ Aside0 (kk ≤ l0.length) ∧ Aside0 (l0.length - kk ≤ gg) ∧ Aside0 (Below w.heap.size w w') ∧ Aside0 (∀ j (hj : j < kk) (hl : j < l0.length), impl_isCovered.q id l0[j] = false))
 case atStart => exact ⟨0, rfl, ⟨Nat.zero_le _⟩, ⟨by omega⟩, HB, ⟨fun j hj => absurd hj (Nat.not_lt_zero _)⟩⟩
 case round =>
  clear HB
  obtain ⟨kk, rfl, hk, hg, HB, HA⟩ := hrel
  by_cases hlt : kk < l0.length
  ·
   have hltz : decide ((kk : Int) < (l0.length : Int)) = true := decide_eq_true (by omega)
   have hltn : decide (kk < l0.length) = true := decide_eq_true hlt
   have p0 : (0 : Int) ≤ (kk : Int) := by omega
   have q0 : (kk : Int) < (l0.length : Int) := by omega
   have HE := Aside0.mk (impl_isCovered.rd_ l0 kk hlt)
   obtain ⟨ad, A1, c1, e1, hx0, hk1, hr1⟩ := at_L3 HR0.out (kk : Int) p0 q0
   cases e1
   rw [Int.toNat_natCast] at hx0
   replace hx0 := hC HB hx0
   replace p0 := eq_true p0
   replace q0 := eq_true q0
   have hcl := fun (w' : World) (hb : Below w.heap.size w w') => impl_isCovered.clo id g A1 c1 (rd_L3 l0 (kk : Int)) w' ((hb.cell (World.block_lt_of_cell? w _ HC.out)).trans HC.out) (Kd.C_below hr1 hb) hk1
   clear hr1
   have HK1 := Aside0.mk hk1
   clear hk1
   cases hq : impl_isCovered.q id (rd_L3 l0 (kk : Int)) with
   | true =>
    rw [hq] at hcl
    have HCL := Aside0.mk hcl
    have HQ := Aside0.mk hq
    clear hcl hq
    go_wp2_with (go_at_call 149; refine (HCL.out _ HB.out).mono ?_; rintro e w1 ⟨rfl, hb1⟩)
    go_ret
    refine ⟨?_, below_step HB.out hb1⟩
    have hq := HQ.out
    rw [HE.out] at hq
    rw [impl_isCovered.ix_hit id l0 0 kk hlt (fun j hj => HA.out j hj (by omega)) hq, Int.zero_add]
    rfl
   | false =>
    rw [hq] at hcl
    have HCL := Aside0.mk hcl
    have HQ := Aside0.mk hq
    clear hcl hq
    go_wp2_with (go_at_call 149; refine (HCL.out _ HB.out).mono ?_; rintro e w1 ⟨rfl, hb1⟩)
    go_roundg (l0.length - (kk + 1))
    case measure => have := hg.out; omega
    case rel =>
     refine ⟨kk + 1, by go_num, ⟨by omega⟩, ⟨by omega⟩, ⟨below_step HB.out hb1⟩, ⟨fun j hj hl => ?_⟩⟩
     rcases Nat.lt_or_ge j kk with h3 | h3
     ·
      exact HA.out j h3 hl
     ·
      have h4 : j = kk := by omega
      subst h4
      rw [← HE.out]
      exact HQ.out
  ·
   have hge : decide ((kk : Int) < (l0.length : Int)) = false := decide_eq_false (by omega)
   have hgen : decide (kk < l0.length) = false := decide_eq_false hlt
   go_wp2
   go_ret
   refine ⟨?_, HB.out⟩
   rw [impl_isCovered.ix_miss id l0 0 (fun j hj => HA.out j (by omega) hj)]
   rfl
def impl_isCovered.f (l0 : List (List Int)) (a1 : Int) : Option Bool := some (decide (impl_isCovered.ix a1 l0 0 ≥ 0))
set_option maxHeartbeats 400000 in
set_option maxRecDepth 100000 in
theorem impl_isCovered.con (id : Int) (g : Nat) (A0 : Option Addr) (c0 : Nat) (l0 : List (List Int)) (w : World) (hr0 : Kd.C (Kd.slice 3 (Kd.int .i64)) w A0 l0.length l0) (hc0 : l0.length ≤ c0) (hc : w.cell? ⟨g, 0, none⟩ = some (.int .i64 id)) :
  Calls Try.prog 148 #[.slice A0 l0.length c0, .func (.func 149) #[] #[.pointer (some ⟨g, 0, none⟩)]] w fun e w' => e = .returned (.bool (decide (impl_isCovered.ix id l0 0 ≥ 0))) ∧ Below w.heap.size w w' := by
 have HC := Aside0.mk hc
 have HR0 := Aside0.mk hr0
 have HC0 := Aside0.mk hc0
 clear hr0 hc0 hc
 go_enter Try.func148, Try.ntmps148
 go_wp2_with (go_at_call 173; refine (impl_isCovered.idx id g A0 c0 l0 _ HR0.out HC0.out HC.out).mono ?_; rintro e w1 ⟨rfl, hb1⟩)
 go_ret
 exact ⟨rfl, hb1⟩
set_option maxHeartbeats 400000 in
set_option maxRecDepth 100000 in
theorem impl_isCovered.calls (A0 : Option Addr) (c0 : Nat) (l0 : List (List Int)) (a1 : Int) (r : Bool) (w : World) (hr0 : Kd.C (Kd.slice 3 (Kd.int .i64)) w A0 l0.length l0) (hc0 : l0.length ≤ c0) (h : impl_isCovered.f l0 a1 = some r) :
  Calls Try.prog 123 #[.slice A0 l0.length c0, .int .i64 a1] w fun e w' => e = .returned (.bool r) ∧ Below w.heap.size w w' := by
 obtain rfl := Option.some.inj h
 have HR0 := Aside0.mk hr0
 have HC0 := Aside0.mk hc0
 clear hr0 hc0 h
 go_enter Try.func123, Try.ntmps123
 go_wp2_with (go_at_call 148; refine (impl_isCovered.con a1 w.heap.size A0 c0 l0 _ ?s1 HC0.out ?s2).mono ?_; (case s1 => exact Kd.C_alloc HR0.out _); (case s2 => simp); rintro e w1 ⟨rfl, hb1⟩)
 go_ret
 exact ⟨rfl, below_step (below_alloc (Below.refl _ _) _) hb1⟩

/-! ### impl_Covers: function 78 -/
mutual
def impl_Covers.l0 : Nat → List (S50) → List (List Int) → List (List Int) → Int → Int → Option (Bool)
 | 0, _, _, _, _, _ => none
 | k + 1, x0, x1, x12, x13, x14 => if x14 < x13 then (if 0 ≤ x14 then (if x14 < (x12.length : Int) then ((impl_IsTogether.f k x0 (rd_L3 x12 x14)).bind fun t506 => (if t506 = true then (impl_Covers.l0 k x0 x1 x12 x13 (wrap64 (x14 + 1))) else (some false))) else (none)) else (none)) else (impl_Covers.l1 k x1 x0 (x0.length : Int) 0)
def impl_Covers.l1 : Nat → List (List Int) → List (S50) → Int → Int → Option (Bool)
 | 0, _, _, _, _ => none
 | k + 1, x1, x23, x24, x25 => if x25 < x24 then (if 0 ≤ x25 then (if x25 < (x23.length : Int) then ((impl_isCovered.f x1 ((rd_T50 x23 x25).f0)).bind fun t509 => (if t509 = true then (impl_Covers.l1 k x1 x23 x24 (wrap64 (x25 + 1))) else (some false))) else (none)) else (none)) else (some true)
end
def impl_Covers.f (k : Nat) (l0 : List (S50)) (l1 : List (List Int)) : Option (Bool) := (impl_ArePaths.f k l0).bind fun t504 => (if t504 = true then (impl_Covers.l0 k l0 l1 l1 (l1.length : Int) 0) else (some false))
theorem impl_Covers.mono_l : ∀ k, (∀ y0 y1 y2 y3 y4, LeO (impl_Covers.l0 k y0 y1 y2 y3 y4) (impl_Covers.l0 (k + 1) y0 y1 y2 y3 y4)) ∧ (∀ y0 y1 y2 y3, LeO (impl_Covers.l1 k y0 y1 y2 y3) (impl_Covers.l1 (k + 1) y0 y1 y2 y3))
 | 0 => ⟨fun _ _ _ _ _ r h => by simp [impl_Covers.l0] at h, fun _ _ _ _ r h => by simp [impl_Covers.l1] at h⟩
 | k + 1 => by
  obtain ⟨ih0, ih1⟩ := impl_Covers.mono_l k
  refine ⟨?_, ?_⟩
  ·
   intro y0 y1 y2 y3 y4
   unfold impl_Covers.l0
   exact mz4 ih0 ih1 impl_ArePaths.mono impl_IsTogether.mono
  ·
   intro y0 y1 y2 y3
   unfold impl_Covers.l1
   exact mz4 ih0 ih1 impl_ArePaths.mono impl_IsTogether.mono
theorem impl_Covers.mono : ∀ a0 a1 k, LeO (impl_Covers.f k a0 a1) (impl_Covers.f (k + 1) a0 a1) := by
 intro a0 a1 k
 obtain ⟨ih0, ih1⟩ := impl_Covers.mono_l k
 unfold impl_Covers.f
 exact mz4 ih0 ih1 impl_ArePaths.mono impl_IsTogether.mono
set_option maxHeartbeats 8000000 in
set_option maxRecDepth 100000 in
theorem impl_Covers.calls (k : Nat) (A0 : Option Addr) (c0 : Nat) (l0 : List (S50)) (A1 : Option Addr) (c1 : Nat) (l1 : List (List Int)) (r : Bool) (w : World) (hr0 : Kd.C k50 w A0 l0.length l0) (hc0 : l0.length ≤ c0) (hr1 : Kd.C (Kd.slice 3 (Kd.int .i64)) w A1 l1.length l1) (hc1 : l1.length ≤ c1) (h : impl_Covers.f k l0 l1 = some r) :
  Calls Try.prog 78 #[.slice A0 l0.length c0, .slice A1 l1.length c1] w fun e w' => e = .returned (.bool r) ∧ Below w.heap.size w w' := by
 have hu50 := Try.underlying50
 have HR0 := Aside0.mk hr0
 have HC0 := Aside0.mk hc0
 clear hr0 hc0
 have HR1 := Aside0.mk hr1
 have HC1 := Aside0.mk hc1
 clear hr1 hc1
 have HB := Aside0.mk (Below.refl w.heap.size w)
 have H : ((impl_ArePaths.f k l0).bind fun t504 => (if t504 = true then (impl_Covers.l0 k l0 l1 l1 (l1.length : Int) 0) else (some false))) = some r := h
 clear h
 obtain ⟨t504, A3, H⟩ := bindE H
 try dsimp only at H
 by_cases c4 : t504 = true
 ·
  subst c4
  have H1 : (impl_Covers.l0 k l0 l1 l1 (l1.length : Int) 0) = some r := by rw [if_pos rfl] at H; exact H
  clear H
  have H := H1
  clear H1
  have H' := Aside0.mk H
  clear H
  go_enter Try.func78, Try.ntmps78
  go_wp2_with (first | ((with_reducible refine gate_callee (f := 32) rfl ?_); refine gL (some 10) Try.func32 #[.slice A0 l0.length c0] ?_; (with_reducible refine (impl_ArePaths.calls k _ _ l0 true _ ?_ ?_ A3.out).mono ?_); exact cO HR0; exact HC0.out; rintro e w5 ⟨rfl, hb⟩; refine ⟨_, rfl, ?_⟩; replace HB := bs HB hb; (try clear hb)))
  go_loopg [14] k (fun kq v14 w' => ∃ (x14_1 : Int), v14 = .int .i64 x14_1 ∧ Aside0 (impl_Covers.l0 kq l0 l1 l1 (l1.length : Int) x14_1 = some r) ∧ Aside0 (kq ≤ k) ∧ Aside0 (Below w.heap.size w w'))
  case atStart => exact ⟨(0), rS, H', ⟨Nat.le_refl _⟩, ⟨bA⟩⟩
  case round =>
   clear H'
   obtain ⟨x14_1, rfl, HA, HK1, HB⟩ := hrel
   cases gk with
   | zero => exact absurd HA.out (by simp [impl_Covers.l0])
   | succ k1 =>
    have H := HA.out
    clear HA
    simp only [impl_Covers.l0] at H
    by_cases c6 : x14_1 < (l1.length : Int)
    ·
     rw [if_pos c6] at H
     have c6b0 := decide_eq_true c6
     clear c6
     have c7 : 0 ≤ x14_1 := ifN H
     replace H := ifT H
     have c7b0 := decide_eq_true c7
     clear c7
     have c8 : x14_1 < (l1.length : Int) := ifN H
     replace H := ifT H
     have c8b0 := decide_eq_true c8
     clear c8
     obtain ⟨t506, A9, H⟩ := bindE H
     try dsimp only at H
     by_cases c10 : t506 = true
     ·
      subst c10
      have H1 : (impl_Covers.l0 k1 l0 l1 l1 (l1.length : Int) (wrap64 (x14_1 + 1))) = some r := by rw [if_pos rfl] at H; exact H
      clear H
      have H := H1
      clear H1
      have H' := Aside0.mk H
      clear H
      obtain ⟨p505, q505⟩ : 0 ≤ (x14_1 : Int) ∧ x14_1 < (l1.length : Int) := ⟨dA, dA⟩
      obtain ⟨ad505, A505_0, c505_0, e505, hx505_0, hl505_0, hi505_0⟩ := at_L3 HR1.out x14_1 p505 q505
      cases e505
      replace hx505_0 := hC HB hx505_0
      have HR505_0 := Aside0.mk hi505_0
      have HC505_0 := Aside0.mk hl505_0
      clear hi505_0 hl505_0
      obtain ⟨p505, q505⟩ := eT p505 q505
      go_wp2_with (first | ((with_reducible refine gate_callee (f := 68) rfl ?_); refine gL (some 20) Try.func68 #[.slice A0 l0.length c0, .slice A505_0 (rd_L3 l1 x14_1).length c505_0] ?_; (with_reducible refine (impl_IsTogether.calls k1 _ _ l0 _ _ (rd_L3 l1 x14_1) true _ ?_ ?_ ?_ ?_ A9.out).mono ?_); exact cB HR0; exact HC0.out; exact cB HR505_0; exact HC505_0.out; rintro e w11 ⟨rfl, hb⟩; refine ⟨_, rfl, ?_⟩; replace HB := bs HB hb; (try clear hb)))
      go_roundg k1
      case measure => have := HK1.out; omega
      case rel => exact ⟨(wrap64 (x14_1 + 1)), rS, H', ⟨by have := HK1.out; omega⟩, ⟨bA⟩⟩
     replace c10 := Bool.eq_false_iff.mpr c10
     subst c10
     have H1 : (some false) = some r := by rw [if_neg (show ¬ (false = true) by decide)] at H; exact H
     clear H
     have H := H1
     clear H1
     obtain rfl := Option.some.inj H
     obtain ⟨p505, q505⟩ : 0 ≤ (x14_1 : Int) ∧ x14_1 < (l1.length : Int) := ⟨dA, dA⟩
     obtain ⟨ad505, A505_0, c505_0, e505, hx505_0, hl505_0, hi505_0⟩ := at_L3 HR1.out x14_1 p505 q505
     cases e505
     replace hx505_0 := hC HB hx505_0
     have HR505_0 := Aside0.mk hi505_0
     have HC505_0 := Aside0.mk hl505_0
     clear hi505_0 hl505_0
     obtain ⟨p505, q505⟩ := eT p505 q505
     go_wp2_with (first | ((with_reducible refine gate_callee (f := 68) rfl ?_); refine gL (some 20) Try.func68 #[.slice A0 l0.length c0, .slice A505_0 (rd_L3 l1 x14_1).length c505_0] ?_; (with_reducible refine (impl_IsTogether.calls k1 _ _ l0 _ _ (rd_L3 l1 x14_1) false _ ?_ ?_ ?_ ?_ A9.out).mono ?_); exact cB HR0; exact HC0.out; exact cB HR505_0; exact HC505_0.out; rintro e w12 ⟨rfl, hb⟩; refine ⟨_, rfl, ?_⟩; replace HB := bs HB hb; (try clear hb)))
     go_ret
     exact ⟨rA, bA⟩
    rw [if_neg c6] at H
    have c6b0 := decide_eq_false c6
    clear c6
    have H' := Aside0.mk H
    clear H
    go_wp2
    go_loopg [25] k1 (fun kq v25 w' => ∃ (x25_2 : Int), v25 = .int .i64 x25_2 ∧ Aside0 (impl_Covers.l1 kq l1 l0 (l0.length : Int) x25_2 = some r) ∧ Aside0 (kq ≤ k1) ∧ Aside0 (Below w.heap.size w w'))
    case atStart => exact ⟨(0), rS, H', ⟨Nat.le_refl _⟩, ⟨bA⟩⟩
    case round =>
     clear H'
     obtain ⟨x25_2, rfl, HA, HK2, HB⟩ := hrel
     cases gk with
     | zero => exact absurd HA.out (by simp [impl_Covers.l1])
     | succ k2 =>
      have H := HA.out
      clear HA
      simp only [impl_Covers.l1] at H
      by_cases c13 : x25_2 < (l0.length : Int)
      ·
       rw [if_pos c13] at H
       have c13b0 := decide_eq_true c13
       clear c13
       have c14 : 0 ≤ x25_2 := ifN H
       replace H := ifT H
       have c14b0 := decide_eq_true c14
       clear c14
       have c15 : x25_2 < (l0.length : Int) := ifN H
       replace H := ifT H
       have c15b0 := decide_eq_true c15
       clear c15
       obtain ⟨t509, A16, H⟩ := bindE H
       try dsimp only at H
       by_cases c17 : t509 = true
       ·
        subst c17
        have H1 : (impl_Covers.l1 k2 l1 l0 (l0.length : Int) (wrap64 (x25_2 + 1))) = some r := by rw [if_pos rfl] at H; exact H
        clear H
        have H := H1
        clear H1
        have H' := Aside0.mk H
        clear H
        obtain ⟨p507, q507⟩ : 0 ≤ (x25_2 : Int) ∧ x25_2 < (l0.length : Int) := ⟨dA, dA⟩
        obtain ⟨ad507, e507, hx507_0, hx507_1, hx507_2, hx507_3⟩ := at_T50 (Kd.C_below HR0.out HB.out) x25_2 p507 q507
        cases e507
        obtain ⟨p507, q507⟩ := eT p507 q507
        go_wp2_with (first | ((with_reducible refine gate_dst (N := 8) rfl ?_); refine bE (N := 8) (cs := #[.int .i64 0, .int .i64 0, .int .i64 0, .int .i64 0]) (t := 50) ?_; intro gb508 hg w18 hbox hb; have BK508 := Aside0.mk (hbox); have GW508 := gw w hg; have GE508 := gw w hg; replace HB := bs HB hb; clear hb hbox hg; obtain ⟨_, _, _, _, _, _, _, _⟩ := blkc4 BK508) | ((with_reducible refine gate_callee (f := 123) rfl ?_); refine gL (some 32) Try.func123 #[.slice A1 l1.length c1, .int .i64 ((rd_T50 l0 x25_2).f0)] ?_; (with_reducible refine (impl_isCovered.calls _ _ l1 ((rd_T50 l0 x25_2).f0) true _ ?_ ?_ A16.out).mono ?_); exact Kd.C_below HR1.out bG; exact HC1.out; rintro e w20 ⟨rfl, hb⟩; refine ⟨_, rfl, ?_⟩; replace BK508 := kc (o := .cells #[.int .i64 ((rd_T50 l0 x25_2).f0), .int .i64 ((rd_T50 l0 x25_2).f1), .int .i64 ((rd_T50 l0 x25_2).f2), .int .i64 ((rd_T50 l0 x25_2).f3)] 50 (0, 0)) (kp BK508) hb; replace HB := bs HB hb; (try clear hb)))
        go_roundg k2
        case measure => have := HK1.out; have := HK2.out; omega
        case rel => exact ⟨(wrap64 (x25_2 + 1)), rS, H', ⟨by have := HK1.out; have := HK2.out; omega⟩, ⟨bG⟩⟩
       replace c17 := Bool.eq_false_iff.mpr c17
       subst c17
       have H1 : (some false) = some r := by rw [if_neg (show ¬ (false = true) by decide)] at H; exact H
       clear H
       have H := H1
       clear H1
       obtain rfl := Option.some.inj H
       obtain ⟨p507, q507⟩ : 0 ≤ (x25_2 : Int) ∧ x25_2 < (l0.length : Int) := ⟨dA, dA⟩
       obtain ⟨ad507, e507, hx507_0, hx507_1, hx507_2, hx507_3⟩ := at_T50 (Kd.C_below HR0.out HB.out) x25_2 p507 q507
       cases e507
       obtain ⟨p507, q507⟩ := eT p507 q507
       go_wp2_with (first | ((with_reducible refine gate_dst (N := 8) rfl ?_); refine bE (N := 8) (cs := #[.int .i64 0, .int .i64 0, .int .i64 0, .int .i64 0]) (t := 50) ?_; intro gb508 hg w21 hbox hb; have BK508 := Aside0.mk (hbox); have GW508 := gw w hg; have GE508 := gw w hg; replace HB := bs HB hb; clear hb hbox hg; obtain ⟨_, _, _, _, _, _, _, _⟩ := blkc4 BK508) | ((with_reducible refine gate_callee (f := 123) rfl ?_); refine gL (some 32) Try.func123 #[.slice A1 l1.length c1, .int .i64 ((rd_T50 l0 x25_2).f0)] ?_; (with_reducible refine (impl_isCovered.calls _ _ l1 ((rd_T50 l0 x25_2).f0) false _ ?_ ?_ A16.out).mono ?_); exact Kd.C_below HR1.out bG; exact HC1.out; rintro e w23 ⟨rfl, hb⟩; refine ⟨_, rfl, ?_⟩; replace BK508 := kc (o := .cells #[.int .i64 ((rd_T50 l0 x25_2).f0), .int .i64 ((rd_T50 l0 x25_2).f1), .int .i64 ((rd_T50 l0 x25_2).f2), .int .i64 ((rd_T50 l0 x25_2).f3)] 50 (0, 0)) (kp BK508) hb; replace HB := bs HB hb; (try clear hb)))
       go_ret
       exact ⟨rA, bG⟩
      rw [if_neg c13] at H
      have c13b0 := decide_eq_false c13
      clear c13
      obtain rfl := Option.some.inj H
      go_wp2
      go_ret
      exact ⟨rA, bA⟩
 replace c4 := Bool.eq_false_iff.mpr c4
 subst c4
 have H1 : (some false) = some r := by rw [if_neg (show ¬ (false = true) by decide)] at H; exact H
 clear H
 have H := H1
 clear H1
 obtain rfl := Option.some.inj H
 go_enter Try.func78, Try.ntmps78
 go_wp2_with (first | ((with_reducible refine gate_callee (f := 32) rfl ?_); refine gL (some 10) Try.func32 #[.slice A0 l0.length c0] ?_; (with_reducible refine (impl_ArePaths.calls k _ _ l0 false _ ?_ ?_ A3.out).mono ?_); exact cO HR0; exact HC0.out; rintro e w24 ⟨rfl, hb⟩; refine ⟨_, rfl, ?_⟩; replace HB := bs HB hb; (try clear hb)))
 go_ret
 exact ⟨rA, bA⟩

/-! ### impl_IsPlan: function 15 -/
def impl_IsPlan.l0 : Nat → List (S50) → List (List Int) → List (S85) → Int → Int → Option (Bool)
 | 0, _, _, _, _, _ => none
 | k + 1, x0, x5, x13, x14, x15 => if x15 < x14 then (if 0 ≤ x15 then (if x15 < (x13.length : Int) then (if (((rd_T85 x13 x15).f0).length : Int) = 0 then (some false) else ((impl_IsTogether.f k x0 ((rd_T85 x13 x15).f0)).bind fun t517 => (if t517 = true then ((impl_LeastGreen.f k x0 ((rd_T85 x13 x15).f0)).bind fun t518 => ((impl_InRange.f ((rd_T85 x13 x15).f1) t518 60).bind fun t519 => (if t519 = true then (if x5.length < 5864062014805 then (impl_IsPlan.l0 k x0 (x5 ++ [(rd_T85 x13 x15).f0]) x13 x14 (wrap64 (x15 + 1))) else (none)) else (some false)))) else (some false)))) else (none)) else (none)) else ((impl_Covers.f k x0 x5).bind fun t514 => (some t514))
def impl_IsPlan.f (k : Nat) (l0 : List (S50)) (l1 : List (S85)) : Option (Bool) := (impl_InRange.f (l1.length : Int) 1 6).bind fun t510 => (if t510 = true then (impl_IsPlan.l0 k l0 (([] : List (List Int))) l1 (l1.length : Int) 0) else (some false))
theorem impl_IsPlan.mono_l : ∀ k, (∀ y0 y1 y2 y3 y4, LeO (impl_IsPlan.l0 k y0 y1 y2 y3 y4) (impl_IsPlan.l0 (k + 1) y0 y1 y2 y3 y4))
 | 0 => fun _ _ _ _ _ r h => by simp [impl_IsPlan.l0] at h
 | k + 1 => by
  have ih0 := impl_IsPlan.mono_l k
  ·
   intro y0 y1 y2 y3 y4
   unfold impl_IsPlan.l0
   exact mz4 ih0 impl_Covers.mono impl_IsTogether.mono impl_LeastGreen.mono
theorem impl_IsPlan.mono : ∀ a0 a1 k, LeO (impl_IsPlan.f k a0 a1) (impl_IsPlan.f (k + 1) a0 a1) := by
 intro a0 a1 k
 have ih0 := impl_IsPlan.mono_l k
 unfold impl_IsPlan.f
 exact mz4 ih0 impl_Covers.mono impl_IsTogether.mono impl_LeastGreen.mono
def impl_IsPlan.T7 : Bool × List (List Nat × List Nat) := (true, [([], []), ([0], [0]), ([1], [1]), ([2], [2]), ([3], [3]), ([4], [4]), ([4], [4]), ([6, 4], [4, 6]), ([5, 7, 4, 4], [4, 5, 7]), ([8, 4], [4, 8]), ([4, 9], [4, 9]), ([10, 8], [10]), ([11], [11]), ([12, 11], [11, 12]), ([11], [11]), ([11], [11]), ([15, 11], [11, 15]), ([14, 16, 11, 11], [11, 14, 16]), ([13, 17, 17, 11], [11, 13, 17]), ([18, 11], [11, 18]), ([11, 19], [11, 19])])
def impl_IsPlan.B7 : List Nat := [0, 1, 3, 7, 15, 31, 31, 95, 255, 511, 1023, 2047, 4095, 8191, 4095, 4095, 36863, 118783, 262143, 524287, 1048575]
theorem impl_IsPlan.tab7 : rtab .any (opsOf Try.f15 7) = impl_IsPlan.T7 := by kernel_rfl
theorem impl_IsPlan.bits7 : waitsOk impl_IsPlan.T7.2 impl_IsPlan.B7 = true := by kernel_rfl
set_option maxHeartbeats 8000000 in
set_option maxRecDepth 100000 in
theorem impl_IsPlan.calls (k : Nat) (A0 : Option Addr) (c0 : Nat) (l0 : List (S50)) (P1_ : Nat → Prop) (A1 : Option Addr) (c1 : Nat) (l1 : List (S85)) (r : Bool) (w : World) (hr0 : Kd.C k50 w A0 l0.length l0) (hc0 : l0.length ≤ c0) (hs1 : Kd.V k85 85 w w.heap.size (fun k_ => P1_ k_) (.slice A1 l1.length c1) l1) (h : impl_IsPlan.f k l0 l1 = some r) :
  Calls Try.prog 15 #[.slice A0 l0.length c0, .slice A1 l1.length c1] w fun e w' => e = .returned (.bool r) ∧ Below w.heap.size w w' := by
 have hu85 := Try.underlying85
 have HR0 := Aside0.mk hr0
 have HC0 := Aside0.mk hc0
 clear hr0 hc0
 have HO1 := Aside0.mk (show Kd.V k85 85 w w.heap.size (fun k_ => (P1_ k_ ∨ w.heap.size ≤ k_)) (.slice A1 l1.length c1) l1 from Kd.V_mono hs1 (fun k_ hk => .inl hk))
 have HB := Aside0.mk (Below.refl w.heap.size w)
 have H : ((impl_InRange.f (l1.length : Int) 1 6).bind fun t510 => (if t510 = true then (impl_IsPlan.l0 k l0 (([] : List (List Int))) l1 (l1.length : Int) 0) else (some false))) = some r := h
 clear h
 obtain ⟨t510, A3, H⟩ := bindE H
 try dsimp only at H
 by_cases c4 : t510 = true
 ·
  subst c4
  have H1 : (impl_IsPlan.l0 k l0 (([] : List (List Int))) l1 (l1.length : Int) 0) = some r := by rw [if_pos rfl] at H; exact H
  clear H
  have H := H1
  clear H1
  obtain ⟨y511, hy511⟩ : ∃ y_ : List (List Int), y_ = (([] : List (List Int))) := ⟨_, rfl⟩
  replace H : (impl_IsPlan.l0 k l0 y511 l1 (l1.length : Int) 0) = some r := rH H hy511
  have Ny511 := Aside0.mk hy511
  clear hy511
  have H' := Aside0.mk H
  clear H
  go_enter Try.func15, Try.ntmps15
  go_wp2_with (first | ((with_reducible refine gate_callee (f := 75) rfl ?_); refine gL (some 10) Try.func75 #[.int .i64 (l1.length : Int), .int .i64 1, .int .i64 6] ?_; (with_reducible refine (impl_InRange.calls (l1.length : Int) 1 6 true _ A3.out).mono ?_); rintro e w' ⟨rfl, ⟨nd, rfl⟩⟩; refine ⟨_, rfl, ?_⟩) | ((with_reducible refine gate_dst (N := 12) rfl ?_); refine Kd.N_lit (Kd.slice 3 (Kd.int .i64)) _ 35 ?hg (N' := 12) ?hd (xs := ([] : List (List Int))) (inner := []) (ok := (fun k_ => (P1_ k_ ∨ w.heap.size ≤ k_))) (okp := (fun k_ => (P1_ k_ ∨ w.heap.size ≤ k_))) ?hr ?hp (fun _ hk => hk) ((show ∀ k_, w.heap.size ≤ k_ → (fun k_ => (P1_ k_ ∨ w.heap.size ≤ k_)) k_ from fun k_ hk => (.inr (Nat.le_trans (below_size bA) hk))) _ (Nat.le_refl _)) (Below.refl _ _) (Nat.le_refl _) (by simp) ?_; (case hd => rfl); (case hg => rfl); (case hr => first | (go_simp; done) | (go_simp; rfl)); (case hp => exact (Reps.none _ _)); intro v512 w5 ho6 hb hg_ hnew_; clear hg_ hnew_; (first | rw [← Ny511.out] at ho6 | (simp only [Int.reduceToNat] at ho6; rw [← Ny511.out] at ho6)); have n0_ := Aside0.mk (Kd.V_elder' (by (with_reducible repeat (first | apply Kd.V_alloc | apply Kd.V_drewN | apply Kd.V_drew)); exact HO1.out) (by first | exact Kd.N_base ho6 | exact Kd.N_base (Kd.S_N ho6)) hb); have n1_ := Aside0.mk (Kd.N_lower ho6 (below_size bA)); have n2_ := bs HB hb; clear HO1; clear HB; have HO1 := n0_; have HO513 := n1_; have HB := n2_; clear n0_ n1_ n2_; clear hb ho6))
  go_loopg [5, 15] k (fun kq v5 v15 w' => ∃ (x5_1 : List (List Int)) (x15_1 : Int), v15 = .int .i64 x15_1 ∧ Aside0 (impl_IsPlan.l0 kq l0 x5_1 l1 (l1.length : Int) x15_1 = some r) ∧ Aside0 (kq ≤ k) ∧ Aside0 (Kd.N (Kd.slice 3 (Kd.int .i64)) 35 w' w.heap.size (fun k_ => (P1_ k_ ∨ w.heap.size ≤ k_)) v5 x5_1) ∧ Aside0 (Kd.V k85 85 w' w.heap.size (fun k_ => (P1_ k_ ∨ w.heap.size ≤ k_) ∧ some k_ ≠ (v5 : Value).ownBlock) (.slice A1 l1.length c1) l1) ∧ Aside0 (Below w.heap.size w w'))
  case atStart => exact ⟨(y511), (0), rS, H', ⟨Nat.le_refl _⟩, ⟨by (with_reducible repeat (first | apply Kd.N_alloc | apply Kd.N_drewN | apply Kd.N_drew)); exact HO513.out⟩, ⟨by (with_reducible repeat (first | apply Kd.V_alloc | apply Kd.V_drewN | apply Kd.V_drew)); exact HO1.out⟩, ⟨bA⟩⟩
  case round =>
   clear H'
   obtain ⟨x5_1, x15_1, rfl, HA, HK1, HO_5, HO_13, HB⟩ := hrel
   cases gk with
   | zero => exact absurd HA.out (by simp [impl_IsPlan.l0])
   | succ k1 =>
    have H := HA.out
    clear HA
    simp only [impl_IsPlan.l0] at H
    by_cases c7 : x15_1 < (l1.length : Int)
    ·
     rw [if_pos c7] at H
     have c7b0 := decide_eq_true c7
     clear c7
     have c8 : 0 ≤ x15_1 := ifN H
     replace H := ifT H
     have c8b0 := decide_eq_true c8
     clear c8
     have c9 : x15_1 < (l1.length : Int) := ifN H
     replace H := ifT H
     have c9b0 := decide_eq_true c9
     clear c9
     by_cases c10 : (((rd_T85 l1 x15_1).f0).length : Int) = 0
     ·
      rw [if_pos c10] at H
      have c10b0 : ((((rd_T85 l1 x15_1).f0).length : Int) == 0) = true := beq_iff_eq.mpr c10
      have c10b1 : ((((rd_T85 l1 x15_1).f0).length : Int) != 0) = false := bne_eq_false_iff_eq.mpr c10
      clear c10
      obtain rfl := Option.some.inj H
      obtain ⟨p515, q515⟩ : 0 ≤ (x15_1 : Int) ∧ x15_1 < (l1.length : Int) := ⟨dA, dA⟩
      obtain ⟨ad515, A515_0, c515_0, e515, hx515_0, hx515_1, hl515_0, hi515_0⟩ := at_T85 (Kd.V_reads' HO_13.out).2.2 x15_1 p515 q515
      cases e515
      obtain ⟨ce515, hce515, hMe515, hcc515⟩ := Kd.V_get HO_13.out z85 x15_1 p515 (by first | exact q515 | exact dA | (have e_ := (Kd.V_reads' HO_13.out).1; omega))
      obtain ⟨ua515_0, uc515_0, rfl, ul515_0, ge515_0⟩ := k85_openF hMe515
      have hv515_0 := hcc515 0 _ rfl
      rw [Nat.add_zero] at hv515_0
      replace hv515_0 := Option.some.inj (hv515_0.symm.trans hx515_0)
      injection hv515_0 with hva_ hvn_ hvc_
      rw [hva_] at ge515_0
      rw [hvc_] at ul515_0
      have HL515_0 := Aside0.mk (show Kd.V (Kd.int .i64) 3 _ w.heap.size _ _ ((rd_T85 l1 x15_1).f0) from Kd.V_mk ul515_0 ge515_0)
      clear hva_ hvn_ hvc_ ge515_0 ul515_0
      clear hcc515 hce515
      have HR515_0 := Aside0.mk hi515_0
      have HC515_0 := Aside0.mk hl515_0
      clear hi515_0 hl515_0
      obtain ⟨p515, q515⟩ := eT p515 q515
      try go_wp2_with (first | ((with_reducible refine gate_dst (N := 7) rfl ?_); refine bE (N := 7) (cs := #[.slice none 0 0, .int .i64 0]) (t := 85) ?_; intro gb516 hg w11 hbox hb; have n0_ := Aside0.mk (Kd.N_below (Kd.N_elderB (by (with_reducible repeat (first | apply Kd.N_alloc | apply Kd.N_drewN | apply Kd.N_drew)); exact HO_5.out) gb516 (Nat.le_of_eq hg.symm)) hb); have n1_ := Aside0.mk (Kd.V_below (Kd.V_elderB (by (with_reducible repeat (first | apply Kd.V_alloc | apply Kd.V_drewN | apply Kd.V_drew)); exact HO_13.out) gb516 (Nat.le_of_eq hg.symm)) hb); have n2_ := Aside0.mk (Kd.V_below (Kd.V_elderB (by (with_reducible repeat (first | apply Kd.V_alloc | apply Kd.V_drewN | apply Kd.V_drew)); exact HL515_0.out) gb516 (Nat.le_of_eq hg.symm)) hb); have n3_ := Aside0.mk (Kd.C_below (by repeat (first | (with_reducible exact HR515_0.out) | (with_reducible refine Kd.C_alloc ?_ _) | (with_reducible refine Kd.C_drewN ?_ _) | (with_reducible refine Kd.C_drew ?_) | exact HR515_0.out)) hb); have n4_ := bs HB hb; have n5_ := Aside0.mk (hbox); have n6_ := gw w hg; have n7_ := gw w hg; clear HO_5; clear HO_13; clear HL515_0; clear HR515_0; clear HB; have HO_5 := n0_; have HO_13 := n1_; have HL515_0 := n2_; have HR515_0 := n3_; have HB := n4_; have BK516 := n5_; have GW516 := n6_; have GE516 := n7_; clear n0_ n1_ n2_ n3_ n4_ n5_ n6_ n7_; clear hb hbox hg; obtain ⟨_, _, _, _⟩ := blkc2 BK516))
      have n0_ : Aside0 (Kd.N (Kd.slice 3 (Kd.int .i64)) 35 ((w11.setCell ⟨gb516, 0, none⟩ (.slice A515_0 ((rd_T85 l1 x15_1).f0).length c515_0)).setCell ⟨gb516, 1, none⟩ (.int .i64 ((rd_T85 l1 x15_1).f1))) w.heap.size (fun k_ => (P1_ k_ ∨ w.heap.size ≤ k_) ∧ k_ ≠ gb516) u5 x5_1) := ⟨by (with_reducible repeat (first | apply Kd.N_alloc | apply Kd.N_drewN | apply Kd.N_drew)); exact Kd.N_mono (Kd.N_far (p := ⟨gb516, 1, none⟩) (Kd.N_far (p := ⟨gb516, 0, none⟩) (Kd.N_mono HO_5.out (fun k_ hk => (⟨hk, hk.2⟩ : _ ∧ k_ ≠ gb516))) (fun _ hk => hk.2) (.slice A515_0 ((rd_T85 l1 x15_1).f0).length c515_0)) (fun _ hk => hk.2) (.int .i64 ((rd_T85 l1 x15_1).f1))) (fun _ hk => ⟨hk.1.1, hk.1.2⟩)⟩
      have n1_ : Aside0 (Kd.V k85 85 ((w11.setCell ⟨gb516, 0, none⟩ (.slice A515_0 ((rd_T85 l1 x15_1).f0).length c515_0)).setCell ⟨gb516, 1, none⟩ (.int .i64 ((rd_T85 l1 x15_1).f1))) w.heap.size (fun k_ => (P1_ k_ ∨ w.heap.size ≤ k_) ∧ some k_ ≠ (u5 : Value).ownBlock ∧ k_ ≠ gb516) (.slice (some ad515) l1.length c1) l1) := ⟨by (with_reducible repeat (first | apply Kd.V_alloc | apply Kd.V_drewN | apply Kd.V_drew)); exact Kd.V_mono (Kd.V_far (p := ⟨gb516, 1, none⟩) (Kd.V_far (p := ⟨gb516, 0, none⟩) (Kd.V_mono HO_13.out (fun k_ hk => (⟨hk, hk.2⟩ : _ ∧ k_ ≠ gb516))) (fun _ hk => hk.2) (.slice A515_0 ((rd_T85 l1 x15_1).f0).length c515_0)) (fun _ hk => hk.2) (.int .i64 ((rd_T85 l1 x15_1).f1))) (fun _ hk => ⟨hk.1.1.1, ⟨hk.1.1.2, hk.1.2⟩⟩)⟩
      have n2_ : Aside0 (Kd.V (Kd.int .i64) 3 ((w11.setCell ⟨gb516, 0, none⟩ (.slice A515_0 ((rd_T85 l1 x15_1).f0).length c515_0)).setCell ⟨gb516, 1, none⟩ (.int .i64 ((rd_T85 l1 x15_1).f1))) w.heap.size (fun k_ => (P1_ k_ ∨ w.heap.size ≤ k_) ∧ some k_ ≠ (u5 : Value).ownBlock ∧ k_ ≠ gb516) (.slice A515_0 ((rd_T85 l1 x15_1).f0).length c515_0) ((rd_T85 l1 x15_1).f0)) := ⟨by (with_reducible repeat (first | apply Kd.V_alloc | apply Kd.V_drewN | apply Kd.V_drew)); exact Kd.V_mono (Kd.V_far (p := ⟨gb516, 1, none⟩) (Kd.V_far (p := ⟨gb516, 0, none⟩) (Kd.V_mono HL515_0.out (fun k_ hk => (⟨hk, hk.2⟩ : _ ∧ k_ ≠ gb516))) (fun _ hk => hk.2) (.slice A515_0 ((rd_T85 l1 x15_1).f0).length c515_0)) (fun _ hk => hk.2) (.int .i64 ((rd_T85 l1 x15_1).f1))) (fun _ hk => ⟨hk.1.1.1, ⟨hk.1.1.2, hk.1.2⟩⟩)⟩
      have n3_ : Aside0 (((w11.setCell ⟨gb516, 0, none⟩ (.slice A515_0 ((rd_T85 l1 x15_1).f0).length c515_0)).setCell ⟨gb516, 1, none⟩ (.int .i64 ((rd_T85 l1 x15_1).f1))).heap[gb516]? = some (.cells #[.slice A515_0 ((rd_T85 l1 x15_1).f0).length c515_0, .int .i64 ((rd_T85 l1 x15_1).f1)] 85 (0, 0))) := ⟨kp BK516⟩
      have n4_ : Aside0 (Below w.heap.size w ((w11.setCell ⟨gb516, 0, none⟩ (.slice A515_0 ((rd_T85 l1 x15_1).f0).length c515_0)).setCell ⟨gb516, 1, none⟩ (.int .i64 ((rd_T85 l1 x15_1).f1)))) := ⟨bG⟩
      (try clear HO_5)
      (try clear HO_13)
      (try clear HL515_0)
      (try clear BK516)
      (try clear HB)
      generalize ((w11.setCell ⟨gb516, 0, none⟩ (.slice A515_0 ((rd_T85 l1 x15_1).f0).length c515_0)).setCell ⟨gb516, 1, none⟩ (.int .i64 ((rd_T85 l1 x15_1).f1))) = w13 at n0_ n1_ n2_ n3_ n4_ ⊢
      have HO_5 := n0_
      have HO_13 := n1_
      have HL515_0 := n2_
      have BK516 := n3_
      have HB := n4_
      clear n0_ n1_ n2_ n3_ n4_
      replace HO_5 := dn HO_5
      replace HO_13 := dv HO_13
      replace HL515_0 := Aside0.mk (Kd.V_drew HL515_0.out)
      replace BK516 := dk BK516
      have HBo := HB
      replace HB := db HB
      refine sw (ds := []) 21 (mb 21 0) impl_IsPlan.tab7 impl_IsPlan.bits7 (h2 BK516) (fun hHeld HT_ HW_ => ?_)
      generalize w13.drew = w14 at HO_5 HO_13 HL515_0 BK516 HB hHeld ⊢
      refine pa 0 19 (mb 21 1) HT_ ?_
      refine ta2 1 20 (mb 21 3) HT_ HW_ hHeld ?_
      refine pa 2 21 (mb 21 7) HT_ ?_
      refine pa 3 22 (mb 21 15) HT_ ?_
      refine pa 4 23 (mb 21 31) HT_ ?_
      refine pu 5 24 (mb 21 63) HT_ ?_
      refine pu 6 25 (mb 21 127) HT_ ?_
      refine pu 7 26 (mb 21 255) HT_ ?_
      refine pu 8 27 (mb 21 511) HT_ ?_
      refine pu 9 28 (mb 21 1023) HT_ ?_
      refine pa 10 29 (mb 21 2047) HT_ ?_
      refine pa 11 30 (mb 21 4095) HT_ ?_
      refine pu 12 31 (mb 21 8191) HT_ ?_
      refine pu 13 32 (mb 21 16383) HT_ ?_
      refine pu 14 33 (mb 21 32767) HT_ ?_
      refine pu 15 34 (mb 21 65535) HT_ ?_
      refine pu 16 35 (mb 21 131071) HT_ ?_
      refine pu 17 36 (mb 21 262143) HT_ ?_
      refine pu 18 37 (mb 21 524287) HT_ ?_
      refine pu 19 38 (mb 21 1048575) HT_ ?_
      refine pa 20 39 (mb 21 2097151) HT_ ?_
      refine eA HT_ ?_
      try go_wp2
      go_ret
      exact ⟨rA, bG⟩
     rw [if_neg c10] at H
     have c10b0 : ((((rd_T85 l1 x15_1).f0).length : Int) == 0) = false := beq_eq_false_iff_ne.mpr c10
     have c10b1 : ((((rd_T85 l1 x15_1).f0).length : Int) != 0) = true := bne_iff_ne.mpr c10
     have c10b2 : ¬ (((rd_T85 l1 x15_1).f0) = []) := fun h_ => c10 (by rw [h_]; rfl)
     obtain ⟨t517, A15, H⟩ := bindE H
     try dsimp only at H
     by_cases c16 : t517 = true
     ·
      subst c16
      have H1 : ((impl_LeastGreen.f k1 l0 ((rd_T85 l1 x15_1).f0)).bind fun t518 => ((impl_InRange.f ((rd_T85 l1 x15_1).f1) t518 60).bind fun t519 => (if t519 = true then (if x5_1.length < 5864062014805 then (impl_IsPlan.l0 k1 l0 (x5_1 ++ [(rd_T85 l1 x15_1).f0]) l1 (l1.length : Int) (wrap64 (x15_1 + 1))) else (none)) else (some false)))) = some r := by rw [if_pos rfl] at H; exact H
      clear H
      have H := H1
      clear H1
      obtain ⟨t518, A17, H⟩ := bindE H
      try dsimp only at H
      obtain ⟨t519, A18, H⟩ := bindE H
      try dsimp only at H
      by_cases c19 : t519 = true
      ·
       subst c19
       have H1 : (if x5_1.length < 5864062014805 then (impl_IsPlan.l0 k1 l0 (x5_1 ++ [(rd_T85 l1 x15_1).f0]) l1 (l1.length : Int) (wrap64 (x15_1 + 1))) else (none)) = some r := by rw [if_pos rfl] at H; exact H
       clear H
       have H := H1
       clear H1
       have c20 : x5_1.length < 5864062014805 := ifN H
       replace H := ifT H
       have LMc20 := Aside0.mk c20
       clear c20
       obtain ⟨y520, hy520⟩ : ∃ y_ : List (List Int), y_ = (x5_1 ++ [(rd_T85 l1 x15_1).f0]) := ⟨_, rfl⟩
       replace H : (impl_IsPlan.l0 k1 l0 y520 l1 (l1.length : Int) (wrap64 (x15_1 + 1))) = some r := rH H hy520
       have Ny520 := Aside0.mk hy520
       clear hy520
       have H' := Aside0.mk H
       clear H
       obtain ⟨p515, q515⟩ : 0 ≤ (x15_1 : Int) ∧ x15_1 < (l1.length : Int) := ⟨dA, dA⟩
       obtain ⟨ad515, A515_0, c515_0, e515, hx515_0, hx515_1, hl515_0, hi515_0⟩ := at_T85 (Kd.V_reads' HO_13.out).2.2 x15_1 p515 q515
       cases e515
       obtain ⟨ce515, hce515, hMe515, hcc515⟩ := Kd.V_get HO_13.out z85 x15_1 p515 (by first | exact q515 | exact dA | (have e_ := (Kd.V_reads' HO_13.out).1; omega))
       obtain ⟨ua515_0, uc515_0, rfl, ul515_0, ge515_0⟩ := k85_openF hMe515
       have hv515_0 := hcc515 0 _ rfl
       rw [Nat.add_zero] at hv515_0
       replace hv515_0 := Option.some.inj (hv515_0.symm.trans hx515_0)
       injection hv515_0 with hva_ hvn_ hvc_
       rw [hva_] at ge515_0
       rw [hvc_] at ul515_0
       have HL515_0 := Aside0.mk (show Kd.V (Kd.int .i64) 3 _ w.heap.size _ _ ((rd_T85 l1 x15_1).f0) from Kd.V_mk ul515_0 ge515_0)
       clear hva_ hvn_ hvc_ ge515_0 ul515_0
       clear hcc515 hce515
       have HR515_0 := Aside0.mk hi515_0
       have HC515_0 := Aside0.mk hl515_0
       clear hi515_0 hl515_0
       obtain ⟨p515, q515⟩ := eT p515 q515
       try go_wp2_with (first | ((with_reducible refine gate_dst (N := 7) rfl ?_); refine bE (N := 7) (cs := #[.slice none 0 0, .int .i64 0]) (t := 85) ?_; intro gb516 hg w21 hbox hb; have n0_ := Aside0.mk (Kd.N_below (Kd.N_elderB (by (with_reducible repeat (first | apply Kd.N_alloc | apply Kd.N_drewN | apply Kd.N_drew)); exact HO_5.out) gb516 (Nat.le_of_eq hg.symm)) hb); have n1_ := Aside0.mk (Kd.V_below (Kd.V_elderB (by (with_reducible repeat (first | apply Kd.V_alloc | apply Kd.V_drewN | apply Kd.V_drew)); exact HO_13.out) gb516 (Nat.le_of_eq hg.symm)) hb); have n2_ := Aside0.mk (Kd.V_below (Kd.V_elderB (by (with_reducible repeat (first | apply Kd.V_alloc | apply Kd.V_drewN | apply Kd.V_drew)); exact HL515_0.out) gb516 (Nat.le_of_eq hg.symm)) hb); have n3_ := Aside0.mk (Kd.C_below (by repeat (first | (with_reducible exact HR515_0.out) | (with_reducible refine Kd.C_alloc ?_ _) | (with_reducible refine Kd.C_drewN ?_ _) | (with_reducible refine Kd.C_drew ?_) | exact HR515_0.out)) hb); have n4_ := bs HB hb; have n5_ := Aside0.mk (hbox); have n6_ := gw w hg; have n7_ := gw w hg; clear HO_5; clear HO_13; clear HL515_0; clear HR515_0; clear HB; have HO_5 := n0_; have HO_13 := n1_; have HL515_0 := n2_; have HR515_0 := n3_; have HB := n4_; have BK516 := n5_; have GW516 := n6_; have GE516 := n7_; clear n0_ n1_ n2_ n3_ n4_ n5_ n6_ n7_; clear hb hbox hg; obtain ⟨_, _, _, _⟩ := blkc2 BK516))
       have n0_ : Aside0 (Kd.N (Kd.slice 3 (Kd.int .i64)) 35 ((w21.setCell ⟨gb516, 0, none⟩ (.slice A515_0 ((rd_T85 l1 x15_1).f0).length c515_0)).setCell ⟨gb516, 1, none⟩ (.int .i64 ((rd_T85 l1 x15_1).f1))) w.heap.size (fun k_ => (P1_ k_ ∨ w.heap.size ≤ k_) ∧ k_ ≠ gb516) u5 x5_1) := ⟨by (with_reducible repeat (first | apply Kd.N_alloc | apply Kd.N_drewN | apply Kd.N_drew)); exact Kd.N_mono (Kd.N_far (p := ⟨gb516, 1, none⟩) (Kd.N_far (p := ⟨gb516, 0, none⟩) (Kd.N_mono HO_5.out (fun k_ hk => (⟨hk, hk.2⟩ : _ ∧ k_ ≠ gb516))) (fun _ hk => hk.2) (.slice A515_0 ((rd_T85 l1 x15_1).f0).length c515_0)) (fun _ hk => hk.2) (.int .i64 ((rd_T85 l1 x15_1).f1))) (fun _ hk => ⟨hk.1.1, hk.1.2⟩)⟩
       have n1_ : Aside0 (Kd.V k85 85 ((w21.setCell ⟨gb516, 0, none⟩ (.slice A515_0 ((rd_T85 l1 x15_1).f0).length c515_0)).setCell ⟨gb516, 1, none⟩ (.int .i64 ((rd_T85 l1 x15_1).f1))) w.heap.size (fun k_ => (P1_ k_ ∨ w.heap.size ≤ k_) ∧ some k_ ≠ (u5 : Value).ownBlock ∧ k_ ≠ gb516) (.slice (some ad515) l1.length c1) l1) := ⟨by (with_reducible repeat (first | apply Kd.V_alloc | apply Kd.V_drewN | apply Kd.V_drew)); exact Kd.V_mono (Kd.V_far (p := ⟨gb516, 1, none⟩) (Kd.V_far (p := ⟨gb516, 0, none⟩) (Kd.V_mono HO_13.out (fun k_ hk => (⟨hk, hk.2⟩ : _ ∧ k_ ≠ gb516))) (fun _ hk => hk.2) (.slice A515_0 ((rd_T85 l1 x15_1).f0).length c515_0)) (fun _ hk => hk.2) (.int .i64 ((rd_T85 l1 x15_1).f1))) (fun _ hk => ⟨hk.1.1.1, ⟨hk.1.1.2, hk.1.2⟩⟩)⟩
       have n2_ : Aside0 (Kd.V (Kd.int .i64) 3 ((w21.setCell ⟨gb516, 0, none⟩ (.slice A515_0 ((rd_T85 l1 x15_1).f0).length c515_0)).setCell ⟨gb516, 1, none⟩ (.int .i64 ((rd_T85 l1 x15_1).f1))) w.heap.size (fun k_ => (P1_ k_ ∨ w.heap.size ≤ k_) ∧ some k_ ≠ (u5 : Value).ownBlock ∧ k_ ≠ gb516) (.slice A515_0 ((rd_T85 l1 x15_1).f0).length c515_0) ((rd_T85 l1 x15_1).f0)) := ⟨by (with_reducible repeat (first | apply Kd.V_alloc | apply Kd.V_drewN | apply Kd.V_drew)); exact Kd.V_mono (Kd.V_far (p := ⟨gb516, 1, none⟩) (Kd.V_far (p := ⟨gb516, 0, none⟩) (Kd.V_mono HL515_0.out (fun k_ hk => (⟨hk, hk.2⟩ : _ ∧ k_ ≠ gb516))) (fun _ hk => hk.2) (.slice A515_0 ((rd_T85 l1 x15_1).f0).length c515_0)) (fun _ hk => hk.2) (.int .i64 ((rd_T85 l1 x15_1).f1))) (fun _ hk => ⟨hk.1.1.1, ⟨hk.1.1.2, hk.1.2⟩⟩)⟩
       have n3_ : Aside0 (((w21.setCell ⟨gb516, 0, none⟩ (.slice A515_0 ((rd_T85 l1 x15_1).f0).length c515_0)).setCell ⟨gb516, 1, none⟩ (.int .i64 ((rd_T85 l1 x15_1).f1))).heap[gb516]? = some (.cells #[.slice A515_0 ((rd_T85 l1 x15_1).f0).length c515_0, .int .i64 ((rd_T85 l1 x15_1).f1)] 85 (0, 0))) := ⟨kp BK516⟩
       have n4_ : Aside0 (Below w.heap.size w ((w21.setCell ⟨gb516, 0, none⟩ (.slice A515_0 ((rd_T85 l1 x15_1).f0).length c515_0)).setCell ⟨gb516, 1, none⟩ (.int .i64 ((rd_T85 l1 x15_1).f1)))) := ⟨bG⟩
       (try clear HO_5)
       (try clear HO_13)
       (try clear HL515_0)
       (try clear BK516)
       (try clear HB)
       generalize ((w21.setCell ⟨gb516, 0, none⟩ (.slice A515_0 ((rd_T85 l1 x15_1).f0).length c515_0)).setCell ⟨gb516, 1, none⟩ (.int .i64 ((rd_T85 l1 x15_1).f1))) = w23 at n0_ n1_ n2_ n3_ n4_ ⊢
       have HO_5 := n0_
       have HO_13 := n1_
       have HL515_0 := n2_
       have BK516 := n3_
       have HB := n4_
       clear n0_ n1_ n2_ n3_ n4_
       replace HO_5 := dn HO_5
       replace HO_13 := dv HO_13
       replace HL515_0 := Aside0.mk (Kd.V_drew HL515_0.out)
       replace BK516 := dk BK516
       have HBo := HB
       replace HB := db HB
       refine sw (ds := []) 21 (mb 21 0) impl_IsPlan.tab7 impl_IsPlan.bits7 (h2 BK516) (fun hHeld HT_ HW_ => ?_)
       generalize w23.drew = w24 at HO_5 HO_13 HL515_0 BK516 HB hHeld ⊢
       refine pa 0 19 (mb 21 1) HT_ ?_
       refine ta2 1 20 (mb 21 3) HT_ HW_ hHeld ?_
       refine pa 2 21 (mb 21 7) HT_ ?_
       refine pa 3 22 (mb 21 15) HT_ ?_
       refine pa 4 23 (mb 21 31) HT_ ?_
       refine pa 5 24 (mb 21 63) HT_ ?_
       refine pa 6 25 (mb 21 127) HT_ ?_
       refine ta2 7 26 (mb 21 255) HT_ HW_ hHeld ?_
       refine oa 8 27 (mb 21 511) HT_ (fun K hK => ?_)
       refine gA Try.func68 #[.slice A0 l0.length c0, .slice A515_0 ((rd_T85 l1 x15_1).f0).length c515_0] ?_
       with_reducible refine (impl_IsTogether.calls k1 _ _ l0 _ _ ((rd_T85 l1 x15_1).f0) true _ ?side1 ?side2 ?side3 ?side4 A15.out).mono ?_
       (case side1 => exact cB HR0)
       (case side2 => exact HC0.out)
       (case side3 => repeat (first | exact ((Kd.V_reads' (by (with_reducible repeat (first | apply Kd.V_alloc | apply Kd.V_drewN | apply Kd.V_drew)); exact HL515_0.out)).2.2) | (with_reducible refine Kd.C_alloc ?_ _) | (with_reducible refine Kd.C_drewN ?_ _) | (with_reducible refine Kd.C_drew ?_)))
       (case side4 => exact HC515_0.out)
       rintro e w25 ⟨rfl, hb⟩
       refine ⟨_, rfl, ?_⟩
       replace HO_5 := Aside0.mk (Kd.N_below (by (with_reducible repeat (first | apply Kd.N_alloc | apply Kd.N_drewN | apply Kd.N_drew)); exact HO_5.out) hb)
       replace HO_13 := Aside0.mk (Kd.V_below (by (with_reducible repeat (first | apply Kd.V_alloc | apply Kd.V_drewN | apply Kd.V_drew)); exact HO_13.out) hb)
       replace HL515_0 := Aside0.mk (Kd.V_below (by (with_reducible repeat (first | apply Kd.V_alloc | apply Kd.V_drewN | apply Kd.V_drew)); exact HL515_0.out) hb)
       replace BK516 := kb BK516 hb
       replace HB := bs HB hb
       (try clear hb)
       (try clear hb2)
       (try clear hk)
       (try clear hi)
       refine hK.out _ _ (cn2 BK516) (fun hHeld => ?_)
       clear hK K
       refine nB ?_
       refine pa 9 28 (mb 21 1023) HT_ ?_
       refine pa 10 29 (mb 21 2047) HT_ ?_
       refine pa 11 30 (mb 21 4095) HT_ ?_
       refine pa 12 31 (mb 21 8191) HT_ ?_
       refine pa 14 33 (mb 21 24575) HT_ ?_
       refine pa 15 34 (mb 21 57343) HT_ ?_
       refine ta2 13 32 (mb 21 65535) HT_ HW_ hHeld ?_
       refine ta2 16 35 (mb 21 131071) HT_ HW_ hHeld ?_
       refine oa 17 36 (mb 21 262143) HT_ (fun K hK => ?_)
       refine gA Try.func77 #[.slice A0 l0.length c0, .slice A515_0 ((rd_T85 l1 x15_1).f0).length c515_0] ?_
       with_reducible refine (impl_LeastGreen.calls k1 _ _ l0 _ _ ((rd_T85 l1 x15_1).f0) t518 _ ?side1 ?side2 ?side3 ?side4 A17.out).mono ?_
       (case side1 => exact cB HR0)
       (case side2 => exact HC0.out)
       (case side3 => repeat (first | exact ((Kd.V_reads' (by (with_reducible repeat (first | apply Kd.V_alloc | apply Kd.V_drewN | apply Kd.V_drew)); exact HL515_0.out)).2.2) | (with_reducible refine Kd.C_alloc ?_ _) | (with_reducible refine Kd.C_drewN ?_ _) | (with_reducible refine Kd.C_drew ?_)))
       (case side4 => exact HC515_0.out)
       rintro e w26 ⟨rfl, hb⟩
       refine ⟨_, rfl, ?_⟩
       replace HO_5 := Aside0.mk (Kd.N_below (by (with_reducible repeat (first | apply Kd.N_alloc | apply Kd.N_drewN | apply Kd.N_drew)); exact HO_5.out) hb)
       replace HO_13 := Aside0.mk (Kd.V_below (by (with_reducible repeat (first | apply Kd.V_alloc | apply Kd.V_drewN | apply Kd.V_drew)); exact HO_13.out) hb)
       replace HL515_0 := Aside0.mk (Kd.V_below (by (with_reducible repeat (first | apply Kd.V_alloc | apply Kd.V_drewN | apply Kd.V_drew)); exact HL515_0.out) hb)
       replace BK516 := kb BK516 hb
       replace HB := bs HB hb
       (try clear hb)
       (try clear hb2)
       (try clear hk)
       (try clear hi)
       refine hK.out _ _ (cn2 BK516) (fun hHeld => ?_)
       clear hK K
       refine nB ?_
       refine oa 18 37 (mb 21 524287) HT_ (fun K hK => ?_)
       refine gA Try.func75 #[.int .i64 ((rd_T85 l1 x15_1).f1), .int .i64 t518, .int .i64 60] ?_
       with_reducible refine (impl_InRange.calls ((rd_T85 l1 x15_1).f1) t518 60 true _ A18.out).mono ?_
       rintro e w' ⟨rfl, ⟨nd, rfl⟩⟩
       refine ⟨_, rfl, ?_⟩
       refine hK.out _ _ (cn2 BK516) (fun hHeld => ?_)
       clear hK K
       refine nB ?_
       refine pa 19 38 (mb 21 1048575) HT_ ?_
       refine pa 20 39 (mb 21 2097151) HT_ ?_
       refine eA HT_ ?_
       obtain ⟨_, _, _, _⟩ := blkc2 BK516
       try go_wp2_with (first | ((with_reducible refine gate_builtin (b := .append) (xs := #[.tmp 40, .tmp 43]) rfl ?_); at_builtin; refine Kd.N_append (Kd.slice 3 (Kd.int .i64)) (w0 := w) w.heap.size rfl (.tmp 40) (.tmp 43) 103 35 (.slice none 0 0) 24 rfl Try.underlying103 info35 rfl (by decide) (by omega) u5 x5_1 ((rd_T85 l1 x15_1).f0) [.slice A515_0 ((rd_T85 l1 x15_1).f0).length c515_0] (fun k_ => (P1_ k_ ∨ w.heap.size ≤ k_) ∧ k_ ≠ gb516) (fun k_ => ((fun k_ => (P1_ k_ ∨ w.heap.size ≤ k_) ∧ k_ ≠ gb516)) k_ ∧ some k_ ≠ (u5 : Value).ownBlock) rfl rfl ?aP (fun _ hk => hk) ?aF ?aO ?aB ?aS ?aL ?_; (case aP => first | exact (Kd.FK_slice_mk (Kd.V_reads' (Kd.V_mono (ok' := (fun k_ => ((fun k_ => (P1_ k_ ∨ w.heap.size ≤ k_) ∧ k_ ≠ gb516)) k_ ∧ some k_ ≠ (u5 : Value).ownBlock)) (HL515_0.out) (fun k_ hk => ⟨⟨hk.1, hk.2.2⟩, hk.2.1⟩))).2.1 (Kd.V_F (Kd.V_mono (ok' := (fun k_ => ((fun k_ => (P1_ k_ ∨ w.heap.size ≤ k_) ∧ k_ ≠ gb516)) k_ ∧ some k_ ≠ (u5 : Value).ownBlock)) (HL515_0.out) (fun k_ hk => ⟨⟨hk.1, hk.2.2⟩, hk.2.1⟩)))) | exact (Kd.FK_slice_mk (Kd.V_reads' (Kd.V_mono (ok' := (fun k_ => ((fun k_ => (P1_ k_ ∨ w.heap.size ≤ k_) ∧ k_ ≠ gb516)) k_ ∧ some k_ ≠ (u5 : Value).ownBlock)) (HL515_0.out) (fun k_ hk => by first | exact ⟨⟨hk.1, hk.2.2⟩, hk.2.1⟩ | exact ⟨⟨hk.1.1, hk.2⟩, hk.1.2⟩ | exact ⟨⟨hk.1.1, hk.1.2⟩, hk.2⟩ | exact ⟨hk.1.1, hk.2, hk.1.2⟩ | exact hk.1 | simp_all))).2.1 (Kd.V_F (Kd.V_mono (ok' := (fun k_ => ((fun k_ => (P1_ k_ ∨ w.heap.size ≤ k_) ∧ k_ ≠ gb516)) k_ ∧ some k_ ≠ (u5 : Value).ownBlock)) (by (with_reducible repeat (first | apply Kd.V_alloc | apply Kd.V_drewN | apply Kd.V_drew)); exact HL515_0.out) (fun k_ hk => by first | exact ⟨⟨hk.1, hk.2.2⟩, hk.2.1⟩ | exact ⟨⟨hk.1.1, hk.2⟩, hk.1.2⟩ | exact ⟨⟨hk.1.1, hk.1.2⟩, hk.2⟩ | exact ⟨hk.1.1, hk.2, hk.1.2⟩ | exact hk.1 | simp_all))))); (case aB => exact bG); (case aF => exact (fun k_ hk => ⟨(.inr (Nat.le_trans (below_size bG) hk)), Kd.freshB (g := gb516) (o := .cells #[.slice A515_0 ((rd_T85 l1 x15_1).f0).length c515_0, .int .i64 ((rd_T85 l1 x15_1).f1)] 85 (0, 0)) (bK BK516) k_ hk⟩)); (case aO => exact (by (with_reducible repeat (first | apply Kd.N_alloc | apply Kd.N_drewN | apply Kd.N_drew)); exact HO_5.out)); (case aS => exact (below_size bG)); (case aL => have := LMc20.out; omega); intro v521 w28 ho hb hg hat; rw [← Ny520.out] at ho; have n0_ := Aside0.mk (Kd.V_afterv (ok := (fun k_ => (P1_ k_ ∨ w.heap.size ≤ k_) ∧ k_ ≠ gb516)) (by (with_reducible repeat (first | apply Kd.V_alloc | apply Kd.V_drewN | apply Kd.V_drew)); exact Kd.V_mono HO_13.out (fun _ hk => ⟨⟨hk.1, hk.2.2⟩, hk.2.1⟩)) hg hat); have n1_ := Aside0.mk (Kd.V_afterv (ok := (fun k_ => (P1_ k_ ∨ w.heap.size ≤ k_) ∧ k_ ≠ gb516)) (by (with_reducible repeat (first | apply Kd.V_alloc | apply Kd.V_drewN | apply Kd.V_drew)); exact Kd.V_mono HL515_0.out (fun _ hk => ⟨⟨hk.1, hk.2.2⟩, hk.2.1⟩)) hg hat); have n2_ := Aside0.mk (blk_grown (g := gb516) (o := .cells #[.slice A515_0 ((rd_T85 l1 x15_1).f0).length c515_0, .int .i64 ((rd_T85 l1 x15_1).f1)] 85 (0, 0)) (bK BK516) hg (Kd.N_ne HO_5.out BK516.out (by decide))); have n3_ := Aside0.mk (hb); have n4_ := Aside0.mk (ho); clear HO_13; clear HL515_0; clear BK516; clear HB; clear HO_5; have HO_13 := n0_; have HL515_0 := n1_; have BK516 := n2_; have HB := n3_; have HO522 := n4_; clear n0_ n1_ n2_ n3_ n4_; clear ho hb hg hat))
       go_roundg k1
       case measure => have := HK1.out; omega
       case rel => exact ⟨(y520), (wrap64 (x15_1 + 1)), rS, H', ⟨by have := HK1.out; omega⟩, ⟨nm HO522 (fun _ hk => hk.1)⟩, ⟨by (with_reducible repeat (first | apply Kd.V_alloc | apply Kd.V_drewN | apply Kd.V_drew)); exact Kd.V_mono HO_13.out (fun _ hk => ⟨hk.1.1, hk.2⟩)⟩, ⟨bG⟩⟩
      replace c19 := Bool.eq_false_iff.mpr c19
      subst c19
      have H1 : (some false) = some r := by rw [if_neg (show ¬ (false = true) by decide)] at H; exact H
      clear H
      have H := H1
      clear H1
      obtain rfl := Option.some.inj H
      obtain ⟨p515, q515⟩ : 0 ≤ (x15_1 : Int) ∧ x15_1 < (l1.length : Int) := ⟨dA, dA⟩
      obtain ⟨ad515, A515_0, c515_0, e515, hx515_0, hx515_1, hl515_0, hi515_0⟩ := at_T85 (Kd.V_reads' HO_13.out).2.2 x15_1 p515 q515
      cases e515
      obtain ⟨ce515, hce515, hMe515, hcc515⟩ := Kd.V_get HO_13.out z85 x15_1 p515 (by first | exact q515 | exact dA | (have e_ := (Kd.V_reads' HO_13.out).1; omega))
      obtain ⟨ua515_0, uc515_0, rfl, ul515_0, ge515_0⟩ := k85_openF hMe515
      have hv515_0 := hcc515 0 _ rfl
      rw [Nat.add_zero] at hv515_0
      replace hv515_0 := Option.some.inj (hv515_0.symm.trans hx515_0)
      injection hv515_0 with hva_ hvn_ hvc_
      rw [hva_] at ge515_0
      rw [hvc_] at ul515_0
      have HL515_0 := Aside0.mk (show Kd.V (Kd.int .i64) 3 _ w.heap.size _ _ ((rd_T85 l1 x15_1).f0) from Kd.V_mk ul515_0 ge515_0)
      clear hva_ hvn_ hvc_ ge515_0 ul515_0
      clear hcc515 hce515
      have HR515_0 := Aside0.mk hi515_0
      have HC515_0 := Aside0.mk hl515_0
      clear hi515_0 hl515_0
      obtain ⟨p515, q515⟩ := eT p515 q515
      try go_wp2_with (first | ((with_reducible refine gate_dst (N := 7) rfl ?_); refine bE (N := 7) (cs := #[.slice none 0 0, .int .i64 0]) (t := 85) ?_; intro gb516 hg w29 hbox hb; have n0_ := Aside0.mk (Kd.N_below (Kd.N_elderB (by (with_reducible repeat (first | apply Kd.N_alloc | apply Kd.N_drewN | apply Kd.N_drew)); exact HO_5.out) gb516 (Nat.le_of_eq hg.symm)) hb); have n1_ := Aside0.mk (Kd.V_below (Kd.V_elderB (by (with_reducible repeat (first | apply Kd.V_alloc | apply Kd.V_drewN | apply Kd.V_drew)); exact HO_13.out) gb516 (Nat.le_of_eq hg.symm)) hb); have n2_ := Aside0.mk (Kd.V_below (Kd.V_elderB (by (with_reducible repeat (first | apply Kd.V_alloc | apply Kd.V_drewN | apply Kd.V_drew)); exact HL515_0.out) gb516 (Nat.le_of_eq hg.symm)) hb); have n3_ := Aside0.mk (Kd.C_below (by repeat (first | (with_reducible exact HR515_0.out) | (with_reducible refine Kd.C_alloc ?_ _) | (with_reducible refine Kd.C_drewN ?_ _) | (with_reducible refine Kd.C_drew ?_) | exact HR515_0.out)) hb); have n4_ := bs HB hb; have n5_ := Aside0.mk (hbox); have n6_ := gw w hg; have n7_ := gw w hg; clear HO_5; clear HO_13; clear HL515_0; clear HR515_0; clear HB; have HO_5 := n0_; have HO_13 := n1_; have HL515_0 := n2_; have HR515_0 := n3_; have HB := n4_; have BK516 := n5_; have GW516 := n6_; have GE516 := n7_; clear n0_ n1_ n2_ n3_ n4_ n5_ n6_ n7_; clear hb hbox hg; obtain ⟨_, _, _, _⟩ := blkc2 BK516))
      have n0_ : Aside0 (Kd.N (Kd.slice 3 (Kd.int .i64)) 35 ((w29.setCell ⟨gb516, 0, none⟩ (.slice A515_0 ((rd_T85 l1 x15_1).f0).length c515_0)).setCell ⟨gb516, 1, none⟩ (.int .i64 ((rd_T85 l1 x15_1).f1))) w.heap.size (fun k_ => (P1_ k_ ∨ w.heap.size ≤ k_) ∧ k_ ≠ gb516) u5 x5_1) := ⟨by (with_reducible repeat (first | apply Kd.N_alloc | apply Kd.N_drewN | apply Kd.N_drew)); exact Kd.N_mono (Kd.N_far (p := ⟨gb516, 1, none⟩) (Kd.N_far (p := ⟨gb516, 0, none⟩) (Kd.N_mono HO_5.out (fun k_ hk => (⟨hk, hk.2⟩ : _ ∧ k_ ≠ gb516))) (fun _ hk => hk.2) (.slice A515_0 ((rd_T85 l1 x15_1).f0).length c515_0)) (fun _ hk => hk.2) (.int .i64 ((rd_T85 l1 x15_1).f1))) (fun _ hk => ⟨hk.1.1, hk.1.2⟩)⟩
      have n1_ : Aside0 (Kd.V k85 85 ((w29.setCell ⟨gb516, 0, none⟩ (.slice A515_0 ((rd_T85 l1 x15_1).f0).length c515_0)).setCell ⟨gb516, 1, none⟩ (.int .i64 ((rd_T85 l1 x15_1).f1))) w.heap.size (fun k_ => (P1_ k_ ∨ w.heap.size ≤ k_) ∧ some k_ ≠ (u5 : Value).ownBlock ∧ k_ ≠ gb516) (.slice (some ad515) l1.length c1) l1) := ⟨by (with_reducible repeat (first | apply Kd.V_alloc | apply Kd.V_drewN | apply Kd.V_drew)); exact Kd.V_mono (Kd.V_far (p := ⟨gb516, 1, none⟩) (Kd.V_far (p := ⟨gb516, 0, none⟩) (Kd.V_mono HO_13.out (fun k_ hk => (⟨hk, hk.2⟩ : _ ∧ k_ ≠ gb516))) (fun _ hk => hk.2) (.slice A515_0 ((rd_T85 l1 x15_1).f0).length c515_0)) (fun _ hk => hk.2) (.int .i64 ((rd_T85 l1 x15_1).f1))) (fun _ hk => ⟨hk.1.1.1, ⟨hk.1.1.2, hk.1.2⟩⟩)⟩
      have n2_ : Aside0 (Kd.V (Kd.int .i64) 3 ((w29.setCell ⟨gb516, 0, none⟩ (.slice A515_0 ((rd_T85 l1 x15_1).f0).length c515_0)).setCell ⟨gb516, 1, none⟩ (.int .i64 ((rd_T85 l1 x15_1).f1))) w.heap.size (fun k_ => (P1_ k_ ∨ w.heap.size ≤ k_) ∧ some k_ ≠ (u5 : Value).ownBlock ∧ k_ ≠ gb516) (.slice A515_0 ((rd_T85 l1 x15_1).f0).length c515_0) ((rd_T85 l1 x15_1).f0)) := ⟨by (with_reducible repeat (first | apply Kd.V_alloc | apply Kd.V_drewN | apply Kd.V_drew)); exact Kd.V_mono (Kd.V_far (p := ⟨gb516, 1, none⟩) (Kd.V_far (p := ⟨gb516, 0, none⟩) (Kd.V_mono HL515_0.out (fun k_ hk => (⟨hk, hk.2⟩ : _ ∧ k_ ≠ gb516))) (fun _ hk => hk.2) (.slice A515_0 ((rd_T85 l1 x15_1).f0).length c515_0)) (fun _ hk => hk.2) (.int .i64 ((rd_T85 l1 x15_1).f1))) (fun _ hk => ⟨hk.1.1.1, ⟨hk.1.1.2, hk.1.2⟩⟩)⟩
      have n3_ : Aside0 (((w29.setCell ⟨gb516, 0, none⟩ (.slice A515_0 ((rd_T85 l1 x15_1).f0).length c515_0)).setCell ⟨gb516, 1, none⟩ (.int .i64 ((rd_T85 l1 x15_1).f1))).heap[gb516]? = some (.cells #[.slice A515_0 ((rd_T85 l1 x15_1).f0).length c515_0, .int .i64 ((rd_T85 l1 x15_1).f1)] 85 (0, 0))) := ⟨kp BK516⟩
      have n4_ : Aside0 (Below w.heap.size w ((w29.setCell ⟨gb516, 0, none⟩ (.slice A515_0 ((rd_T85 l1 x15_1).f0).length c515_0)).setCell ⟨gb516, 1, none⟩ (.int .i64 ((rd_T85 l1 x15_1).f1)))) := ⟨bG⟩
      (try clear HO_5)
      (try clear HO_13)
      (try clear HL515_0)
      (try clear BK516)
      (try clear HB)
      generalize ((w29.setCell ⟨gb516, 0, none⟩ (.slice A515_0 ((rd_T85 l1 x15_1).f0).length c515_0)).setCell ⟨gb516, 1, none⟩ (.int .i64 ((rd_T85 l1 x15_1).f1))) = w31 at n0_ n1_ n2_ n3_ n4_ ⊢
      have HO_5 := n0_
      have HO_13 := n1_
      have HL515_0 := n2_
      have BK516 := n3_
      have HB := n4_
      clear n0_ n1_ n2_ n3_ n4_
      replace HO_5 := dn HO_5
      replace HO_13 := dv HO_13
      replace HL515_0 := Aside0.mk (Kd.V_drew HL515_0.out)
      replace BK516 := dk BK516
      have HBo := HB
      replace HB := db HB
      refine sw (ds := []) 21 (mb 21 0) impl_IsPlan.tab7 impl_IsPlan.bits7 (h2 BK516) (fun hHeld HT_ HW_ => ?_)
      generalize w31.drew = w32 at HO_5 HO_13 HL515_0 BK516 HB hHeld ⊢
      refine pa 0 19 (mb 21 1) HT_ ?_
      refine ta2 1 20 (mb 21 3) HT_ HW_ hHeld ?_
      refine pa 2 21 (mb 21 7) HT_ ?_
      refine pa 3 22 (mb 21 15) HT_ ?_
      refine pa 4 23 (mb 21 31) HT_ ?_
      refine pa 5 24 (mb 21 63) HT_ ?_
      refine pa 6 25 (mb 21 127) HT_ ?_
      refine ta2 7 26 (mb 21 255) HT_ HW_ hHeld ?_
      refine oa 8 27 (mb 21 511) HT_ (fun K hK => ?_)
      refine gA Try.func68 #[.slice A0 l0.length c0, .slice A515_0 ((rd_T85 l1 x15_1).f0).length c515_0] ?_
      with_reducible refine (impl_IsTogether.calls k1 _ _ l0 _ _ ((rd_T85 l1 x15_1).f0) true _ ?side1 ?side2 ?side3 ?side4 A15.out).mono ?_
      (case side1 => exact cB HR0)
      (case side2 => exact HC0.out)
      (case side3 => repeat (first | exact ((Kd.V_reads' (by (with_reducible repeat (first | apply Kd.V_alloc | apply Kd.V_drewN | apply Kd.V_drew)); exact HL515_0.out)).2.2) | (with_reducible refine Kd.C_alloc ?_ _) | (with_reducible refine Kd.C_drewN ?_ _) | (with_reducible refine Kd.C_drew ?_)))
      (case side4 => exact HC515_0.out)
      rintro e w33 ⟨rfl, hb⟩
      refine ⟨_, rfl, ?_⟩
      replace HO_5 := Aside0.mk (Kd.N_below (by (with_reducible repeat (first | apply Kd.N_alloc | apply Kd.N_drewN | apply Kd.N_drew)); exact HO_5.out) hb)
      replace HO_13 := Aside0.mk (Kd.V_below (by (with_reducible repeat (first | apply Kd.V_alloc | apply Kd.V_drewN | apply Kd.V_drew)); exact HO_13.out) hb)
      replace HL515_0 := Aside0.mk (Kd.V_below (by (with_reducible repeat (first | apply Kd.V_alloc | apply Kd.V_drewN | apply Kd.V_drew)); exact HL515_0.out) hb)
      replace BK516 := kb BK516 hb
      replace HB := bs HB hb
      (try clear hb)
      (try clear hb2)
      (try clear hk)
      (try clear hi)
      refine hK.out _ _ (cn2 BK516) (fun hHeld => ?_)
      clear hK K
      refine nB ?_
      refine pa 9 28 (mb 21 1023) HT_ ?_
      refine pa 10 29 (mb 21 2047) HT_ ?_
      refine pa 11 30 (mb 21 4095) HT_ ?_
      refine pa 12 31 (mb 21 8191) HT_ ?_
      refine pa 14 33 (mb 21 24575) HT_ ?_
      refine pa 15 34 (mb 21 57343) HT_ ?_
      refine ta2 13 32 (mb 21 65535) HT_ HW_ hHeld ?_
      refine ta2 16 35 (mb 21 131071) HT_ HW_ hHeld ?_
      refine oa 17 36 (mb 21 262143) HT_ (fun K hK => ?_)
      refine gA Try.func77 #[.slice A0 l0.length c0, .slice A515_0 ((rd_T85 l1 x15_1).f0).length c515_0] ?_
      with_reducible refine (impl_LeastGreen.calls k1 _ _ l0 _ _ ((rd_T85 l1 x15_1).f0) t518 _ ?side1 ?side2 ?side3 ?side4 A17.out).mono ?_
      (case side1 => exact cB HR0)
      (case side2 => exact HC0.out)
      (case side3 => repeat (first | exact ((Kd.V_reads' (by (with_reducible repeat (first | apply Kd.V_alloc | apply Kd.V_drewN | apply Kd.V_drew)); exact HL515_0.out)).2.2) | (with_reducible refine Kd.C_alloc ?_ _) | (with_reducible refine Kd.C_drewN ?_ _) | (with_reducible refine Kd.C_drew ?_)))
      (case side4 => exact HC515_0.out)
      rintro e w34 ⟨rfl, hb⟩
      refine ⟨_, rfl, ?_⟩
      replace HO_5 := Aside0.mk (Kd.N_below (by (with_reducible repeat (first | apply Kd.N_alloc | apply Kd.N_drewN | apply Kd.N_drew)); exact HO_5.out) hb)
      replace HO_13 := Aside0.mk (Kd.V_below (by (with_reducible repeat (first | apply Kd.V_alloc | apply Kd.V_drewN | apply Kd.V_drew)); exact HO_13.out) hb)
      replace HL515_0 := Aside0.mk (Kd.V_below (by (with_reducible repeat (first | apply Kd.V_alloc | apply Kd.V_drewN | apply Kd.V_drew)); exact HL515_0.out) hb)
      replace BK516 := kb BK516 hb
      replace HB := bs HB hb
      (try clear hb)
      (try clear hb2)
      (try clear hk)
      (try clear hi)
      refine hK.out _ _ (cn2 BK516) (fun hHeld => ?_)
      clear hK K
      refine nB ?_
      refine oa 18 37 (mb 21 524287) HT_ (fun K hK => ?_)
      refine gA Try.func75 #[.int .i64 ((rd_T85 l1 x15_1).f1), .int .i64 t518, .int .i64 60] ?_
      with_reducible refine (impl_InRange.calls ((rd_T85 l1 x15_1).f1) t518 60 false _ A18.out).mono ?_
      rintro e w' ⟨rfl, ⟨nd, rfl⟩⟩
      refine ⟨_, rfl, ?_⟩
      refine hK.out _ _ (cn2 BK516) (fun hHeld => ?_)
      clear hK K
      refine nB ?_
      refine pa 19 38 (mb 21 1048575) HT_ ?_
      refine pa 20 39 (mb 21 2097151) HT_ ?_
      refine eA HT_ ?_
      try go_wp2
      go_ret
      exact ⟨rA, bG⟩
     replace c16 := Bool.eq_false_iff.mpr c16
     subst c16
     have H1 : (some false) = some r := by rw [if_neg (show ¬ (false = true) by decide)] at H; exact H
     clear H
     have H := H1
     clear H1
     obtain rfl := Option.some.inj H
     obtain ⟨p515, q515⟩ : 0 ≤ (x15_1 : Int) ∧ x15_1 < (l1.length : Int) := ⟨dA, dA⟩
     obtain ⟨ad515, A515_0, c515_0, e515, hx515_0, hx515_1, hl515_0, hi515_0⟩ := at_T85 (Kd.V_reads' HO_13.out).2.2 x15_1 p515 q515
     cases e515
     obtain ⟨ce515, hce515, hMe515, hcc515⟩ := Kd.V_get HO_13.out z85 x15_1 p515 (by first | exact q515 | exact dA | (have e_ := (Kd.V_reads' HO_13.out).1; omega))
     obtain ⟨ua515_0, uc515_0, rfl, ul515_0, ge515_0⟩ := k85_openF hMe515
     have hv515_0 := hcc515 0 _ rfl
     rw [Nat.add_zero] at hv515_0
     replace hv515_0 := Option.some.inj (hv515_0.symm.trans hx515_0)
     injection hv515_0 with hva_ hvn_ hvc_
     rw [hva_] at ge515_0
     rw [hvc_] at ul515_0
     have HL515_0 := Aside0.mk (show Kd.V (Kd.int .i64) 3 _ w.heap.size _ _ ((rd_T85 l1 x15_1).f0) from Kd.V_mk ul515_0 ge515_0)
     clear hva_ hvn_ hvc_ ge515_0 ul515_0
     clear hcc515 hce515
     have HR515_0 := Aside0.mk hi515_0
     have HC515_0 := Aside0.mk hl515_0
     clear hi515_0 hl515_0
     obtain ⟨p515, q515⟩ := eT p515 q515
     try go_wp2_with (first | ((with_reducible refine gate_dst (N := 7) rfl ?_); refine bE (N := 7) (cs := #[.slice none 0 0, .int .i64 0]) (t := 85) ?_; intro gb516 hg w35 hbox hb; have n0_ := Aside0.mk (Kd.N_below (Kd.N_elderB (by (with_reducible repeat (first | apply Kd.N_alloc | apply Kd.N_drewN | apply Kd.N_drew)); exact HO_5.out) gb516 (Nat.le_of_eq hg.symm)) hb); have n1_ := Aside0.mk (Kd.V_below (Kd.V_elderB (by (with_reducible repeat (first | apply Kd.V_alloc | apply Kd.V_drewN | apply Kd.V_drew)); exact HO_13.out) gb516 (Nat.le_of_eq hg.symm)) hb); have n2_ := Aside0.mk (Kd.V_below (Kd.V_elderB (by (with_reducible repeat (first | apply Kd.V_alloc | apply Kd.V_drewN | apply Kd.V_drew)); exact HL515_0.out) gb516 (Nat.le_of_eq hg.symm)) hb); have n3_ := Aside0.mk (Kd.C_below (by repeat (first | (with_reducible exact HR515_0.out) | (with_reducible refine Kd.C_alloc ?_ _) | (with_reducible refine Kd.C_drewN ?_ _) | (with_reducible refine Kd.C_drew ?_) | exact HR515_0.out)) hb); have n4_ := bs HB hb; have n5_ := Aside0.mk (hbox); have n6_ := gw w hg; have n7_ := gw w hg; clear HO_5; clear HO_13; clear HL515_0; clear HR515_0; clear HB; have HO_5 := n0_; have HO_13 := n1_; have HL515_0 := n2_; have HR515_0 := n3_; have HB := n4_; have BK516 := n5_; have GW516 := n6_; have GE516 := n7_; clear n0_ n1_ n2_ n3_ n4_ n5_ n6_ n7_; clear hb hbox hg; obtain ⟨_, _, _, _⟩ := blkc2 BK516))
     have n0_ : Aside0 (Kd.N (Kd.slice 3 (Kd.int .i64)) 35 ((w35.setCell ⟨gb516, 0, none⟩ (.slice A515_0 ((rd_T85 l1 x15_1).f0).length c515_0)).setCell ⟨gb516, 1, none⟩ (.int .i64 ((rd_T85 l1 x15_1).f1))) w.heap.size (fun k_ => (P1_ k_ ∨ w.heap.size ≤ k_) ∧ k_ ≠ gb516) u5 x5_1) := ⟨by (with_reducible repeat (first | apply Kd.N_alloc | apply Kd.N_drewN | apply Kd.N_drew)); exact Kd.N_mono (Kd.N_far (p := ⟨gb516, 1, none⟩) (Kd.N_far (p := ⟨gb516, 0, none⟩) (Kd.N_mono HO_5.out (fun k_ hk => (⟨hk, hk.2⟩ : _ ∧ k_ ≠ gb516))) (fun _ hk => hk.2) (.slice A515_0 ((rd_T85 l1 x15_1).f0).length c515_0)) (fun _ hk => hk.2) (.int .i64 ((rd_T85 l1 x15_1).f1))) (fun _ hk => ⟨hk.1.1, hk.1.2⟩)⟩
     have n1_ : Aside0 (Kd.V k85 85 ((w35.setCell ⟨gb516, 0, none⟩ (.slice A515_0 ((rd_T85 l1 x15_1).f0).length c515_0)).setCell ⟨gb516, 1, none⟩ (.int .i64 ((rd_T85 l1 x15_1).f1))) w.heap.size (fun k_ => (P1_ k_ ∨ w.heap.size ≤ k_) ∧ some k_ ≠ (u5 : Value).ownBlock ∧ k_ ≠ gb516) (.slice (some ad515) l1.length c1) l1) := ⟨by (with_reducible repeat (first | apply Kd.V_alloc | apply Kd.V_drewN | apply Kd.V_drew)); exact Kd.V_mono (Kd.V_far (p := ⟨gb516, 1, none⟩) (Kd.V_far (p := ⟨gb516, 0, none⟩) (Kd.V_mono HO_13.out (fun k_ hk => (⟨hk, hk.2⟩ : _ ∧ k_ ≠ gb516))) (fun _ hk => hk.2) (.slice A515_0 ((rd_T85 l1 x15_1).f0).length c515_0)) (fun _ hk => hk.2) (.int .i64 ((rd_T85 l1 x15_1).f1))) (fun _ hk => ⟨hk.1.1.1, ⟨hk.1.1.2, hk.1.2⟩⟩)⟩
     have n2_ : Aside0 (Kd.V (Kd.int .i64) 3 ((w35.setCell ⟨gb516, 0, none⟩ (.slice A515_0 ((rd_T85 l1 x15_1).f0).length c515_0)).setCell ⟨gb516, 1, none⟩ (.int .i64 ((rd_T85 l1 x15_1).f1))) w.heap.size (fun k_ => (P1_ k_ ∨ w.heap.size ≤ k_) ∧ some k_ ≠ (u5 : Value).ownBlock ∧ k_ ≠ gb516) (.slice A515_0 ((rd_T85 l1 x15_1).f0).length c515_0) ((rd_T85 l1 x15_1).f0)) := ⟨by (with_reducible repeat (first | apply Kd.V_alloc | apply Kd.V_drewN | apply Kd.V_drew)); exact Kd.V_mono (Kd.V_far (p := ⟨gb516, 1, none⟩) (Kd.V_far (p := ⟨gb516, 0, none⟩) (Kd.V_mono HL515_0.out (fun k_ hk => (⟨hk, hk.2⟩ : _ ∧ k_ ≠ gb516))) (fun _ hk => hk.2) (.slice A515_0 ((rd_T85 l1 x15_1).f0).length c515_0)) (fun _ hk => hk.2) (.int .i64 ((rd_T85 l1 x15_1).f1))) (fun _ hk => ⟨hk.1.1.1, ⟨hk.1.1.2, hk.1.2⟩⟩)⟩
     have n3_ : Aside0 (((w35.setCell ⟨gb516, 0, none⟩ (.slice A515_0 ((rd_T85 l1 x15_1).f0).length c515_0)).setCell ⟨gb516, 1, none⟩ (.int .i64 ((rd_T85 l1 x15_1).f1))).heap[gb516]? = some (.cells #[.slice A515_0 ((rd_T85 l1 x15_1).f0).length c515_0, .int .i64 ((rd_T85 l1 x15_1).f1)] 85 (0, 0))) := ⟨kp BK516⟩
     have n4_ : Aside0 (Below w.heap.size w ((w35.setCell ⟨gb516, 0, none⟩ (.slice A515_0 ((rd_T85 l1 x15_1).f0).length c515_0)).setCell ⟨gb516, 1, none⟩ (.int .i64 ((rd_T85 l1 x15_1).f1)))) := ⟨bG⟩
     (try clear HO_5)
     (try clear HO_13)
     (try clear HL515_0)
     (try clear BK516)
     (try clear HB)
     generalize ((w35.setCell ⟨gb516, 0, none⟩ (.slice A515_0 ((rd_T85 l1 x15_1).f0).length c515_0)).setCell ⟨gb516, 1, none⟩ (.int .i64 ((rd_T85 l1 x15_1).f1))) = w37 at n0_ n1_ n2_ n3_ n4_ ⊢
     have HO_5 := n0_
     have HO_13 := n1_
     have HL515_0 := n2_
     have BK516 := n3_
     have HB := n4_
     clear n0_ n1_ n2_ n3_ n4_
     replace HO_5 := dn HO_5
     replace HO_13 := dv HO_13
     replace HL515_0 := Aside0.mk (Kd.V_drew HL515_0.out)
     replace BK516 := dk BK516
     have HBo := HB
     replace HB := db HB
     refine sw (ds := []) 21 (mb 21 0) impl_IsPlan.tab7 impl_IsPlan.bits7 (h2 BK516) (fun hHeld HT_ HW_ => ?_)
     generalize w37.drew = w38 at HO_5 HO_13 HL515_0 BK516 HB hHeld ⊢
     refine pa 0 19 (mb 21 1) HT_ ?_
     refine ta2 1 20 (mb 21 3) HT_ HW_ hHeld ?_
     refine pa 2 21 (mb 21 7) HT_ ?_
     refine pa 3 22 (mb 21 15) HT_ ?_
     refine pa 4 23 (mb 21 31) HT_ ?_
     refine pa 5 24 (mb 21 63) HT_ ?_
     refine pa 6 25 (mb 21 127) HT_ ?_
     refine ta2 7 26 (mb 21 255) HT_ HW_ hHeld ?_
     refine oa 8 27 (mb 21 511) HT_ (fun K hK => ?_)
     refine gA Try.func68 #[.slice A0 l0.length c0, .slice A515_0 ((rd_T85 l1 x15_1).f0).length c515_0] ?_
     with_reducible refine (impl_IsTogether.calls k1 _ _ l0 _ _ ((rd_T85 l1 x15_1).f0) false _ ?side1 ?side2 ?side3 ?side4 A15.out).mono ?_
     (case side1 => exact cB HR0)
     (case side2 => exact HC0.out)
     (case side3 => repeat (first | exact ((Kd.V_reads' (by (with_reducible repeat (first | apply Kd.V_alloc | apply Kd.V_drewN | apply Kd.V_drew)); exact HL515_0.out)).2.2) | (with_reducible refine Kd.C_alloc ?_ _) | (with_reducible refine Kd.C_drewN ?_ _) | (with_reducible refine Kd.C_drew ?_)))
     (case side4 => exact HC515_0.out)
     rintro e w39 ⟨rfl, hb⟩
     refine ⟨_, rfl, ?_⟩
     replace HO_5 := Aside0.mk (Kd.N_below (by (with_reducible repeat (first | apply Kd.N_alloc | apply Kd.N_drewN | apply Kd.N_drew)); exact HO_5.out) hb)
     replace HO_13 := Aside0.mk (Kd.V_below (by (with_reducible repeat (first | apply Kd.V_alloc | apply Kd.V_drewN | apply Kd.V_drew)); exact HO_13.out) hb)
     replace HL515_0 := Aside0.mk (Kd.V_below (by (with_reducible repeat (first | apply Kd.V_alloc | apply Kd.V_drewN | apply Kd.V_drew)); exact HL515_0.out) hb)
     replace BK516 := kb BK516 hb
     replace HB := bs HB hb
     (try clear hb)
     (try clear hb2)
     (try clear hk)
     (try clear hi)
     refine hK.out _ _ (cn2 BK516) (fun hHeld => ?_)
     clear hK K
     refine nB ?_
     refine pa 9 28 (mb 21 1023) HT_ ?_
     refine pa 10 29 (mb 21 2047) HT_ ?_
     refine pa 11 30 (mb 21 4095) HT_ ?_
     refine pu 12 31 (mb 21 8191) HT_ ?_
     refine pu 13 32 (mb 21 16383) HT_ ?_
     refine pu 14 33 (mb 21 32767) HT_ ?_
     refine pu 15 34 (mb 21 65535) HT_ ?_
     refine pu 16 35 (mb 21 131071) HT_ ?_
     refine pu 17 36 (mb 21 262143) HT_ ?_
     refine pu 18 37 (mb 21 524287) HT_ ?_
     refine pu 19 38 (mb 21 1048575) HT_ ?_
     refine pa 20 39 (mb 21 2097151) HT_ ?_
     refine eA HT_ ?_
     try go_wp2
     go_ret
     exact ⟨rA, bG⟩
    rw [if_neg c7] at H
    have c7b0 := decide_eq_false c7
    clear c7
    obtain ⟨t514, A40, H⟩ := bindE H
    try dsimp only at H
    obtain rfl := Option.some.inj H
    obtain ⟨Ao41, co41, eo41⟩ := Kd.N_slice HO_5.out
    subst eo41
    go_wp2_with (first | ((with_reducible refine gate_callee (f := 78) rfl ?_); refine gL (some 48) Try.func78 #[.slice A0 l0.length c0, .slice Ao41 x5_1.length co41] ?_; (with_reducible refine (impl_Covers.calls k1 _ _ l0 _ _ x5_1 t514 _ ?_ ?_ ?_ ?_ A40.out).mono ?_); exact cB HR0; exact HC0.out; (focus repeat (first | exact (Kd.N_reads' HO_5.out).2.2 | (with_reducible refine Kd.C_alloc ?_ _) | (with_reducible refine Kd.C_drewN ?_ _) | (with_reducible refine Kd.C_drew ?_))); exact (Kd.N_reads' HO_5.out).2.1; rintro e w42 ⟨rfl, hb⟩; refine ⟨_, rfl, ?_⟩; have n0_ := Aside0.mk (Kd.N_below (by (with_reducible repeat (first | apply Kd.N_alloc | apply Kd.N_drewN | apply Kd.N_drew)); exact HO_5.out) hb); have n1_ := Aside0.mk (Kd.V_below (by (with_reducible repeat (first | apply Kd.V_alloc | apply Kd.V_drewN | apply Kd.V_drew)); exact HO_13.out) hb); have n2_ := bs HB hb; clear HO_5; clear HO_13; clear HB; have HO_5 := n0_; have HO_13 := n1_; have HB := n2_; clear n0_ n1_ n2_; (try clear hb)))
    go_ret
    exact ⟨rA, bA⟩
 replace c4 := Bool.eq_false_iff.mpr c4
 subst c4
 have H1 : (some false) = some r := by rw [if_neg (show ¬ (false = true) by decide)] at H; exact H
 clear H
 have H := H1
 clear H1
 obtain rfl := Option.some.inj H
 go_enter Try.func15, Try.ntmps15
 go_wp2_with (first | ((with_reducible refine gate_callee (f := 75) rfl ?_); refine gL (some 10) Try.func75 #[.int .i64 (l1.length : Int), .int .i64 1, .int .i64 6] ?_; (with_reducible refine (impl_InRange.calls (l1.length : Int) 1 6 false _ A3.out).mono ?_); rintro e w' ⟨rfl, ⟨nd, rfl⟩⟩; refine ⟨_, rfl, ?_⟩))
 go_ret
 exact ⟨rA, bA⟩

/-! ### impl_ClearOf: function 120 -/
def impl_ClearOf.f (a0_0 : Int) (a0_1 : Int) (a0_2 : Int) (a0_3 : Int) : Option (Int) := (impl_IsPath.f a0_0 a0_1 a0_2 a0_3).bind fun t524 => (if t524 = true then (if a0_1 = 1 then (some 2) else (if a0_1 = 3 then (some 3) else (some 5))) else (some 0))
set_option maxHeartbeats 8000000 in
set_option maxRecDepth 100000 in
theorem impl_ClearOf.calls (a0_0 : Int) (a0_1 : Int) (a0_2 : Int) (a0_3 : Int) (r : Int) (w : World) (h : impl_ClearOf.f a0_0 a0_1 a0_2 a0_3 = some r) :
  Calls Try.prog 120 #[.agg #[.int .i64 a0_0, .int .i64 a0_1, .int .i64 a0_2, .int .i64 a0_3]] w fun e w' => e = .returned (.int .i64 r) ∧ Below w.heap.size w w' := by
 have hu50 := Try.underlying50
 have HB := Aside0.mk (Below.refl w.heap.size w)
 have H : ((impl_IsPath.f a0_0 a0_1 a0_2 a0_3).bind fun t524 => (if t524 = true then (if a0_1 = 1 then (some 2) else (if a0_1 = 3 then (some 3) else (some 5))) else (some 0))) = some r := h
 clear h
 obtain ⟨t524, A2, H⟩ := bindE H
 try dsimp only at H
 by_cases c3 : t524 = true
 ·
  subst c3
  have H1 : (if a0_1 = 1 then (some 2) else (if a0_1 = 3 then (some 3) else (some 5))) = some r := by rw [if_pos rfl] at H; exact H
  clear H
  have H := H1
  clear H1
  by_cases c4 : a0_1 = 1
  ·
   rw [if_pos c4] at H
   have c4b0 : (a0_1 == 1) = true := beq_iff_eq.mpr c4
   have c4b1 : (a0_1 != 1) = false := bne_eq_false_iff_eq.mpr c4
   clear c4
   obtain rfl := Option.some.inj H
   go_enter Try.func120, Try.ntmps120
   go_wp2_with (first | ((with_reducible refine gate_dst (N := 1) rfl ?_); refine bE (N := 1) (cs := #[.int .i64 a0_0, .int .i64 a0_1, .int .i64 a0_2, .int .i64 a0_3]) (t := 50) ?_; intro gb523 hg w5 hbox hb; have BK523 := Aside0.mk (hbox); have GW523 := gw w hg; have GE523 := gw w hg; replace HB := bs HB hb; clear hb hbox hg; obtain ⟨_, _, _, _, _, _, _, _⟩ := blkc4 BK523) | ((with_reducible refine gate_callee (f := 90) rfl ?_); refine gL (some 4) Try.func90 #[.agg #[.int .i64 a0_0, .int .i64 a0_1, .int .i64 a0_2, .int .i64 a0_3]] ?_; (with_reducible refine (impl_IsPath.calls a0_0 a0_1 a0_2 a0_3 true _ A2.out).mono ?_); rintro e w7 ⟨rfl, hb⟩; refine ⟨_, rfl, ?_⟩; replace BK523 := kb BK523 hb; replace HB := bs HB hb; (try clear hb); obtain ⟨_, _, _, _, _, _, _, _⟩ := blkc4 BK523))
   go_ret
   exact ⟨rA, bG⟩
  rw [if_neg c4] at H
  have c4b0 : (a0_1 == 1) = false := beq_eq_false_iff_ne.mpr c4
  have c4b1 : (a0_1 != 1) = true := bne_iff_ne.mpr c4
  by_cases c9 : a0_1 = 3
  ·
   rw [if_pos c9] at H
   have c9b0 : (a0_1 == 3) = true := beq_iff_eq.mpr c9
   have c9b1 : (a0_1 != 3) = false := bne_eq_false_iff_eq.mpr c9
   clear c9
   obtain rfl := Option.some.inj H
   go_enter Try.func120, Try.ntmps120
   go_wp2_with (first | ((with_reducible refine gate_dst (N := 1) rfl ?_); refine bE (N := 1) (cs := #[.int .i64 a0_0, .int .i64 a0_1, .int .i64 a0_2, .int .i64 a0_3]) (t := 50) ?_; intro gb523 hg w10 hbox hb; have BK523 := Aside0.mk (hbox); have GW523 := gw w hg; have GE523 := gw w hg; replace HB := bs HB hb; clear hb hbox hg; obtain ⟨_, _, _, _, _, _, _, _⟩ := blkc4 BK523) | ((with_reducible refine gate_callee (f := 90) rfl ?_); refine gL (some 4) Try.func90 #[.agg #[.int .i64 a0_0, .int .i64 a0_1, .int .i64 a0_2, .int .i64 a0_3]] ?_; (with_reducible refine (impl_IsPath.calls a0_0 a0_1 a0_2 a0_3 true _ A2.out).mono ?_); rintro e w12 ⟨rfl, hb⟩; refine ⟨_, rfl, ?_⟩; replace BK523 := kb BK523 hb; replace HB := bs HB hb; (try clear hb); obtain ⟨_, _, _, _, _, _, _, _⟩ := blkc4 BK523))
   go_ret
   exact ⟨rA, bG⟩
  rw [if_neg c9] at H
  have c9b0 : (a0_1 == 3) = false := beq_eq_false_iff_ne.mpr c9
  have c9b1 : (a0_1 != 3) = true := bne_iff_ne.mpr c9
  obtain rfl := Option.some.inj H
  go_enter Try.func120, Try.ntmps120
  go_wp2_with (first | ((with_reducible refine gate_dst (N := 1) rfl ?_); refine bE (N := 1) (cs := #[.int .i64 a0_0, .int .i64 a0_1, .int .i64 a0_2, .int .i64 a0_3]) (t := 50) ?_; intro gb523 hg w14 hbox hb; have BK523 := Aside0.mk (hbox); have GW523 := gw w hg; have GE523 := gw w hg; replace HB := bs HB hb; clear hb hbox hg; obtain ⟨_, _, _, _, _, _, _, _⟩ := blkc4 BK523) | ((with_reducible refine gate_callee (f := 90) rfl ?_); refine gL (some 4) Try.func90 #[.agg #[.int .i64 a0_0, .int .i64 a0_1, .int .i64 a0_2, .int .i64 a0_3]] ?_; (with_reducible refine (impl_IsPath.calls a0_0 a0_1 a0_2 a0_3 true _ A2.out).mono ?_); rintro e w16 ⟨rfl, hb⟩; refine ⟨_, rfl, ?_⟩; replace BK523 := kb BK523 hb; replace HB := bs HB hb; (try clear hb); obtain ⟨_, _, _, _, _, _, _, _⟩ := blkc4 BK523))
  go_ret
  exact ⟨rA, bG⟩
 replace c3 := Bool.eq_false_iff.mpr c3
 subst c3
 have H1 : (some 0) = some r := by rw [if_neg (show ¬ (false = true) by decide)] at H; exact H
 clear H
 have H := H1
 clear H1
 obtain rfl := Option.some.inj H
 go_enter Try.func120, Try.ntmps120
 go_wp2_with (first | ((with_reducible refine gate_dst (N := 1) rfl ?_); refine bE (N := 1) (cs := #[.int .i64 a0_0, .int .i64 a0_1, .int .i64 a0_2, .int .i64 a0_3]) (t := 50) ?_; intro gb523 hg w18 hbox hb; have BK523 := Aside0.mk (hbox); have GW523 := gw w hg; have GE523 := gw w hg; replace HB := bs HB hb; clear hb hbox hg; obtain ⟨_, _, _, _, _, _, _, _⟩ := blkc4 BK523) | ((with_reducible refine gate_callee (f := 90) rfl ?_); refine gL (some 4) Try.func90 #[.agg #[.int .i64 a0_0, .int .i64 a0_1, .int .i64 a0_2, .int .i64 a0_3]] ?_; (with_reducible refine (impl_IsPath.calls a0_0 a0_1 a0_2 a0_3 false _ A2.out).mono ?_); rintro e w20 ⟨rfl, hb⟩; refine ⟨_, rfl, ?_⟩; replace BK523 := kb BK523 hb; replace HB := bs HB hb; (try clear hb)))
 go_ret
 exact ⟨rA, bG⟩

/-! ### impl_sieve: function 166 -/
def impl_sieve.l0 : Nat → List Int → Bool → List Int → List Int → Int → Int → Option (List Int)
 | 0, _, _, _, _, _, _ => none
 | k + 1, x1, x2, x7, x11, x12, x13 => if x13 < x12 then (if 0 ≤ x13 then (if x13 < (x11.length : Int) then ((slices_Contains_int_int.f k x1 (rd x11 x13)).bind fun t531 => (if (t531 == x2) = true then (if x7.length < 17592186044416 then (impl_sieve.l0 k x1 x2 (x7 ++ [rd x11 x13]) x11 x12 (wrap64 (x13 + 1))) else (none)) else (impl_sieve.l0 k x1 x2 x7 x11 x12 (wrap64 (x13 + 1))))) else (none)) else (none)) else (some x7)
def impl_sieve.f (k : Nat) (l0 : List Int) (l1 : List Int) (a2 : Bool) : Option (List Int) := impl_sieve.l0 k l1 a2 (([] : List Int)) l0 (l0.length : Int) 0
theorem impl_sieve.mono_l : ∀ k, (∀ y0 y1 y2 y3 y4 y5, LeO (impl_sieve.l0 k y0 y1 y2 y3 y4 y5) (impl_sieve.l0 (k + 1) y0 y1 y2 y3 y4 y5))
 | 0 => fun _ _ _ _ _ _ r h => by simp [impl_sieve.l0] at h
 | k + 1 => by
  have ih0 := impl_sieve.mono_l k
  ·
   intro y0 y1 y2 y3 y4 y5
   unfold impl_sieve.l0
   exact mz2 ih0 slices_Contains_int_int.mono
theorem impl_sieve.mono : ∀ a0 a1 a2 k, LeO (impl_sieve.f k a0 a1 a2) (impl_sieve.f (k + 1) a0 a1 a2) := by
 intro a0 a1 a2 k
 have ih0 := impl_sieve.mono_l k
 unfold impl_sieve.f
 exact mz2 ih0 slices_Contains_int_int.mono
set_option maxHeartbeats 8000000 in
set_option maxRecDepth 100000 in
theorem impl_sieve.calls (k : Nat) (A0 : Option Addr) (c0 : Nat) (l0 : List Int) (A1 : Option Addr) (c1 : Nat) (l1 : List Int) (a2 : Bool) (r : List Int) (w : World) (hr0 : Kd.C (Kd.int .i64) w A0 l0.length l0) (hc0 : l0.length ≤ c0) (hr1 : Kd.C (Kd.int .i64) w A1 l1.length l1) (hc1 : l1.length ≤ c1) (h : impl_sieve.f k l0 l1 a2 = some r) :
  Calls Try.prog 166 #[.slice A0 l0.length c0, .slice A1 l1.length c1, .bool a2] w fun e w' => ∃ v0_ : Value, e = .returned (v0_) ∧ Kd.R (Kd.int .i64) 3 w' w.heap.size (fun _ => True) v0_ r ∧ Below w.heap.size w w' := by
 have HR0 := Aside0.mk hr0
 have HC0 := Aside0.mk hc0
 clear hr0 hc0
 have HR1 := Aside0.mk hr1
 have HC1 := Aside0.mk hc1
 clear hr1 hc1
 have HB := Aside0.mk (Below.refl w.heap.size w)
 have H : (impl_sieve.l0 k l1 a2 (([] : List Int)) l0 (l0.length : Int) 0) = some r := h
 clear h
 obtain ⟨y527, hy527⟩ : ∃ y_ : List Int, y_ = (([] : List Int)) := ⟨_, rfl⟩
 replace H : (impl_sieve.l0 k l1 a2 y527 l0 (l0.length : Int) 0) = some r := rH H hy527
 have Ny527 := Aside0.mk hy527
 clear hy527
 have H' := Aside0.mk H
 clear H
 go_enter Try.func166, Try.ntmps166
 go_wp2_with (first | ((with_reducible refine gate_dst (N := 10) rfl ?_); refine Kd.R_lit (Kd.int .i64) _ 3 ?hg (N := 10) ?hd (xs := ([] : List Int)) (inner := []) (ok := fun _ => True) (okp := fun _ => True) ?hr ?hp (fun _ hk => hk) trivial (Below.refl _ _) (Nat.le_refl _) (by simp) ?_; (case hd => rfl); (case hg => rfl); (case hr => first | (go_simp; done) | (go_simp; rfl)); (case hp => exact (Reps.none _ _)); intro v528 w4 ho5 hb hg_ hnew_; clear hg_ hnew_; (first | rw [← Ny527.out] at ho5 | (simp only [Int.reduceToNat] at ho5; rw [← Ny527.out] at ho5)); have HO529 := rl w ho5; replace HB := bs HB hb; clear hb ho5))
 go_loopg [7, 13] k (fun kq v7 v13 w' => ∃ (x7_1 : List Int) (x13_1 : Int), v13 = .int .i64 x13_1 ∧ Aside0 (impl_sieve.l0 kq l1 a2 x7_1 l0 (l0.length : Int) x13_1 = some r) ∧ Aside0 (kq ≤ k) ∧ Aside0 (Kd.R (Kd.int .i64) 3 w' w.heap.size (fun _ => True) v7 x7_1) ∧ Aside0 (Below w.heap.size w w'))
 case atStart => exact ⟨(y527), (0), rS, H', ⟨Nat.le_refl _⟩, ⟨rK HO529⟩, ⟨bA⟩⟩
 case round =>
  clear H'
  obtain ⟨x7_1, x13_1, rfl, HA, HK1, HO_7, HB⟩ := hrel
  cases gk with
  | zero => exact absurd HA.out (by simp [impl_sieve.l0])
  | succ k1 =>
   have H := HA.out
   clear HA
   simp only [impl_sieve.l0] at H
   by_cases c6 : x13_1 < (l0.length : Int)
   ·
    rw [if_pos c6] at H
    have c6b0 := decide_eq_true c6
    clear c6
    have c7 : 0 ≤ x13_1 := ifN H
    replace H := ifT H
    have c7b0 := decide_eq_true c7
    clear c7
    have c8 : x13_1 < (l0.length : Int) := ifN H
    replace H := ifT H
    have c8b0 := decide_eq_true c8
    clear c8
    obtain ⟨t531, A9, H⟩ := bindE H
    try dsimp only at H
    by_cases c10 : (t531 == a2) = true
    ·
     rw [if_pos c10] at H
     have c10b0 : (t531 == a2) = true := c10
     (try (have c10b1 : decide (t531 = a2) = true := by simpa using c10))
     (try (have c10b2 : (t531 == a2) = true := by simpa using c10))
     clear c10
     have c11 : x7_1.length < 17592186044416 := ifN H
     replace H := ifT H
     have LMc11 := Aside0.mk c11
     clear c11
     obtain ⟨y532, hy532⟩ : ∃ y_ : List Int, y_ = (x7_1 ++ [rd l0 x13_1]) := ⟨_, rfl⟩
     replace H : (impl_sieve.l0 k1 l1 a2 y532 l0 (l0.length : Int) (wrap64 (x13_1 + 1))) = some r := rH H hy532
     have Ny532 := Aside0.mk hy532
     clear hy532
     have H' := Aside0.mk H
     clear H
     obtain ⟨p530, q530⟩ : 0 ≤ (x13_1 : Int) ∧ x13_1 < (l0.length : Int) := ⟨dA, dA⟩
     obtain ⟨ad530, e530, hx530_0⟩ := Kd.at_int (Kd.C_below HR0.out HB.out) x13_1 p530 q530
     cases e530
     obtain ⟨p530, q530⟩ := eT p530 q530
     go_wp2_with (first | ((with_reducible refine gate_callee (f := 102) rfl ?_); refine gL (some 19) Try.func102 #[.slice A1 l1.length c1, .int .i64 (rd l0 x13_1)] ?_; (with_reducible refine (slices_Contains_int_int.calls k1 _ _ l1 (rd l0 x13_1) t531 _ ?_ ?_ A9.out).mono ?_); exact cB HR1; exact HC1.out; rintro e w' ⟨rfl, ⟨nd, rfl⟩⟩; refine ⟨_, rfl, ?_⟩) | ((with_reducible refine gate_builtin (b := .append) (xs := #[.tmp 22, .tmp 24]) rfl ?_); at_builtin; refine Kd.R_append (Kd.int .i64) (w0 := w) w.heap.size rfl (.tmp 22) (.tmp 24) 35 3 (.int .i64 0) 8 rfl Try.underlying35 info3 rfl (by decide) (by omega) u7 x7_1 (rd l0 x13_1) [.int .i64 (rd l0 x13_1)] (fun _ => True) (fun _ => False) rfl rfl ?aP (fun _ hk => hk.elim) ?aF ?aO ?aB ?aS ?aL ?_; (case aP => exact rfl); (case aB => exact bA); (case aF => exact (fun _ _ => trivial)); (case aO => exact (rK HO_7)); (case aS => exact (below_size bA)); (case aL => have := LMc11.out; omega); intro v533 w12 ho hb hg hat; rw [← Ny532.out] at ho; have n0_ := Aside0.mk (hb); have n1_ := Aside0.mk (ho); clear HB; clear HO_7; have HB := n0_; have HO534 := n1_; clear n0_ n1_; clear ho hb hg hat))
     go_roundg k1
     case measure => have := HK1.out; omega
     case rel => exact ⟨(y532), (wrap64 (x13_1 + 1)), rS, H', ⟨by have := HK1.out; omega⟩, ⟨rK HO534⟩, ⟨bA⟩⟩
    rw [if_neg c10] at H
    have c10b0 : (t531 == a2) = false := by simpa using c10
    (try (have c10b1 : decide (t531 = a2) = false := by simpa using c10))
    (try (have c10b2 : (t531 == a2) = false := by simpa using c10))
    (try (have c10b3 : ¬ (t531 = a2) := by simpa using c10))
    clear c10
    have H' := Aside0.mk H
    clear H
    obtain ⟨p530, q530⟩ : 0 ≤ (x13_1 : Int) ∧ x13_1 < (l0.length : Int) := ⟨dA, dA⟩
    obtain ⟨ad530, e530, hx530_0⟩ := Kd.at_int (Kd.C_below HR0.out HB.out) x13_1 p530 q530
    cases e530
    obtain ⟨p530, q530⟩ := eT p530 q530
    go_wp2_with (first | ((with_reducible refine gate_callee (f := 102) rfl ?_); refine gL (some 19) Try.func102 #[.slice A1 l1.length c1, .int .i64 (rd l0 x13_1)] ?_; (with_reducible refine (slices_Contains_int_int.calls k1 _ _ l1 (rd l0 x13_1) t531 _ ?_ ?_ A9.out).mono ?_); exact cB HR1; exact HC1.out; rintro e w' ⟨rfl, ⟨nd, rfl⟩⟩; refine ⟨_, rfl, ?_⟩))
    go_roundg k1
    case measure => have := HK1.out; omega
    case rel => exact ⟨(x7_1), (wrap64 (x13_1 + 1)), rS, H', ⟨by have := HK1.out; omega⟩, ⟨rK HO_7⟩, ⟨bA⟩⟩
   rw [if_neg c6] at H
   have c6b0 := decide_eq_false c6
   clear c6
   obtain rfl := Option.some.inj H
   go_wp2
   go_ret
   exact ⟨_, rA, rK HO_7, bA⟩

/-! ### impl_Closes: function 138 -/
def impl_Closes.f (k : Nat) (l0 : List Int) (l1 : List Int) : Option (List Int) := (impl_sieve.f k l0 l1 false).bind fun t535 => (some t535)
theorem impl_Closes.mono : ∀ a0 a1 k, LeO (impl_Closes.f k a0 a1) (impl_Closes.f (k + 1) a0 a1) := by
 intro a0 a1 k
 unfold impl_Closes.f
 exact mz1 impl_sieve.mono
set_option maxHeartbeats 8000000 in
set_option maxRecDepth 100000 in
theorem impl_Closes.calls (k : Nat) (A0 : Option Addr) (c0 : Nat) (l0 : List Int) (A1 : Option Addr) (c1 : Nat) (l1 : List Int) (r : List Int) (w : World) (hr0 : Kd.C (Kd.int .i64) w A0 l0.length l0) (hc0 : l0.length ≤ c0) (hr1 : Kd.C (Kd.int .i64) w A1 l1.length l1) (hc1 : l1.length ≤ c1) (h : impl_Closes.f k l0 l1 = some r) :
  Calls Try.prog 138 #[.slice A0 l0.length c0, .slice A1 l1.length c1] w fun e w' => ∃ v0_ : Value, e = .returned (v0_) ∧ Kd.R (Kd.int .i64) 3 w' w.heap.size (fun _ => True) v0_ r ∧ Below w.heap.size w w' := by
 have HR0 := Aside0.mk hr0
 have HC0 := Aside0.mk hc0
 clear hr0 hc0
 have HR1 := Aside0.mk hr1
 have HC1 := Aside0.mk hc1
 clear hr1 hc1
 have HB := Aside0.mk (Below.refl w.heap.size w)
 have H : ((impl_sieve.f k l0 l1 false).bind fun t535 => (some t535)) = some r := h
 clear h
 obtain ⟨t535, A3, H⟩ := bindE H
 try dsimp only at H
 obtain rfl := Option.some.inj H
 go_enter Try.func138, Try.ntmps138
 go_wp2_with (first | ((with_reducible refine gate_callee (f := 166) rfl ?_); refine gL (some 7) Try.func166 #[.slice A0 l0.length c0, .slice A1 l1.length c1, .bool false] ?_; (with_reducible refine (impl_sieve.calls k _ _ l0 _ _ l1 false t535 _ ?_ ?_ ?_ ?_ A3.out).mono ?_); exact cO HR0; exact HC0.out; exact cO HR1; exact HC1.out; rintro e w4 ⟨v536, rfl, ho0, hb⟩; refine ⟨_, rfl, ?_⟩; have HO537 := rl w ho0; replace HB := bs HB hb; (try clear hb); (try clear ho0)))
 go_ret
 exact ⟨_, rA, rK HO537, bA⟩

/-! ### impl_ClearBetween: function 99 -/
mutual
def impl_ClearBetween.j0 : Nat → List (S50) → List Int → List Int → Int → Bool → Option (Int)
 | 0, _, _, _, _, _ => none
 | k + 1, x0, x1, x2, x7, x22 => if x22 = true then (some x7) else ((impl_Closes.f k x1 x2).bind fun t540 => (impl_ClearBetween.l0 k x0 x1 x2 x7 t540 (t540.length : Int) 0))
def impl_ClearBetween.l0 : Nat → List (S50) → List Int → List Int → Int → List Int → Int → Int → Option (Int)
 | 0, _, _, _, _, _, _, _ => none
 | k + 1, x0, x1, x2, x7, x26, x27, x28 => if x28 < x27 then (if 0 ≤ x28 then (if x28 < (x26.length : Int) then ((impl_Closes.f k x2 x1).bind fun t544 => (impl_ClearBetween.l1 k x0 x1 x2 x7 (rd x26 x28) x26 x27 x28 t544 (t544.length : Int) 0)) else (none)) else (none)) else (some x7)
def impl_ClearBetween.l1 : Nat → List (S50) → List Int → List Int → Int → Int → List Int → Int → Int → List Int → Int → Int → Option (Int)
 | 0, _, _, _, _, _, _, _, _, _, _, _ => none
 | k + 1, x0, x1, x2, x7, x9, x26, x27, x28, x34, x35, x36 => if x36 < x35 then (if 0 ≤ x36 then (if x36 < (x34.length : Int) then ((impl_FindPath.f x0 x9).bind fun t548 => (if 0 ≤ t548 then (if t548 < (x0.length : Int) then ((impl_FindPath.f x0 (rd x34 x36)).bind fun t551 => (if 0 ≤ t551 then (if t551 < (x0.length : Int) then ((impl_Conflict.f k ((rd_T50 x0 t548).f0) ((rd_T50 x0 t548).f1) ((rd_T50 x0 t548).f2) ((rd_T50 x0 t548).f3) ((rd_T50 x0 t551).f0) ((rd_T50 x0 t551).f1) ((rd_T50 x0 t551).f2) ((rd_T50 x0 t551).f3)).bind fun t553 => (if t553 = true then ((impl_ClearOf.f ((rd_T50 x0 t548).f0) ((rd_T50 x0 t548).f1) ((rd_T50 x0 t548).f2) ((rd_T50 x0 t548).f3)).bind fun t554 => (impl_ClearBetween.l1 k x0 x1 x2 (mx x7 t554) x9 x26 x27 x28 x34 x35 (wrap64 (x36 + 1)))) else (impl_ClearBetween.l1 k x0 x1 x2 x7 x9 x26 x27 x28 x34 x35 (wrap64 (x36 + 1))))) else (none)) else (none))) else (none)) else (none))) else (none)) else (none)) else (impl_ClearBetween.l0 k x0 x1 x2 x7 x26 x27 (wrap64 (x28 + 1)))
end
def impl_ClearBetween.f (k : Nat) (l0 : List (S50)) (l1 : List Int) (l2 : List Int) : Option (Int) := (impl_IsTogether.f k l0 l1).bind fun t538 => (if t538 = true then ((impl_IsTogether.f k l0 l2).bind fun t539 => (impl_ClearBetween.j0 k l0 l1 l2 0 (!t539))) else (impl_ClearBetween.j0 k l0 l1 l2 0 true))
theorem impl_ClearBetween.mono_l : ∀ k, (∀ y0 y1 y2 y3 y4, LeO (impl_ClearBetween.j0 k y0 y1 y2 y3 y4) (impl_ClearBetween.j0 (k + 1) y0 y1 y2 y3 y4)) ∧ (∀ y0 y1 y2 y3 y4 y5 y6, LeO (impl_ClearBetween.l0 k y0 y1 y2 y3 y4 y5 y6) (impl_ClearBetween.l0 (k + 1) y0 y1 y2 y3 y4 y5 y6)) ∧ (∀ y0 y1 y2 y3 y4 y5 y6 y7 y8 y9 y10, LeO (impl_ClearBetween.l1 k y0 y1 y2 y3 y4 y5 y6 y7 y8 y9 y10) (impl_ClearBetween.l1 (k + 1) y0 y1 y2 y3 y4 y5 y6 y7 y8 y9 y10))
 | 0 => ⟨fun _ _ _ _ _ r h => by simp [impl_ClearBetween.j0] at h, fun _ _ _ _ _ _ _ r h => by simp [impl_ClearBetween.l0] at h, fun _ _ _ _ _ _ _ _ _ _ _ r h => by simp [impl_ClearBetween.l1] at h⟩
 | k + 1 => by
  obtain ⟨ih0, ih1, ih2⟩ := impl_ClearBetween.mono_l k
  refine ⟨?_, ?_, ?_⟩
  ·
   intro y0 y1 y2 y3 y4
   unfold impl_ClearBetween.j0
   exact mz6 ih0 ih1 ih2 impl_Closes.mono impl_Conflict.mono impl_IsTogether.mono
  ·
   intro y0 y1 y2 y3 y4 y5 y6
   unfold impl_ClearBetween.l0
   exact mz6 ih0 ih1 ih2 impl_Closes.mono impl_Conflict.mono impl_IsTogether.mono
  ·
   intro y0 y1 y2 y3 y4 y5 y6 y7 y8 y9 y10
   unfold impl_ClearBetween.l1
   exact mz6 ih0 ih1 ih2 impl_Closes.mono impl_Conflict.mono impl_IsTogether.mono
theorem impl_ClearBetween.mono : ∀ a0 a1 a2 k, LeO (impl_ClearBetween.f k a0 a1 a2) (impl_ClearBetween.f (k + 1) a0 a1 a2) := by
 intro a0 a1 a2 k
 obtain ⟨ih0, ih1, ih2⟩ := impl_ClearBetween.mono_l k
 unfold impl_ClearBetween.f
 exact mz6 ih0 ih1 ih2 impl_Closes.mono impl_Conflict.mono impl_IsTogether.mono
def impl_ClearBetween.T11 : Bool × List (List Nat × List Nat) := (true, [([], []), ([], []), ([], []), ([], []), ([2, 3], [2, 3]), ([1, 4], [1, 4]), ([5], [5]), ([0, 6, 4], [0, 6])])
def impl_ClearBetween.B11 : List Nat := [0, 0, 0, 0, 12, 30, 62, 127]
theorem impl_ClearBetween.tab11 : rtab .any (opsOf Try.f99 11) = impl_ClearBetween.T11 := by kernel_rfl
theorem impl_ClearBetween.bits11 : waitsOk impl_ClearBetween.T11.2 impl_ClearBetween.B11 = true := by kernel_rfl
set_option maxHeartbeats 8000000 in
set_option maxRecDepth 100000 in
theorem impl_ClearBetween.calls (k : Nat) (A0 : Option Addr) (c0 : Nat) (l0 : List (S50)) (A1 : Option Addr) (c1 : Nat) (l1 : List Int) (A2 : Option Addr) (c2 : Nat) (l2 : List Int) (r : Int) (w : World) (hr0 : Kd.C k50 w A0 l0.length l0) (hc0 : l0.length ≤ c0) (hr1 : Kd.C (Kd.int .i64) w A1 l1.length l1) (hc1 : l1.length ≤ c1) (hr2 : Kd.C (Kd.int .i64) w A2 l2.length l2) (hc2 : l2.length ≤ c2) (h : impl_ClearBetween.f k l0 l1 l2 = some r) :
  Calls Try.prog 99 #[.slice A0 l0.length c0, .slice A1 l1.length c1, .slice A2 l2.length c2] w fun e w' => e = .returned (.int .i64 r) ∧ Below w.heap.size w w' := by
 have hu50 := Try.underlying50
 have HR0 := Aside0.mk hr0
 have HC0 := Aside0.mk hc0
 clear hr0 hc0
 have HR1 := Aside0.mk hr1
 have HC1 := Aside0.mk hc1
 clear hr1 hc1
 have HR2 := Aside0.mk hr2
 have HC2 := Aside0.mk hc2
 clear hr2 hc2
 have HB := Aside0.mk (Below.refl w.heap.size w)
 have H : ((impl_IsTogether.f k l0 l1).bind fun t538 => (if t538 = true then ((impl_IsTogether.f k l0 l2).bind fun t539 => (impl_ClearBetween.j0 k l0 l1 l2 0 (!t539))) else (impl_ClearBetween.j0 k l0 l1 l2 0 true))) = some r := h
 clear h
 have HC4 := Aside0.mk H
 clear H
 go_enter Try.func99, Try.ntmps99
 go_upto_region 2 with (fail)
 go_cut [22] (fun v22 wc => ∃ (kq : Nat) (x22_3 : Bool), v22 = .bool x22_3 ∧ Aside0 (impl_ClearBetween.j0 kq l0 l1 l2 0 x22_3 = some r) ∧ Aside0 (kq ≤ k) ∧ Aside0 (Below w.heap.size w wc))
 case first =>
  have H := HC4.out
  clear HC4
  obtain ⟨t538, A5, H⟩ := bindE H
  try dsimp only at H
  by_cases c6 : t538 = true
  ·
   subst c6
   have H1 : ((impl_IsTogether.f k l0 l2).bind fun t539 => (impl_ClearBetween.j0 k l0 l1 l2 0 (!t539))) = some r := by rw [if_pos rfl] at H; exact H
   clear H
   have H := H1
   clear H1
   obtain ⟨t539, A7, H⟩ := bindE H
   try dsimp only at H
   have H' := Aside0.mk H
   clear H
   go_wp2_with (first | ((with_reducible refine gate_callee (f := 68) rfl ?_); refine gL (some 15) Try.func68 #[.slice A0 l0.length c0, .slice A1 l1.length c1] ?_; (with_reducible refine (impl_IsTogether.calls k _ _ l0 _ _ l1 true _ ?_ ?_ ?_ ?_ A5.out).mono ?_); exact cB HR0; exact HC0.out; exact cB HR1; exact HC1.out; rintro e w8 ⟨rfl, hb⟩; refine ⟨_, rfl, ?_⟩; replace HB := bs HB hb; (try clear hb)) | (go_at_call 68; (with_reducible refine (impl_IsTogether.calls k _ _ l0 _ _ l2 t539 _ ?_ ?_ ?_ ?_ A7.out).mono ?_); exact cB HR0; exact HC0.out; exact cB HR2; exact HC2.out; rintro e w9 ⟨rfl, hb⟩; replace HB := bs HB hb; (try clear hb)))
   go_meet
   case rel => exact ⟨_, (!t539), rS, H', ⟨oL⟩, ⟨bA⟩⟩
  replace c6 := Bool.eq_false_iff.mpr c6
  subst c6
  have H1 : (impl_ClearBetween.j0 k l0 l1 l2 0 true) = some r := by rw [if_neg (show ¬ (false = true) by decide)] at H; exact H
  clear H
  have H := H1
  clear H1
  have H' := Aside0.mk H
  clear H
  go_wp2_with (first | ((with_reducible refine gate_callee (f := 68) rfl ?_); refine gL (some 15) Try.func68 #[.slice A0 l0.length c0, .slice A1 l1.length c1] ?_; (with_reducible refine (impl_IsTogether.calls k _ _ l0 _ _ l1 false _ ?_ ?_ ?_ ?_ A5.out).mono ?_); exact cB HR0; exact HC0.out; exact cB HR1; exact HC1.out; rintro e w10 ⟨rfl, hb⟩; refine ⟨_, rfl, ?_⟩; replace HB := bs HB hb; (try clear hb)))
  go_meet
  case rel => exact ⟨_, (true), rS, H', ⟨oL⟩, ⟨bA⟩⟩
 case rest =>
  clear HC4
  obtain ⟨kq, x22_3, rfl, HA, HJ3, HB⟩ := hcut
  cases kq with
  | zero => exact absurd HA.out (by simp [impl_ClearBetween.j0])
  | succ kj3 =>
   have H := HA.out
   clear HA
   simp only [impl_ClearBetween.j0] at H
   by_cases c11 : x22_3 = true
   ·
    subst c11
    have H1 : (some 0) = some r := by rw [if_pos rfl] at H; exact H
    clear H
    have H := H1
    clear H1
    obtain rfl := Option.some.inj H
    go_wp2
    go_ret
    exact ⟨rA, bA⟩
   replace c11 := Bool.eq_false_iff.mpr c11
   subst c11
   have H1 : ((impl_Closes.f kj3 l1 l2).bind fun t540 => (impl_ClearBetween.l0 kj3 l0 l1 l2 0 t540 (t540.length : Int) 0)) = some r := by rw [if_neg (show ¬ (false = true) by decide)] at H; exact H
   clear H
   have H := H1
   clear H1
   obtain ⟨t540, A12, H⟩ := bindE H
   try dsimp only at H
   have H' := Aside0.mk H
   clear H
   go_wp2_with (first | ((with_reducible refine gate_callee (f := 138) rfl ?_); refine gL (some 26) Try.func138 #[.slice A1 l1.length c1, .slice A2 l2.length c2] ?_; (with_reducible refine (impl_Closes.calls kj3 _ _ l1 _ _ l2 t540 _ ?_ ?_ ?_ ?_ A12.out).mono ?_); exact cB HR1; exact HC1.out; exact cB HR2; exact HC2.out; rintro e w13 ⟨v541, rfl, ho0, hb⟩; refine ⟨_, rfl, ?_⟩; have HO542 := rl w ho0; replace HB := bs HB hb; (try clear hb); (try clear ho0); obtain ⟨Ao14, co14, eo14⟩ := Kd.R_slice HO542.out; subst eo14))
   go_loopg [7, 28] kj3 (fun kq v7 v28 w' => ∃ (x7_2 : Int) (x28_2 : Int), v7 = .int .i64 x7_2 ∧ v28 = .int .i64 x28_2 ∧ Aside0 (impl_ClearBetween.l0 kq l0 l1 l2 x7_2 t540 (t540.length : Int) x28_2 = some r) ∧ Aside0 (kq ≤ kj3) ∧ Aside0 (Kd.R (Kd.int .i64) 3 w' w.heap.size (fun _ => True) (.slice Ao14 t540.length co14) t540) ∧ Aside0 (Below w.heap.size w w'))
   case atStart => exact ⟨(0), (0), rS, rS, H', ⟨Nat.le_refl _⟩, ⟨rK HO542⟩, ⟨bA⟩⟩
   case round =>
    clear H'
    obtain ⟨x7_2, x28_2, rfl, rfl, HA, HK2, HO_26, HB⟩ := hrel
    cases gk with
    | zero => exact absurd HA.out (by simp [impl_ClearBetween.l0])
    | succ k2 =>
     have H := HA.out
     clear HA
     simp only [impl_ClearBetween.l0] at H
     by_cases c15 : x28_2 < (t540.length : Int)
     ·
      rw [if_pos c15] at H
      have c15b0 := decide_eq_true c15
      clear c15
      have c16 : 0 ≤ x28_2 := ifN H
      replace H := ifT H
      have c16b0 := decide_eq_true c16
      clear c16
      have c17 : x28_2 < (t540.length : Int) := ifN H
      replace H := ifT H
      have c17b0 := decide_eq_true c17
      clear c17
      obtain ⟨t544, A18, H⟩ := bindE H
      try dsimp only at H
      have H' := Aside0.mk H
      clear H
      obtain ⟨p543, q543⟩ : 0 ≤ (x28_2 : Int) ∧ x28_2 < (t540.length : Int) := ⟨dA, dA⟩
      obtain ⟨ad543, e543, hx543_0⟩ := Kd.at_int (Kd.R_reads' HO_26.out).2.2 x28_2 p543 q543
      cases e543
      obtain ⟨p543, q543⟩ := eT p543 q543
      go_wp2_with (first | ((with_reducible refine gate_callee (f := 138) rfl ?_); refine gL (some 34) Try.func138 #[.slice A2 l2.length c2, .slice A1 l1.length c1] ?_; (with_reducible refine (impl_Closes.calls k2 _ _ l2 _ _ l1 t544 _ ?_ ?_ ?_ ?_ A18.out).mono ?_); exact cB HR2; exact HC2.out; exact cB HR1; exact HC1.out; rintro e w19 ⟨v545, rfl, ho0, hb⟩; refine ⟨_, rfl, ?_⟩; have HO546 := rl w (rn ho0 HO_26); replace HO_26 := re HO_26 ho0 hb; replace HB := bs HB hb; (try clear hb); (try clear ho0); obtain ⟨Ao20, co20, eo20⟩ := Kd.R_slice HO546.out; subst eo20))
      go_loopg [7, 36] k2 (fun kq v7 v36 w' => ∃ (x7_3 : Int) (x36_3 : Int), v7 = .int .i64 x7_3 ∧ v36 = .int .i64 x36_3 ∧ Aside0 (impl_ClearBetween.l1 kq l0 l1 l2 x7_3 (rd t540 x28_2) t540 (t540.length : Int) x28_2 t544 (t544.length : Int) x36_3 = some r) ∧ Aside0 (kq ≤ k2) ∧ Aside0 (Kd.R (Kd.int .i64) 3 w' w.heap.size (n1 (.slice Ao20 t544.length co20)) (.slice (some ad543) t540.length co14) t540) ∧ Aside0 (Kd.R (Kd.int .i64) 3 w' w.heap.size (n1 (.slice (some ad543) t540.length co14)) (.slice Ao20 t544.length co20) t544) ∧ Aside0 (Below w.heap.size w w'))
      case atStart => exact ⟨(x7_2), (0), rS, rS, H', ⟨Nat.le_refl _⟩, ⟨rm HO_26 (fun _ hk => hk.2)⟩, ⟨rm HO546 (fun _ hk => hk.2)⟩, ⟨bA⟩⟩
      case round =>
       clear H'
       obtain ⟨x7_3, x36_3, rfl, rfl, HA, HK3, HO_26, HO_34, HB⟩ := hrel
       cases gk with
       | zero => exact absurd HA.out (by simp [impl_ClearBetween.l1])
       | succ k3 =>
        have H := HA.out
        clear HA
        simp only [impl_ClearBetween.l1] at H
        by_cases c21 : x36_3 < (t544.length : Int)
        ·
         rw [if_pos c21] at H
         have c21b0 := decide_eq_true c21
         clear c21
         have c22 : 0 ≤ x36_3 := ifN H
         replace H := ifT H
         have c22b0 := decide_eq_true c22
         clear c22
         have c23 : x36_3 < (t544.length : Int) := ifN H
         replace H := ifT H
         have c23b0 := decide_eq_true c23
         clear c23
         obtain ⟨t548, A24, H⟩ := bindE H
         try dsimp only at H
         have c25 : 0 ≤ t548 := ifN H
         replace H := ifT H
         have c25b0 := decide_eq_true c25
         clear c25
         have c26 : t548 < (l0.length : Int) := ifN H
         replace H := ifT H
         have c26b0 := decide_eq_true c26
         clear c26
         obtain ⟨t551, A27, H⟩ := bindE H
         try dsimp only at H
         have c28 : 0 ≤ t551 := ifN H
         replace H := ifT H
         have c28b0 := decide_eq_true c28
         clear c28
         have c29 : t551 < (l0.length : Int) := ifN H
         replace H := ifT H
         have c29b0 := decide_eq_true c29
         clear c29
         obtain ⟨t553, A30, H⟩ := bindE H
         try dsimp only at H
         by_cases c31 : t553 = true
         ·
          subst c31
          have H1 : ((impl_ClearOf.f ((rd_T50 l0 t548).f0) ((rd_T50 l0 t548).f1) ((rd_T50 l0 t548).f2) ((rd_T50 l0 t548).f3)).bind fun t554 => (impl_ClearBetween.l1 k3 l0 l1 l2 (mx x7_3 t554) (rd t540 x28_2) t540 (t540.length : Int) x28_2 t544 (t544.length : Int) (wrap64 (x36_3 + 1)))) = some r := by rw [if_pos rfl] at H; exact H
          clear H
          have H := H1
          clear H1
          obtain ⟨t554, A32, H⟩ := bindE H
          try dsimp only at H
          obtain ⟨ji33, hji33⟩ : ∃ j_ : Int, (mx x7_3 t554) = j_ := ⟨_, rfl⟩
          replace H : (impl_ClearBetween.l1 k3 l0 l1 l2 ji33 (rd t540 x28_2) t540 (t540.length : Int) x28_2 t544 (t544.length : Int) (wrap64 (x36_3 + 1))) = some r := by first | (rw [hji33] at H; exact H) | (simp only [hji33] at H ⊢; exact H)
          (try rw [hji33] at A24)
          (try rw [hji33] at A27)
          (try rw [hji33] at A30)
          (try rw [hji33] at A32)
          have hji33_ : (if x7_3 < t554 then t554 else x7_3) = ji33 := hji33
          have H' := Aside0.mk H
          clear H
          obtain ⟨p547, q547⟩ : 0 ≤ (x36_3 : Int) ∧ x36_3 < (t544.length : Int) := ⟨dA, dA⟩
          obtain ⟨ad547, e547, hx547_0⟩ := Kd.at_int (Kd.R_reads' HO_34.out).2.2 x36_3 p547 q547
          cases e547
          obtain ⟨p547, q547⟩ := eT p547 q547
          try go_wp2_with (first | ((with_reducible refine gate_callee (f := 16) rfl ?_); refine gL (some 43) Try.func16 #[.slice A0 l0.length c0, .int .i64 (rd t540 x28_2)] ?_; (with_reducible refine (impl_FindPath.calls _ _ l0 (rd t540 x28_2) t548 _ ?_ ?_ A24.out).mono ?_); exact cB HR0; exact HC0.out; rintro e w34 ⟨rfl, hb⟩; refine ⟨_, rfl, ?_⟩; replace HO_26 := rb HO_26 hb; replace HO_34 := rb HO_34 hb; replace HB := bs HB hb; (try clear hb); have p549 : 0 ≤ (t548 : Int) := dA; have q549 : t548 < (l0.length : Int) := dA; obtain ⟨ad549, e549, hx549_0, hx549_1, hx549_2, hx549_3⟩ := at_T50 HR0.out t548 p549 q549; cases e549; replace hx549_0 := hC HB hx549_0; replace hx549_1 := hC HB hx549_1; replace hx549_2 := hC HB hx549_2; replace hx549_3 := hC HB hx549_3; replace p549 := eq_true p549; replace q549 := eq_true q549) | ((with_reducible refine gate_dst (N := 12) rfl ?_); refine bE (N := 12) (cs := #[.int .i64 0, .int .i64 0, .int .i64 0, .int .i64 0]) (t := 50) ?_; intro gb550 hg w35 hbox hb; replace HO_26 := rb HO_26 hb; replace HO_34 := rb HO_34 hb; have BK550 := Aside0.mk (hbox); have GW550 := gw w hg; have GE550 := gw w hg; replace HB := bs HB hb; clear hb hbox hg; obtain ⟨_, _, _, _, _, _, _, _⟩ := blkc4 BK550))
          have n0_ : Aside0 (Kd.R (Kd.int .i64) 3 ((((w35.setCell ⟨gb550, 0, none⟩ (.int .i64 ((rd_T50 l0 t548).f0))).setCell ⟨gb550, 1, none⟩ (.int .i64 ((rd_T50 l0 t548).f1))).setCell ⟨gb550, 2, none⟩ (.int .i64 ((rd_T50 l0 t548).f2))).setCell ⟨gb550, 3, none⟩ (.int .i64 ((rd_T50 l0 t548).f3))) w.heap.size (n1 (.slice (some ad547) t544.length co20)) (.slice (some ad543) t540.length co14) t540) := ⟨rf HO_26 BK550⟩
          have n1_ : Aside0 (Kd.R (Kd.int .i64) 3 ((((w35.setCell ⟨gb550, 0, none⟩ (.int .i64 ((rd_T50 l0 t548).f0))).setCell ⟨gb550, 1, none⟩ (.int .i64 ((rd_T50 l0 t548).f1))).setCell ⟨gb550, 2, none⟩ (.int .i64 ((rd_T50 l0 t548).f2))).setCell ⟨gb550, 3, none⟩ (.int .i64 ((rd_T50 l0 t548).f3))) w.heap.size (n1 (.slice (some ad543) t540.length co14)) (.slice (some ad547) t544.length co20) t544) := ⟨rf HO_34 BK550⟩
          have n2_ : Aside0 (((((w35.setCell ⟨gb550, 0, none⟩ (.int .i64 ((rd_T50 l0 t548).f0))).setCell ⟨gb550, 1, none⟩ (.int .i64 ((rd_T50 l0 t548).f1))).setCell ⟨gb550, 2, none⟩ (.int .i64 ((rd_T50 l0 t548).f2))).setCell ⟨gb550, 3, none⟩ (.int .i64 ((rd_T50 l0 t548).f3))).heap[gb550]? = some (.cells #[.int .i64 ((rd_T50 l0 t548).f0), .int .i64 ((rd_T50 l0 t548).f1), .int .i64 ((rd_T50 l0 t548).f2), .int .i64 ((rd_T50 l0 t548).f3)] 50 (0, 0))) := ⟨kp BK550⟩
          have n3_ : Aside0 (Below w.heap.size w ((((w35.setCell ⟨gb550, 0, none⟩ (.int .i64 ((rd_T50 l0 t548).f0))).setCell ⟨gb550, 1, none⟩ (.int .i64 ((rd_T50 l0 t548).f1))).setCell ⟨gb550, 2, none⟩ (.int .i64 ((rd_T50 l0 t548).f2))).setCell ⟨gb550, 3, none⟩ (.int .i64 ((rd_T50 l0 t548).f3)))) := ⟨bG⟩
          (try clear HO_26)
          (try clear HO_34)
          (try clear BK550)
          (try clear HB)
          generalize ((((w35.setCell ⟨gb550, 0, none⟩ (.int .i64 ((rd_T50 l0 t548).f0))).setCell ⟨gb550, 1, none⟩ (.int .i64 ((rd_T50 l0 t548).f1))).setCell ⟨gb550, 2, none⟩ (.int .i64 ((rd_T50 l0 t548).f2))).setCell ⟨gb550, 3, none⟩ (.int .i64 ((rd_T50 l0 t548).f3))) = w37 at n0_ n1_ n2_ n3_ ⊢
          have HO_26 := n0_
          have HO_34 := n1_
          have BK550 := n2_
          have HB := n3_
          clear n0_ n1_ n2_ n3_
          replace HO_26 := dr HO_26
          replace HO_34 := dr HO_34
          replace BK550 := dk BK550
          have HBo := HB
          replace HB := db HB
          obtain ⟨p552, q552⟩ : 0 ≤ (t551 : Int) ∧ t551 < (l0.length : Int) := ⟨dA, dA⟩
          obtain ⟨ad552, e552, hx552_0, hx552_1, hx552_2, hx552_3⟩ := at_T50 HR0.out t551 p552 q552
          have hw552_3 := hx552_3
          have hw552_2 := hx552_2
          have hw552_1 := hx552_1
          have hw552_0 := hx552_0
          obtain rfl : ad549 = ad552 := (by injection e552)
          replace hx552_0 := hC HB hx552_0
          replace hx552_1 := hC HB hx552_1
          replace hx552_2 := hC HB hx552_2
          replace hx552_3 := hC HB hx552_3
          obtain ⟨p552, q552⟩ := eT p552 q552
          refine sw (ds := []) 8 (mb 8 0) impl_ClearBetween.tab11 impl_ClearBetween.bits11 (h4c BK550 (h1c (hC HB hw552_0) (h1c (hC HB hw552_1) (h1c (hC HB hw552_2) (h1 (hC HB hw552_3)))))) (fun hHeld HT_ HW_ => ?_)
          generalize w37.drew = w38 at HO_26 HO_34 BK550 HB hx552_0 hx552_1 hx552_2 hx552_3 hHeld ⊢
          refine pa 1 47 (mb 8 2) HT_ ?_
          refine pa 2 48 (mb 8 6) HT_ ?_
          refine pa 3 49 (mb 8 14) HT_ ?_
          refine ta8 0 46 (mb 8 15) HT_ HW_ hHeld ?_
          refine oa 4 50 (mb 8 31) HT_ (fun K hK => ?_)
          refine gA Try.func16 #[.slice (some ad549) l0.length c0, .int .i64 (rd t544 x36_3)] ?_
          with_reducible refine (impl_FindPath.calls _ _ l0 (rd t544 x36_3) t551 _ ?side1 ?side2 A27.out).mono ?_
          (case side1 => exact cB HR0)
          (case side2 => exact HC0.out)
          rintro e w39 ⟨rfl, hb⟩
          refine ⟨_, rfl, ?_⟩
          replace HO_26 := rb HO_26 hb
          replace HO_34 := rb HO_34 hb
          replace BK550 := kb BK550 hb
          replace HB := bs HB hb
          (try clear hb)
          (try clear hb2)
          (try clear hk)
          (try clear hi)
          refine hK.out _ _ (cm4 BK550 ⟨(hC HB hw552_0), (hC HB hw552_1), (hC HB hw552_2), (hC HB hw552_3)⟩) (fun hHeld => ?_)
          clear hK K
          refine nB ?_
          refine pa 5 51 (mb 8 63) HT_ ?_
          refine ta8 6 52 (mb 8 127) HT_ HW_ hHeld ?_
          refine oa 7 53 (mb 8 255) HT_ (fun K hK => ?_)
          refine gA Try.func101 #[.agg #[.int .i64 ((rd_T50 l0 t548).f0), .int .i64 ((rd_T50 l0 t548).f1), .int .i64 ((rd_T50 l0 t548).f2), .int .i64 ((rd_T50 l0 t548).f3)], .agg #[.int .i64 ((rd_T50 l0 t551).f0), .int .i64 ((rd_T50 l0 t551).f1), .int .i64 ((rd_T50 l0 t551).f2), .int .i64 ((rd_T50 l0 t551).f3)]] ?_
          with_reducible refine (impl_Conflict.calls k3 ((rd_T50 l0 t548).f0) ((rd_T50 l0 t548).f1) ((rd_T50 l0 t548).f2) ((rd_T50 l0 t548).f3) ((rd_T50 l0 t551).f0) ((rd_T50 l0 t551).f1) ((rd_T50 l0 t551).f2) ((rd_T50 l0 t551).f3) true _ A30.out).mono ?_
          rintro e w40 ⟨rfl, hb⟩
          refine ⟨_, rfl, ?_⟩
          replace HO_26 := rb HO_26 hb
          replace HO_34 := rb HO_34 hb
          replace BK550 := kb BK550 hb
          replace HB := bs HB hb
          (try clear hb)
          (try clear hb2)
          (try clear hk)
          (try clear hi)
          refine hK.out _ _ (cm4 BK550 ⟨(hC HB hw552_0), (hC HB hw552_1), (hC HB hw552_2), (hC HB hw552_3)⟩) (fun hHeld => ?_)
          clear hK K
          refine nB ?_
          refine eA HT_ ?_
          obtain ⟨_, _, _, _, _, _, _, _⟩ := blkc4 BK550
          try go_wp2_with (first | ((with_reducible refine gate_callee (f := 120) rfl ?_); refine gL (some 56) Try.func120 #[.agg #[.int .i64 ((rd_T50 l0 t548).f0), .int .i64 ((rd_T50 l0 t548).f1), .int .i64 ((rd_T50 l0 t548).f2), .int .i64 ((rd_T50 l0 t548).f3)]] ?_; (with_reducible refine (impl_ClearOf.calls ((rd_T50 l0 t548).f0) ((rd_T50 l0 t548).f1) ((rd_T50 l0 t548).f2) ((rd_T50 l0 t548).f3) t554 _ A32.out).mono ?_); rintro e w42 ⟨rfl, hb⟩; refine ⟨_, rfl, ?_⟩; replace HO_26 := rb HO_26 hb; replace HO_34 := rb HO_34 hb; replace BK550 := kb BK550 hb; replace HB := bs HB hb; (try clear hb)))
          go_roundg k3
          case measure => have := HJ3.out; have := HK2.out; have := HK3.out; omega
          case rel => exact ⟨(ji33), (wrap64 (x36_3 + 1)), (by first | rfl | (simp; done) | (simp only [← hji33] <;> (first | rfl | simp)) | (simp [*]; done)), rS, H', ⟨by have := HJ3.out; have := HK2.out; have := HK3.out; omega⟩, ⟨rK HO_26⟩, ⟨rK HO_34⟩, ⟨bG⟩⟩
         replace c31 := Bool.eq_false_iff.mpr c31
         subst c31
         have H1 : (impl_ClearBetween.l1 k3 l0 l1 l2 x7_3 (rd t540 x28_2) t540 (t540.length : Int) x28_2 t544 (t544.length : Int) (wrap64 (x36_3 + 1))) = some r := by rw [if_neg (show ¬ (false = true) by decide)] at H; exact H
         clear H
         have H := H1
         clear H1
         have H' := Aside0.mk H
         clear H
         obtain ⟨p547, q547⟩ : 0 ≤ (x36_3 : Int) ∧ x36_3 < (t544.length : Int) := ⟨dA, dA⟩
         obtain ⟨ad547, e547, hx547_0⟩ := Kd.at_int (Kd.R_reads' HO_34.out).2.2 x36_3 p547 q547
         cases e547
         obtain ⟨p547, q547⟩ := eT p547 q547
         try go_wp2_with (first | ((with_reducible refine gate_callee (f := 16) rfl ?_); refine gL (some 43) Try.func16 #[.slice A0 l0.length c0, .int .i64 (rd t540 x28_2)] ?_; (with_reducible refine (impl_FindPath.calls _ _ l0 (rd t540 x28_2) t548 _ ?_ ?_ A24.out).mono ?_); exact cB HR0; exact HC0.out; rintro e w43 ⟨rfl, hb⟩; refine ⟨_, rfl, ?_⟩; replace HO_26 := rb HO_26 hb; replace HO_34 := rb HO_34 hb; replace HB := bs HB hb; (try clear hb); have p549 : 0 ≤ (t548 : Int) := dA; have q549 : t548 < (l0.length : Int) := dA; obtain ⟨ad549, e549, hx549_0, hx549_1, hx549_2, hx549_3⟩ := at_T50 HR0.out t548 p549 q549; cases e549; replace hx549_0 := hC HB hx549_0; replace hx549_1 := hC HB hx549_1; replace hx549_2 := hC HB hx549_2; replace hx549_3 := hC HB hx549_3; replace p549 := eq_true p549; replace q549 := eq_true q549) | ((with_reducible refine gate_dst (N := 12) rfl ?_); refine bE (N := 12) (cs := #[.int .i64 0, .int .i64 0, .int .i64 0, .int .i64 0]) (t := 50) ?_; intro gb550 hg w44 hbox hb; replace HO_26 := rb HO_26 hb; replace HO_34 := rb HO_34 hb; have BK550 := Aside0.mk (hbox); have GW550 := gw w hg; have GE550 := gw w hg; replace HB := bs HB hb; clear hb hbox hg; obtain ⟨_, _, _, _, _, _, _, _⟩ := blkc4 BK550))
         have n0_ : Aside0 (Kd.R (Kd.int .i64) 3 ((((w44.setCell ⟨gb550, 0, none⟩ (.int .i64 ((rd_T50 l0 t548).f0))).setCell ⟨gb550, 1, none⟩ (.int .i64 ((rd_T50 l0 t548).f1))).setCell ⟨gb550, 2, none⟩ (.int .i64 ((rd_T50 l0 t548).f2))).setCell ⟨gb550, 3, none⟩ (.int .i64 ((rd_T50 l0 t548).f3))) w.heap.size (n1 (.slice (some ad547) t544.length co20)) (.slice (some ad543) t540.length co14) t540) := ⟨rf HO_26 BK550⟩
         have n1_ : Aside0 (Kd.R (Kd.int .i64) 3 ((((w44.setCell ⟨gb550, 0, none⟩ (.int .i64 ((rd_T50 l0 t548).f0))).setCell ⟨gb550, 1, none⟩ (.int .i64 ((rd_T50 l0 t548).f1))).setCell ⟨gb550, 2, none⟩ (.int .i64 ((rd_T50 l0 t548).f2))).setCell ⟨gb550, 3, none⟩ (.int .i64 ((rd_T50 l0 t548).f3))) w.heap.size (n1 (.slice (some ad543) t540.length co14)) (.slice (some ad547) t544.length co20) t544) := ⟨rf HO_34 BK550⟩
         have n2_ : Aside0 (((((w44.setCell ⟨gb550, 0, none⟩ (.int .i64 ((rd_T50 l0 t548).f0))).setCell ⟨gb550, 1, none⟩ (.int .i64 ((rd_T50 l0 t548).f1))).setCell ⟨gb550, 2, none⟩ (.int .i64 ((rd_T50 l0 t548).f2))).setCell ⟨gb550, 3, none⟩ (.int .i64 ((rd_T50 l0 t548).f3))).heap[gb550]? = some (.cells #[.int .i64 ((rd_T50 l0 t548).f0), .int .i64 ((rd_T50 l0 t548).f1), .int .i64 ((rd_T50 l0 t548).f2), .int .i64 ((rd_T50 l0 t548).f3)] 50 (0, 0))) := ⟨kp BK550⟩
         have n3_ : Aside0 (Below w.heap.size w ((((w44.setCell ⟨gb550, 0, none⟩ (.int .i64 ((rd_T50 l0 t548).f0))).setCell ⟨gb550, 1, none⟩ (.int .i64 ((rd_T50 l0 t548).f1))).setCell ⟨gb550, 2, none⟩ (.int .i64 ((rd_T50 l0 t548).f2))).setCell ⟨gb550, 3, none⟩ (.int .i64 ((rd_T50 l0 t548).f3)))) := ⟨bG⟩
         (try clear HO_26)
         (try clear HO_34)
         (try clear BK550)
         (try clear HB)
         generalize ((((w44.setCell ⟨gb550, 0, none⟩ (.int .i64 ((rd_T50 l0 t548).f0))).setCell ⟨gb550, 1, none⟩ (.int .i64 ((rd_T50 l0 t548).f1))).setCell ⟨gb550, 2, none⟩ (.int .i64 ((rd_T50 l0 t548).f2))).setCell ⟨gb550, 3, none⟩ (.int .i64 ((rd_T50 l0 t548).f3))) = w46 at n0_ n1_ n2_ n3_ ⊢
         have HO_26 := n0_
         have HO_34 := n1_
         have BK550 := n2_
         have HB := n3_
         clear n0_ n1_ n2_ n3_
         replace HO_26 := dr HO_26
         replace HO_34 := dr HO_34
         replace BK550 := dk BK550
         have HBo := HB
         replace HB := db HB
         obtain ⟨p552, q552⟩ : 0 ≤ (t551 : Int) ∧ t551 < (l0.length : Int) := ⟨dA, dA⟩
         obtain ⟨ad552, e552, hx552_0, hx552_1, hx552_2, hx552_3⟩ := at_T50 HR0.out t551 p552 q552
         have hw552_3 := hx552_3
         have hw552_2 := hx552_2
         have hw552_1 := hx552_1
         have hw552_0 := hx552_0
         obtain rfl : ad549 = ad552 := (by injection e552)
         replace hx552_0 := hC HB hx552_0
         replace hx552_1 := hC HB hx552_1
         replace hx552_2 := hC HB hx552_2
         replace hx552_3 := hC HB hx552_3
         obtain ⟨p552, q552⟩ := eT p552 q552
         refine sw (ds := []) 8 (mb 8 0) impl_ClearBetween.tab11 impl_ClearBetween.bits11 (h4c BK550 (h1c (hC HB hw552_0) (h1c (hC HB hw552_1) (h1c (hC HB hw552_2) (h1 (hC HB hw552_3)))))) (fun hHeld HT_ HW_ => ?_)
         generalize w46.drew = w47 at HO_26 HO_34 BK550 HB hx552_0 hx552_1 hx552_2 hx552_3 hHeld ⊢
         refine pa 1 47 (mb 8 2) HT_ ?_
         refine pa 2 48 (mb 8 6) HT_ ?_
         refine pa 3 49 (mb 8 14) HT_ ?_
         refine ta8 0 46 (mb 8 15) HT_ HW_ hHeld ?_
         refine oa 4 50 (mb 8 31) HT_ (fun K hK => ?_)
         refine gA Try.func16 #[.slice (some ad549) l0.length c0, .int .i64 (rd t544 x36_3)] ?_
         with_reducible refine (impl_FindPath.calls _ _ l0 (rd t544 x36_3) t551 _ ?side1 ?side2 A27.out).mono ?_
         (case side1 => exact cB HR0)
         (case side2 => exact HC0.out)
         rintro e w48 ⟨rfl, hb⟩
         refine ⟨_, rfl, ?_⟩
         replace HO_26 := rb HO_26 hb
         replace HO_34 := rb HO_34 hb
         replace BK550 := kb BK550 hb
         replace HB := bs HB hb
         (try clear hb)
         (try clear hb2)
         (try clear hk)
         (try clear hi)
         refine hK.out _ _ (cm4 BK550 ⟨(hC HB hw552_0), (hC HB hw552_1), (hC HB hw552_2), (hC HB hw552_3)⟩) (fun hHeld => ?_)
         clear hK K
         refine nB ?_
         refine pa 5 51 (mb 8 63) HT_ ?_
         refine ta8 6 52 (mb 8 127) HT_ HW_ hHeld ?_
         refine oa 7 53 (mb 8 255) HT_ (fun K hK => ?_)
         refine gA Try.func101 #[.agg #[.int .i64 ((rd_T50 l0 t548).f0), .int .i64 ((rd_T50 l0 t548).f1), .int .i64 ((rd_T50 l0 t548).f2), .int .i64 ((rd_T50 l0 t548).f3)], .agg #[.int .i64 ((rd_T50 l0 t551).f0), .int .i64 ((rd_T50 l0 t551).f1), .int .i64 ((rd_T50 l0 t551).f2), .int .i64 ((rd_T50 l0 t551).f3)]] ?_
         with_reducible refine (impl_Conflict.calls k3 ((rd_T50 l0 t548).f0) ((rd_T50 l0 t548).f1) ((rd_T50 l0 t548).f2) ((rd_T50 l0 t548).f3) ((rd_T50 l0 t551).f0) ((rd_T50 l0 t551).f1) ((rd_T50 l0 t551).f2) ((rd_T50 l0 t551).f3) false _ A30.out).mono ?_
         rintro e w49 ⟨rfl, hb⟩
         refine ⟨_, rfl, ?_⟩
         replace HO_26 := rb HO_26 hb
         replace HO_34 := rb HO_34 hb
         replace BK550 := kb BK550 hb
         replace HB := bs HB hb
         (try clear hb)
         (try clear hb2)
         (try clear hk)
         (try clear hi)
         refine hK.out _ _ (cm4 BK550 ⟨(hC HB hw552_0), (hC HB hw552_1), (hC HB hw552_2), (hC HB hw552_3)⟩) (fun hHeld => ?_)
         clear hK K
         refine nB ?_
         refine eA HT_ ?_
         try go_wp2
         go_roundg k3
         case measure => have := HJ3.out; have := HK2.out; have := HK3.out; omega
         case rel => exact ⟨(x7_3), (wrap64 (x36_3 + 1)), rS, rS, H', ⟨by have := HJ3.out; have := HK2.out; have := HK3.out; omega⟩, ⟨rK HO_26⟩, ⟨rK HO_34⟩, ⟨bG⟩⟩
        rw [if_neg c21] at H
        have c21b0 := decide_eq_false c21
        clear c21
        have H' := Aside0.mk H
        clear H
        go_wp2
        go_roundg k3
        case measure => have := HJ3.out; have := HK2.out; have := HK3.out; omega
        case rel => exact ⟨(x7_3), (wrap64 (x28_2 + 1)), rS, rS, H', ⟨by have := HJ3.out; have := HK2.out; have := HK3.out; omega⟩, ⟨rm HO_26 (fun _ hk => trivial)⟩, ⟨bA⟩⟩
     rw [if_neg c15] at H
     have c15b0 := decide_eq_false c15
     clear c15
     obtain rfl := Option.some.inj H
     go_wp2
     go_ret
     exact ⟨rA, bA⟩

/-! ### impl_nextStage: function 122 -/
def impl_nextStage.f (l0 : List (S85)) (a1 : Int) : Option (List Int) := if (l0.length : Int) = 0 then (none) else (if 0 ≤ (Int.tmod (wrap64 (a1 + 1)) (l0.length : Int)) then (if (Int.tmod (wrap64 (a1 + 1)) (l0.length : Int)) < (l0.length : Int) then (some ((rd_T85 l0 (Int.tmod (wrap64 (a1 + 1)) (l0.length : Int))).f0)) else (none)) else (none))
set_option maxHeartbeats 8000000 in
set_option maxRecDepth 100000 in
theorem impl_nextStage.calls (P0_ : Nat → Prop) (A0 : Option Addr) (c0 : Nat) (l0 : List (S85)) (a1 : Int) (r : List Int) (w : World) (hs0 : Kd.V k85 85 w w.heap.size (fun k_ => P0_ k_) (.slice A0 l0.length c0) l0) (h : impl_nextStage.f l0 a1 = some r) :
  Calls Try.prog 122 #[.slice A0 l0.length c0, .int .i64 a1] w fun e w' => ∃ v0_ : Value, e = .returned (v0_) ∧ Kd.V (Kd.int .i64) 3 w' w.heap.size (fun k_ => (P0_ k_ ∨ w.heap.size ≤ k_)) v0_ r ∧ Below w.heap.size w w' := by
 have HO0 := Aside0.mk (show Kd.V k85 85 w w.heap.size (fun k_ => (P0_ k_ ∨ w.heap.size ≤ k_)) (.slice A0 l0.length c0) l0 from Kd.V_mono hs0 (fun k_ hk => .inl hk))
 have HB := Aside0.mk (Below.refl w.heap.size w)
 have H : (if (l0.length : Int) = 0 then (none) else (if 0 ≤ (Int.tmod (wrap64 (a1 + 1)) (l0.length : Int)) then (if (Int.tmod (wrap64 (a1 + 1)) (l0.length : Int)) < (l0.length : Int) then (some ((rd_T85 l0 (Int.tmod (wrap64 (a1 + 1)) (l0.length : Int))).f0)) else (none)) else (none))) = some r := h
 clear h
 have c3 : ¬ ((l0.length : Int) = 0) := ifN' H
 replace H := ifT' H
 have c3b0 : ((l0.length : Int) == 0) = false := beq_eq_false_iff_ne.mpr c3
 have c3b1 : ((l0.length : Int) != 0) = true := bne_iff_ne.mpr c3
 have c3b2 : ¬ (l0 = []) := fun h_ => c3 (by rw [h_]; rfl)
 obtain ⟨ji4, hji4⟩ : ∃ j_ : Int, (Int.tmod (wrap64 (a1 + 1)) (l0.length : Int)) = j_ := ⟨_, rfl⟩
 replace H : (if 0 ≤ (ji4) then (if (ji4) < (l0.length : Int) then (some ((rd_T85 l0 (ji4)).f0)) else (none)) else (none)) = some r := by first | (rw [hji4] at H; exact H) | (simp only [hji4] at H ⊢; exact H)
 have c5 : 0 ≤ (ji4) := ifN H
 replace H := ifT H
 have c5b0 := decide_eq_true c5
 clear c5
 have c6 : (ji4) < (l0.length : Int) := ifN H
 replace H := ifT H
 have c6b0 := decide_eq_true c6
 clear c6
 obtain rfl := Option.some.inj H
 obtain ⟨p555, q555⟩ : 0 ≤ ((ji4) : Int) ∧ (ji4) < (l0.length : Int) := ⟨dA, dA⟩
 obtain ⟨ad555, A555_0, c555_0, e555, hx555_0, hx555_1, hl555_0, hi555_0⟩ := at_T85 (Kd.V_reads' HO0.out).2.2 (ji4) p555 q555
 cases e555
 obtain ⟨ce555, hce555, hMe555, hcc555⟩ := Kd.V_get HO0.out z85 (ji4) p555 (by first | exact q555 | exact dA | (have e_ := (Kd.V_reads' HO0.out).1; omega))
 obtain ⟨ua555_0, uc555_0, rfl, ul555_0, ge555_0⟩ := k85_openF hMe555
 have hv555_0 := hcc555 0 _ rfl
 rw [Nat.add_zero] at hv555_0
 replace hv555_0 := Option.some.inj (hv555_0.symm.trans hx555_0)
 injection hv555_0 with hva_ hvn_ hvc_
 rw [hva_] at ge555_0
 rw [hvc_] at ul555_0
 have HL555_0 := Aside0.mk (show Kd.V (Kd.int .i64) 3 _ w.heap.size _ _ ((rd_T85 l0 (ji4)).f0) from Kd.V_mk ul555_0 ge555_0)
 clear hva_ hvn_ hvc_ ge555_0 ul555_0
 clear hcc555 hce555
 have HR555_0 := Aside0.mk hi555_0
 have HC555_0 := Aside0.mk hl555_0
 clear hi555_0 hl555_0
 obtain ⟨p555, q555⟩ := eT p555 q555
 go_enter Try.func122, Try.ntmps122
 go_wp2
 go_ret
 exact ⟨_, by first | rfl | (simp [errW_none, errW_some] <;> rfl) | (simp only [← hji4]; first | rfl | (simp [errW_none, errW_some] <;> rfl)) | (simp [*, errW_none, errW_some] <;> rfl), by (with_reducible repeat (first | apply Kd.V_alloc | apply Kd.V_drewN | apply Kd.V_drew)); exact HL555_0.out, bA⟩

/-! ### impl_longOf: function 108 -/
def impl_longOf.f (k : Nat) (l0 : List (S50)) (l1 : List (S85)) (a2 : Int) : Option (Int) := if 0 ≤ a2 then (if a2 < (l1.length : Int) then ((impl_nextStage.f l1 a2).bind fun t558 => ((impl_ClearBetween.f k l0 ((rd_T85 l1 a2).f0) t558).bind fun t561 => (some (wrap64 (((rd_T85 l1 a2).f1) + t561))))) else (none)) else (none)
theorem impl_longOf.mono : ∀ a0 a1 a2 k, LeO (impl_longOf.f k a0 a1 a2) (impl_longOf.f (k + 1) a0 a1 a2) := by
 intro a0 a1 a2 k
 unfold impl_longOf.f
 exact mz1 impl_ClearBetween.mono
def impl_longOf.T1 : Bool × List (List Nat × List Nat) := (true, [([], []), ([], []), ([0, 1], [0, 1]), ([2], [2]), ([3], [3]), ([], []), ([], []), ([], []), ([6, 7], [6, 7]), ([8], [8]), ([9], [9]), ([], []), ([], []), ([11, 12], [11, 12]), ([5, 10, 13, 13], [5, 10, 13]), ([4, 14], [4, 14]), ([15, 14, 0, 1, 2, 3, 4, 5, 6, 7, 8, 9, 10, 11, 12, 13, 14, 15], [15])])
def impl_longOf.B1 : List Nat := [0, 0, 3, 7, 15, 0, 0, 0, 192, 448, 960, 0, 0, 6144, 16352, 32767, 65535]
theorem impl_longOf.tab1 : rtab .any (opsOf Try.f108 1) = impl_longOf.T1 := by kernel_rfl
theorem impl_longOf.bits1 : waitsOk impl_longOf.T1.2 impl_longOf.B1 = true := by kernel_rfl
set_option maxHeartbeats 8000000 in
set_option maxRecDepth 100000 in
theorem impl_longOf.calls (k : Nat) (A0 : Option Addr) (c0 : Nat) (l0 : List (S50)) (A1 : Option Addr) (c1 : Nat) (l1 : List (S85)) (a2 : Int) (r : Int) (w : World) (hr0 : Kd.C k50 w A0 l0.length l0) (hc0 : l0.length ≤ c0) (hr1 : Kd.C k85 w A1 l1.length l1) (hc1 : l1.length ≤ c1) (h : impl_longOf.f k l0 l1 a2 = some r) :
  Calls Try.prog 108 #[.slice A0 l0.length c0, .slice A1 l1.length c1, .int .i64 a2] w fun e w' => e = .returned (.int .i64 r) ∧ Below w.heap.size w w' := by
 have HR0 := Aside0.mk hr0
 have HC0 := Aside0.mk hc0
 clear hr0 hc0
 have HR1 := Aside0.mk hr1
 have HC1 := Aside0.mk hc1
 clear hr1 hc1
 have HB := Aside0.mk (Below.refl w.heap.size w)
 have H : (if 0 ≤ a2 then (if a2 < (l1.length : Int) then ((impl_nextStage.f l1 a2).bind fun t558 => ((impl_ClearBetween.f k l0 ((rd_T85 l1 a2).f0) t558).bind fun t561 => (some (wrap64 (((rd_T85 l1 a2).f1) + t561))))) else (none)) else (none)) = some r := h
 clear h
 have c4 : 0 ≤ a2 := ifN H
 replace H := ifT H
 have c4b0 := decide_eq_true c4
 clear c4
 have c5 : a2 < (l1.length : Int) := ifN H
 replace H := ifT H
 have c5b0 := decide_eq_true c5
 clear c5
 obtain ⟨t558, A6, H⟩ := bindE H
 try dsimp only at H
 obtain ⟨t561, A7, H⟩ := bindE H
 try dsimp only at H
 obtain rfl := Option.some.inj H
 go_enter Try.func108, Try.ntmps108
 try go_wp2
 have HBo := HB
 replace HB := db HB
 obtain ⟨p556, q556⟩ : 0 ≤ (a2 : Int) ∧ a2 < (l1.length : Int) := ⟨dA, dA⟩
 obtain ⟨ad556, A556_0, c556_0, e556, hx556_0, hx556_1, hl556_0, hi556_0⟩ := at_T85 HR1.out a2 p556 q556
 have hw556_1 := hx556_1
 have hw556_0 := hx556_0
 cases e556
 replace hx556_0 := hC HB hx556_0
 replace hx556_1 := hC HB hx556_1
 have HR556_0 := Aside0.mk hi556_0
 have HC556_0 := Aside0.mk hl556_0
 clear hi556_0 hl556_0
 obtain ⟨p556, q556⟩ := eT p556 q556
 obtain ⟨p557, q557⟩ : 0 ≤ (a2 : Int) ∧ a2 < (l1.length : Int) := ⟨dA, dA⟩
 obtain ⟨ad557, A557_0, c557_0, e557, hx557_0, hx557_1, hl557_0, hi557_0⟩ := at_T85 HR1.out a2 p557 q557
 have hw557_1 := hx557_1
 have hw557_0 := hx557_0
 obtain rfl : ad556 = ad557 := (by injection e557)
 replace hx557_0 := hC HB hx557_0
 replace hx557_1 := hC HB hx557_1
 have HR557_0 := Aside0.mk hi557_0
 have HC557_0 := Aside0.mk hl557_0
 clear hi557_0 hl557_0
 obtain ⟨p557, q557⟩ := eT p557 q557
 have ea_ := Option.some.inj (hx556_0.symm.trans hx557_0)
 injection ea_ with ea_ en_ ec_
 subst ea_
 subst ec_
 clear en_
 refine sw (ds := []) 17 (mb 17 0) impl_longOf.tab1 impl_longOf.bits1 (h1c (hC HB hw556_0) (h1c (hC HB hw556_1) (h1c (hC HB hw557_0) (h1 (hC HB hw557_1))))) (fun hHeld HT_ HW_ => ?_)
 generalize w.drew = w8 at HB HR556_0 HR557_0 hx556_0 hx556_1 hx557_0 hx557_1 hHeld ⊢
 refine pa 0 7 (mb 17 1) HT_ ?_
 refine pa 1 8 (mb 17 3) HT_ ?_
 refine pa 2 9 (mb 17 7) HT_ ?_
 refine pa 3 10 (mb 17 15) HT_ ?_
 refine pa 5 12 (mb 17 47) HT_ ?_
 refine pa 6 13 (mb 17 111) HT_ ?_
 refine pa 7 14 (mb 17 239) HT_ ?_
 refine pa 8 15 (mb 17 495) HT_ ?_
 refine pa 9 16 (mb 17 1007) HT_ ?_
 refine pa 11 18 (mb 17 3055) HT_ ?_
 refine pa 12 19 (mb 17 7151) HT_ ?_
 refine ta4 4 11 (mb 17 7167) HT_ HW_ hHeld ?_
 refine ta4 10 17 (mb 17 8191) HT_ HW_ hHeld ?_
 refine oa 13 20 (mb 17 16383) HT_ (fun K hK => ?_)
 refine gA Try.func122 #[.slice (some ad556) l1.length c1, .int .i64 a2] ?_
 with_reducible refine (impl_nextStage.calls (fun k_ => k_ < w.heap.size) _ _ l1 a2 t558 _ ?side1 A6.out).mono ?_
 (case side1 => exact Kd.V_mk HC1.out (Kd.F_below (Kd.C_F k85_heap HR1.out) bA))
 rintro e w9 ⟨v559, rfl, ho0, hb⟩
 refine ⟨_, rfl, ?_⟩
 have HO560 := Aside0.mk (Kd.V_lower (Kd.V_mono (ok' := fun k_ => True) ho0 (fun k_ hk_ => trivial)) (below_size bA))
 replace HB := bs HB hb
 (try clear hb)
 (try clear hb2)
 (try clear hk)
 (try clear hi)
 (try clear ho0)
 obtain ⟨Ao10, co10, eo10⟩ := Kd.V_slice HO560.out
 (first | subst eo10 | (injection eo10 with f1_ f2_ f3_; have f4_ := f1_.symm; have f5_ := f3_.symm; clear f1_ f2_ f3_; subst f4_; subst f5_))
 refine hK.out _ _ ⟨(hC HB hw556_0), (hC HB hw556_1), (hC HB hw557_0), (hC HB hw557_1)⟩ (fun hHeld => ?_)
 clear hK K
 refine nB ?_
 refine oa 14 21 (mb 17 32767) HT_ (fun K hK => ?_)
 refine gA Try.func99 #[.slice A0 l0.length c0, .slice A556_0 ((rd_T85 l1 a2).f0).length c556_0, .slice Ao10 t558.length co10] ?_
 with_reducible refine (impl_ClearBetween.calls k _ _ l0 _ _ ((rd_T85 l1 a2).f0) _ _ t558 t561 _ ?side1 ?side2 ?side3 ?side4 ?side5 ?side6 A7.out).mono ?_
 (case side1 => exact cB HR0)
 (case side2 => exact HC0.out)
 (case side3 => exact cB HR557_0)
 (case side4 => exact HC557_0.out)
 (case side5 => repeat (first | exact (Kd.V_reads' HO560.out).2.2 | (with_reducible refine Kd.C_alloc ?_ _) | (with_reducible refine Kd.C_drewN ?_ _) | (with_reducible refine Kd.C_drew ?_)))
 (case side6 => exact (Kd.V_reads' HO560.out).2.1)
 rintro e w11 ⟨rfl, hb⟩
 refine ⟨_, rfl, ?_⟩
 replace HO560 := Aside0.mk (Kd.V_below (by (with_reducible repeat (first | apply Kd.V_alloc | apply Kd.V_drewN | apply Kd.V_drew)); exact HO560.out) hb)
 replace HB := bs HB hb
 (try clear hb)
 (try clear hb2)
 (try clear hk)
 (try clear hi)
 refine hK.out _ _ ⟨(hC HB hw556_0), (hC HB hw556_1), (hC HB hw557_0), (hC HB hw557_1)⟩ (fun hHeld => ?_)
 clear hK K
 refine nB ?_
 refine pa 15 22 (mb 17 65535) HT_ ?_
 refine pa 16 6 (mb 17 131071) HT_ ?_
 refine eA HT_ ?_
 try go_wp2
 go_ret
 exact ⟨rA, bA⟩

/-! ### impl_Cycle: function 56 -/
def impl_Cycle.l0 : Nat → List (S50) → List (S85) → Int → Int → Int → Option (Int)
 | 0, _, _, _, _, _ => none
 | k + 1, x0, x1, x5, x12, x13 => if x13 < x12 then ((impl_longOf.f k x0 x1 x13).bind fun t563 => (impl_Cycle.l0 k x0 x1 (wrap64 (x5 + t563)) x12 (wrap64 (x13 + 1)))) else (some x5)
def impl_Cycle.f (k : Nat) (l0 : List (S50)) (l1 : List (S85)) : Option (Int) := (impl_IsPlan.f k l0 l1).bind fun t562 => (if t562 = true then (impl_Cycle.l0 k l0 l1 0 (l1.length : Int) 0) else (some 0))
theorem impl_Cycle.mono_l : ∀ k, (∀ y0 y1 y2 y3 y4, LeO (impl_Cycle.l0 k y0 y1 y2 y3 y4) (impl_Cycle.l0 (k + 1) y0 y1 y2 y3 y4))
 | 0 => fun _ _ _ _ _ r h => by simp [impl_Cycle.l0] at h
 | k + 1 => by
  have ih0 := impl_Cycle.mono_l k
  ·
   intro y0 y1 y2 y3 y4
   unfold impl_Cycle.l0
   exact mz3 ih0 impl_IsPlan.mono impl_longOf.mono
theorem impl_Cycle.mono : ∀ a0 a1 k, LeO (impl_Cycle.f k a0 a1) (impl_Cycle.f (k + 1) a0 a1) := by
 intro a0 a1 k
 have ih0 := impl_Cycle.mono_l k
 unfold impl_Cycle.f
 exact mz3 ih0 impl_IsPlan.mono impl_longOf.mono
set_option maxHeartbeats 8000000 in
set_option maxRecDepth 100000 in
theorem impl_Cycle.calls (k : Nat) (A0 : Option Addr) (c0 : Nat) (l0 : List (S50)) (A1 : Option Addr) (c1 : Nat) (l1 : List (S85)) (r : Int) (w : World) (hr0 : Kd.C k50 w A0 l0.length l0) (hc0 : l0.length ≤ c0) (hr1 : Kd.C k85 w A1 l1.length l1) (hc1 : l1.length ≤ c1) (h : impl_Cycle.f k l0 l1 = some r) :
  Calls Try.prog 56 #[.slice A0 l0.length c0, .slice A1 l1.length c1] w fun e w' => e = .returned (.int .i64 r) ∧ Below w.heap.size w w' := by
 have HR0 := Aside0.mk hr0
 have HC0 := Aside0.mk hc0
 clear hr0 hc0
 have HR1 := Aside0.mk hr1
 have HC1 := Aside0.mk hc1
 clear hr1 hc1
 have HB := Aside0.mk (Below.refl w.heap.size w)
 have H : ((impl_IsPlan.f k l0 l1).bind fun t562 => (if t562 = true then (impl_Cycle.l0 k l0 l1 0 (l1.length : Int) 0) else (some 0))) = some r := h
 clear h
 obtain ⟨t562, A3, H⟩ := bindE H
 try dsimp only at H
 by_cases c4 : t562 = true
 ·
  subst c4
  have H1 : (impl_Cycle.l0 k l0 l1 0 (l1.length : Int) 0) = some r := by rw [if_pos rfl] at H; exact H
  clear H
  have H := H1
  clear H1
  have H' := Aside0.mk H
  clear H
  go_enter Try.func56, Try.ntmps56
  go_wp2_with (first | ((with_reducible refine gate_callee (f := 15) rfl ?_); refine gL (some 9) Try.func15 #[.slice A0 l0.length c0, .slice A1 l1.length c1] ?_; (with_reducible refine (impl_IsPlan.calls k _ _ l0 (fun k_ => k_ < w.heap.size) _ _ l1 true _ ?_ ?_ ?_ A3.out).mono ?_); exact cO HR0; exact HC0.out; exact Kd.V_mk HC1.out (Kd.F_below (Kd.C_F k85_heap HR1.out) bA); rintro e w5 ⟨rfl, hb⟩; refine ⟨_, rfl, ?_⟩; replace HB := bs HB hb; (try clear hb)))
  go_loopg [5, 13] k (fun kq v5 v13 w' => ∃ (x5_1 : Int) (x13_1 : Int), v5 = .int .i64 x5_1 ∧ v13 = .int .i64 x13_1 ∧ Aside0 (impl_Cycle.l0 kq l0 l1 x5_1 (l1.length : Int) x13_1 = some r) ∧ Aside0 (kq ≤ k) ∧ Aside0 (Below w.heap.size w w'))
  case atStart => exact ⟨(0), (0), rS, rS, H', ⟨Nat.le_refl _⟩, ⟨bA⟩⟩
  case round =>
   clear H'
   obtain ⟨x5_1, x13_1, rfl, rfl, HA, HK1, HB⟩ := hrel
   cases gk with
   | zero => exact absurd HA.out (by simp [impl_Cycle.l0])
   | succ k1 =>
    have H := HA.out
    clear HA
    simp only [impl_Cycle.l0] at H
    by_cases c6 : x13_1 < (l1.length : Int)
    ·
     rw [if_pos c6] at H
     have c6b0 := decide_eq_true c6
     clear c6
     obtain ⟨t563, A7, H⟩ := bindE H
     try dsimp only at H
     have H' := Aside0.mk H
     clear H
     go_wp2_with (first | ((with_reducible refine gate_callee (f := 108) rfl ?_); refine gL (some 20) Try.func108 #[.slice A0 l0.length c0, .slice A1 l1.length c1, .int .i64 x13_1] ?_; (with_reducible refine (impl_longOf.calls k1 _ _ l0 _ _ l1 x13_1 t563 _ ?_ ?_ ?_ ?_ A7.out).mono ?_); exact cB HR0; exact HC0.out; exact cB HR1; exact HC1.out; rintro e w8 ⟨rfl, hb⟩; refine ⟨_, rfl, ?_⟩; replace HB := bs HB hb; (try clear hb)))
     go_roundg k1
     case measure => have := HK1.out; omega
     case rel => exact ⟨(wrap64 (x5_1 + t563)), (wrap64 (x13_1 + 1)), rS, rS, H', ⟨by have := HK1.out; omega⟩, ⟨bA⟩⟩
    rw [if_neg c6] at H
    have c6b0 := decide_eq_false c6
    clear c6
    obtain rfl := Option.some.inj H
    go_wp2
    go_ret
    exact ⟨rA, bA⟩
 replace c4 := Bool.eq_false_iff.mpr c4
 subst c4
 have H1 : (some 0) = some r := by rw [if_neg (show ¬ (false = true) by decide)] at H; exact H
 clear H
 have H := H1
 clear H1
 obtain rfl := Option.some.inj H
 go_enter Try.func56, Try.ntmps56
 go_wp2_with (first | ((with_reducible refine gate_callee (f := 15) rfl ?_); refine gL (some 9) Try.func15 #[.slice A0 l0.length c0, .slice A1 l1.length c1] ?_; (with_reducible refine (impl_IsPlan.calls k _ _ l0 (fun k_ => k_ < w.heap.size) _ _ l1 false _ ?_ ?_ ?_ A3.out).mono ?_); exact cO HR0; exact HC0.out; exact Kd.V_mk HC1.out (Kd.F_below (Kd.C_F k85_heap HR1.out) bA); rintro e w9 ⟨rfl, hb⟩; refine ⟨_, rfl, ?_⟩; replace HB := bs HB hb; (try clear hb)))
 go_ret
 exact ⟨rA, bA⟩

/-! ### impl_PartAt: function 62 -/
mutual
def impl_PartAt.j0 : Nat → List (S50) → List (S85) → Int → Int → Bool → Option (Int × Int)
 | 0, _, _, _, _, _ => none
 | k + 1, x0, x1, x2, x8, x20 => if x20 = true then (some ((-1), 0)) else (if x8 = 0 then (none) else (impl_PartAt.l0 k x0 x1 (Int.tmod x2 x8) 0))
def impl_PartAt.l0 : Nat → List (S50) → List (S85) → Int → Int → Option (Int × Int)
 | 0, _, _, _, _ => none
 | k + 1, x0, x1, x9, x10 => (impl_longOf.f k x0 x1 x10).bind fun t566 => (if x9 ≥ t566 then ((impl_longOf.f k x0 x1 x10).bind fun t567 => (impl_PartAt.l0 k x0 x1 (wrap64 (x9 - t567)) (wrap64 (x10 + 1)))) else (some (x10, x9)))
end
def impl_PartAt.f (k : Nat) (l0 : List (S50)) (l1 : List (S85)) (a2 : Int) : Option (Int × Int) := (impl_Cycle.f k l0 l1).bind fun t564 => (if t564 = 0 then (impl_PartAt.j0 k l0 l1 a2 t564 true) else ((impl_InRange.f a2 0 1000000).bind fun t565 => (impl_PartAt.j0 k l0 l1 a2 t564 (!t565))))
theorem impl_PartAt.mono_l : ∀ k, (∀ y0 y1 y2 y3 y4, LeO (impl_PartAt.j0 k y0 y1 y2 y3 y4) (impl_PartAt.j0 (k + 1) y0 y1 y2 y3 y4)) ∧ (∀ y0 y1 y2 y3, LeO (impl_PartAt.l0 k y0 y1 y2 y3) (impl_PartAt.l0 (k + 1) y0 y1 y2 y3))
 | 0 => ⟨fun _ _ _ _ _ r h => by simp [impl_PartAt.j0] at h, fun _ _ _ _ r h => by simp [impl_PartAt.l0] at h⟩
 | k + 1 => by
  obtain ⟨ih0, ih1⟩ := impl_PartAt.mono_l k
  refine ⟨?_, ?_⟩
  ·
   intro y0 y1 y2 y3 y4
   unfold impl_PartAt.j0
   exact mz4 ih0 ih1 impl_Cycle.mono impl_longOf.mono
  ·
   intro y0 y1 y2 y3
   unfold impl_PartAt.l0
   exact mz4 ih0 ih1 impl_Cycle.mono impl_longOf.mono
theorem impl_PartAt.mono : ∀ a0 a1 a2 k, LeO (impl_PartAt.f k a0 a1 a2) (impl_PartAt.f (k + 1) a0 a1 a2) := by
 intro a0 a1 a2 k
 obtain ⟨ih0, ih1⟩ := impl_PartAt.mono_l k
 unfold impl_PartAt.f
 exact mz4 ih0 ih1 impl_Cycle.mono impl_longOf.mono
set_option maxHeartbeats 8000000 in
set_option maxRecDepth 100000 in
theorem impl_PartAt.calls (k : Nat) (A0 : Option Addr) (c0 : Nat) (l0 : List (S50)) (A1 : Option Addr) (c1 : Nat) (l1 : List (S85)) (a2 : Int) (r1 : Int) (r2 : Int) (w : World) (hr0 : Kd.C k50 w A0 l0.length l0) (hc0 : l0.length ≤ c0) (hr1 : Kd.C k85 w A1 l1.length l1) (hc1 : l1.length ≤ c1) (h : impl_PartAt.f k l0 l1 a2 = some (r1, r2)) :
  Calls Try.prog 62 #[.slice A0 l0.length c0, .slice A1 l1.length c1, .int .i64 a2] w fun e w' => e = .returned (.tuple #[.int .i64 r1, .int .i64 r2]) ∧ Below w.heap.size w w' := by
 have HR0 := Aside0.mk hr0
 have HC0 := Aside0.mk hc0
 clear hr0 hc0
 have HR1 := Aside0.mk hr1
 have HC1 := Aside0.mk hc1
 clear hr1 hc1
 have HB := Aside0.mk (Below.refl w.heap.size w)
 have H : ((impl_Cycle.f k l0 l1).bind fun t564 => (if t564 = 0 then (impl_PartAt.j0 k l0 l1 a2 t564 true) else ((impl_InRange.f a2 0 1000000).bind fun t565 => (impl_PartAt.j0 k l0 l1 a2 t564 (!t565))))) = some (r1, r2) := h
 clear h
 obtain ⟨t564, A4, H⟩ := bindE H
 try dsimp only at H
 have HC5 := Aside0.mk H
 clear H
 go_enter Try.func62, Try.ntmps62
 go_upto_region 2 with (first | ((with_reducible refine gate_callee (f := 56) rfl ?_); refine gL (some 13) Try.func56 #[.slice A0 l0.length c0, .slice A1 l1.length c1] ?_; (with_reducible refine (impl_Cycle.calls k _ _ l0 _ _ l1 t564 _ ?_ ?_ ?_ ?_ A4.out).mono ?_); exact cO HR0; exact HC0.out; exact cO HR1; exact HC1.out; rintro e w6 ⟨rfl, hb⟩; refine ⟨_, rfl, ?_⟩; replace HB := bs HB hb; (try clear hb)))
 (try simp only [Act.put, List.setIfInBounds_toArray, List.set_cons_zero, List.set_cons_succ])
 go_cut [20] (fun v20 wc => ∃ (kq : Nat) (x20_4 : Bool), v20 = .bool x20_4 ∧ Aside0 (impl_PartAt.j0 kq l0 l1 a2 t564 x20_4 = some (r1, r2)) ∧ Aside0 (kq ≤ k) ∧ Aside0 (Below w.heap.size w wc))
 case first =>
  have H := HC5.out
  clear HC5
  by_cases c7 : t564 = 0
  ·
   rw [if_pos c7] at H
   have c7b0 : (t564 == 0) = true := beq_iff_eq.mpr c7
   have c7b1 : (t564 != 0) = false := bne_eq_false_iff_eq.mpr c7
   clear c7
   (first | rw [c7b0] | (simp only [i64_w, i32_w]; rw [c7b0]) | skip)
   have H' := Aside0.mk H
   clear H
   go_wp2
   go_meet
   case rel => exact ⟨_, (true), rS, H', ⟨oL⟩, ⟨bA⟩⟩
  rw [if_neg c7] at H
  have c7b0 : (t564 == 0) = false := beq_eq_false_iff_ne.mpr c7
  have c7b1 : (t564 != 0) = true := bne_iff_ne.mpr c7
  (first | rw [c7b0] | (simp only [i64_w, i32_w]; rw [c7b0]) | skip)
  obtain ⟨t565, A8, H⟩ := bindE H
  try dsimp only at H
  have H' := Aside0.mk H
  clear H
  go_wp2_with (first | (go_at_call 75; (with_reducible refine (impl_InRange.calls a2 0 1000000 t565 _ A8.out).mono ?_); rintro e w' ⟨rfl, ⟨nd, rfl⟩⟩))
  go_meet
  case rel => exact ⟨_, (!t565), rS, H', ⟨oL⟩, ⟨bA⟩⟩
 case rest =>
  clear HC5
  obtain ⟨kq, x20_4, rfl, HA, HJ4, HB⟩ := hcut
  cases kq with
  | zero => exact absurd HA.out (by simp [impl_PartAt.j0])
  | succ kj4 =>
   have H := HA.out
   clear HA
   simp only [impl_PartAt.j0] at H
   by_cases c9 : x20_4 = true
   ·
    subst c9
    have H1 : (some ((-1), 0)) = some (r1, r2) := by rw [if_pos rfl] at H; exact H
    clear H
    have H := H1
    clear H1
    simp only [Option.some.injEq, Prod.mk.injEq] at H
    obtain ⟨rfl, rfl⟩ := H
    go_wp2
    go_ret2
    exact ⟨rA, bA⟩
   replace c9 := Bool.eq_false_iff.mpr c9
   subst c9
   have H1 : (if t564 = 0 then (none) else (impl_PartAt.l0 kj4 l0 l1 (Int.tmod a2 t564) 0)) = some (r1, r2) := by rw [if_neg (show ¬ (false = true) by decide)] at H; exact H
   clear H
   have H := H1
   clear H1
   have c10 : ¬ (t564 = 0) := ifN' H
   replace H := ifT' H
   have c10b0 : (t564 == 0) = false := beq_eq_false_iff_ne.mpr c10
   have c10b1 : (t564 != 0) = true := bne_iff_ne.mpr c10
   have H' := Aside0.mk H
   clear H
   go_wp2
   go_loopg [9, 10] kj4 (fun kq v9 v10 w' => ∃ (x9_2 : Int) (x10_2 : Int), v9 = .int .i64 x9_2 ∧ v10 = .int .i64 x10_2 ∧ Aside0 (impl_PartAt.l0 kq l0 l1 x9_2 x10_2 = some (r1, r2)) ∧ Aside0 (kq ≤ kj4) ∧ Aside0 (Below w.heap.size w w'))
   case atStart => exact ⟨(Int.tmod a2 t564), (0), rS, rS, H', ⟨Nat.le_refl _⟩, ⟨bA⟩⟩
   case round =>
    clear H'
    obtain ⟨x9_2, x10_2, rfl, rfl, HA, HK2, HB⟩ := hrel
    cases gk with
    | zero => exact absurd HA.out (by simp [impl_PartAt.l0])
    | succ k2 =>
     have H := HA.out
     clear HA
     simp only [impl_PartAt.l0] at H
     obtain ⟨t566, A11, H⟩ := bindE H
     try dsimp only at H
     by_cases c12 : x9_2 ≥ t566
     ·
      rw [if_pos c12] at H
      have c12b0 := decide_eq_true c12
      clear c12
      obtain ⟨t567, A13, H⟩ := bindE H
      try dsimp only at H
      have H' := Aside0.mk H
      clear H
      go_wp2_with (first | ((with_reducible refine gate_callee (f := 108) rfl ?_); refine gL (some 28) Try.func108 #[.slice A0 l0.length c0, .slice A1 l1.length c1, .int .i64 x10_2] ?_; (with_reducible refine (impl_longOf.calls k2 _ _ l0 _ _ l1 x10_2 t566 _ ?_ ?_ ?_ ?_ A11.out).mono ?_); exact cB HR0; exact HC0.out; exact cB HR1; exact HC1.out; rintro e w14 ⟨rfl, hb⟩; refine ⟨_, rfl, ?_⟩; replace HB := bs HB hb; (try clear hb)) | ((with_reducible refine gate_callee (f := 108) rfl ?_); refine gL (some 34) Try.func108 #[.slice A0 l0.length c0, .slice A1 l1.length c1, .int .i64 x10_2] ?_; (with_reducible refine (impl_longOf.calls k2 _ _ l0 _ _ l1 x10_2 t567 _ ?_ ?_ ?_ ?_ A13.out).mono ?_); exact cB HR0; exact HC0.out; exact cB HR1; exact HC1.out; rintro e w15 ⟨rfl, hb⟩; refine ⟨_, rfl, ?_⟩; replace HB := bs HB hb; (try clear hb)))
      go_roundg k2
      case measure => have := HJ4.out; have := HK2.out; omega
      case rel => exact ⟨(wrap64 (x9_2 - t567)), (wrap64 (x10_2 + 1)), rS, rS, H', ⟨by have := HJ4.out; have := HK2.out; omega⟩, ⟨bA⟩⟩
     rw [if_neg c12] at H
     have c12b0 := decide_eq_false c12
     clear c12
     simp only [Option.some.injEq, Prod.mk.injEq] at H
     obtain ⟨rfl, rfl⟩ := H
     go_wp2_with (first | ((with_reducible refine gate_callee (f := 108) rfl ?_); refine gL (some 28) Try.func108 #[.slice A0 l0.length c0, .slice A1 l1.length c1, .int .i64 x10_2] ?_; (with_reducible refine (impl_longOf.calls k2 _ _ l0 _ _ l1 x10_2 t566 _ ?_ ?_ ?_ ?_ A11.out).mono ?_); exact cB HR0; exact HC0.out; exact cB HR1; exact HC1.out; rintro e w16 ⟨rfl, hb⟩; refine ⟨_, rfl, ?_⟩; replace HB := bs HB hb; (try clear hb)))
     go_ret2
     exact ⟨rA, bA⟩

end Go.Proofs.Ytjgonpcajedkjaa.P
