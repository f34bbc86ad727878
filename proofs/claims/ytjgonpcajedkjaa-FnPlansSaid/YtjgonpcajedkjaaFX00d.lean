/- Printed by myprint.py (wip/tools) over the kit's print: what Go's functions compute, and that they do. Lean checks it. -/
import Derived.Test.YtjgonpcajedkjaaF0
import Derived.Test.YtjgonpcajedkjaaFX00
import Derived.Test.YtjgonpcajedkjaaFX00b
import Derived.Test.YtjgonpcajedkjaaFX00c
namespace Go.Proofs.Ytjgonpcajedkjaa.P
open Go.RowKit Go.Proofs.YtjgonpcajedkjaaW.PrintWords Go.Proofs.YtjgonpcajedkjaaW.PrintLast Go.Proofs.YtjgonpcajedkjaaW.PrintMore Go.Proofs.Ytjgonpcajedkjaa.Sq
attribute [local go_sem] max2_int min2_int max_two min_two max_three min_three max_four min_four
set_option linter.unusedVariables false
set_option linter.unusedSimpArgs false

/-! ### spec_l6Put: function 135 -/
def spec_l6Put.l0 : Nat → List Int → Int → Int → Option (List Int)
 | 0, _, _, _ => none
 | k + 1, x0, x1, x5 => if x5 < (x0.length : Int) then (if 0 ≤ x5 then (if (rd x0 x5) < x1 then (spec_l6Put.l0 k x0 x1 (wrap64 (x5 + 1))) else (if (rd x0 x5) = x1 then ((some (([] : List Int) : List Int)).bind fun y462 => (if y462.length + x0.length < 17592186044416 then (some (y462 ++ x0)) else (none))) else ((some (([] : List Int) : List Int)).bind fun y468 => (if x5 ≤ (x0.length : Int) then (if y468.length + (x0.take (x5 : Int).toNat).length < 17592186044416 then ((some (y468 ++ (x0.take (x5 : Int).toNat) : List Int)).bind fun y472 => ((some (([x1] : List Int) : List Int)).bind fun y475 => (if y472.length + y475.length < 17592186044416 then ((some (y472 ++ y475 : List Int)).bind fun y478 => (if y478.length + (x0.drop (x5 : Int).toNat).length < 17592186044416 then (some (y478 ++ (x0.drop (x5 : Int).toNat))) else (none))) else (none)))) else (none)) else (none))))) else (none)) else ((some (([] : List Int) : List Int)).bind fun y485 => (if 0 ≤ x5 then (if x5 ≤ (x0.length : Int) then (if y485.length + (x0.take (x5 : Int).toNat).length < 17592186044416 then ((some (y485 ++ (x0.take (x5 : Int).toNat) : List Int)).bind fun y489 => ((some (([x1] : List Int) : List Int)).bind fun y492 => (if y489.length + y492.length < 17592186044416 then ((some (y489 ++ y492 : List Int)).bind fun y495 => (if y495.length + (x0.drop (x5 : Int).toNat).length < 17592186044416 then (some (y495 ++ (x0.drop (x5 : Int).toNat))) else (none))) else (none)))) else (none)) else (none)) else (none)))
def spec_l6Put.f (k : Nat) (l0 : List Int) (a1 : Int) : Option (List Int) := spec_l6Put.l0 k l0 a1 0
theorem spec_l6Put.mono_l : ∀ k, (∀ y0 y1 y2, LeO (spec_l6Put.l0 k y0 y1 y2) (spec_l6Put.l0 (k + 1) y0 y1 y2))
 | 0 => fun _ _ _ r h => by simp [spec_l6Put.l0] at h
 | k + 1 => by
  have ih0 := spec_l6Put.mono_l k
  ·
   intro y0 y1 y2
   unfold spec_l6Put.l0
   exact mz1 ih0
theorem spec_l6Put.mono : ∀ a0 a1 k, LeO (spec_l6Put.f k a0 a1) (spec_l6Put.f (k + 1) a0 a1) := by
 intro a0 a1 k
 have ih0 := spec_l6Put.mono_l k
 unfold spec_l6Put.f
 exact mz1 ih0
def spec_l6Put.T6 : Bool × List (List Nat × List Nat) := (true, [([], []), ([], []), ([], []), ([1, 2], [1, 2]), ([0, 3], [0, 3]), ([], []), ([5], [5]), ([4, 6, 4], [4, 6]), ([], []), ([], []), ([8, 9], [8, 9]), ([7, 10, 7], [7, 10]), ([11, 11, 0, 1, 2, 3, 4, 5, 6, 7, 8, 9, 10, 11], [11])])
def spec_l6Put.B6 : List Nat := [0, 0, 0, 6, 15, 0, 32, 127, 0, 0, 768, 2047, 4095]
theorem spec_l6Put.tab6 : rtab .any (opsOf Try.f135 6) = spec_l6Put.T6 := by kernel_rfl
theorem spec_l6Put.bits6 : waitsOk spec_l6Put.T6.2 spec_l6Put.B6 = true := by kernel_rfl
set_option maxHeartbeats 8000000 in
set_option maxRecDepth 100000 in
theorem spec_l6Put.calls (k : Nat) (A0 : Option Addr) (c0 : Nat) (l0 : List Int) (a1 : Int) (r : List Int) (w : World) (hr0 : Kd.C (Kd.int .i64) w A0 l0.length l0) (hc0 : l0.length ≤ c0) (h : spec_l6Put.f k l0 a1 = some r) :
  Calls Try.prog 135 #[.slice A0 l0.length c0, .int .i64 a1] w fun e w' => ∃ v0_ : Value, e = .returned (v0_) ∧ Kd.R (Kd.int .i64) 3 w' w.heap.size (fun _ => True) v0_ r ∧ Below w.heap.size w w' := by
 have HR0 := Aside0.mk hr0
 have HC0 := Aside0.mk hc0
 clear hr0 hc0
 have HB := Aside0.mk (Below.refl w.heap.size w)
 have H : (spec_l6Put.l0 k l0 a1 0) = some r := h
 clear h
 have H' := Aside0.mk H
 clear H
 go_enter Try.func135, Try.ntmps135
 go_wp2
 go_loopg [5] k (fun kq v5 w' => ∃ (x5_1 : Int), v5 = .int .i64 x5_1 ∧ Aside0 (spec_l6Put.l0 kq l0 a1 x5_1 = some r) ∧ Aside0 (kq ≤ k) ∧ Aside0 (Below w.heap.size w w'))
 case atStart => exact ⟨(0), rS, H', ⟨Nat.le_refl _⟩, ⟨bA⟩⟩
 case round =>
  clear H'
  obtain ⟨x5_1, rfl, HA, HK1, HB⟩ := hrel
  cases gk with
  | zero => exact absurd HA.out (by simp [spec_l6Put.l0])
  | succ k1 =>
   have H := HA.out
   clear HA
   simp only [spec_l6Put.l0] at H
   by_cases c3 : x5_1 < (l0.length : Int)
   ·
    rw [if_pos c3] at H
    have c3b0 := decide_eq_true c3
    clear c3
    have c4 : 0 ≤ x5_1 := ifN H
    replace H := ifT H
    have c4b0 := decide_eq_true c4
    clear c4
    by_cases c5 : (rd l0 x5_1) < a1
    ·
     rw [if_pos c5] at H
     have c5b0 := decide_eq_true c5
     clear c5
     have H' := Aside0.mk H
     clear H
     obtain ⟨p460, q460⟩ : 0 ≤ (x5_1 : Int) ∧ x5_1 < (l0.length : Int) := ⟨dA, dA⟩
     obtain ⟨ad460, e460, hx460_0⟩ := Kd.at_int (Kd.C_below HR0.out HB.out) x5_1 p460 q460
     cases e460
     obtain ⟨p460, q460⟩ := eT p460 q460
     go_wp2
     go_roundg k1
     case measure => have := HK1.out; omega
     case rel => exact ⟨(wrap64 (x5_1 + 1)), rS, H', ⟨by have := HK1.out; omega⟩, ⟨bA⟩⟩
    rw [if_neg c5] at H
    have c5b0 := decide_eq_false c5
    clear c5
    by_cases c6 : (rd l0 x5_1) = a1
    ·
     rw [if_pos c6] at H
     have c6b0 : ((rd l0 x5_1) == a1) = true := beq_iff_eq.mpr c6
     have c6b1 : ((rd l0 x5_1) != a1) = false := bne_eq_false_iff_eq.mpr c6
     clear c6
     obtain ⟨y462, hy462⟩ : ∃ y_ : List Int, y_ = (([] : List Int)) := ⟨_, rfl⟩
     replace H : (if y462.length + l0.length < 17592186044416 then (some (y462 ++ l0)) else (none)) = some r := rH H hy462
     have Ny462 := Aside0.mk hy462
     clear hy462
     have c7 : y462.length + l0.length < 17592186044416 := ifN H
     replace H := ifT H
     have LMc7 := Aside0.mk c7
     clear c7
     obtain ⟨y465, hy465⟩ : ∃ y_ : List Int, y_ = (y462 ++ l0) := ⟨_, rfl⟩
     replace H : (some y465) = some r := rH H hy465
     have Ny465 := Aside0.mk hy465
     clear hy465
     obtain rfl := Option.some.inj H
     obtain ⟨p460, q460⟩ : 0 ≤ (x5_1 : Int) ∧ x5_1 < (l0.length : Int) := ⟨dA, dA⟩
     obtain ⟨ad460, e460, hx460_0⟩ := Kd.at_int (Kd.C_below HR0.out HB.out) x5_1 p460 q460
     cases e460
     obtain ⟨p460, q460⟩ := eT p460 q460
     obtain ⟨p461, q461⟩ : 0 ≤ (x5_1 : Int) ∧ x5_1 < (l0.length : Int) := ⟨dA, dA⟩
     obtain ⟨ad461, e461, hx461_0⟩ := Kd.at_int (Kd.C_below HR0.out HB.out) x5_1 p461 q461
     obtain rfl : ad460 = ad461 := (by injection e461)
     obtain ⟨p461, q461⟩ := eT p461 q461
     go_wp2_with (first | ((with_reducible refine gate_dst (N := 32) rfl ?_); refine Kd.R_lit (Kd.int .i64) _ 3 ?hg (N := 32) ?hd (xs := ([] : List Int)) (inner := []) (ok := fun _ => True) (okp := fun _ => True) ?hr ?hp (fun _ hk => hk) trivial (Below.refl _ _) (Nat.le_refl _) (by simp) ?_; (case hd => rfl); (case hg => rfl); (case hr => first | (go_simp; done) | (go_simp; rfl)); (case hp => exact (Reps.none _ _)); intro v463 w8 ho9 hb hg_ hnew_; clear hg_ hnew_; (first | rw [← Ny462.out] at ho9 | (simp only [Int.reduceToNat] at ho9; rw [← Ny462.out] at ho9)); have HO464 := rl w ho9; replace HB := bs HB hb; clear hb ho9) | ((with_reducible refine gate_builtin (b := .append) (xs := #[.tmp 32, .tmp 33]) rfl ?_); at_builtin; refine Kd.R_append_rows (Kd.int .i64) (w0 := w) w.heap.size rfl (.tmp 32) (.tmp 33) 35 3 (.int .i64 0) 8 rfl Try.underlying35 info3 rfl (by decide) (by omega) v463 y462 l0 _ _ _ (fun _ => True) (fun _ => False) rfl rfl ?aO ?aR (fun _ _ h => h) (fun _ h => h.elim) ?aF ?aB ?aS ?aL ?_; (case aR => repeat (first | exact (Kd.C_below HR0.out HB.out) | (with_reducible refine Kd.C_alloc ?_ _) | (with_reducible refine Kd.C_drewN ?_ _) | (with_reducible refine Kd.C_drew ?_))); (case aB => exact bA); (case aF => exact (fun _ _ => trivial)); (case aO => exact (rK HO464)); (case aS => exact (below_size bA)); (case aL => have := LMc7.out; omega); intro v466 w10 ho hb hg hat; rw [← Ny465.out] at ho; have n0_ := Aside0.mk (hb); have n1_ := Aside0.mk (ho); clear HB; clear HO464; have HB := n0_; have HO467 := n1_; clear n0_ n1_; clear ho hb hg hat))
     go_ret
     exact ⟨_, rA, rK HO467, bA⟩
    rw [if_neg c6] at H
    have c6b0 : ((rd l0 x5_1) == a1) = false := beq_eq_false_iff_ne.mpr c6
    have c6b1 : ((rd l0 x5_1) != a1) = true := bne_iff_ne.mpr c6
    obtain ⟨y468, hy468⟩ : ∃ y_ : List Int, y_ = (([] : List Int)) := ⟨_, rfl⟩
    replace H : (if x5_1 ≤ (l0.length : Int) then (if y468.length + (l0.take (x5_1 : Int).toNat).length < 17592186044416 then ((some (y468 ++ (l0.take (x5_1 : Int).toNat) : List Int)).bind fun y472 => ((some (([a1] : List Int) : List Int)).bind fun y475 => (if y472.length + y475.length < 17592186044416 then ((some (y472 ++ y475 : List Int)).bind fun y478 => (if y478.length + (l0.drop (x5_1 : Int).toNat).length < 17592186044416 then (some (y478 ++ (l0.drop (x5_1 : Int).toNat))) else (none))) else (none)))) else (none)) else (none)) = some r := rH H hy468
    have Ny468 := Aside0.mk hy468
    clear hy468
    have c11b0 := eq_true (dA : 0 ≤ x5_1)
    have c12 : x5_1 ≤ (l0.length : Int) := ifN H
    replace H := ifT H
    have c12b0 := eq_true c12
    have c12b1 := decide_eq_true c12
    clear c12
    have c13 : y468.length + (l0.take (x5_1 : Int).toNat).length < 17592186044416 := ifN H
    replace H := ifT H
    have LMc13 := Aside0.mk c13
    clear c13
    obtain ⟨y472, hy472⟩ : ∃ y_ : List Int, y_ = (y468 ++ (l0.take (x5_1 : Int).toNat)) := ⟨_, rfl⟩
    replace H : ((some (([a1] : List Int) : List Int)).bind fun y475 => (if y472.length + y475.length < 17592186044416 then ((some (y472 ++ y475 : List Int)).bind fun y478 => (if y478.length + (l0.drop (x5_1 : Int).toNat).length < 17592186044416 then (some (y478 ++ (l0.drop (x5_1 : Int).toNat))) else (none))) else (none))) = some r := rH H hy472
    have Ny472 := Aside0.mk hy472
    clear hy472
    obtain ⟨y475, hy475⟩ : ∃ y_ : List Int, y_ = (([a1] : List Int)) := ⟨_, rfl⟩
    replace H : (if y472.length + y475.length < 17592186044416 then ((some (y472 ++ y475 : List Int)).bind fun y478 => (if y478.length + (l0.drop (x5_1 : Int).toNat).length < 17592186044416 then (some (y478 ++ (l0.drop (x5_1 : Int).toNat))) else (none))) else (none)) = some r := rH H hy475
    have Ny475 := Aside0.mk hy475
    clear hy475
    have c14 : y472.length + y475.length < 17592186044416 := ifN H
    replace H := ifT H
    have LMc14 := Aside0.mk c14
    clear c14
    obtain ⟨y478, hy478⟩ : ∃ y_ : List Int, y_ = (y472 ++ y475) := ⟨_, rfl⟩
    replace H : (if y478.length + (l0.drop (x5_1 : Int).toNat).length < 17592186044416 then (some (y478 ++ (l0.drop (x5_1 : Int).toNat))) else (none)) = some r := rH H hy478
    have Ny478 := Aside0.mk hy478
    clear hy478
    have c15b0 := eq_true (dA : 0 ≤ x5_1)
    have c16b0 := eq_true (dA : x5_1 ≤ (l0.length : Int))
    have c17 : y478.length + (l0.drop (x5_1 : Int).toNat).length < 17592186044416 := ifN H
    replace H := ifT H
    have LMc17 := Aside0.mk c17
    clear c17
    obtain ⟨y482, hy482⟩ : ∃ y_ : List Int, y_ = (y478 ++ (l0.drop (x5_1 : Int).toNat)) := ⟨_, rfl⟩
    replace H : (some y482) = some r := rH H hy482
    have Ny482 := Aside0.mk hy482
    clear hy482
    obtain rfl := Option.some.inj H
    obtain ⟨p460, q460⟩ : 0 ≤ (x5_1 : Int) ∧ x5_1 < (l0.length : Int) := ⟨dA, dA⟩
    obtain ⟨ad460, e460, hx460_0⟩ := Kd.at_int (Kd.C_below HR0.out HB.out) x5_1 p460 q460
    cases e460
    obtain ⟨p460, q460⟩ := eT p460 q460
    obtain ⟨p461, q461⟩ : 0 ≤ (x5_1 : Int) ∧ x5_1 < (l0.length : Int) := ⟨dA, dA⟩
    obtain ⟨ad461, e461, hx461_0⟩ := Kd.at_int (Kd.C_below HR0.out HB.out) x5_1 p461 q461
    obtain rfl : ad460 = ad461 := (by injection e461)
    obtain ⟨p461, q461⟩ := eT p461 q461
    try go_wp2
    have HBo := HB
    replace HB := db HB
    obtain ⟨i019, hi019, _, hsz19, _⟩ := info_parts info3
    obtain ⟨hcut19, hA19, hC19⟩ := print_take_of (P := Try.prog) (Value.int .i64) 0 35 3 .i64 Try.underlying35 hi019 hsz19 (some ad460) c0 l0 x5_1 (dA) (dA) HC0.out
    have HR471 := Aside0.mk (Kd.C_of_reads (h1 := fun _ => rfl) (hA19 _ (Kd.reads_of_C HR0.out)))
    have HC471 := Aside0.mk hC19
    clear hA19 hC19 hi019 hsz19
    have HL471 := Aside0.mk (show (x5_1 : Int) ≤ (l0.length : Int) from (dA))
    obtain ⟨i020, hi020, _, hsz20, _⟩ := info_parts info3
    obtain ⟨A20, hcut20, hA20, hC20⟩ := print_drop_of (P := Try.prog) (Value.int .i64) 0 35 3 .i64 Try.underlying35 hi020 hsz20 (some ad460) c0 l0 x5_1 (dA) (dA) HC0.out
    have HR481 := Aside0.mk (Kd.C_of_reads (h1 := fun _ => rfl) (hA20 _ (Kd.reads_of_C HR0.out)))
    have HC481 := Aside0.mk hC20
    clear hA20 hC20 hi020 hsz20
    refine start_ (n := 13) (S := fun w' => True) (ds := []) (mb 13 0) (by kernel_rfl) rfl rfl trivial (fun hHeld => ?_); refine with_tabW spec_l6Put.tab6 spec_l6Put.bits6 (fun HT_ HW_ => ?_)
    generalize wr.drew = w18 at HB HR471 HR481 hHeld ⊢
    refine pa 1 36 (mb 13 2) HT_ ?_
    refine pa 2 37 (mb 13 6) HT_ ?_
    refine pa 3 38 (mb 13 14) HT_ ?_
    refine pa 5 40 (mb 13 46) HT_ ?_
    refine pa 8 43 (mb 13 302) HT_ ?_
    refine pa 9 44 (mb 13 814) HT_ ?_
    refine pa 10 45 (mb 13 1838) HT_ ?_
    refine join_ (σ := Value × Value × Value) 3 (mb 13 1919) (fun s_ => [(35, s_.1), (39, s_.2.1), (41, s_.2.2)]) (fun s_ w' => (Kd.R (Kd.int .i64) 3 w' w.heap.size (n1 s_.2.2) s_.2.1 y472) ∧ (Kd.R (Kd.int .i64) 3 w' w.heap.size (n1 s_.2.1) s_.2.2 y475) ∧ (Below w.heap.size w w')) ?_ ?_
    rotate_left
    ·
     intro hCont
     refine two_ (i := 0) (j := 6) (Ni := some 35) (Nj := some 41) (mb 13 1839) (mb 13 1902) rfl rfl rfl rfl (two_of HT_.out (by kernel_rfl)) (by decide) (by decide) (fun K hK => ?_) (fun K hK => ?_)
     ·
      skip
      refine Kd.R_lit_step (Kd.int .i64) _ 3 ?hg (N := 35) ?hd (xs := ([] : List Int)) (inner := []) (ok := fun _ => True) (okp := fun _ => True) ?hr ?hp (fun _ hk => hk) trivial (Below.refl _ _) (Nat.le_refl _) (by simp) ?_; (case hd => rfl); (case hg => rfl); (case hr => first | (go_simp; done) | (go_simp; rfl)); (case hp => exact (Reps.none _ _))
      intro v469 w21 ho22 hb hg_ hnew_
      clear hg_ hnew_
      (first | rw [← Ny468.out] at ho22 | (simp only [Int.reduceToNat] at ho22; rw [← Ny468.out] at ho22))
      have HO470 := rl w ho22
      replace HB := bs HB hb
      clear hb ho22
      refine hK.out _ _ trivial (fun hHeld => ?_)
      clear hK K
      refine nB ?_
      refine two_ (i := 4) (j := 6) (Ni := some 39) (Nj := some 41) (mb 13 1855) (mb 13 1903) rfl rfl rfl rfl (two_of HT_.out (by kernel_rfl)) (by decide) (by decide) (fun K hK => ?_) (fun K hK => ?_)
      ·
       skip
       refine Kd.R_append_rows_step (Kd.int .i64) (w0 := w) w.heap.size (by rfl) (.tmp 35) (.tmp 38) 35 3 (.int .i64 0) 8 rfl Try.underlying35 info3 rfl (by decide) (by omega) v469 y468 (l0.take (x5_1 : Int).toNat) _ _ _ (fun _ => True) (fun _ => False) rfl rfl ?aO ?aR (fun _ _ h => h) (fun _ h => h.elim) ?aF ?aB ?aS ?aL ?_
       (case aR => (have hr_ := HR471.out; rw [show (l0.take (x5_1 : Int).toNat).length = x5_1.toNat from (by rw [List.length_take]; have h_ : (x5_1 : Int) ≤ (l0.length : Int) := dA; omega)] at hr_; (repeat (first | exact (Kd.C_below hr_ HB.out) | (with_reducible refine Kd.C_alloc ?_ _) | (with_reducible refine Kd.C_drewN ?_ _) | (with_reducible refine Kd.C_drew ?_))); done))
       (case aB => exact bA)
       (case aF => exact (fun _ _ => trivial))
       (case aO => exact (rK HO470))
       (case aS => exact (below_size bA))
       (case aL => have := LMc13.out; have hlx_ := (show (l0.take (x5_1 : Int).toNat).length = x5_1.toNat from (by rw [List.length_take]; have h_ : (x5_1 : Int) ≤ (l0.length : Int) := dA; omega)); omega)
       intro v473 w23 ho hb hg hat
       rw [← Ny472.out] at ho
       have n0_ := Aside0.mk (hb)
       have n1_ := Aside0.mk (ho)
       clear HB
       clear HO470
       have HB := n0_
       have HO474 := n1_
       clear n0_ n1_
       clear ho hb hg hat
       refine hK.out _ _ trivial (fun hHeld => ?_)
       clear hK K
       refine nB ?_
       refine oa 6 41 (mb 13 1919) HT_ (fun K hK => ?_)
       refine Kd.R_lit_step (Kd.int .i64) _ 3 ?hg (N := 41) ?hd (xs := ([a1] : List Int)) (inner := [.int .i64 a1]) (ok := fun _ => True) (okp := fun _ => True) ?hr ?hp (fun _ hk => hk) trivial (Below.refl _ _) (Nat.le_refl _) (by simp) ?_; (case hd => rfl); (case hg => rfl); (case hr => first | (go_simp; done) | (go_simp; rfl)); (case hp => exact (Reps.one (show Kd.M (Kd.int .i64) _ _ _ a1 [.int .i64 a1] from rfl) (Reps.none _ _)))
       intro v476 w24 ho25 hb hg_ hnew_
       clear hg_ hnew_
       (first | rw [← Ny475.out] at ho25 | (simp only [Int.reduceToNat] at ho25; rw [← Ny475.out] at ho25))
       have HO477 := rl w (rn ho25 HO474)
       replace HO474 := re HO474 ho25 hb
       replace HB := bs HB hb
       clear hb ho25
       refine hK.out _ _ trivial (fun hHeld => ?_)
       clear hK K
       refine nB ?_
       exact mB (hCont (v469, v473, v476) _ ⟨(rm HO474 (fun _ hk => hk.2)), (rm HO477 (fun _ hk => hk.2)), bA⟩)
      ·
       skip
       refine Kd.R_lit_step (Kd.int .i64) _ 3 ?hg (N := 41) ?hd (xs := ([a1] : List Int)) (inner := [.int .i64 a1]) (ok := fun _ => True) (okp := fun _ => True) ?hr ?hp (fun _ hk => hk) trivial (Below.refl _ _) (Nat.le_refl _) (by simp) ?_; (case hd => rfl); (case hg => rfl); (case hr => first | (go_simp; done) | (go_simp; rfl)); (case hp => exact (Reps.one (show Kd.M (Kd.int .i64) _ _ _ a1 [.int .i64 a1] from rfl) (Reps.none _ _)))
       intro v476 w23 ho24 hb hg_ hnew_
       clear hg_ hnew_
       (first | rw [← Ny475.out] at ho24 | (simp only [Int.reduceToNat] at ho24; rw [← Ny475.out] at ho24))
       have HO477 := rl w (rn ho24 HO470)
       replace HO470 := re HO470 ho24 hb
       replace HB := bs HB hb
       clear hb ho24
       refine hK.out _ _ trivial (fun hHeld => ?_)
       clear hK K
       refine nB ?_
       refine oa 4 39 (mb 13 1919) HT_ (fun K hK => ?_)
       refine Kd.R_append_rows_step (Kd.int .i64) (w0 := w) w.heap.size (by rfl) (.tmp 35) (.tmp 38) 35 3 (.int .i64 0) 8 rfl Try.underlying35 info3 rfl (by decide) (by omega) v469 y468 (l0.take (x5_1 : Int).toNat) _ _ _ (n1 v476) (fun _ => False) rfl rfl ?aO ?aR (fun _ _ h => h) (fun _ h => h.elim) ?aF ?aB ?aS ?aL ?_
       (case aR => (have hr_ := HR471.out; rw [show (l0.take (x5_1 : Int).toNat).length = x5_1.toNat from (by rw [List.length_take]; have h_ : (x5_1 : Int) ≤ (l0.length : Int) := dA; omega)] at hr_; (repeat (first | exact (Kd.C_below hr_ HB.out) | (with_reducible refine Kd.C_alloc ?_ _) | (with_reducible refine Kd.C_drewN ?_ _) | (with_reducible refine Kd.C_drew ?_))); done))
       (case aB => exact bA)
       (case aF => exact (fun k_ hk => Kd.fresh' (Kd.R_lt (rK HO477)) k_ hk))
       (case aO => exact (rm HO470 (fun _ hk => hk.2)))
       (case aS => exact (below_size bA))
       (case aL => have := LMc13.out; have hlx_ := (show (l0.take (x5_1 : Int).toNat).length = x5_1.toNat from (by rw [List.length_take]; have h_ : (x5_1 : Int) ≤ (l0.length : Int) := dA; omega)); omega)
       intro v473 w25 ho hb hg hat
       rw [← Ny472.out] at ho
       have n0_ := Aside0.mk (Kd.R_after (ok := (fun _ => True)) (rK HO477) hg hat)
       have n1_ := Aside0.mk (hb)
       have n2_ := Aside0.mk (ho)
       clear HO477
       clear HB
       clear HO470
       have HO477 := n0_
       have HB := n1_
       have HO474 := n2_
       clear n0_ n1_ n2_
       clear ho hb hg hat
       refine hK.out _ _ trivial (fun hHeld => ?_)
       clear hK K
       refine nB ?_
       exact mB (hCont (v469, v473, v476) _ ⟨(rK HO474), (rm HO477 (fun _ hk => hk.2)), bA⟩)
     ·
      skip
      refine Kd.R_lit_step (Kd.int .i64) _ 3 ?hg (N := 41) ?hd (xs := ([a1] : List Int)) (inner := [.int .i64 a1]) (ok := fun _ => True) (okp := fun _ => True) ?hr ?hp (fun _ hk => hk) trivial (Below.refl _ _) (Nat.le_refl _) (by simp) ?_; (case hd => rfl); (case hg => rfl); (case hr => first | (go_simp; done) | (go_simp; rfl)); (case hp => exact (Reps.one (show Kd.M (Kd.int .i64) _ _ _ a1 [.int .i64 a1] from rfl) (Reps.none _ _)))
      intro v476 w21 ho22 hb hg_ hnew_
      clear hg_ hnew_
      (first | rw [← Ny475.out] at ho22 | (simp only [Int.reduceToNat] at ho22; rw [← Ny475.out] at ho22))
      have HO477 := rl w ho22
      replace HB := bs HB hb
      clear hb ho22
      refine hK.out _ _ trivial (fun hHeld => ?_)
      clear hK K
      refine nB ?_
      refine oa 0 35 (mb 13 1903) HT_ (fun K hK => ?_)
      refine Kd.R_lit_step (Kd.int .i64) _ 3 ?hg (N := 35) ?hd (xs := ([] : List Int)) (inner := []) (ok := fun _ => True) (okp := fun _ => True) ?hr ?hp (fun _ hk => hk) trivial (Below.refl _ _) (Nat.le_refl _) (by simp) ?_; (case hd => rfl); (case hg => rfl); (case hr => first | (go_simp; done) | (go_simp; rfl)); (case hp => exact (Reps.none _ _))
      intro v469 w23 ho24 hb hg_ hnew_
      clear hg_ hnew_
      (first | rw [← Ny468.out] at ho24 | (simp only [Int.reduceToNat] at ho24; rw [← Ny468.out] at ho24))
      have HO470 := rl w (rn ho24 HO477)
      replace HO477 := re HO477 ho24 hb
      replace HB := bs HB hb
      clear hb ho24
      refine hK.out _ _ trivial (fun hHeld => ?_)
      clear hK K
      refine nB ?_
      refine oa 4 39 (mb 13 1919) HT_ (fun K hK => ?_)
      refine Kd.R_append_rows_step (Kd.int .i64) (w0 := w) w.heap.size (by rfl) (.tmp 35) (.tmp 38) 35 3 (.int .i64 0) 8 rfl Try.underlying35 info3 rfl (by decide) (by omega) v469 y468 (l0.take (x5_1 : Int).toNat) _ _ _ (n1 v476) (fun _ => False) rfl rfl ?aO ?aR (fun _ _ h => h) (fun _ h => h.elim) ?aF ?aB ?aS ?aL ?_
      (case aR => (have hr_ := HR471.out; rw [show (l0.take (x5_1 : Int).toNat).length = x5_1.toNat from (by rw [List.length_take]; have h_ : (x5_1 : Int) ≤ (l0.length : Int) := dA; omega)] at hr_; (repeat (first | exact (Kd.C_below hr_ HB.out) | (with_reducible refine Kd.C_alloc ?_ _) | (with_reducible refine Kd.C_drewN ?_ _) | (with_reducible refine Kd.C_drew ?_))); done))
      (case aB => exact bA)
      (case aF => exact (fun k_ hk => Kd.fresh' (Kd.R_lt (rK HO477)) k_ hk))
      (case aO => exact (rm HO470 (fun _ hk => hk.2)))
      (case aS => exact (below_size bA))
      (case aL => have := LMc13.out; have hlx_ := (show (l0.take (x5_1 : Int).toNat).length = x5_1.toNat from (by rw [List.length_take]; have h_ : (x5_1 : Int) ≤ (l0.length : Int) := dA; omega)); omega)
      intro v473 w25 ho hb hg hat
      rw [← Ny472.out] at ho
      have n0_ := Aside0.mk (Kd.R_after (ok := (fun _ => True)) (rK HO477) hg hat)
      have n1_ := Aside0.mk (hb)
      have n2_ := Aside0.mk (ho)
      clear HO477
      clear HB
      clear HO470
      have HO477 := n0_
      have HB := n1_
      have HO474 := n2_
      clear n0_ n1_ n2_
      clear ho hb hg hat
      refine hK.out _ _ trivial (fun hHeld => ?_)
      clear hK K
      refine nB ?_
      exact mB (hCont (v469, v473, v476) _ ⟨(rK HO474), (rm HO477 (fun _ hk => hk.2)), bA⟩)
    rintro ⟨v469, v473, v476⟩ w26 ⟨h0_, h1_, h2_⟩
    have n0_ : Aside0 (Kd.R (Kd.int .i64) 3 w26 w.heap.size (n1 v476) v473 y472) := ⟨h0_⟩
    have n1_ : Aside0 (Kd.R (Kd.int .i64) 3 w26 w.heap.size (n1 v473) v476 y475) := ⟨h1_⟩
    have n2_ : Aside0 (Below w.heap.size w w26) := ⟨h2_⟩
    clear HB
    clear h0_ h1_ h2_
    have HO474 := n0_
    have HO477 := n1_
    have HB := n2_
    clear n0_ n1_ n2_
    have hHeld := trivial
    obtain ⟨Ao28, co28, eo28⟩ := Kd.R_slice HO477.out
    (first | subst eo28 | (injection eo28 with f1_ f2_ f3_; have f4_ := f1_.symm; have f5_ := f3_.symm; clear f1_ f2_ f3_; subst f4_; subst f5_))
    refine norm_ (a' := ?_) ?_ ?_
    rotate_left
    ·
     simp only [putAll, Act.put, List.setIfInBounds_toArray, List.set_cons_zero, List.set_cons_succ]
     rfl
    refine oa 7 42 (mb 13 2047) HT_ (fun K hK => ?_)
    refine Kd.R_append_rows_step (Kd.int .i64) (w0 := w) w.heap.size (by rfl) (.tmp 39) (.tmp 41) 35 3 (.int .i64 0) 8 rfl Try.underlying35 info3 rfl (by decide) (by omega) v473 y472 y475 _ _ _ (n1 (.slice Ao28 y475.length co28)) (fun _ => False) rfl rfl ?aO ?aR (fun _ _ h => h) (fun _ h => h.elim) ?aF ?aB ?aS ?aL ?_
    (case aR => repeat (first | exact (Kd.R_reads' HO477.out).2.2 | (with_reducible refine Kd.C_alloc ?_ _) | (with_reducible refine Kd.C_drewN ?_ _) | (with_reducible refine Kd.C_drew ?_)))
    (case aB => exact bA)
    (case aF => exact (fun k_ hk => Kd.fresh' (Kd.R_lt (rK HO477)) k_ hk))
    (case aO => exact (rK HO474))
    (case aS => exact (below_size bA))
    (case aL => have := LMc14.out; omega)
    intro v479 w27 ho hb hg hat
    rw [← Ny478.out] at ho
    have n0_ := Aside0.mk (Kd.R_after (ok := (fun _ => True)) (rm HO477 (fun _ hk => ⟨trivial, hk⟩)) hg hat)
    have n1_ := Aside0.mk (hb)
    have n2_ := Aside0.mk (ho)
    clear HO477
    clear HB
    clear HO474
    have HO477 := n0_
    have HB := n1_
    have HO480 := n2_
    clear n0_ n1_ n2_
    clear ho hb hg hat
    refine hK.out _ _ trivial (fun hHeld => ?_)
    clear hK K
    refine nB ?_
    refine oa 11 46 (mb 13 4095) HT_ (fun K hK => ?_)
    refine Kd.R_append_rows_step (Kd.int .i64) (w0 := w) w.heap.size (by rfl) (.tmp 42) (.tmp 45) 35 3 (.int .i64 0) 8 rfl Try.underlying35 info3 rfl (by decide) (by omega) v479 y478 (l0.drop (x5_1 : Int).toNat) _ _ _ (n1 (.slice Ao28 y475.length co28)) (fun _ => False) rfl rfl ?aO ?aR (fun _ _ h => h) (fun _ h => h.elim) ?aF ?aB ?aS ?aL ?_
    (case aR => (have hr_ := HR481.out; rw [show (l0.drop (x5_1 : Int).toNat).length = (l0.length - x5_1.toNat) from List.length_drop] at hr_; (repeat (first | exact (Kd.C_below hr_ HB.out) | (with_reducible refine Kd.C_alloc ?_ _) | (with_reducible refine Kd.C_drewN ?_ _) | (with_reducible refine Kd.C_drew ?_))); done))
    (case aB => exact bA)
    (case aF => exact (fun k_ hk => Kd.fresh' (Kd.R_lt (rK HO477)) k_ hk))
    (case aO => exact (rK HO480))
    (case aS => exact (below_size bA))
    (case aL => have := LMc17.out; have hlx_ := (show (l0.drop (x5_1 : Int).toNat).length = (l0.length - x5_1.toNat) from List.length_drop); omega)
    intro v483 w29 ho hb hg hat
    rw [← Ny482.out] at ho
    have n0_ := Aside0.mk (Kd.R_after (ok := (fun _ => True)) (rK HO477) hg hat)
    have n1_ := Aside0.mk (hb)
    have n2_ := Aside0.mk (ho)
    clear HO477
    clear HB
    clear HO480
    have HO477 := n0_
    have HB := n1_
    have HO484 := n2_
    clear n0_ n1_ n2_
    clear ho hb hg hat
    refine hK.out _ _ trivial (fun hHeld => ?_)
    clear hK K
    refine nB ?_
    refine pa 12 4 (mb 13 8191) HT_ ?_
    refine eA HT_ ?_
    try go_wp2
    go_ret
    exact ⟨_, rA, rm HO484 (fun _ hk => trivial), bA⟩
   rw [if_neg c3] at H
   have c3b0 := decide_eq_false c3
   clear c3
   obtain ⟨y485, hy485⟩ : ∃ y_ : List Int, y_ = (([] : List Int)) := ⟨_, rfl⟩
   replace H : (if 0 ≤ x5_1 then (if x5_1 ≤ (l0.length : Int) then (if y485.length + (l0.take (x5_1 : Int).toNat).length < 17592186044416 then ((some (y485 ++ (l0.take (x5_1 : Int).toNat) : List Int)).bind fun y489 => ((some (([a1] : List Int) : List Int)).bind fun y492 => (if y489.length + y492.length < 17592186044416 then ((some (y489 ++ y492 : List Int)).bind fun y495 => (if y495.length + (l0.drop (x5_1 : Int).toNat).length < 17592186044416 then (some (y495 ++ (l0.drop (x5_1 : Int).toNat))) else (none))) else (none)))) else (none)) else (none)) else (none)) = some r := rH H hy485
   have Ny485 := Aside0.mk hy485
   clear hy485
   have c30 : 0 ≤ x5_1 := ifN H
   replace H := ifT H
   have c30b0 := eq_true c30
   have c30b1 := decide_eq_true c30
   clear c30
   have c31 : x5_1 ≤ (l0.length : Int) := ifN H
   replace H := ifT H
   have c31b0 := eq_true c31
   have c31b1 := decide_eq_true c31
   clear c31
   have c32 : y485.length + (l0.take (x5_1 : Int).toNat).length < 17592186044416 := ifN H
   replace H := ifT H
   have LMc32 := Aside0.mk c32
   clear c32
   obtain ⟨y489, hy489⟩ : ∃ y_ : List Int, y_ = (y485 ++ (l0.take (x5_1 : Int).toNat)) := ⟨_, rfl⟩
   replace H : ((some (([a1] : List Int) : List Int)).bind fun y492 => (if y489.length + y492.length < 17592186044416 then ((some (y489 ++ y492 : List Int)).bind fun y495 => (if y495.length + (l0.drop (x5_1 : Int).toNat).length < 17592186044416 then (some (y495 ++ (l0.drop (x5_1 : Int).toNat))) else (none))) else (none))) = some r := rH H hy489
   have Ny489 := Aside0.mk hy489
   clear hy489
   obtain ⟨y492, hy492⟩ : ∃ y_ : List Int, y_ = (([a1] : List Int)) := ⟨_, rfl⟩
   replace H : (if y489.length + y492.length < 17592186044416 then ((some (y489 ++ y492 : List Int)).bind fun y495 => (if y495.length + (l0.drop (x5_1 : Int).toNat).length < 17592186044416 then (some (y495 ++ (l0.drop (x5_1 : Int).toNat))) else (none))) else (none)) = some r := rH H hy492
   have Ny492 := Aside0.mk hy492
   clear hy492
   have c33 : y489.length + y492.length < 17592186044416 := ifN H
   replace H := ifT H
   have LMc33 := Aside0.mk c33
   clear c33
   obtain ⟨y495, hy495⟩ : ∃ y_ : List Int, y_ = (y489 ++ y492) := ⟨_, rfl⟩
   replace H : (if y495.length + (l0.drop (x5_1 : Int).toNat).length < 17592186044416 then (some (y495 ++ (l0.drop (x5_1 : Int).toNat))) else (none)) = some r := rH H hy495
   have Ny495 := Aside0.mk hy495
   clear hy495
   have c34b0 := eq_true (dA : 0 ≤ x5_1)
   have c35b0 := eq_true (dA : x5_1 ≤ (l0.length : Int))
   have c36 : y495.length + (l0.drop (x5_1 : Int).toNat).length < 17592186044416 := ifN H
   replace H := ifT H
   have LMc36 := Aside0.mk c36
   clear c36
   obtain ⟨y499, hy499⟩ : ∃ y_ : List Int, y_ = (y495 ++ (l0.drop (x5_1 : Int).toNat)) := ⟨_, rfl⟩
   replace H : (some y499) = some r := rH H hy499
   have Ny499 := Aside0.mk hy499
   clear hy499
   obtain rfl := Option.some.inj H
   try go_wp2
   have HBo := HB
   replace HB := db HB
   obtain ⟨i038, hi038, _, hsz38, _⟩ := info_parts info3
   obtain ⟨hcut38, hA38, hC38⟩ := print_take_of (P := Try.prog) (Value.int .i64) 0 35 3 .i64 Try.underlying35 hi038 hsz38 A0 c0 l0 x5_1 (dA) (dA) HC0.out
   have HR488 := Aside0.mk (Kd.C_of_reads (h1 := fun _ => rfl) (hA38 _ (Kd.reads_of_C HR0.out)))
   have HC488 := Aside0.mk hC38
   clear hA38 hC38 hi038 hsz38
   have HL488 := Aside0.mk (show (x5_1 : Int) ≤ (l0.length : Int) from (dA))
   obtain ⟨i039, hi039, _, hsz39, _⟩ := info_parts info3
   obtain ⟨A39, hcut39, hA39, hC39⟩ := print_drop_of (P := Try.prog) (Value.int .i64) 0 35 3 .i64 Try.underlying35 hi039 hsz39 A0 c0 l0 x5_1 (dA) (dA) HC0.out
   have HR498 := Aside0.mk (Kd.C_of_reads (h1 := fun _ => rfl) (hA39 _ (Kd.reads_of_C HR0.out)))
   have HC498 := Aside0.mk hC39
   clear hA39 hC39 hi039 hsz39
   refine start_ (n := 13) (S := fun w' => True) (ds := []) (mb 13 0) (by kernel_rfl) rfl rfl trivial (fun hHeld => ?_); refine with_tabW spec_l6Put.tab6 spec_l6Put.bits6 (fun HT_ HW_ => ?_)
   generalize wr.drew = w37 at HB HR488 HR498 hHeld ⊢
   refine pa 1 36 (mb 13 2) HT_ ?_
   refine pa 2 37 (mb 13 6) HT_ ?_
   refine pa 3 38 (mb 13 14) HT_ ?_
   refine pa 5 40 (mb 13 46) HT_ ?_
   refine pa 8 43 (mb 13 302) HT_ ?_
   refine pa 9 44 (mb 13 814) HT_ ?_
   refine pa 10 45 (mb 13 1838) HT_ ?_
   refine join_ (σ := Value × Value × Value) 3 (mb 13 1919) (fun s_ => [(35, s_.1), (39, s_.2.1), (41, s_.2.2)]) (fun s_ w' => (Kd.R (Kd.int .i64) 3 w' w.heap.size (n1 s_.2.2) s_.2.1 y489) ∧ (Kd.R (Kd.int .i64) 3 w' w.heap.size (n1 s_.2.1) s_.2.2 y492) ∧ (Below w.heap.size w w')) ?_ ?_
   rotate_left
   ·
    intro hCont
    refine two_ (i := 0) (j := 6) (Ni := some 35) (Nj := some 41) (mb 13 1839) (mb 13 1902) rfl rfl rfl rfl (two_of HT_.out (by kernel_rfl)) (by decide) (by decide) (fun K hK => ?_) (fun K hK => ?_)
    ·
     skip
     refine Kd.R_lit_step (Kd.int .i64) _ 3 ?hg (N := 35) ?hd (xs := ([] : List Int)) (inner := []) (ok := fun _ => True) (okp := fun _ => True) ?hr ?hp (fun _ hk => hk) trivial (Below.refl _ _) (Nat.le_refl _) (by simp) ?_; (case hd => rfl); (case hg => rfl); (case hr => first | (go_simp; done) | (go_simp; rfl)); (case hp => exact (Reps.none _ _))
     intro v486 w40 ho41 hb hg_ hnew_
     clear hg_ hnew_
     (first | rw [← Ny485.out] at ho41 | (simp only [Int.reduceToNat] at ho41; rw [← Ny485.out] at ho41))
     have HO487 := rl w ho41
     replace HB := bs HB hb
     clear hb ho41
     refine hK.out _ _ trivial (fun hHeld => ?_)
     clear hK K
     refine nB ?_
     refine two_ (i := 4) (j := 6) (Ni := some 39) (Nj := some 41) (mb 13 1855) (mb 13 1903) rfl rfl rfl rfl (two_of HT_.out (by kernel_rfl)) (by decide) (by decide) (fun K hK => ?_) (fun K hK => ?_)
     ·
      skip
      refine Kd.R_append_rows_step (Kd.int .i64) (w0 := w) w.heap.size (by rfl) (.tmp 35) (.tmp 38) 35 3 (.int .i64 0) 8 rfl Try.underlying35 info3 rfl (by decide) (by omega) v486 y485 (l0.take (x5_1 : Int).toNat) _ _ _ (fun _ => True) (fun _ => False) rfl rfl ?aO ?aR (fun _ _ h => h) (fun _ h => h.elim) ?aF ?aB ?aS ?aL ?_
      (case aR => (have hr_ := HR488.out; rw [show (l0.take (x5_1 : Int).toNat).length = x5_1.toNat from (by rw [List.length_take]; have h_ : (x5_1 : Int) ≤ (l0.length : Int) := dA; omega)] at hr_; (repeat (first | exact (Kd.C_below hr_ HB.out) | (with_reducible refine Kd.C_alloc ?_ _) | (with_reducible refine Kd.C_drewN ?_ _) | (with_reducible refine Kd.C_drew ?_))); done))
      (case aB => exact bA)
      (case aF => exact (fun _ _ => trivial))
      (case aO => exact (rK HO487))
      (case aS => exact (below_size bA))
      (case aL => have := LMc32.out; have hlx_ := (show (l0.take (x5_1 : Int).toNat).length = x5_1.toNat from (by rw [List.length_take]; have h_ : (x5_1 : Int) ≤ (l0.length : Int) := dA; omega)); omega)
      intro v490 w42 ho hb hg hat
      rw [← Ny489.out] at ho
      have n0_ := Aside0.mk (hb)
      have n1_ := Aside0.mk (ho)
      clear HB
      clear HO487
      have HB := n0_
      have HO491 := n1_
      clear n0_ n1_
      clear ho hb hg hat
      refine hK.out _ _ trivial (fun hHeld => ?_)
      clear hK K
      refine nB ?_
      refine oa 6 41 (mb 13 1919) HT_ (fun K hK => ?_)
      refine Kd.R_lit_step (Kd.int .i64) _ 3 ?hg (N := 41) ?hd (xs := ([a1] : List Int)) (inner := [.int .i64 a1]) (ok := fun _ => True) (okp := fun _ => True) ?hr ?hp (fun _ hk => hk) trivial (Below.refl _ _) (Nat.le_refl _) (by simp) ?_; (case hd => rfl); (case hg => rfl); (case hr => first | (go_simp; done) | (go_simp; rfl)); (case hp => exact (Reps.one (show Kd.M (Kd.int .i64) _ _ _ a1 [.int .i64 a1] from rfl) (Reps.none _ _)))
      intro v493 w43 ho44 hb hg_ hnew_
      clear hg_ hnew_
      (first | rw [← Ny492.out] at ho44 | (simp only [Int.reduceToNat] at ho44; rw [← Ny492.out] at ho44))
      have HO494 := rl w (rn ho44 HO491)
      replace HO491 := re HO491 ho44 hb
      replace HB := bs HB hb
      clear hb ho44
      refine hK.out _ _ trivial (fun hHeld => ?_)
      clear hK K
      refine nB ?_
      exact mB (hCont (v486, v490, v493) _ ⟨(rm HO491 (fun _ hk => hk.2)), (rm HO494 (fun _ hk => hk.2)), bA⟩)
     ·
      skip
      refine Kd.R_lit_step (Kd.int .i64) _ 3 ?hg (N := 41) ?hd (xs := ([a1] : List Int)) (inner := [.int .i64 a1]) (ok := fun _ => True) (okp := fun _ => True) ?hr ?hp (fun _ hk => hk) trivial (Below.refl _ _) (Nat.le_refl _) (by simp) ?_; (case hd => rfl); (case hg => rfl); (case hr => first | (go_simp; done) | (go_simp; rfl)); (case hp => exact (Reps.one (show Kd.M (Kd.int .i64) _ _ _ a1 [.int .i64 a1] from rfl) (Reps.none _ _)))
      intro v493 w42 ho43 hb hg_ hnew_
      clear hg_ hnew_
      (first | rw [← Ny492.out] at ho43 | (simp only [Int.reduceToNat] at ho43; rw [← Ny492.out] at ho43))
      have HO494 := rl w (rn ho43 HO487)
      replace HO487 := re HO487 ho43 hb
      replace HB := bs HB hb
      clear hb ho43
      refine hK.out _ _ trivial (fun hHeld => ?_)
      clear hK K
      refine nB ?_
      refine oa 4 39 (mb 13 1919) HT_ (fun K hK => ?_)
      refine Kd.R_append_rows_step (Kd.int .i64) (w0 := w) w.heap.size (by rfl) (.tmp 35) (.tmp 38) 35 3 (.int .i64 0) 8 rfl Try.underlying35 info3 rfl (by decide) (by omega) v486 y485 (l0.take (x5_1 : Int).toNat) _ _ _ (n1 v493) (fun _ => False) rfl rfl ?aO ?aR (fun _ _ h => h) (fun _ h => h.elim) ?aF ?aB ?aS ?aL ?_
      (case aR => (have hr_ := HR488.out; rw [show (l0.take (x5_1 : Int).toNat).length = x5_1.toNat from (by rw [List.length_take]; have h_ : (x5_1 : Int) ≤ (l0.length : Int) := dA; omega)] at hr_; (repeat (first | exact (Kd.C_below hr_ HB.out) | (with_reducible refine Kd.C_alloc ?_ _) | (with_reducible refine Kd.C_drewN ?_ _) | (with_reducible refine Kd.C_drew ?_))); done))
      (case aB => exact bA)
      (case aF => exact (fun k_ hk => Kd.fresh' (Kd.R_lt (rK HO494)) k_ hk))
      (case aO => exact (rm HO487 (fun _ hk => hk.2)))
      (case aS => exact (below_size bA))
      (case aL => have := LMc32.out; have hlx_ := (show (l0.take (x5_1 : Int).toNat).length = x5_1.toNat from (by rw [List.length_take]; have h_ : (x5_1 : Int) ≤ (l0.length : Int) := dA; omega)); omega)
      intro v490 w44 ho hb hg hat
      rw [← Ny489.out] at ho
      have n0_ := Aside0.mk (Kd.R_after (ok := (fun _ => True)) (rK HO494) hg hat)
      have n1_ := Aside0.mk (hb)
      have n2_ := Aside0.mk (ho)
      clear HO494
      clear HB
      clear HO487
      have HO494 := n0_
      have HB := n1_
      have HO491 := n2_
      clear n0_ n1_ n2_
      clear ho hb hg hat
      refine hK.out _ _ trivial (fun hHeld => ?_)
      clear hK K
      refine nB ?_
      exact mB (hCont (v486, v490, v493) _ ⟨(rK HO491), (rm HO494 (fun _ hk => hk.2)), bA⟩)
    ·
     skip
     refine Kd.R_lit_step (Kd.int .i64) _ 3 ?hg (N := 41) ?hd (xs := ([a1] : List Int)) (inner := [.int .i64 a1]) (ok := fun _ => True) (okp := fun _ => True) ?hr ?hp (fun _ hk => hk) trivial (Below.refl _ _) (Nat.le_refl _) (by simp) ?_; (case hd => rfl); (case hg => rfl); (case hr => first | (go_simp; done) | (go_simp; rfl)); (case hp => exact (Reps.one (show Kd.M (Kd.int .i64) _ _ _ a1 [.int .i64 a1] from rfl) (Reps.none _ _)))
     intro v493 w40 ho41 hb hg_ hnew_
     clear hg_ hnew_
     (first | rw [← Ny492.out] at ho41 | (simp only [Int.reduceToNat] at ho41; rw [← Ny492.out] at ho41))
     have HO494 := rl w ho41
     replace HB := bs HB hb
     clear hb ho41
     refine hK.out _ _ trivial (fun hHeld => ?_)
     clear hK K
     refine nB ?_
     refine oa 0 35 (mb 13 1903) HT_ (fun K hK => ?_)
     refine Kd.R_lit_step (Kd.int .i64) _ 3 ?hg (N := 35) ?hd (xs := ([] : List Int)) (inner := []) (ok := fun _ => True) (okp := fun _ => True) ?hr ?hp (fun _ hk => hk) trivial (Below.refl _ _) (Nat.le_refl _) (by simp) ?_; (case hd => rfl); (case hg => rfl); (case hr => first | (go_simp; done) | (go_simp; rfl)); (case hp => exact (Reps.none _ _))
     intro v486 w42 ho43 hb hg_ hnew_
     clear hg_ hnew_
     (first | rw [← Ny485.out] at ho43 | (simp only [Int.reduceToNat] at ho43; rw [← Ny485.out] at ho43))
     have HO487 := rl w (rn ho43 HO494)
     replace HO494 := re HO494 ho43 hb
     replace HB := bs HB hb
     clear hb ho43
     refine hK.out _ _ trivial (fun hHeld => ?_)
     clear hK K
     refine nB ?_
     refine oa 4 39 (mb 13 1919) HT_ (fun K hK => ?_)
     refine Kd.R_append_rows_step (Kd.int .i64) (w0 := w) w.heap.size (by rfl) (.tmp 35) (.tmp 38) 35 3 (.int .i64 0) 8 rfl Try.underlying35 info3 rfl (by decide) (by omega) v486 y485 (l0.take (x5_1 : Int).toNat) _ _ _ (n1 v493) (fun _ => False) rfl rfl ?aO ?aR (fun _ _ h => h) (fun _ h => h.elim) ?aF ?aB ?aS ?aL ?_
     (case aR => (have hr_ := HR488.out; rw [show (l0.take (x5_1 : Int).toNat).length = x5_1.toNat from (by rw [List.length_take]; have h_ : (x5_1 : Int) ≤ (l0.length : Int) := dA; omega)] at hr_; (repeat (first | exact (Kd.C_below hr_ HB.out) | (with_reducible refine Kd.C_alloc ?_ _) | (with_reducible refine Kd.C_drewN ?_ _) | (with_reducible refine Kd.C_drew ?_))); done))
     (case aB => exact bA)
     (case aF => exact (fun k_ hk => Kd.fresh' (Kd.R_lt (rK HO494)) k_ hk))
     (case aO => exact (rm HO487 (fun _ hk => hk.2)))
     (case aS => exact (below_size bA))
     (case aL => have := LMc32.out; have hlx_ := (show (l0.take (x5_1 : Int).toNat).length = x5_1.toNat from (by rw [List.length_take]; have h_ : (x5_1 : Int) ≤ (l0.length : Int) := dA; omega)); omega)
     intro v490 w44 ho hb hg hat
     rw [← Ny489.out] at ho
     have n0_ := Aside0.mk (Kd.R_after (ok := (fun _ => True)) (rK HO494) hg hat)
     have n1_ := Aside0.mk (hb)
     have n2_ := Aside0.mk (ho)
     clear HO494
     clear HB
     clear HO487
     have HO494 := n0_
     have HB := n1_
     have HO491 := n2_
     clear n0_ n1_ n2_
     clear ho hb hg hat
     refine hK.out _ _ trivial (fun hHeld => ?_)
     clear hK K
     refine nB ?_
     exact mB (hCont (v486, v490, v493) _ ⟨(rK HO491), (rm HO494 (fun _ hk => hk.2)), bA⟩)
   rintro ⟨v486, v490, v493⟩ w45 ⟨h0_, h1_, h2_⟩
   have n0_ : Aside0 (Kd.R (Kd.int .i64) 3 w45 w.heap.size (n1 v493) v490 y489) := ⟨h0_⟩
   have n1_ : Aside0 (Kd.R (Kd.int .i64) 3 w45 w.heap.size (n1 v490) v493 y492) := ⟨h1_⟩
   have n2_ : Aside0 (Below w.heap.size w w45) := ⟨h2_⟩
   clear HB
   clear h0_ h1_ h2_
   have HO491 := n0_
   have HO494 := n1_
   have HB := n2_
   clear n0_ n1_ n2_
   have hHeld := trivial
   obtain ⟨Ao47, co47, eo47⟩ := Kd.R_slice HO494.out
   (first | subst eo47 | (injection eo47 with f1_ f2_ f3_; have f4_ := f1_.symm; have f5_ := f3_.symm; clear f1_ f2_ f3_; subst f4_; subst f5_))
   refine norm_ (a' := ?_) ?_ ?_
   rotate_left
   ·
    simp only [putAll, Act.put, List.setIfInBounds_toArray, List.set_cons_zero, List.set_cons_succ]
    rfl
   refine oa 7 42 (mb 13 2047) HT_ (fun K hK => ?_)
   refine Kd.R_append_rows_step (Kd.int .i64) (w0 := w) w.heap.size (by rfl) (.tmp 39) (.tmp 41) 35 3 (.int .i64 0) 8 rfl Try.underlying35 info3 rfl (by decide) (by omega) v490 y489 y492 _ _ _ (n1 (.slice Ao47 y492.length co47)) (fun _ => False) rfl rfl ?aO ?aR (fun _ _ h => h) (fun _ h => h.elim) ?aF ?aB ?aS ?aL ?_
   (case aR => repeat (first | exact (Kd.R_reads' HO494.out).2.2 | (with_reducible refine Kd.C_alloc ?_ _) | (with_reducible refine Kd.C_drewN ?_ _) | (with_reducible refine Kd.C_drew ?_)))
   (case aB => exact bA)
   (case aF => exact (fun k_ hk => Kd.fresh' (Kd.R_lt (rK HO494)) k_ hk))
   (case aO => exact (rK HO491))
   (case aS => exact (below_size bA))
   (case aL => have := LMc33.out; omega)
   intro v496 w46 ho hb hg hat
   rw [← Ny495.out] at ho
   have n0_ := Aside0.mk (Kd.R_after (ok := (fun _ => True)) (rm HO494 (fun _ hk => ⟨trivial, hk⟩)) hg hat)
   have n1_ := Aside0.mk (hb)
   have n2_ := Aside0.mk (ho)
   clear HO494
   clear HB
   clear HO491
   have HO494 := n0_
   have HB := n1_
   have HO497 := n2_
   clear n0_ n1_ n2_
   clear ho hb hg hat
   refine hK.out _ _ trivial (fun hHeld => ?_)
   clear hK K
   refine nB ?_
   refine oa 11 46 (mb 13 4095) HT_ (fun K hK => ?_)
   refine Kd.R_append_rows_step (Kd.int .i64) (w0 := w) w.heap.size (by rfl) (.tmp 42) (.tmp 45) 35 3 (.int .i64 0) 8 rfl Try.underlying35 info3 rfl (by decide) (by omega) v496 y495 (l0.drop (x5_1 : Int).toNat) _ _ _ (n1 (.slice Ao47 y492.length co47)) (fun _ => False) rfl rfl ?aO ?aR (fun _ _ h => h) (fun _ h => h.elim) ?aF ?aB ?aS ?aL ?_
   (case aR => (have hr_ := HR498.out; rw [show (l0.drop (x5_1 : Int).toNat).length = (l0.length - x5_1.toNat) from List.length_drop] at hr_; (repeat (first | exact (Kd.C_below hr_ HB.out) | (with_reducible refine Kd.C_alloc ?_ _) | (with_reducible refine Kd.C_drewN ?_ _) | (with_reducible refine Kd.C_drew ?_))); done))
   (case aB => exact bA)
   (case aF => exact (fun k_ hk => Kd.fresh' (Kd.R_lt (rK HO494)) k_ hk))
   (case aO => exact (rK HO497))
   (case aS => exact (below_size bA))
   (case aL => have := LMc36.out; have hlx_ := (show (l0.drop (x5_1 : Int).toNat).length = (l0.length - x5_1.toNat) from List.length_drop); omega)
   intro v500 w48 ho hb hg hat
   rw [← Ny499.out] at ho
   have n0_ := Aside0.mk (Kd.R_after (ok := (fun _ => True)) (rK HO494) hg hat)
   have n1_ := Aside0.mk (hb)
   have n2_ := Aside0.mk (ho)
   clear HO494
   clear HB
   clear HO497
   have HO494 := n0_
   have HB := n1_
   have HO501 := n2_
   clear n0_ n1_ n2_
   clear ho hb hg hat
   refine hK.out _ _ trivial (fun hHeld => ?_)
   clear hK K
   refine nB ?_
   refine pa 12 4 (mb 13 8191) HT_ ?_
   refine eA HT_ ?_
   try go_wp2
   go_ret
   exact ⟨_, rA, rm HO501 (fun _ hk => trivial), bA⟩

/-! ### spec_AddToStage: function 134 -/
mutual
def spec_AddToStage.l0 : Nat → List (S50) → List Int → List Int → Int → Option (List Int)
 | 0, _, _, _, _ => none
 | k + 1, x0, x1, x5, x6 => if x6 < (x0.length : Int) then ((spec_IsTogether.f k x0 x1).bind fun t508 => (spec_AddToStage.j1 k x0 x1 x5 x6 t508)) else (spec_AddToStage.j1 k x0 x1 x5 x6 false)
def spec_AddToStage.j1 : Nat → List (S50) → List Int → List Int → Int → Bool → Option (List Int)
 | 0, _, _, _, _, _ => none
 | k + 1, x0, x1, x5, x6, x19 => if x19 = true then (if 0 ≤ x6 then (if x6 < (x0.length : Int) then ((spec_l6Put.f k x5 ((rd_T50 x0 x6).f0)).bind fun t510 => ((spec_IsTogether.f k x0 t510).bind fun t513 => (if t513 = true then (spec_AddToStage.l0 k x0 x1 t510 (wrap64 (x6 + 1))) else (spec_AddToStage.l0 k x0 x1 x5 (wrap64 (x6 + 1)))))) else (none)) else (none)) else (some x5)
end
def spec_AddToStage.f (k : Nat) (l0 : List (S50)) (l1 : List Int) : Option (List Int) := (some (([] : List Int) : List Int)).bind fun y502 => (if y502.length + l1.length < 17592186044416 then (spec_AddToStage.l0 k l0 l1 (y502 ++ l1) 0) else (none))
theorem spec_AddToStage.mono_l : ∀ k, (∀ y0 y1 y2 y3, LeO (spec_AddToStage.l0 k y0 y1 y2 y3) (spec_AddToStage.l0 (k + 1) y0 y1 y2 y3)) ∧ (∀ y0 y1 y2 y3 y4, LeO (spec_AddToStage.j1 k y0 y1 y2 y3 y4) (spec_AddToStage.j1 (k + 1) y0 y1 y2 y3 y4))
 | 0 => ⟨fun _ _ _ _ r h => by simp [spec_AddToStage.l0] at h, fun _ _ _ _ _ r h => by simp [spec_AddToStage.j1] at h⟩
 | k + 1 => by
  obtain ⟨ih0, ih1⟩ := spec_AddToStage.mono_l k
  refine ⟨?_, ?_⟩
  ·
   intro y0 y1 y2 y3
   unfold spec_AddToStage.l0
   exact mz4 ih0 ih1 spec_IsTogether.mono spec_l6Put.mono
  ·
   intro y0 y1 y2 y3 y4
   unfold spec_AddToStage.j1
   exact mz4 ih0 ih1 spec_IsTogether.mono spec_l6Put.mono
theorem spec_AddToStage.mono : ∀ a0 a1 k, LeO (spec_AddToStage.f k a0 a1) (spec_AddToStage.f (k + 1) a0 a1) := by
 intro a0 a1 k
 obtain ⟨ih0, ih1⟩ := spec_AddToStage.mono_l k
 unfold spec_AddToStage.f
 exact mz4 ih0 ih1 spec_IsTogether.mono spec_l6Put.mono
set_option maxHeartbeats 8000000 in
set_option maxRecDepth 100000 in
theorem spec_AddToStage.calls (k : Nat) (A0 : Option Addr) (c0 : Nat) (l0 : List (S50)) (A1 : Option Addr) (c1 : Nat) (l1 : List Int) (r : List Int) (w : World) (hr0 : Kd.C k50 w A0 l0.length l0) (hc0 : l0.length ≤ c0) (hr1 : Kd.C (Kd.int .i64) w A1 l1.length l1) (hc1 : l1.length ≤ c1) (h : spec_AddToStage.f k l0 l1 = some r) :
  Calls Try.prog 134 #[.slice A0 l0.length c0, .slice A1 l1.length c1] w fun e w' => ∃ v0_ : Value, e = .returned (v0_) ∧ Kd.R (Kd.int .i64) 3 w' w.heap.size (fun _ => True) v0_ r ∧ Below w.heap.size w w' := by
 have HR0 := Aside0.mk hr0
 have HC0 := Aside0.mk hc0
 clear hr0 hc0
 have HR1 := Aside0.mk hr1
 have HC1 := Aside0.mk hc1
 clear hr1 hc1
 have HB := Aside0.mk (Below.refl w.heap.size w)
 have H : ((some (([] : List Int) : List Int)).bind fun y502 => (if y502.length + l1.length < 17592186044416 then (spec_AddToStage.l0 k l0 l1 (y502 ++ l1) 0) else (none))) = some r := h
 clear h
 obtain ⟨y502, hy502⟩ : ∃ y_ : List Int, y_ = (([] : List Int)) := ⟨_, rfl⟩
 replace H : (if y502.length + l1.length < 17592186044416 then (spec_AddToStage.l0 k l0 l1 (y502 ++ l1) 0) else (none)) = some r := rH H hy502
 have Ny502 := Aside0.mk hy502
 clear hy502
 have c3 : y502.length + l1.length < 17592186044416 := ifN H
 replace H := ifT H
 have LMc3 := Aside0.mk c3
 clear c3
 obtain ⟨y505, hy505⟩ : ∃ y_ : List Int, y_ = (y502 ++ l1) := ⟨_, rfl⟩
 replace H : (spec_AddToStage.l0 k l0 l1 y505 0) = some r := rH H hy505
 have Ny505 := Aside0.mk hy505
 clear hy505
 have H' := Aside0.mk H
 clear H
 go_enter Try.func134, Try.ntmps134
 go_wp2_with (first | ((with_reducible refine gate_dst (N := 8) rfl ?_); refine Kd.R_lit (Kd.int .i64) _ 3 ?hg (N := 8) ?hd (xs := ([] : List Int)) (inner := []) (ok := fun _ => True) (okp := fun _ => True) ?hr ?hp (fun _ hk => hk) trivial (Below.refl _ _) (Nat.le_refl _) (by simp) ?_; (case hd => rfl); (case hg => rfl); (case hr => first | (go_simp; done) | (go_simp; rfl)); (case hp => exact (Reps.none _ _)); intro v503 w4 ho5 hb hg_ hnew_; clear hg_ hnew_; (first | rw [← Ny502.out] at ho5 | (simp only [Int.reduceToNat] at ho5; rw [← Ny502.out] at ho5)); have HO504 := rl w ho5; replace HB := bs HB hb; clear hb ho5) | ((with_reducible refine gate_builtin (b := .append) (xs := #[.tmp 8, .tmp 9]) rfl ?_); at_builtin; refine Kd.R_append_rows (Kd.int .i64) (w0 := w) w.heap.size rfl (.tmp 8) (.tmp 9) 35 3 (.int .i64 0) 8 rfl Try.underlying35 info3 rfl (by decide) (by omega) v503 y502 l1 _ _ _ (fun _ => True) (fun _ => False) rfl rfl ?aO ?aR (fun _ _ h => h) (fun _ h => h.elim) ?aF ?aB ?aS ?aL ?_; (case aR => repeat (first | exact (Kd.C_below HR1.out HB.out) | (with_reducible refine Kd.C_alloc ?_ _) | (with_reducible refine Kd.C_drewN ?_ _) | (with_reducible refine Kd.C_drew ?_))); (case aB => exact bA); (case aF => exact (fun _ _ => trivial)); (case aO => exact (rK HO504)); (case aS => exact (below_size bA)); (case aL => have := LMc3.out; omega); intro v506 w6 ho hb hg hat; rw [← Ny505.out] at ho; have n0_ := Aside0.mk (hb); have n1_ := Aside0.mk (ho); clear HB; clear HO504; have HB := n0_; have HO507 := n1_; clear n0_ n1_; clear ho hb hg hat))
 go_loopg [5, 6] k (fun kq v5 v6 w' => ∃ (x5_1 : List Int) (x6_1 : Int), v6 = .int .i64 x6_1 ∧ Aside0 (spec_AddToStage.l0 kq l0 l1 x5_1 x6_1 = some r) ∧ Aside0 (kq ≤ k) ∧ Aside0 (Kd.R (Kd.int .i64) 3 w' w.heap.size (fun _ => True) v5 x5_1) ∧ Aside0 (Below w.heap.size w w'))
 case atStart => exact ⟨(y505), (0), rS, H', ⟨Nat.le_refl _⟩, ⟨rK HO507⟩, ⟨bA⟩⟩
 case round =>
  clear H'
  obtain ⟨x5_1, x6_1, rfl, HA, HK1, HO_5, HB⟩ := hrel
  cases gk with
  | zero => exact absurd HA.out (by simp [spec_AddToStage.l0])
  | succ k1 =>
   have H := HA.out
   clear HA
   simp only [spec_AddToStage.l0] at H
   have HC7 := Aside0.mk H
   clear H
   go_upto_region 3 with (fail)
   go_cut [19] (fun v19 wc => ∃ (kq : Nat) (x19_6 : Bool), v19 = .bool x19_6 ∧ Aside0 (spec_AddToStage.j1 kq l0 l1 x5_1 x6_1 x19_6 = some r) ∧ Aside0 (kq ≤ k1) ∧ Aside0 (Kd.R (Kd.int .i64) 3 wc w.heap.size (fun _ => True) u5 x5_1) ∧ Aside0 (Below w.heap.size w wc))
   case first =>
    have H := HC7.out
    clear HC7
    by_cases c8 : x6_1 < (l0.length : Int)
    ·
     rw [if_pos c8] at H
     have c8b0 := decide_eq_true c8
     clear c8
     (first | rw [c8b0] | (simp only [i64_w, i32_w]; rw [c8b0]) | skip)
     obtain ⟨t508, A9, H⟩ := bindE H
     try dsimp only at H
     have H' := Aside0.mk H
     clear H
     go_wp2_with (first | (go_at_call 112; (with_reducible refine (spec_IsTogether.calls k1 _ _ l0 _ _ l1 t508 _ ?_ ?_ ?_ ?_ A9.out).mono ?_); exact cB HR0; exact HC0.out; exact cB HR1; exact HC1.out; rintro e w10 ⟨rfl, hb⟩; replace HO_5 := rb HO_5 hb; replace HB := bs HB hb; (try clear hb)))
     go_meet
     case rel => exact ⟨_, (t508), rS, H', ⟨by have := HK1.out; first | omega | exact Nat.le_refl _⟩, ⟨rK HO_5⟩, ⟨bA⟩⟩
    rw [if_neg c8] at H
    have c8b0 := decide_eq_false c8
    clear c8
    (first | rw [c8b0] | (simp only [i64_w, i32_w]; rw [c8b0]) | skip)
    have H' := Aside0.mk H
    clear H
    go_wp2
    go_meet
    case rel => exact ⟨_, (false), rS, H', ⟨by have := HK1.out; first | omega | exact Nat.le_refl _⟩, ⟨rK HO_5⟩, ⟨bA⟩⟩
   case rest =>
    clear HC7
    obtain ⟨kq, x19_6, rfl, HA, HJ6, HO_5, HB⟩ := hcut
    cases kq with
    | zero => exact absurd HA.out (by simp [spec_AddToStage.j1])
    | succ kj6 =>
     have H := HA.out
     clear HA
     simp only [spec_AddToStage.j1] at H
     by_cases c11 : x19_6 = true
     ·
      subst c11
      have H1 : (if 0 ≤ x6_1 then (if x6_1 < (l0.length : Int) then ((spec_l6Put.f kj6 x5_1 ((rd_T50 l0 x6_1).f0)).bind fun t510 => ((spec_IsTogether.f kj6 l0 t510).bind fun t513 => (if t513 = true then (spec_AddToStage.l0 kj6 l0 l1 t510 (wrap64 (x6_1 + 1))) else (spec_AddToStage.l0 kj6 l0 l1 x5_1 (wrap64 (x6_1 + 1)))))) else (none)) else (none)) = some r := by rw [if_pos rfl] at H; exact H
      clear H
      have H := H1
      clear H1
      have c12 : 0 ≤ x6_1 := ifN H
      replace H := ifT H
      have c12b0 := decide_eq_true c12
      clear c12
      have c13 : x6_1 < (l0.length : Int) := ifN H
      replace H := ifT H
      have c13b0 := decide_eq_true c13
      clear c13
      obtain ⟨t510, A14, H⟩ := bindE H
      try dsimp only at H
      obtain ⟨t513, A15, H⟩ := bindE H
      try dsimp only at H
      by_cases c16 : t513 = true
      ·
       subst c16
       have H1 : (spec_AddToStage.l0 kj6 l0 l1 t510 (wrap64 (x6_1 + 1))) = some r := by rw [if_pos rfl] at H; exact H
       clear H
       have H := H1
       clear H1
       have H' := Aside0.mk H
       clear H
       obtain ⟨p509, q509⟩ : 0 ≤ (x6_1 : Int) ∧ x6_1 < (l0.length : Int) := ⟨dA, dA⟩
       obtain ⟨ad509, e509, hx509_0, hx509_1, hx509_2, hx509_3⟩ := at_T50 (Kd.C_below HR0.out HB.out) x6_1 p509 q509
       cases e509
       obtain ⟨p509, q509⟩ := eT p509 q509
       obtain ⟨Ao17, co17, eo17⟩ := Kd.R_slice HO_5.out
       subst eo17
       go_wp2_with (first | ((with_reducible refine gate_callee (f := 135) rfl ?_); refine gL (some 28) Try.func135 #[.slice Ao17 x5_1.length co17, .int .i64 ((rd_T50 l0 x6_1).f0)] ?_; (with_reducible refine (spec_l6Put.calls kj6 _ _ x5_1 ((rd_T50 l0 x6_1).f0) t510 _ ?_ ?_ A14.out).mono ?_); exact cO ⟨(Kd.R_reads' HO_5.out).2.2⟩; exact (Kd.R_reads' HO_5.out).2.1; rintro e w18 ⟨v511, rfl, ho0, hb⟩; refine ⟨_, rfl, ?_⟩; have HO512 := rl w (rn ho0 HO_5); replace HO_5 := re HO_5 ho0 hb; replace HB := bs HB hb; (try clear hb); (try clear ho0); obtain ⟨Ao19, co19, eo19⟩ := Kd.R_slice HO512.out; subst eo19) | ((with_reducible refine gate_callee (f := 112) rfl ?_); refine gL (some 31) Try.func112 #[.slice (some ad509) l0.length c0, .slice Ao19 t510.length co19] ?_; (with_reducible refine (spec_IsTogether.calls kj6 _ _ l0 _ _ t510 true _ ?_ ?_ ?_ ?_ A15.out).mono ?_); exact cB HR0; exact HC0.out; exact cO ⟨(Kd.R_reads' HO512.out).2.2⟩; exact (Kd.R_reads' HO512.out).2.1; rintro e w20 ⟨rfl, hb⟩; refine ⟨_, rfl, ?_⟩; replace HO_5 := rb HO_5 hb; replace HO512 := rb HO512 hb; replace HB := bs HB hb; (try clear hb)))
       go_roundg kj6
       case measure => have := HK1.out; have := HJ6.out; omega
       case rel => exact ⟨(t510), (wrap64 (x6_1 + 1)), rS, H', ⟨by have := HK1.out; have := HJ6.out; omega⟩, ⟨rm HO512 (fun _ hk => trivial)⟩, ⟨bA⟩⟩
      replace c16 := Bool.eq_false_iff.mpr c16
      subst c16
      have H1 : (spec_AddToStage.l0 kj6 l0 l1 x5_1 (wrap64 (x6_1 + 1))) = some r := by rw [if_neg (show ¬ (false = true) by decide)] at H; exact H
      clear H
      have H := H1
      clear H1
      have H' := Aside0.mk H
      clear H
      obtain ⟨p509, q509⟩ : 0 ≤ (x6_1 : Int) ∧ x6_1 < (l0.length : Int) := ⟨dA, dA⟩
      obtain ⟨ad509, e509, hx509_0, hx509_1, hx509_2, hx509_3⟩ := at_T50 (Kd.C_below HR0.out HB.out) x6_1 p509 q509
      cases e509
      obtain ⟨p509, q509⟩ := eT p509 q509
      obtain ⟨Ao21, co21, eo21⟩ := Kd.R_slice HO_5.out
      subst eo21
      go_wp2_with (first | ((with_reducible refine gate_callee (f := 135) rfl ?_); refine gL (some 28) Try.func135 #[.slice Ao21 x5_1.length co21, .int .i64 ((rd_T50 l0 x6_1).f0)] ?_; (with_reducible refine (spec_l6Put.calls kj6 _ _ x5_1 ((rd_T50 l0 x6_1).f0) t510 _ ?_ ?_ A14.out).mono ?_); exact cO ⟨(Kd.R_reads' HO_5.out).2.2⟩; exact (Kd.R_reads' HO_5.out).2.1; rintro e w22 ⟨v511, rfl, ho0, hb⟩; refine ⟨_, rfl, ?_⟩; have HO512 := rl w (rn ho0 HO_5); replace HO_5 := re HO_5 ho0 hb; replace HB := bs HB hb; (try clear hb); (try clear ho0); obtain ⟨Ao23, co23, eo23⟩ := Kd.R_slice HO512.out; subst eo23) | ((with_reducible refine gate_callee (f := 112) rfl ?_); refine gL (some 31) Try.func112 #[.slice (some ad509) l0.length c0, .slice Ao23 t510.length co23] ?_; (with_reducible refine (spec_IsTogether.calls kj6 _ _ l0 _ _ t510 false _ ?_ ?_ ?_ ?_ A15.out).mono ?_); exact cB HR0; exact HC0.out; exact cO ⟨(Kd.R_reads' HO512.out).2.2⟩; exact (Kd.R_reads' HO512.out).2.1; rintro e w24 ⟨rfl, hb⟩; refine ⟨_, rfl, ?_⟩; replace HO_5 := rb HO_5 hb; replace HO512 := rb HO512 hb; replace HB := bs HB hb; (try clear hb)))
      go_roundg kj6
      case measure => have := HK1.out; have := HJ6.out; omega
      case rel => exact ⟨(x5_1), (wrap64 (x6_1 + 1)), rS, H', ⟨by have := HK1.out; have := HJ6.out; omega⟩, ⟨rm HO_5 (fun _ hk => trivial)⟩, ⟨bA⟩⟩
     replace c11 := Bool.eq_false_iff.mpr c11
     subst c11
     have H1 : (some x5_1) = some r := by rw [if_neg (show ¬ (false = true) by decide)] at H; exact H
     clear H
     have H := H1
     clear H1
     obtain rfl := Option.some.inj H
     go_wp2
     go_ret
     exact ⟨_, rA, rK HO_5, bA⟩

/-! ### spec_CoverOf: function 89 -/
mutual
def spec_CoverOf.l0 : Nat → List (S50) → List (List Int) → List Int → Int → Option ((List (List Int)))
 | 0, _, _, _, _ => none
 | k + 1, x0, x3, x4, x5 => if x5 < (x0.length : Int) then ((spec_ArePaths.f k x0).bind fun t520 => (spec_CoverOf.j1 k x0 x3 x4 x5 t520)) else (spec_CoverOf.j1 k x0 x3 x4 x5 false)
def spec_CoverOf.j1 : Nat → List (S50) → List (List Int) → List Int → Int → Bool → Option ((List (List Int)))
 | 0, _, _, _, _, _ => none
 | k + 1, x0, x3, x4, x5, x17 => if x17 = true then (if 0 ≤ x5 then (if x5 < (x0.length : Int) then ((spec_l6Has.f k x4 ((rd_T50 x0 x5).f0)).bind fun t522 => (if t522 = true then (spec_CoverOf.l0 k x0 x3 x4 (wrap64 (x5 + 1))) else ((spec_AddToStage.f k x0 (([(rd_T50 x0 x5).f0] : List Int))).bind fun t527 => (if x3.length < 5864062014805 then (spec_CoverOf.l1 k x0 (x3 ++ [t527]) x4 x5 t527 0) else (none))))) else (none)) else (none)) else (some x3)
def spec_CoverOf.l1 : Nat → List (S50) → List (List Int) → List Int → Int → List Int → Int → Option ((List (List Int)))
 | 0, _, _, _, _, _, _ => none
 | k + 1, x0, x3, x4, x5, x6, x7 => if x7 < (x6.length : Int) then (if 0 ≤ x7 then ((spec_l6Put.f k x4 (rd x6 x7)).bind fun t534 => (spec_CoverOf.l1 k x0 x3 t534 x5 x6 (wrap64 (x7 + 1)))) else (none)) else (spec_CoverOf.l0 k x0 x3 x4 (wrap64 (x5 + 1)))
end
def spec_CoverOf.f (k : Nat) (l0 : List (S50)) : Option ((List (List Int))) := spec_CoverOf.l0 k l0 (([] : List (List Int))) (([] : List Int)) 0
theorem spec_CoverOf.mono_l : ∀ k, (∀ y0 y1 y2 y3, LeO (spec_CoverOf.l0 k y0 y1 y2 y3) (spec_CoverOf.l0 (k + 1) y0 y1 y2 y3)) ∧ (∀ y0 y1 y2 y3 y4, LeO (spec_CoverOf.j1 k y0 y1 y2 y3 y4) (spec_CoverOf.j1 (k + 1) y0 y1 y2 y3 y4)) ∧ (∀ y0 y1 y2 y3 y4 y5, LeO (spec_CoverOf.l1 k y0 y1 y2 y3 y4 y5) (spec_CoverOf.l1 (k + 1) y0 y1 y2 y3 y4 y5))
 | 0 => ⟨fun _ _ _ _ r h => by simp [spec_CoverOf.l0] at h, fun _ _ _ _ _ r h => by simp [spec_CoverOf.j1] at h, fun _ _ _ _ _ _ r h => by simp [spec_CoverOf.l1] at h⟩
 | k + 1 => by
  obtain ⟨ih0, ih1, ih2⟩ := spec_CoverOf.mono_l k
  refine ⟨?_, ?_, ?_⟩
  ·
   intro y0 y1 y2 y3
   unfold spec_CoverOf.l0
   exact mz7 ih0 ih1 ih2 spec_AddToStage.mono spec_ArePaths.mono spec_l6Has.mono spec_l6Put.mono
  ·
   intro y0 y1 y2 y3 y4
   unfold spec_CoverOf.j1
   exact mz7 ih0 ih1 ih2 spec_AddToStage.mono spec_ArePaths.mono spec_l6Has.mono spec_l6Put.mono
  ·
   intro y0 y1 y2 y3 y4 y5
   unfold spec_CoverOf.l1
   exact mz7 ih0 ih1 ih2 spec_AddToStage.mono spec_ArePaths.mono spec_l6Has.mono spec_l6Put.mono
theorem spec_CoverOf.mono : ∀ a0 k, LeO (spec_CoverOf.f k a0) (spec_CoverOf.f (k + 1) a0) := by
 intro a0 k
 obtain ⟨ih0, ih1, ih2⟩ := spec_CoverOf.mono_l k
 unfold spec_CoverOf.f
 exact mz7 ih0 ih1 ih2 spec_AddToStage.mono spec_ArePaths.mono spec_l6Has.mono spec_l6Put.mono
set_option maxHeartbeats 8000000 in
set_option maxRecDepth 100000 in
theorem spec_CoverOf.calls (k : Nat) (A0 : Option Addr) (c0 : Nat) (l0 : List (S50)) (r : List (List Int)) (w : World) (hr0 : Kd.C k50 w A0 l0.length l0) (hc0 : l0.length ≤ c0) (h : spec_CoverOf.f k l0 = some r) :
  Calls Try.prog 89 #[.slice A0 l0.length c0] w fun e w' => ∃ v0_ : Value, e = .returned (v0_) ∧ Kd.S (Kd.slice 3 (Kd.int .i64)) 35 w' w.heap.size (fun _ => True) v0_ r ∧ Below w.heap.size w w' := by
 have HR0 := Aside0.mk hr0
 have HC0 := Aside0.mk hc0
 clear hr0 hc0
 have HB := Aside0.mk (Below.refl w.heap.size w)
 have H : (spec_CoverOf.l0 k l0 (([] : List (List Int))) (([] : List Int)) 0) = some r := h
 clear h
 obtain ⟨y514, hy514⟩ : ∃ y_ : List (List Int), y_ = (([] : List (List Int))) := ⟨_, rfl⟩
 replace H : (spec_CoverOf.l0 k l0 y514 (([] : List Int)) 0) = some r := rH H hy514
 have Ny514 := Aside0.mk hy514
 clear hy514
 obtain ⟨y517, hy517⟩ : ∃ y_ : List Int, y_ = (([] : List Int)) := ⟨_, rfl⟩
 replace H : (spec_CoverOf.l0 k l0 y514 y517 0) = some r := rH H hy517
 have Ny517 := Aside0.mk hy517
 clear hy517
 have H' := Aside0.mk H
 clear H
 go_enter Try.func89, Try.ntmps89
 go_wp2_with (first | ((with_reducible refine gate_dst (N := 8) rfl ?_); refine Kd.S_lit (Kd.slice 3 (Kd.int .i64)) _ 35 ?hg (N := 8) ?hd (xs := ([] : List (List Int))) (inner := []) (ok := fun _ => True) (okp := fun _ => True) ?hr ?hp (fun _ hk => hk) trivial (Below.refl _ _) (Nat.le_refl _) (by simp) ?_; (case hd => rfl); (case hg => rfl); (case hr => first | (go_simp; done) | (go_simp; rfl)); (case hp => exact (Reps.none _ _)); intro v515 w2 ho3 hb hg_ hnew_; clear hg_ hnew_; (first | rw [← Ny514.out] at ho3 | (simp only [Int.reduceToNat] at ho3; rw [← Ny514.out] at ho3)); have HO516 := sl w ho3; replace HB := bs HB hb; clear hb ho3) | ((with_reducible refine gate_dst (N := 9) rfl ?_); refine Kd.R_lit (Kd.int .i64) _ 3 ?hg (N := 9) ?hd (xs := ([] : List Int)) (inner := []) (ok := fun _ => True) (okp := fun _ => True) ?hr ?hp (fun _ hk => hk) trivial (Below.refl _ _) (Nat.le_refl _) (by simp) ?_; (case hd => rfl); (case hg => rfl); (case hr => first | (go_simp; done) | (go_simp; rfl)); (case hp => exact (Reps.none _ _)); intro v518 w4 ho5 hb hg_ hnew_; clear hg_ hnew_; (first | rw [← Ny517.out] at ho5 | (simp only [Int.reduceToNat] at ho5; rw [← Ny517.out] at ho5)); replace HO516 := se HO516 ho5 hb; have HO519 := rl w ho5; replace HB := bs HB hb; clear hb ho5))
 go_loopg [3, 4, 5] k (fun kq v3 v4 v5 w' => ∃ (x3_1 : List (List Int)) (x4_1 : List Int) (x5_1 : Int), v5 = .int .i64 x5_1 ∧ Aside0 (spec_CoverOf.l0 kq l0 x3_1 x4_1 x5_1 = some r) ∧ Aside0 (kq ≤ k) ∧ Aside0 (Kd.S (Kd.slice 3 (Kd.int .i64)) 35 w' w.heap.size (n1 v4) v3 x3_1) ∧ Aside0 (Kd.R (Kd.int .i64) 3 w' w.heap.size (fun _ => True) v4 x4_1) ∧ Aside0 (Below w.heap.size w w'))
 case atStart => exact ⟨(y514), (y517), (0), rS, H', ⟨Nat.le_refl _⟩, ⟨sm HO516 (fun _ hk => hk.2)⟩, ⟨rK HO519⟩, ⟨bA⟩⟩
 case round =>
  clear H'
  obtain ⟨x3_1, x4_1, x5_1, rfl, HA, HK1, HO_3, HO_4, HB⟩ := hrel
  cases gk with
  | zero => exact absurd HA.out (by simp [spec_CoverOf.l0])
  | succ k1 =>
   have H := HA.out
   clear HA
   simp only [spec_CoverOf.l0] at H
   have HC6 := Aside0.mk H
   clear H
   go_upto_region 4 with (fail)
   go_cut [17] (fun v17 wc => ∃ (kq : Nat) (x17_5 : Bool), v17 = .bool x17_5 ∧ Aside0 (spec_CoverOf.j1 kq l0 x3_1 x4_1 x5_1 x17_5 = some r) ∧ Aside0 (kq ≤ k1) ∧ Aside0 (Kd.S (Kd.slice 3 (Kd.int .i64)) 35 wc w.heap.size (n1 u4) u3 x3_1) ∧ Aside0 (Kd.R (Kd.int .i64) 3 wc w.heap.size (fun _ => True) u4 x4_1) ∧ Aside0 (Below w.heap.size w wc))
   case first =>
    have H := HC6.out
    clear HC6
    by_cases c7 : x5_1 < (l0.length : Int)
    ·
     rw [if_pos c7] at H
     have c7b0 := decide_eq_true c7
     clear c7
     (first | rw [c7b0] | (simp only [i64_w, i32_w]; rw [c7b0]) | skip)
     obtain ⟨t520, A8, H⟩ := bindE H
     try dsimp only at H
     have H' := Aside0.mk H
     clear H
     go_wp2_with (first | (go_at_call 33; (with_reducible refine (spec_ArePaths.calls k1 _ _ l0 t520 _ ?_ ?_ A8.out).mono ?_); exact cB HR0; exact HC0.out; rintro e w9 ⟨rfl, hb⟩; replace HO_3 := sb HO_3 hb; replace HO_4 := rb HO_4 hb; replace HB := bs HB hb; (try clear hb)))
     go_meet
     case rel => exact ⟨_, (t520), rS, H', ⟨by have := HK1.out; first | omega | exact Nat.le_refl _⟩, ⟨sK HO_3⟩, ⟨rK HO_4⟩, ⟨bA⟩⟩
    rw [if_neg c7] at H
    have c7b0 := decide_eq_false c7
    clear c7
    (first | rw [c7b0] | (simp only [i64_w, i32_w]; rw [c7b0]) | skip)
    have H' := Aside0.mk H
    clear H
    go_wp2
    go_meet
    case rel => exact ⟨_, (false), rS, H', ⟨by have := HK1.out; first | omega | exact Nat.le_refl _⟩, ⟨sK HO_3⟩, ⟨rK HO_4⟩, ⟨bA⟩⟩
   case rest =>
    clear HC6
    obtain ⟨kq, x17_5, rfl, HA, HJ5, HO_3, HO_4, HB⟩ := hcut
    cases kq with
    | zero => exact absurd HA.out (by simp [spec_CoverOf.j1])
    | succ kj5 =>
     have H := HA.out
     clear HA
     simp only [spec_CoverOf.j1] at H
     by_cases c10 : x17_5 = true
     ·
      subst c10
      have H1 : (if 0 ≤ x5_1 then (if x5_1 < (l0.length : Int) then ((spec_l6Has.f kj5 x4_1 ((rd_T50 l0 x5_1).f0)).bind fun t522 => (if t522 = true then (spec_CoverOf.l0 kj5 l0 x3_1 x4_1 (wrap64 (x5_1 + 1))) else ((spec_AddToStage.f kj5 l0 (([(rd_T50 l0 x5_1).f0] : List Int))).bind fun t527 => (if x3_1.length < 5864062014805 then (spec_CoverOf.l1 kj5 l0 (x3_1 ++ [t527]) x4_1 x5_1 t527 0) else (none))))) else (none)) else (none)) = some r := by rw [if_pos rfl] at H; exact H
      clear H
      have H := H1
      clear H1
      have c11 : 0 ≤ x5_1 := ifN H
      replace H := ifT H
      have c11b0 := decide_eq_true c11
      clear c11
      have c12 : x5_1 < (l0.length : Int) := ifN H
      replace H := ifT H
      have c12b0 := decide_eq_true c12
      clear c12
      obtain ⟨t522, A13, H⟩ := bindE H
      try dsimp only at H
      by_cases c14 : t522 = true
      ·
       subst c14
       have H1 : (spec_CoverOf.l0 kj5 l0 x3_1 x4_1 (wrap64 (x5_1 + 1))) = some r := by rw [if_pos rfl] at H; exact H
       clear H
       have H := H1
       clear H1
       have H' := Aside0.mk H
       clear H
       obtain ⟨p521, q521⟩ : 0 ≤ (x5_1 : Int) ∧ x5_1 < (l0.length : Int) := ⟨dA, dA⟩
       obtain ⟨ad521, e521, hx521_0, hx521_1, hx521_2, hx521_3⟩ := at_T50 (Kd.C_below HR0.out HB.out) x5_1 p521 q521
       cases e521
       obtain ⟨p521, q521⟩ := eT p521 q521
       obtain ⟨Ao15, co15, eo15⟩ := Kd.R_slice HO_4.out
       subst eo15
       go_wp2_with (first | ((with_reducible refine gate_callee (f := 133) rfl ?_); refine gL (some 26) Try.func133 #[.slice Ao15 x4_1.length co15, .int .i64 ((rd_T50 l0 x5_1).f0)] ?_; (with_reducible refine (spec_l6Has.calls kj5 _ _ x4_1 ((rd_T50 l0 x5_1).f0) true _ ?_ ?_ A13.out).mono ?_); exact cO ⟨(Kd.R_reads' HO_4.out).2.2⟩; exact (Kd.R_reads' HO_4.out).2.1; rintro e w' ⟨rfl, ⟨nd, rfl⟩⟩; refine ⟨_, rfl, ?_⟩))
       go_roundg kj5
       case measure => have := HK1.out; have := HJ5.out; omega
       case rel => exact ⟨(x3_1), (x4_1), (wrap64 (x5_1 + 1)), rS, H', ⟨by have := HK1.out; have := HJ5.out; omega⟩, ⟨sK HO_3⟩, ⟨rK HO_4⟩, ⟨bA⟩⟩
      replace c14 := Bool.eq_false_iff.mpr c14
      subst c14
      have H1 : ((spec_AddToStage.f kj5 l0 (([(rd_T50 l0 x5_1).f0] : List Int))).bind fun t527 => (if x3_1.length < 5864062014805 then (spec_CoverOf.l1 kj5 l0 (x3_1 ++ [t527]) x4_1 x5_1 t527 0) else (none))) = some r := by rw [if_neg (show ¬ (false = true) by decide)] at H; exact H
      clear H
      have H := H1
      clear H1
      obtain ⟨y524, hy524⟩ : ∃ y_ : List Int, y_ = (([(rd_T50 l0 x5_1).f0] : List Int)) := ⟨_, rfl⟩
      replace H : ((spec_AddToStage.f kj5 l0 y524).bind fun t527 => (if x3_1.length < 5864062014805 then (spec_CoverOf.l1 kj5 l0 (x3_1 ++ [t527]) x4_1 x5_1 t527 0) else (none))) = some r := rH H hy524
      have Ny524 := Aside0.mk hy524
      clear hy524
      obtain ⟨t527, A16, H⟩ := bindE H
      try dsimp only at H
      have c17 : x3_1.length < 5864062014805 := ifN H
      replace H := ifT H
      have LMc17 := Aside0.mk c17
      clear c17
      obtain ⟨y530, hy530⟩ : ∃ y_ : List (List Int), y_ = (x3_1 ++ [t527]) := ⟨_, rfl⟩
      replace H : (spec_CoverOf.l1 kj5 l0 y530 x4_1 x5_1 t527 0) = some r := rH H hy530
      have Ny530 := Aside0.mk hy530
      clear hy530
      have H' := Aside0.mk H
      clear H
      obtain ⟨p521, q521⟩ : 0 ≤ (x5_1 : Int) ∧ x5_1 < (l0.length : Int) := ⟨dA, dA⟩
      obtain ⟨ad521, e521, hx521_0, hx521_1, hx521_2, hx521_3⟩ := at_T50 (Kd.C_below HR0.out HB.out) x5_1 p521 q521
      cases e521
      obtain ⟨p521, q521⟩ := eT p521 q521
      obtain ⟨Ao18, co18, eo18⟩ := Kd.R_slice HO_4.out
      subst eo18
      go_wp2_with (first | ((with_reducible refine gate_callee (f := 133) rfl ?_); refine gL (some 26) Try.func133 #[.slice Ao18 x4_1.length co18, .int .i64 ((rd_T50 l0 x5_1).f0)] ?_; (with_reducible refine (spec_l6Has.calls kj5 _ _ x4_1 ((rd_T50 l0 x5_1).f0) false _ ?_ ?_ A13.out).mono ?_); exact cO ⟨(Kd.R_reads' HO_4.out).2.2⟩; exact (Kd.R_reads' HO_4.out).2.1; rintro e w' ⟨rfl, ⟨nd, rfl⟩⟩; refine ⟨_, rfl, ?_⟩; have p523 : 0 ≤ (x5_1 : Int) := dA; have q523 : x5_1 < (l0.length : Int) := dA; obtain ⟨ad523, e523, hx523_0, hx523_1, hx523_2, hx523_3⟩ := at_T50 HR0.out x5_1 p523 q523; obtain rfl : ad521 = ad523 := (by injection e523); replace hx523_0 := hC HB hx523_0; replace hx523_1 := hC HB hx523_1; replace hx523_2 := hC HB hx523_2; replace hx523_3 := hC HB hx523_3; replace p523 := eq_true p523; replace q523 := eq_true q523) | ((with_reducible refine gate_dst (N := 33) rfl ?_); refine Kd.R_lit (Kd.int .i64) _ 3 ?hg (N := 33) ?hd (xs := ([(rd_T50 l0 x5_1).f0] : List Int)) (inner := [.int .i64 ((rd_T50 l0 x5_1).f0)]) (ok := fun _ => True) (okp := fun _ => True) ?hr ?hp (fun _ hk => hk) trivial (Below.refl _ _) (Nat.le_refl _) (by simp) ?_; (case hd => rfl); (case hg => rfl); (case hr => first | (go_simp; done) | (go_simp; rfl)); (case hp => exact (Reps.one (show Kd.M (Kd.int .i64) _ _ _ ((rd_T50 l0 x5_1).f0) [.int .i64 ((rd_T50 l0 x5_1).f0)] from rfl) (Reps.none _ _))); intro v525 w19 ho20 hb hg_ hnew_; clear hg_ hnew_; (first | rw [← Ny524.out] at ho20 | (simp only [Int.reduceToNat] at ho20; rw [← Ny524.out] at ho20)); replace HO_3 := se HO_3 ho20 hb; have HO526 := rl w (rn ho20 HO_4); replace HO_4 := re HO_4 ho20 hb; replace HB := bs HB hb; clear hb ho20; obtain ⟨Ao21, co21, eo21⟩ := Kd.R_slice HO526.out; subst eo21) | ((with_reducible refine gate_callee (f := 134) rfl ?_); refine gL (some 34) Try.func134 #[.slice (some ad521) l0.length c0, .slice Ao21 y524.length co21] ?_; (with_reducible refine (spec_AddToStage.calls kj5 _ _ l0 _ _ y524 t527 _ ?_ ?_ ?_ ?_ A16.out).mono ?_); exact cB HR0; exact HC0.out; exact cO ⟨(Kd.R_reads' HO526.out).2.2⟩; exact (Kd.R_reads' HO526.out).2.1; rintro e w22 ⟨v528, rfl, ho0, hb⟩; refine ⟨_, rfl, ?_⟩; replace HO_3 := se HO_3 ho0 hb; have HO529 := rl w (rn (rn ho0 HO_4) HO526); replace HO_4 := re HO_4 ho0 hb; replace HO526 := re HO526 ho0 hb; replace HB := bs HB hb; (try clear hb); (try clear ho0); obtain ⟨Ao24, co24, eo24⟩ := Kd.R_slice HO529.out; subst eo24) | ((with_reducible refine gate_builtin (b := .append) (xs := #[.tmp 35, .tmp 37]) rfl ?_); at_builtin; refine Kd.S_append (Kd.slice 3 (Kd.int .i64)) (w0 := w) w.heap.size rfl (.tmp 35) (.tmp 37) 103 35 (.slice none 0 0) 24 rfl Try.underlying103 info35 rfl (by decide) (by omega) u3 x3_1 t527 [.slice Ao24 t527.length co24] (n2 (.slice Ao18 x4_1.length co18) (.slice Ao21 y524.length co21)) (fun k_ => some k_ = (.slice Ao24 t527.length co24 : Value).ownBlock) rfl rfl ?aP (fun k_ hk_ => ((Kd.R_mono (ok' := fun k_ => ((n2 (.slice Ao18 x4_1.length co18) (.slice Ao21 y524.length co21))) k_ ∧ some k_ ≠ (u3 : Value).ownBlock) (Kd.R_apart' (HO529.out) (Kd.S_typed HO_3.out) (by decide)) (fun k_ hk => ⟨⟨hk.1.1.2, hk.1.2⟩, hk.2⟩))).1 k_ hk_.symm) ?aF ?aO ?aB ?aS ?aL ?_; (case aP => exact Kd.M_row (Kd.R_mono (Kd.R_tight rfl (Kd.R_mono (ok' := fun k_ => ((n2 (.slice Ao18 x4_1.length co18) (.slice Ao21 y524.length co21))) k_ ∧ some k_ ≠ (u3 : Value).ownBlock) (Kd.R_apart' (HO529.out) (Kd.S_typed HO_3.out) (by decide)) (fun k_ hk => ⟨⟨hk.1.1.2, hk.1.2⟩, hk.2⟩))) (fun _ h_ => h_))); (case aB => exact bA); (case aF => exact (fun k_ hk => ⟨Kd.fresh' (Kd.R_lt (rK HO_4)) k_ hk, Kd.fresh' (Kd.R_lt (rK HO526)) k_ hk⟩)); (case aO => exact (sm HO_3 (fun k_ hk => ⟨⟨hk.1.1, hk.1.2⟩, fun e_ => hk.2 e_⟩))); (case aS => exact (below_size bA)); (case aL => have := LMc17.out; omega); intro v531 w23 ho hb hg hat; rw [← Ny530.out] at ho; have n0_ := Aside0.mk (Kd.R_over' (rK HO_4) (Kd.S_typed (sK HO_3)) (by decide) hg); have n1_ := Aside0.mk (Kd.R_over' (rK HO526) (Kd.S_typed (sK HO_3)) (by decide) hg); have n2_ := Aside0.mk (Kd.R_over' (rK HO529) (Kd.S_typed (sK HO_3)) (by decide) hg); have n3_ := Aside0.mk (hb); have n4_ := Aside0.mk (ho); clear HO_4; clear HO526; clear HO529; clear HB; clear HO_3; have HO_4 := n0_; have HO526 := n1_; have HO529 := n2_; have HB := n3_; have HO532 := n4_; clear n0_ n1_ n2_ n3_ n4_; clear ho hb hg hat))
      go_loopg [4, 7] kj5 (fun kq v4 v7 w' => ∃ (x4_3 : List Int) (x7_3 : Int), v7 = .int .i64 x7_3 ∧ Aside0 (spec_CoverOf.l1 kq l0 y530 x4_3 x5_1 t527 x7_3 = some r) ∧ Aside0 (kq ≤ kj5) ∧ Aside0 (Kd.S (Kd.slice 3 (Kd.int .i64)) 35 w' w.heap.size (n1 v4) v531 y530) ∧ Aside0 (Kd.R (Kd.int .i64) 3 w' w.heap.size (n1 (.slice Ao24 t527.length co24)) v4 x4_3) ∧ Aside0 (Kd.R (Kd.int .i64) 3 w' w.heap.size (n1 v4) (.slice Ao24 t527.length co24) t527) ∧ Aside0 (Below w.heap.size w w'))
      case atStart => exact ⟨(x4_1), (0), rS, H', ⟨Nat.le_refl _⟩, ⟨sm HO532 (fun _ hk => hk.1)⟩, ⟨rm HO_4 (fun _ hk => hk.2)⟩, ⟨rm HO529 (fun _ hk => hk.1.2)⟩, ⟨bA⟩⟩
      case round =>
       clear H'
       obtain ⟨x4_3, x7_3, rfl, HA, HK3, HO_3, HO_4, HO_6, HB⟩ := hrel
       cases gk with
       | zero => exact absurd HA.out (by simp [spec_CoverOf.l1])
       | succ k3 =>
        have H := HA.out
        clear HA
        simp only [spec_CoverOf.l1] at H
        by_cases c25 : x7_3 < (t527.length : Int)
        ·
         rw [if_pos c25] at H
         have c25b0 := decide_eq_true c25
         clear c25
         have c26 : 0 ≤ x7_3 := ifN H
         replace H := ifT H
         have c26b0 := decide_eq_true c26
         clear c26
         obtain ⟨t534, A27, H⟩ := bindE H
         try dsimp only at H
         have H' := Aside0.mk H
         clear H
         obtain ⟨p533, q533⟩ : 0 ≤ (x7_3 : Int) ∧ x7_3 < (t527.length : Int) := ⟨dA, dA⟩
         obtain ⟨ad533, e533, hx533_0⟩ := Kd.at_int (Kd.R_reads' HO_6.out).2.2 x7_3 p533 q533
         cases e533
         obtain ⟨p533, q533⟩ := eT p533 q533
         obtain ⟨Ao28, co28, eo28⟩ := Kd.R_slice HO_4.out
         subst eo28
         go_wp2_with (first | ((with_reducible refine gate_callee (f := 135) rfl ?_); refine gL (some 50) Try.func135 #[.slice Ao28 x4_3.length co28, .int .i64 (rd t527 x7_3)] ?_; (with_reducible refine (spec_l6Put.calls k3 _ _ x4_3 (rd t527 x7_3) t534 _ ?_ ?_ A27.out).mono ?_); exact cO ⟨(Kd.R_reads' HO_4.out).2.2⟩; exact (Kd.R_reads' HO_4.out).2.1; rintro e w29 ⟨v535, rfl, ho0, hb⟩; refine ⟨_, rfl, ?_⟩; replace HO_3 := se HO_3 ho0 hb; have HO536 := rl w (rn (rn ho0 HO_4) HO_6); replace HO_4 := re HO_4 ho0 hb; replace HO_6 := re HO_6 ho0 hb; replace HB := bs HB hb; (try clear hb); (try clear ho0)))
         go_roundg k3
         case measure => have := HK1.out; have := HJ5.out; have := HK3.out; omega
         case rel => exact ⟨(t534), (wrap64 (x7_3 + 1)), rS, H', ⟨by have := HK1.out; have := HJ5.out; have := HK3.out; omega⟩, ⟨sm HO_3 (fun _ hk => hk.2)⟩, ⟨rm HO536 (fun _ hk => hk.2)⟩, ⟨rm HO_6 (fun _ hk => hk.2)⟩, ⟨bA⟩⟩
        rw [if_neg c25] at H
        have c25b0 := decide_eq_false c25
        clear c25
        have H' := Aside0.mk H
        clear H
        go_wp2
        go_roundg k3
        case measure => have := HK1.out; have := HJ5.out; have := HK3.out; omega
        case rel => exact ⟨(y530), (x4_3), (wrap64 (x5_1 + 1)), rS, H', ⟨by have := HK1.out; have := HJ5.out; have := HK3.out; omega⟩, ⟨sK HO_3⟩, ⟨rm HO_4 (fun _ hk => trivial)⟩, ⟨bA⟩⟩
     replace c10 := Bool.eq_false_iff.mpr c10
     subst c10
     have H1 : (some x3_1) = some r := by rw [if_neg (show ¬ (false = true) by decide)] at H; exact H
     clear H
     have H := H1
     clear H1
     obtain rfl := Option.some.inj H
     go_wp2
     go_ret
     exact ⟨_, rA, sm HO_3 (fun _ hk => trivial), bA⟩

/-! ### spec_PlanFor: function 151 -/
def spec_PlanFor.l0 : Nat → List (S50) → List (S85) → List (List Int) → Int → Option ((List (S85)))
 | 0, _, _, _, _ => none
 | k + 1, x0, x3, x4, x5 => if x5 < (x4.length : Int) then (if 0 ≤ x5 then ((spec_LeastGreen.f k x0 (rd_L4 x4 x5)).bind fun t545 => (if x3.length < 4398046511104 then (spec_PlanFor.l0 k x0 (x3 ++ [(⟨rd_L4 x4 x5, t545⟩ : S85)]) x4 (wrap64 (x5 + 1))) else (none))) else (none)) else ((spec_IsPlan.f k x0 x3).bind fun t549 => (if t549 = true then (some x3) else (some (([] : List (S85))))))
def spec_PlanFor.f (k : Nat) (l0 : List (S50)) : Option ((List (S85))) := (spec_CoverOf.f k l0).bind fun t540 => (spec_PlanFor.l0 k l0 (([] : List (S85))) t540 0)
theorem spec_PlanFor.mono_l : ∀ k, (∀ y0 y1 y2 y3, LeO (spec_PlanFor.l0 k y0 y1 y2 y3) (spec_PlanFor.l0 (k + 1) y0 y1 y2 y3))
 | 0 => fun _ _ _ _ r h => by simp [spec_PlanFor.l0] at h
 | k + 1 => by
  have ih0 := spec_PlanFor.mono_l k
  ·
   intro y0 y1 y2 y3
   unfold spec_PlanFor.l0
   exact mz4 ih0 spec_CoverOf.mono spec_IsPlan.mono spec_LeastGreen.mono
theorem spec_PlanFor.mono : ∀ a0 k, LeO (spec_PlanFor.f k a0) (spec_PlanFor.f (k + 1) a0) := by
 intro a0 k
 have ih0 := spec_PlanFor.mono_l k
 unfold spec_PlanFor.f
 exact mz4 ih0 spec_CoverOf.mono spec_IsPlan.mono spec_LeastGreen.mono
def spec_PlanFor.T6 : Bool × List (List Nat × List Nat) := (true, [([], []), ([], []), ([], []), ([1, 2], [1, 2]), ([3], [3]), ([], []), ([], []), ([], []), ([6, 7], [6, 7]), ([8], [8]), ([5, 9], [5, 9]), ([4, 10], [4, 10]), ([11], [11]), ([0, 12, 10], [0, 12]), ([13, 13, 0, 1, 2, 3, 4, 5, 6, 7, 8, 9, 10, 11, 12, 13], [0, 13])])
def spec_PlanFor.B6 : List Nat := [0, 0, 0, 6, 14, 0, 0, 0, 192, 448, 992, 2046, 4094, 8191, 16383]
theorem spec_PlanFor.tab6 : rtab .any (opsOf Try.f151 6) = spec_PlanFor.T6 := by kernel_rfl
theorem spec_PlanFor.bits6 : waitsOk spec_PlanFor.T6.2 spec_PlanFor.B6 = true := by kernel_rfl
theorem spec_PlanFor.retag {α β : Type} {d : Kd α} {d' : Kd β} {e base : Nat} {w : World} {ok : Nat → Prop} {v : Value} (hs : d'.sz = d.sz) (h : d.R e w base ok v ([] : List α)) : d'.R e w base ok v ([] : List β) := by
  obtain ⟨h0, inner, ho, hr⟩ := h
  have hi : inner = [] := List.eq_nil_of_length_eq_zero (by rw [hr.1]; simp)
  subst hi
  exact ⟨h0, [], by rw [hs]; exact ho, ⟨by simp, fun j p hj => by simp at hj⟩⟩
theorem spec_PlanFor.toS {α : Type} {d : Kd α} {f : Nat → Nat} {e base : Nat} {w : World} {ok : Nat → Prop} {v : Value} {xs : List α} (h : (Kd.tag f d).R e w base ok v xs.zipIdx) : Kd.S d e w base ok v xs := ⟨f, h⟩
theorem spec_PlanFor.nilS {α : Type} {d : Kd α} {e base : Nat} {w : World} {ok : Nat → Prop} {v : Value} (h : d.R e w base ok v ([] : List α)) : Kd.S d e w base ok v ([] : List α) := ⟨fun _ => 0, (spec_PlanFor.retag (d := d) (d' := Kd.tag (fun _ => 0) d) rfl h : (Kd.tag (fun _ => 0) d).R e w base ok v ([] : List (α × Nat)))⟩
theorem spec_PlanFor.el {f : Nat → Nat} {e base n c : Nat} {w : World} {ok : Nat → Prop} {ad : Addr} {xs : List (List Int)} (h : (Kd.tag f (Kd.slice 3 (Kd.int .i64))).R e w base ok (.slice (some ad) n c) xs.zipIdx) (j : Nat) (hj : j < xs.length) :
    ∃ v, w.cell? (ad.add j) = some v ∧ (Kd.int .i64).R 3 w base (fun k => (ok k ∧ some k ≠ (Value.slice (some ad) n c).ownBlock) ∧ f k = j) v (xs.getD j ([] : List Int)) := by
  have h1 := Kd.R_reads' (Kd.S_R (spec_PlanFor.toS h))
  obtain ⟨h0, inner, ho, hr⟩ := h
  have h2 := hr.2 j (xs[j], j) (Kd.zip_at (List.getElem?_eq_getElem hj))
  obtain ⟨v, hv, hR⟩ := h2
  have e1 : xs.getD j ([] : List Int) = xs[j] := by simp [List.getD_eq_getElem?_getD, List.getElem?_eq_getElem hj]
  have hi : inner[j]? = some v := by
    have h3 : ((inner.drop (j * 1)).take 1)[0]? = some v := by
      rw [show (inner.drop (j * 1)).take 1 = [v] from hv]
      rfl
    rw [List.getElem?_take, if_pos (by decide), List.getElem?_drop] at h3
    simpa using h3
  refine ⟨v, ?_, by rw [e1]; exact hR⟩
  rcases ho.2 with ⟨hq, _⟩ | ⟨g, c', cur, hq, _, hh, _, _, _, ht⟩
  · cases hq
  · injection hq with ha _ _
    injection ha with ha
    subst ha
    rw [add_at, cell_of_row w g _ cur e (0, 0) hh, ← Array.getElem?_toList]
    have ht' : cur.toList.take (xs.zipIdx.length * 1) = inner := ht
    rw [← ht', List.getElem?_take] at hi
    split at hi
    · simpa using hi
    · cases hi
set_option maxHeartbeats 8000000 in
set_option maxRecDepth 100000 in
theorem spec_PlanFor.calls (k : Nat) (A0 : Option Addr) (c0 : Nat) (l0 : List (S50)) (r : List (S85)) (w : World) (hr0 : Kd.C k50 w A0 l0.length l0) (hc0 : l0.length ≤ c0) (h : spec_PlanFor.f k l0 = some r) :
  Calls Try.prog 151 #[.slice A0 l0.length c0] w fun e w' => ∃ v0_ : Value, e = .returned (v0_) ∧ Kd.S k85 85 w' w.heap.size (fun _ => True) v0_ r ∧ Below w.heap.size w w' := by
 have hu85 := Try.underlying85
 have HR0 := Aside0.mk hr0
 have HC0 := Aside0.mk hc0
 clear hr0 hc0
 have HB := Aside0.mk (Below.refl w.heap.size w)
 have H : ((spec_CoverOf.f k l0).bind fun t540 => (spec_PlanFor.l0 k l0 (([] : List (S85))) t540 0)) = some r := h
 clear h
 obtain ⟨y537, hy537⟩ : ∃ y_ : List (S85), y_ = (([] : List (S85))) := ⟨_, rfl⟩
 replace H : ((spec_CoverOf.f k l0).bind fun t540 => (spec_PlanFor.l0 k l0 y537 t540 0)) = some r := rH H hy537
 have Ny537 := Aside0.mk hy537
 clear hy537
 obtain ⟨t540, A2, H⟩ := bindE H
 try dsimp only at H
 have H' := Aside0.mk H
 clear H
 go_enter Try.func151, Try.ntmps151
 go_wp2_with (first | ((with_reducible refine gate_dst (N := 6) rfl ?_); refine Kd.R_lit k85 _ 85 ?hg (N := 6) ?hd (xs := ([] : List (S85))) (inner := []) (ok := fun _ => True) (okp := fun _ => True) ?hr ?hp (fun _ hk => hk) trivial (Below.refl _ _) (Nat.le_refl _) (by simp) ?_; (case hd => rfl); (case hg => rfl); (case hr => first | (go_simp; done) | (go_simp; rfl)); (case hp => exact (Reps.none _ _)); intro v538 w3 ho4 hb hg_ hnew_; clear hg_ hnew_; have HO539 := rl w ho4; replace HB := bs HB hb; clear hb ho4) | ((with_reducible refine gate_callee (f := 89) rfl ?_); refine gL (some 8) Try.func89 #[.slice A0 l0.length c0] ?_; (with_reducible refine (spec_CoverOf.calls k _ _ l0 t540 _ ?_ ?_ A2.out).mono ?_); exact cB HR0; exact HC0.out; rintro e w5 ⟨v541, rfl, ⟨f_, ho0⟩, hb⟩; refine ⟨_, rfl, ?_⟩; have HO542 := rl w (Kd.R_mono (ok' := fun k_ => True ∧ some k_ ≠ (v538 : Value).ownBlock) (Kd.R_bound ho0) (fun k_ hk_ => ⟨trivial, fun e_ => Nat.not_lt.2 hk_.2.1 (Kd.R_lt (rK HO539) k_ e_.symm)⟩)); replace HO539 := Aside0.mk (spec_PlanFor.retag (d := k85) (d' := Kd.tag f_ k85) rfl (Kd.R_below (rK HO539) hb)); replace HB := bs HB hb; (try clear hb); (try clear ho0)))
 go_loopg [3, 5] k (fun kq v3 v5 w' => ∃ (x3_1 : List (S85)) (x5_1 : Int), v5 = .int .i64 x5_1 ∧ Aside0 (spec_PlanFor.l0 kq l0 x3_1 t540 x5_1 = some r) ∧ Aside0 (kq ≤ k) ∧ Aside0 ((Kd.tag f_ k85).R 85 w' w.heap.size (fun _ => True) v3 x3_1.zipIdx) ∧ Aside0 ((Kd.tag f_ (Kd.slice 3 (Kd.int .i64))).R 35 w' w.heap.size (fun k_ => True ∧ some k_ ≠ (v3 : Value).ownBlock) v541 t540.zipIdx) ∧ Aside0 ((x3_1.length : Int) = x5_1) ∧ Aside0 (Below w.heap.size w w'))
 case atStart => exact ⟨(y537), (0), rS, H', ⟨Nat.le_refl _⟩, ⟨by rw [Ny537.out]; (with_reducible repeat (first | apply Kd.R_alloc | apply Kd.R_drewN | apply Kd.R_drew)); exact HO539.out⟩, ⟨rK HO542⟩, ⟨by rw [Ny537.out]; rfl⟩, ⟨bA⟩⟩
 case round =>
  clear H'
  obtain ⟨x3_1, x5_1, rfl, HA, HK1, HO_3, HO_4, HN, HB⟩ := hrel
  cases gk with
  | zero => exact absurd HA.out (by simp [spec_PlanFor.l0])
  | succ k1 =>
   have H := HA.out
   clear HA
   simp only [spec_PlanFor.l0] at H
   by_cases c6 : x5_1 < (t540.length : Int)
   ·
    rw [if_pos c6] at H
    have c6b0 := decide_eq_true c6
    clear c6
    have c7 : 0 ≤ x5_1 := ifN H
    replace H := ifT H
    have c7b0 := decide_eq_true c7
    clear c7
    obtain ⟨t545, A8, H⟩ := bindE H
    try dsimp only at H
    have c9 : x3_1.length < 4398046511104 := ifN H
    replace H := ifT H
    have LMc9 := Aside0.mk c9
    clear c9
    obtain ⟨y546, hy546⟩ : ∃ y_ : List (S85), y_ = (x3_1 ++ [(⟨rd_L4 t540 x5_1, t545⟩ : S85)]) := ⟨_, rfl⟩
    replace H : (spec_PlanFor.l0 k1 l0 y546 t540 (wrap64 (x5_1 + 1))) = some r := rH H hy546
    have Ny546 := Aside0.mk hy546
    clear hy546
    have H' := Aside0.mk H
    clear H
    obtain ⟨Ao10, co10, eo10⟩ := Kd.R_slice HO_4.out
    rw [List.length_zipIdx] at eo10
    subst eo10
    try go_wp2
    replace HO_3 := dr HO_3
    replace HO_4 := dr HO_4
    have HBo := HB
    replace HB := db HB
    obtain ⟨p543, q543⟩ : 0 ≤ (x5_1 : Int) ∧ x5_1 < (t540.length : Int) := ⟨dA, dA⟩
    obtain ⟨ad543, A543_0, c543_0, e543, hx543_0, hl543_0, hi543_0⟩ := at_L4 (Kd.R_reads' (Kd.S_R (spec_PlanFor.toS HO_4.out))).2.2 x5_1 p543 q543
    cases e543
    obtain ⟨ve543, hve543, hRe543⟩ := spec_PlanFor.el HO_4.out x5_1.toNat (by omega)
    obtain rfl := Option.some.inj (hve543.symm.trans hx543_0)
    have HL543_0 := Aside0.mk (hRe543)
    have HR543_0 := Aside0.mk hi543_0
    have HC543_0 := Aside0.mk hl543_0
    clear hi543_0 hl543_0
    obtain ⟨p543, q543⟩ := eT p543 q543
    obtain ⟨p544, q544⟩ : 0 ≤ (x5_1 : Int) ∧ x5_1 < (t540.length : Int) := ⟨dA, dA⟩
    obtain ⟨ad544, A544_0, c544_0, e544, hx544_0, hl544_0, hi544_0⟩ := at_L4 (Kd.R_reads' (Kd.S_R (spec_PlanFor.toS HO_4.out))).2.2 x5_1 p544 q544
    obtain rfl : ad543 = ad544 := (by injection e544)
    obtain ⟨ve544, hve544, hRe544⟩ := spec_PlanFor.el HO_4.out x5_1.toNat (by omega)
    obtain rfl := Option.some.inj (hve544.symm.trans hx544_0)
    have HL544_0 := Aside0.mk (hRe544)
    have HR544_0 := Aside0.mk hi544_0
    have HC544_0 := Aside0.mk hl544_0
    clear hi544_0 hl544_0
    obtain ⟨p544, q544⟩ := eT p544 q544
    have ea_ := Option.some.inj (hx543_0.symm.trans hx544_0)
    injection ea_ with ea_ en_ ec_
    subst ea_
    subst ec_
    clear en_
    refine start_ (n := 15) (S := fun w' => w'.cell? (ad543.add (x5_1).toNat) = some (.slice A543_0 (rd_L4 t540 x5_1).length c543_0) ∧ w'.cell? (ad543.add (x5_1).toNat) = some (.slice A543_0 (rd_L4 t540 x5_1).length c543_0)) (ds := [12, 13]) (mb 15 0) (by kernel_rfl) rfl rfl ⟨hx543_0, hx544_0⟩ (fun hHeld => ?_); refine with_tabW spec_PlanFor.tab6 spec_PlanFor.bits6 (fun HT_ HW_ => ?_)
    generalize wr.drew = w11 at HO_3 HO_4 HB HL543_0 HL544_0 HR543_0 HR544_0 hx543_0 hx544_0 hHeld ⊢
    refine pa 0 15 (mb 15 1) HT_ ?_
    refine pa 1 16 (mb 15 3) HT_ ?_
    refine pa 2 17 (mb 15 7) HT_ ?_
    refine pa 3 18 (mb 15 15) HT_ ?_
    refine pa 5 20 (mb 15 47) HT_ ?_
    refine pa 6 21 (mb 15 111) HT_ ?_
    refine pa 7 22 (mb 15 239) HT_ ?_
    refine pa 8 23 (mb 15 495) HT_ ?_
    refine ta2 4 19 (mb 15 511) HT_ HW_ hHeld ?_
    refine ta2 9 24 (mb 15 1023) HT_ HW_ hHeld ?_
    refine oa 10 25 (mb 15 2047) HT_ (fun K hK => ?_)
    refine gA Try.func113 #[.slice A0 l0.length c0, .slice A543_0 (rd_L4 t540 x5_1).length c543_0] ?_
    with_reducible refine (spec_LeastGreen.calls k1 _ _ l0 _ _ (rd_L4 t540 x5_1) t545 _ ?side1 ?side2 ?side3 ?side4 A8.out).mono ?_
    (case side1 => exact cB HR0)
    (case side2 => exact HC0.out)
    (case side3 => repeat (first | exact (by repeat (first | (with_reducible exact HR544_0.out) | (with_reducible refine Kd.C_alloc ?_ _) | (with_reducible refine Kd.C_drewN ?_ _) | (with_reducible refine Kd.C_drew ?_) | exact HR544_0.out)) | (with_reducible refine Kd.C_alloc ?_ _) | (with_reducible refine Kd.C_drewN ?_ _) | (with_reducible refine Kd.C_drew ?_)))
    (case side4 => exact HC544_0.out)
    rintro e w' ⟨rfl, ⟨nd, rfl⟩⟩
    refine ⟨_, rfl, ?_⟩
    refine hK.out _ _ ⟨hHeld.1, hHeld.2⟩ (fun hHeld => ?_)
    clear hK K
    refine nB ?_
    refine pa 11 26 (mb 15 4095) HT_ ?_
    refine last_ (i := 12) (N := some 27) (mb 15 8191) rfl rfl (one_of HT_.out (by kernel_rfl)) (by decide) (fun K hK => ?_)
    refine value_ (w1 := ?_) (v := ?_) (by rfl) rfl ?_ ?_
    rotate_left 2
    ·
     go_simp
     constructor
     ·
      rfl
     ·
      rfl
    refine hK.out _ _ ?_
    clear hK K
    refine nB ?_
    refine last_ (i := 13) (N := some 28) (mb 15 16383) rfl rfl (one_of HT_.out (by kernel_rfl)) (by decide) (fun K hK => ?_)
    refine Kd.R_append_step (Kd.tag f_ k85) (w0 := w) w.heap.size (by rfl) (.tmp 15) (.tmp 27) 25 85 (.agg #[(.slice none 0 0), (.int .i64 0)]) 32 rfl Try.underlying25 info85 rfl (show 0 < k85.sz by decide) (by omega) u3 x3_1.zipIdx ((⟨rd_L4 t540 x5_1, t545⟩ : S85), x3_1.length) [.slice A543_0 (rd_L4 t540 x5_1).length c543_0, .int .i64 t545] (fun _ => True) (n1 u3) rfl rfl ?aP (fun _ hk => ⟨trivial, hk⟩) (fun _ _ => trivial) ?aO ?aB ?aS ?aL ?_
    (case aP => have hz_ := Kd.R_mono HL543_0.out (fun k_ hk => (⟨hk.1.1.2, hk.2.trans (by have := HN.out; omega)⟩ : some k_ ≠ (u3 : Value).ownBlock ∧ f_ k_ = x3_1.length)); exact (show k85.M _ _ (fun k_ => some k_ ≠ (u3 : Value).ownBlock ∧ f_ k_ = x3_1.length) _ _ from k85_mkM _ _ _ (⟨rd_L4 t540 x5_1, t545⟩ : S85) (by (with_reducible repeat (first | apply Kd.R_alloc | apply Kd.R_drewN | apply Kd.R_drew)); exact hz_)))
    (case aB => exact bA)
    (case aO => exact (rK HO_3))
    (case aS => exact (below_size bA))
    (case aL => have := LMc9.out; rw [List.length_zipIdx]; omega)
    intro v547 w12 ho hb hg hat
    rw [← Kd.zip_snoc, ← Ny546.out] at ho
    have n0_ := Aside0.mk (Kd.R_after (ok := fun _ => True) (rK HO_4) hg hat)
    have n1_ := HL543_0
    have n2_ := HL544_0
    have n3_ := Aside0.mk (hb)
    have n4_ := Aside0.mk (ho)
    clear HO_4
    clear HL543_0
    clear HL544_0
    clear HB
    clear HO_3
    have HO_4 := n0_
    have HL543_0 := n1_
    have HL544_0 := n2_
    have HB := n3_
    have HO548 := n4_
    clear n0_ n1_ n2_ n3_ n4_
    clear ho hb hg hat
    refine hK.out _ _ ?_
    clear hK K
    refine nB ?_
    refine pa 14 3 (mb 15 32767) HT_ ?_
    refine eA HT_ ?_
    try go_wp2
    go_roundg k1
    case measure => have := HK1.out; omega
    case rel => exact ⟨(y546), (wrap64 (x5_1 + 1)), rS, H', ⟨by have := HK1.out; omega⟩, ⟨rK HO548⟩, ⟨rK HO_4⟩, ⟨by (have h1_ := HN.out; have h2_ := LMc9.out; rw [Ny546.out, List.length_append, List.length_singleton]; unfold wrap64; omega)⟩, ⟨bA⟩⟩
   rw [if_neg c6] at H
   have c6b0 := decide_eq_false c6
   clear c6
   obtain ⟨t549, A13, H⟩ := bindE H
   try dsimp only at H
   by_cases c14 : t549 = true
   ·
    subst c14
    have H1 : (some x3_1) = some r := by rw [if_pos rfl] at H; exact H
    clear H
    have H := H1
    clear H1
    obtain rfl := Option.some.inj H
    obtain ⟨Ao15, co15, eo15⟩ := Kd.R_slice HO_4.out
    rw [List.length_zipIdx] at eo15
    subst eo15
    obtain ⟨Ao16, co16, eo16⟩ := Kd.R_slice HO_3.out
    rw [List.length_zipIdx] at eo16
    subst eo16
    go_wp2_with (first | ((with_reducible refine gate_callee (f := 61) rfl ?_); refine gL (some 31) Try.func61 #[.slice A0 l0.length c0, .slice Ao16 x3_1.length co16] ?_; (with_reducible refine (spec_IsPlan.calls k1 _ _ l0 _ _ x3_1 true _ ?_ ?_ ?_ ?_ A13.out).mono ?_); exact cB HR0; exact HC0.out; (focus repeat (first | exact (Kd.R_reads' (Kd.S_R (spec_PlanFor.toS HO_3.out))).2.2 | (with_reducible refine Kd.C_alloc ?_ _) | (with_reducible refine Kd.C_drewN ?_ _) | (with_reducible refine Kd.C_drew ?_))); exact (Kd.R_reads' (Kd.S_R (spec_PlanFor.toS HO_3.out))).2.1; rintro e w17 ⟨rfl, hb⟩; refine ⟨_, rfl, ?_⟩; replace HO_3 := rb HO_3 hb; replace HO_4 := rb HO_4 hb; replace HB := bs HB hb; (try clear hb)))
    go_ret
    exact ⟨_, rA, spec_PlanFor.toS (rK HO_3), bA⟩
   replace c14 := Bool.eq_false_iff.mpr c14
   subst c14
   have H1 : (some (([] : List (S85)))) = some r := by rw [if_neg (show ¬ (false = true) by decide)] at H; exact H
   clear H
   have H := H1
   clear H1
   obtain ⟨y550, hy550⟩ : ∃ y_ : List (S85), y_ = (([] : List (S85))) := ⟨_, rfl⟩
   replace H : (some y550) = some r := rH H hy550
   have Ny550 := Aside0.mk hy550
   clear hy550
   obtain rfl := Option.some.inj H
   obtain ⟨Ao18, co18, eo18⟩ := Kd.R_slice HO_4.out
   rw [List.length_zipIdx] at eo18
   subst eo18
   obtain ⟨Ao19, co19, eo19⟩ := Kd.R_slice HO_3.out
   rw [List.length_zipIdx] at eo19
   subst eo19
   go_wp2_with (first | ((with_reducible refine gate_callee (f := 61) rfl ?_); refine gL (some 31) Try.func61 #[.slice A0 l0.length c0, .slice Ao19 x3_1.length co19] ?_; (with_reducible refine (spec_IsPlan.calls k1 _ _ l0 _ _ x3_1 false _ ?_ ?_ ?_ ?_ A13.out).mono ?_); exact cB HR0; exact HC0.out; (focus repeat (first | exact (Kd.R_reads' (Kd.S_R (spec_PlanFor.toS HO_3.out))).2.2 | (with_reducible refine Kd.C_alloc ?_ _) | (with_reducible refine Kd.C_drewN ?_ _) | (with_reducible refine Kd.C_drew ?_))); exact (Kd.R_reads' (Kd.S_R (spec_PlanFor.toS HO_3.out))).2.1; rintro e w20 ⟨rfl, hb⟩; refine ⟨_, rfl, ?_⟩; replace HO_3 := rb HO_3 hb; replace HO_4 := rb HO_4 hb; replace HB := bs HB hb; (try clear hb)) | ((with_reducible refine gate_dst (N := 33) rfl ?_); refine Kd.R_lit k85 _ 85 ?hg (N := 33) ?hd (xs := ([] : List (S85))) (inner := []) (ok := fun _ => True) (okp := fun _ => True) ?hr ?hp (fun _ hk => hk) trivial (Below.refl _ _) (Nat.le_refl _) (by simp) ?_; (case hd => rfl); (case hg => rfl); (case hr => first | (go_simp; done) | (go_simp; rfl)); (case hp => exact (Reps.none _ _)); intro v551 w21 ho22 hb hg_ hnew_; clear hg_ hnew_; replace HO_3 := rb HO_3 hb; replace HO_4 := rb HO_4 hb; have HO552 := rl w ho22; replace HB := bs HB hb; clear hb ho22))
   go_ret
   exact ⟨_, rA, by rw [Ny550.out]; exact spec_PlanFor.nilS (rK HO552), bA⟩

/-! ### spec_l8Draw: function 124 -/
mutual
def spec_l8Draw.l0 : Nat → List (S50) → List (S85) → Int → List Int → Int → Int → Option ((List (S50)) × (List (S85)) × Int × Int)
 | 0, _, _, _, _, _, _ => none
 | k + 1, x4, x5, x6, x1000, x1001, x1002 => if x6 < 4 then (spec_l8Draw.j1 k x4 x5 x6 ((x5.length : Int) == 0) x1000 x1001 x1002) else (spec_l8Draw.j1 k x4 x5 x6 false x1000 x1001 x1002)
def spec_l8Draw.j1 : Nat → List (S50) → List (S85) → Int → Bool → List Int → Int → Int → Option ((List (S50)) × (List (S85)) × Int × Int)
 | 0, _, _, _, _, _, _, _ => none
 | k + 1, x4, x5, x6, x18, x1000, x1001, x1002 => if x18 = true then ((spec_l5Draw.f k x1000 x1001 x1002).bind fun bt561 => ((spec_PlanFor.f k bt561.1).bind fun t566 => (spec_l8Draw.l0 k bt561.1 t566 (wrap64 (x6 + 1)) x1000 bt561.2.1 bt561.2.2))) else (spec_l8Draw.l1 k x4 x5 0 x1000 x1001 x1002)
def spec_l8Draw.l1 : Nat → List (S50) → List (S85) → Int → List Int → Int → Int → Option ((List (S50)) × (List (S85)) × Int × Int)
 | 0, _, _, _, _, _, _ => none
 | k + 1, x4, x5, x7, x1000, x1001, x1002 => if x7 < (x5.length : Int) then (if 0 ≤ x7 then ((spec_l1Below.f x1000 x1001 x1002 12).bind fun bt570 => (spec_l8Draw.l1 k x4 (x5.set (x7 : Int).toNat (⟨(rd_T85 x5 x7).f0, wrap64 (((rd_T85 x5 x7).f1) + bt570.1)⟩ : S85)) (wrap64 (x7 + 1)) x1000 bt570.2.1 bt570.2.2)) else (none)) else (some (x4, x5, x1001, x1002))
end
def spec_l8Draw.f (k : Nat) (s0_0 : List Int) (s0_1 : Int) (s0_2 : Int) : Option ((List (S50)) × (List (S85)) × Int × Int) := (spec_l5Draw.f k s0_0 s0_1 s0_2).bind fun bt553 => ((spec_PlanFor.f k bt553.1).bind fun t558 => (spec_l8Draw.l0 k bt553.1 t558 0 s0_0 bt553.2.1 bt553.2.2))
theorem spec_l8Draw.mono_l : ∀ k, (∀ y0 y1 y2 y3 y4 y5, LeO (spec_l8Draw.l0 k y0 y1 y2 y3 y4 y5) (spec_l8Draw.l0 (k + 1) y0 y1 y2 y3 y4 y5)) ∧ (∀ y0 y1 y2 y3 y4 y5 y6, LeO (spec_l8Draw.j1 k y0 y1 y2 y3 y4 y5 y6) (spec_l8Draw.j1 (k + 1) y0 y1 y2 y3 y4 y5 y6)) ∧ (∀ y0 y1 y2 y3 y4 y5, LeO (spec_l8Draw.l1 k y0 y1 y2 y3 y4 y5) (spec_l8Draw.l1 (k + 1) y0 y1 y2 y3 y4 y5))
 | 0 => ⟨fun _ _ _ _ _ _ r h => by simp [spec_l8Draw.l0] at h, fun _ _ _ _ _ _ _ r h => by simp [spec_l8Draw.j1] at h, fun _ _ _ _ _ _ r h => by simp [spec_l8Draw.l1] at h⟩
 | k + 1 => by
  obtain ⟨ih0, ih1, ih2⟩ := spec_l8Draw.mono_l k
  refine ⟨?_, ?_, ?_⟩
  ·
   intro y0 y1 y2 y3 y4 y5
   unfold spec_l8Draw.l0
   exact mz5 ih0 ih1 ih2 spec_PlanFor.mono spec_l5Draw.mono
  ·
   intro y0 y1 y2 y3 y4 y5 y6
   unfold spec_l8Draw.j1
   exact mz5 ih0 ih1 ih2 spec_PlanFor.mono spec_l5Draw.mono
  ·
   intro y0 y1 y2 y3 y4 y5
   unfold spec_l8Draw.l1
   exact mz5 ih0 ih1 ih2 spec_PlanFor.mono spec_l5Draw.mono
theorem spec_l8Draw.mono : ∀ a0 a1 a2 k, LeO (spec_l8Draw.f k a0 a1 a2) (spec_l8Draw.f (k + 1) a0 a1 a2) := by
 intro a0 a1 a2 k
 obtain ⟨ih0, ih1, ih2⟩ := spec_l8Draw.mono_l k
 unfold spec_l8Draw.f
 exact mz5 ih0 ih1 ih2 spec_PlanFor.mono spec_l5Draw.mono
def spec_l8Draw.T11 : Bool × List (List Nat × List Nat) := (true, [([], []), ([], []), ([], []), ([], []), ([2, 3], [2, 3]), ([4], [4]), ([5], [5]), ([], []), ([7], [7]), ([6, 8], [6, 8]), ([0, 1, 0, 1, 2, 3, 4, 5, 6, 7, 8, 9], [0, 1]), ([10, 0, 1, 2, 3, 4, 5, 6, 7, 8, 9], [10]), ([11, 9, 8, 0, 1, 2, 3, 4, 5, 6, 7, 8, 9], [9, 11])])
def spec_l8Draw.B11 : List Nat := [0, 0, 0, 0, 12, 28, 60, 0, 128, 508, 1023, 2047, 4095]
theorem spec_l8Draw.tab11 : rtab .any (opsOf Try.f124 11) = spec_l8Draw.T11 := by kernel_rfl
theorem spec_l8Draw.bits11 : waitsOk spec_l8Draw.T11.2 spec_l8Draw.B11 = true := by kernel_rfl
set_option maxHeartbeats 8000000 in
set_option maxRecDepth 100000 in
theorem spec_l8Draw.calls (k : Nat) (g : Nat) (s0_0 : List Int) (s0_1 : Int) (s0_2 : Int) (r1 : List (S50)) (r2 : List (S85)) (r3 : Int) (r4 : Int) (w0 w : World) (hI : IsS138 w0 w g s0_0 s0_1 s0_2) (hB : Below w0.heap.size w0 w) (h : spec_l8Draw.f k s0_0 s0_1 s0_2 = some (r1, r2, r3, r4)) :
  Calls Try.prog 124 #[.pointer (some ⟨g, 0, none⟩)] w fun e w' => ∃ v0_ v1_ : Value, e = .returned (.tuple #[v0_, v1_]) ∧ Kd.R k50 50 w' w.heap.size (fun _ => True) v0_ r1 ∧ Kd.S k85 85 w' w.heap.size (fun _ => True) v1_ r2 ∧ IsS138 w0 w' g s0_0 r3 r4 ∧ Below w0.heap.size w0 w' ∧ KeepBut w w' g none := by
 have HI0 := Aside0.mk hI
 have HK := Aside0.mk (KeepBut.refl w g none)
 have HL := Aside0.mk hB.size
 clear hI
 have HW0 := Aside0.mk hB.size
 have HB := Aside0.mk hB
 clear hB
 have H : ((spec_l5Draw.f k s0_0 s0_1 s0_2).bind fun bt553 => ((spec_PlanFor.f k bt553.1).bind fun t558 => (spec_l8Draw.l0 k bt553.1 t558 0 s0_0 bt553.2.1 bt553.2.2))) = some (r1, r2, r3, r4) := h
 clear h
 obtain ⟨⟨t553, t556, t557⟩, A2, H⟩ := bindE H
 try dsimp only at H
 obtain ⟨t558, A3, H⟩ := bindE H
 try dsimp only at H
 have H' := Aside0.mk H
 clear H
 go_enter Try.func124, Try.ntmps124
 go_wp2_with (first | ((with_reducible refine gate_callee (f := 150) rfl ?_); refine gL (some 9) Try.func150 #[.pointer (some ⟨g, 0, none⟩)] ?_; (with_reducible refine (spec_l5Draw.calls k g s0_0 s0_1 s0_2 t553 t556 t557 w0 _ ?_ ?_ A2.out).mono ?_); exact sI1380 HI0.out; exact sB1 HB.out (IsS138.ge HI0.out); rintro e w4 ⟨v554, rfl, ho0, hi, hb, hk⟩; refine ⟨_, rfl, ?_⟩; have HO555 := Aside0.mk (Kd.R_lower ho0 (keep_size (w := w) (g := g) (row := none) (by exact sK0 HK.out))); replace HK := Aside0.mk (KeepBut.trans (by exact sK0 HK.out) hk (.inl rfl)); replace HB := Aside0.mk (hb); replace HI0 := Aside0.mk (hi); (try clear hb); (try clear hk); (try clear hi); (try clear ho0); obtain ⟨Ao5, co5, eo5⟩ := Kd.R_slice HO555.out; subst eo5) | ((with_reducible refine gate_callee (f := 151) rfl ?_); refine gL (some 11) Try.func151 #[.slice Ao5 t553.length co5] ?_; (with_reducible refine (spec_PlanFor.calls k _ _ t553 t558 _ ?_ ?_ A3.out).mono ?_); exact cO ⟨(Kd.R_reads' HO555.out).2.2⟩; exact (Kd.R_reads' HO555.out).2.1; rintro e w6 ⟨v559, rfl, ho0, hb⟩; refine ⟨_, rfl, ?_⟩; replace HO555 := rb HO555 hb; have HO560 := Aside0.mk (Kd.S_lower ho0 (keep_size (w := w) (g := g) (row := none) (by exact sK0 HK.out))); replace HK := Aside0.mk (KeepBut.trans (by exact sK0 HK.out) (KeepBut.of_below hb g none) (.inl rfl)); replace HB := Aside0.mk (below_step (by exact sB1 HB.out (IsS138.ge HI0.out)) hb); replace HI0 := Aside0.mk (IsS138.below (by exact sI1380 HI0.out) hb); (try clear hb); (try clear ho0)))
 go_loopg [4, 5, 6] k (fun kq v4 v5 v6 w' => ∃ (x4_1 : List (S50)) (x5_1 : List (S85)) (x6_1 : Int) (x1001_1 : Int) (x1002_1 : Int), v6 = .int .i64 x6_1 ∧ Aside0 (spec_l8Draw.l0 kq x4_1 x5_1 x6_1 s0_0 x1001_1 x1002_1 = some (r1, r2, r3, r4)) ∧ Aside0 (kq ≤ k) ∧ Aside0 (Kd.R k50 50 w' w.heap.size (fun _ => True) v4 x4_1) ∧ Aside0 (Kd.S k85 85 w' w.heap.size (fun _ => True) v5 x5_1) ∧ Aside0 (IsS138 w0 w' g s0_0 x1001_1 x1002_1) ∧ Aside0 (KeepBut w w' g none) ∧ Aside0 (Below w0.heap.size w0 w'))
 case atStart => exact ⟨(t553), (t558), (0), (t556), (t557), rS, H', ⟨Nat.le_refl _⟩, ⟨rK HO555⟩, ⟨sK HO560⟩, ⟨by exact sI1380 HI0.out⟩, ⟨by exact sK0 HK.out⟩, ⟨by exact sB1 HB.out (IsS138.ge HI0.out)⟩⟩
 case round =>
  clear H'
  obtain ⟨x4_1, x5_1, x6_1, x1001_1, x1002_1, rfl, HA, HK1, HO_4, HO_5, HI0, HK, HB⟩ := hrel
  cases gk with
  | zero => exact absurd HA.out (by simp [spec_l8Draw.l0])
  | succ k1 =>
   have H := HA.out
   clear HA
   simp only [spec_l8Draw.l0] at H
   have HC7 := Aside0.mk H
   clear H
   go_upto_region 4 with (fail)
   go_cut [18] (fun v18 wc => ∃ (kq : Nat) (x18_6 : Bool), v18 = .bool x18_6 ∧ Aside0 (spec_l8Draw.j1 kq x4_1 x5_1 x6_1 x18_6 s0_0 x1001_1 x1002_1 = some (r1, r2, r3, r4)) ∧ Aside0 (kq ≤ k1) ∧ Aside0 (Kd.R k50 50 wc w.heap.size (fun _ => True) u4 x4_1) ∧ Aside0 (Kd.S k85 85 wc w.heap.size (fun _ => True) u5 x5_1) ∧ Aside0 (IsS138 w0 wc g s0_0 x1001_1 x1002_1) ∧ Aside0 (KeepBut w wc g none) ∧ Aside0 (Below w0.heap.size w0 wc))
   case first =>
    have H := HC7.out
    clear HC7
    by_cases c8 : x6_1 < 4
    ·
     rw [if_pos c8] at H
     have c8b0 := decide_eq_true c8
     clear c8
     (first | rw [c8b0] | (simp only [i64_w, i32_w]; rw [c8b0]) | skip)
     have H' := Aside0.mk H
     clear H
     obtain ⟨Ao9, co9, eo9⟩ := Kd.S_slice HO_5.out
     subst eo9
     go_wp2
     go_meet
     case rel => exact ⟨_, (((x5_1.length : Int) == 0)), rS, H', ⟨by have := HK1.out; first | omega | exact Nat.le_refl _⟩, ⟨rK HO_4⟩, ⟨sK HO_5⟩, ⟨by exact sI1380 HI0.out⟩, ⟨by exact sK0 HK.out⟩, ⟨by exact sB1 HB.out (IsS138.ge HI0.out)⟩⟩
    rw [if_neg c8] at H
    have c8b0 := decide_eq_false c8
    clear c8
    (first | rw [c8b0] | (simp only [i64_w, i32_w]; rw [c8b0]) | skip)
    have H' := Aside0.mk H
    clear H
    go_wp2
    go_meet
    case rel => exact ⟨_, (false), rS, H', ⟨by have := HK1.out; first | omega | exact Nat.le_refl _⟩, ⟨rK HO_4⟩, ⟨sK HO_5⟩, ⟨by exact sI1380 HI0.out⟩, ⟨by exact sK0 HK.out⟩, ⟨by exact sB1 HB.out (IsS138.ge HI0.out)⟩⟩
   case rest =>
    clear HC7
    obtain ⟨kq, x18_6, rfl, HA, HJ6, HO_4, HO_5, HI0, HK, HB⟩ := hcut
    cases kq with
    | zero => exact absurd HA.out (by simp [spec_l8Draw.j1])
    | succ kj6 =>
     have H := HA.out
     clear HA
     simp only [spec_l8Draw.j1] at H
     by_cases c10 : x18_6 = true
     ·
      subst c10
      have H1 : ((spec_l5Draw.f kj6 s0_0 x1001_1 x1002_1).bind fun bt561 => ((spec_PlanFor.f kj6 bt561.1).bind fun t566 => (spec_l8Draw.l0 kj6 bt561.1 t566 (wrap64 (x6_1 + 1)) s0_0 bt561.2.1 bt561.2.2))) = some (r1, r2, r3, r4) := by rw [if_pos rfl] at H; exact H
      clear H
      have H := H1
      clear H1
      obtain ⟨⟨t561, t564, t565⟩, A11, H⟩ := bindE H
      try dsimp only at H
      obtain ⟨t566, A12, H⟩ := bindE H
      try dsimp only at H
      have H' := Aside0.mk H
      clear H
      go_wp2_with (first | ((with_reducible refine gate_callee (f := 150) rfl ?_); refine gL (some 22) Try.func150 #[.pointer (some ⟨g, 0, none⟩)] ?_; (with_reducible refine (spec_l5Draw.calls kj6 g s0_0 x1001_1 x1002_1 t561 t564 t565 w0 _ ?_ ?_ A11.out).mono ?_); exact sI1380 HI0.out; exact sB1 HB.out (IsS138.ge HI0.out); rintro e w13 ⟨v562, rfl, ho0, hi, hb, hk⟩; refine ⟨_, rfl, ?_⟩; replace HO_5 := Aside0.mk (Kd.S_mono (Kd.S_keep (IsS138.apartS (show IsS138 w0 _ g s0_0 x1001_1 x1002_1 from by exact sI1380 HI0.out) (sK HO_5) (by decide)) hk (fun _ h => h.2)) (fun _ h => h.1)); have HO563 := Aside0.mk (Kd.R_lower (Kd.R_new' ho0 (Kd.R_lt (rK HO_4))) (keep_size (w := w) (g := g) (row := none) (by exact sK0 HK.out))); replace HO_4 := Aside0.mk (Kd.R_mono (Kd.R_told (Kd.R_oldK (IsS138.apart (show IsS138 w0 _ g s0_0 x1001_1 x1002_1 from by exact sI1380 HI0.out) (rK HO_4) (by decide)) hk) (Kd.R_base ho0)) (fun _ h_ => h_.1)); replace HK := Aside0.mk (KeepBut.trans (by exact sK0 HK.out) hk (.inl rfl)); replace HB := Aside0.mk (hb); replace HI0 := Aside0.mk (hi); (try clear hb); (try clear hk); (try clear hi); (try clear ho0); obtain ⟨Ao14, co14, eo14⟩ := Kd.R_slice HO563.out; subst eo14) | ((with_reducible refine gate_callee (f := 151) rfl ?_); refine gL (some 24) Try.func151 #[.slice Ao14 t561.length co14] ?_; (with_reducible refine (spec_PlanFor.calls kj6 _ _ t561 t566 _ ?_ ?_ A12.out).mono ?_); exact cO ⟨(Kd.R_reads' HO563.out).2.2⟩; exact (Kd.R_reads' HO563.out).2.1; rintro e w15 ⟨v567, rfl, ho0, hb⟩; refine ⟨_, rfl, ?_⟩; replace HO_4 := rb HO_4 hb; replace HO563 := rb HO563 hb; have HO568 := Aside0.mk (Kd.S_lower (Kd.S_new' ho0 (Kd.S_lt (sK HO_5))) (keep_size (w := w) (g := g) (row := none) (by exact sK0 HK.out))); replace HO_5 := Aside0.mk (Kd.S_elder' (sK HO_5) (Kd.S_base ho0) hb); replace HK := Aside0.mk (KeepBut.trans (by exact sK0 HK.out) (KeepBut.of_below hb g none) (.inl rfl)); replace HB := Aside0.mk (below_step (by exact sB1 HB.out (IsS138.ge HI0.out)) hb); replace HI0 := Aside0.mk (IsS138.below (by exact sI1380 HI0.out) hb); (try clear hb); (try clear ho0)))
      go_roundg kj6
      case measure => have := HK1.out; have := HJ6.out; omega
      case rel => exact ⟨(t561), (t566), (wrap64 (x6_1 + 1)), (t564), (t565), rS, H', ⟨by have := HK1.out; have := HJ6.out; omega⟩, ⟨rm HO563 (fun _ hk => trivial)⟩, ⟨sm HO568 (fun _ hk => trivial)⟩, ⟨by exact sI1380 HI0.out⟩, ⟨by exact sK0 HK.out⟩, ⟨by exact sB1 HB.out (IsS138.ge HI0.out)⟩⟩
     replace c10 := Bool.eq_false_iff.mpr c10
     subst c10
     have H1 : (spec_l8Draw.l1 kj6 x4_1 x5_1 0 s0_0 x1001_1 x1002_1) = some (r1, r2, r3, r4) := by rw [if_neg (show ¬ (false = true) by decide)] at H; exact H
     clear H
     have H := H1
     clear H1
     have H' := Aside0.mk H
     clear H
     go_wp2
     go_loopg [7] kj6 (fun kq v7 w' => ∃ (x5_3 : List (S85)) (x7_3 : Int) (x1001_3 : Int) (x1002_3 : Int), v7 = .int .i64 x7_3 ∧ Aside0 (spec_l8Draw.l1 kq x4_1 x5_3 x7_3 s0_0 x1001_3 x1002_3 = some (r1, r2, r3, r4)) ∧ Aside0 (kq ≤ kj6) ∧ Aside0 (Kd.R k50 50 w' w.heap.size (fun _ => True) u4 x4_1) ∧ Aside0 (Kd.S k85 85 w' w.heap.size (fun _ => True) u5 x5_3) ∧ Aside0 (IsS138 w0 w' g s0_0 x1001_3 x1002_3) ∧ Aside0 (KeepBut w w' g none) ∧ Aside0 (Below w0.heap.size w0 w'))
     case atStart => exact ⟨(x5_1), (0), (x1001_1), (x1002_1), rS, H', ⟨Nat.le_refl _⟩, ⟨rK HO_4⟩, ⟨sK HO_5⟩, ⟨by exact sI1380 HI0.out⟩, ⟨by exact sK0 HK.out⟩, ⟨by exact sB1 HB.out (IsS138.ge HI0.out)⟩⟩
     case round =>
      clear H'
      obtain ⟨x5_3, x7_3, x1001_3, x1002_3, rfl, HA, HK3, HO_4, HO_5, HI0, HK, HB⟩ := hrel
      cases gk with
      | zero => exact absurd HA.out (by simp [spec_l8Draw.l1])
      | succ k3 =>
       have H := HA.out
       clear HA
       simp only [spec_l8Draw.l1] at H
       by_cases c16 : x7_3 < (x5_3.length : Int)
       ·
        rw [if_pos c16] at H
        have c16b0 := decide_eq_true c16
        clear c16
        have c17 : 0 ≤ x7_3 := ifN H
        replace H := ifT H
        have c17b0 := decide_eq_true c17
        clear c17
        obtain ⟨⟨t570, t571, t572⟩, A18, H⟩ := bindE H
        try dsimp only at H
        obtain ⟨y573, hy573⟩ : ∃ y_ : List (S85), y_ = (x5_3.set (x7_3 : Int).toNat (⟨(rd_T85 x5_3 x7_3).f0, wrap64 (((rd_T85 x5_3 x7_3).f1) + t570)⟩ : S85)) := ⟨_, rfl⟩
        replace H : (spec_l8Draw.l1 k3 x4_1 y573 (wrap64 (x7_3 + 1)) s0_0 t571 t572) = some (r1, r2, r3, r4) := rH H hy573
        have Ny573 := Aside0.mk hy573
        clear hy573
        have H' := Aside0.mk H
        clear H
        obtain ⟨Ao20, co20, eo20⟩ := Kd.S_slice HO_5.out
        subst eo20
        try go_wp2
        replace HO_4 := dr HO_4
        replace HO_5 := ds HO_5
        replace HI0 := Aside0.mk (IsS138.drew HI0.out)
        replace HK := Aside0.mk (keep_drew HK.out)
        have HBo := HB
        replace HB := db HB
        obtain ⟨p569, q569⟩ : 0 ≤ (x7_3 : Int) ∧ x7_3 < (x5_3.length : Int) := ⟨dA, dA⟩
        obtain ⟨ad569, A569_0, c569_0, e569, hx569_0, hx569_1, hl569_0, hi569_0⟩ := at_T85 (Kd.S_reads' HO_5.out).2.2 x7_3 p569 q569
        cases e569
        obtain ⟨ce569, hce569, hMe569, hcc569⟩ := Kd.S_get HO_5.out z85 x7_3 p569 (by first | exact q569 | exact dA | (have e_ := (Kd.S_reads' HO_5.out).1; omega))
        obtain ⟨ve569_0, rfl, ge569_0⟩ := k85_openM hMe569
        have hv569_0 := hcc569 0 _ rfl
        rw [Nat.add_zero] at hv569_0
        replace hv569_0 := Option.some.inj (hv569_0.symm.trans hx569_0)
        rw [hv569_0] at ge569_0
        have HL569_0 := Aside0.mk (show Kd.R (Kd.int .i64) 3 _ _ _ _ ((rd_T85 x5_3 x7_3).f0) from ge569_0)
        clear hv569_0 ge569_0
        clear hcc569 hce569
        have HR569_0 := Aside0.mk hi569_0
        have HC569_0 := Aside0.mk hl569_0
        clear hi569_0 hl569_0
        obtain ⟨p569, q569⟩ := eT p569 q569
        refine start_ (n := 13) (S := fun w' => w'.cell? (ad569.add ((x7_3).toNat * 2)) = some (.slice A569_0 ((rd_T85 x5_3 x7_3).f0).length c569_0) ∧ w'.cell? ⟨(ad569.add ((x7_3).toNat * 2)).block, (ad569.add ((x7_3).toNat * 2)).off + 1, none⟩ = some (.int .i64 ((rd_T85 x5_3 x7_3).f1))) (ds := [12]) (mb 13 0) (by kernel_rfl) rfl rfl ⟨hx569_0, hx569_1⟩ (fun hHeld => ?_); refine with_tabW spec_l8Draw.tab11 spec_l8Draw.bits11 (fun HT_ HW_ => ?_)
        generalize wr.drew = w21 at HO_4 HO_5 HI0 HK HB HL569_0 HR569_0 hx569_0 hx569_1 hHeld ⊢
        refine pa 0 31 (mb 13 1) HT_ ?_
        refine pa 1 32 (mb 13 3) HT_ ?_
        refine pa 2 33 (mb 13 7) HT_ ?_
        refine pa 3 34 (mb 13 15) HT_ ?_
        refine pa 4 35 (mb 13 31) HT_ ?_
        refine pa 5 36 (mb 13 63) HT_ ?_
        refine pa 7 38 (mb 13 191) HT_ ?_
        refine ta2 6 37 (mb 13 255) HT_ HW_ hHeld ?_
        refine oa 8 39 (mb 13 511) HT_ (fun K hK => ?_)
        refine gA Try.func84 #[.pointer (some ⟨g, 0, none⟩), .int .i64 12] ?_
        with_reducible refine (spec_l1Below.calls g s0_0 x1001_3 x1002_3 12 t570 t571 t572 w0 _ ?side1 ?side2 A18.out).mono ?_
        (case side1 => exact sI1380 HI0.out)
        (case side2 => exact sB1 HB.out (IsS138.ge HI0.out))
        rintro e w22 ⟨rfl, hi, hb, hk⟩
        have HS0_ := keep_cell hk (hHeld.1) (by first | (rw [add_block]; exact Kd.own_blk (IsS138.own_neS HI0.out HO_5.out (by decide))) | (show (Addr.add _ _).block ≠ _; rw [add_block]; exact Kd.own_blk (IsS138.own_neS HI0.out HO_5.out (by decide))) | exact Kd.own_blk (IsS138.own_neS HI0.out HO_5.out (by decide)))
        have HS1_ := keep_cell hk (hHeld.2) (by first | (rw [add_block]; exact Kd.own_blk (IsS138.own_neS HI0.out HO_5.out (by decide))) | (show (Addr.add _ _).block ≠ _; rw [add_block]; exact Kd.own_blk (IsS138.own_neS HI0.out HO_5.out (by decide))) | exact Kd.own_blk (IsS138.own_neS HI0.out HO_5.out (by decide)))
        refine ⟨_, rfl, ?_⟩
        replace HO_4 := Aside0.mk (Kd.R_mono (Kd.R_keep (IsS138.apart (show IsS138 w0 _ g s0_0 x1001_3 x1002_3 from by exact sI1380 HI0.out) (rK HO_4) (by decide)) hk (fun _ h => h.2)) (fun _ h => h.1))
        replace HO_5 := Aside0.mk (Kd.S_mono (Kd.S_keep (IsS138.apartS (show IsS138 w0 _ g s0_0 x1001_3 x1002_3 from by exact sI1380 HI0.out) (sK HO_5) (by decide)) hk (fun _ h => h.2)) (fun _ h => h.1))
        replace HL569_0 := Aside0.mk (Kd.R_mono (Kd.R_keep (IsS138.apart (show IsS138 w0 _ g s0_0 x1001_3 x1002_3 from by exact sI1380 HI0.out) (by (with_reducible repeat (first | apply Kd.R_alloc | apply Kd.R_drewN | apply Kd.R_drew)); exact HL569_0.out) (by decide)) hk (fun _ h => h.2)) (fun _ h => h.1))
        replace HK := Aside0.mk (KeepBut.trans (by exact sK0 HK.out) hk (.inl rfl))
        replace HB := Aside0.mk (hb)
        replace HI0 := Aside0.mk (hi)
        (try clear hb)
        (try clear hb2)
        (try clear hk)
        (try clear hi)
        obtain ⟨p19, q19⟩ : 0 ≤ (x7_3 : Int) ∧ (x7_3 : Int) < ((x5_3.length : Int) : Int) := ⟨dA, dA⟩
        obtain ⟨go19, co19, eo19, gb19, gl19, cl19, HG19⟩ := Kd.S_form HO_5.out (by omega)
        (first | cases eo19 | (injection eo19 with ea_ en_ ec_; (first | subst ea_ | (injection ea_ with ea_; subst ea_)); subst ec_; clear en_))
        have GB19 := Aside0.mk gb19
        have GG19 := Aside0.mk HG19
        clear gb19 gl19 HG19
        (first | simp only [add_plain] at hx569_0 | skip)
        (first | simp only [add_plain] at hx569_1 | skip)
        obtain ⟨_, ce19, hcl19, hM19, hcc19, hfr19, _, _⟩ := Kd.S_elem HO_5.out z85 (x7_3 : Int) p19 q19
        obtain ⟨ve19_0, rfl, ge19_0⟩ := k85_openM hM19
        have hx19_0 : World.cell? _ ⟨go19, (x7_3 : Int).toNat * 2, none⟩ = some (ve19_0) := hcc19 0 _ rfl
        have hx19_1 : World.cell? _ ⟨go19, (x7_3 : Int).toNat * 2 + 1, none⟩ = some (.int .i64 ((rd_T85 x5_3 x7_3).f1)) := hcc19 1 _ rfl
        have hf19_0 : World.frozen? _ ⟨go19, (x7_3 : Int).toNat * 2, none⟩ = false := hfr19 0
        have hf19_1 : World.frozen? _ ⟨go19, (x7_3 : Int).toNat * 2 + 1, none⟩ = false := hfr19 1
        clear hcl19 hcc19 hfr19 hM19
        obtain ⟨p19, q19⟩ := eT p19 q19
        have HN0_go19 := Aside0.mk (show g ≠ go19 from by have h_ := IsS138.own_neS HI0.out HO_5.out (by decide); intro e_; exact h_ (by rw [e_]; rfl))
        have HX23 := Aside0.mk (show Kd.S k85 85 _ w.heap.size (fun k_ => ((fun _ => True)) k_ ∧ ¬ (fun _ => False) k_) (.slice (some ⟨go19, 0, none⟩) x5_3.length co20) x5_3 from (sm HO_5 (fun k_ hk => ⟨trivial, fun e_ => e_⟩)))
        obtain ⟨oki23, ce23, hcl23, hM23, hcc23, hfr23, hoki23, hH23⟩ := Kd.S_elem HX23.out z85 (x7_3 : Int) (dA) (by have h_ : (x7_3 : Int) < ((x5_3.length : Int) : Int) := dA; first | exact h_ | (have e_ := (Kd.S_reads' HO_5.out).1; omega) | simpa using h_)
        obtain ⟨ve23_0, rfl, ge23_0⟩ := k85_openM hM23
        have HP23 := (Kd.S_seg hH23 (dA) (by have h_ : (x7_3 : Int) < ((x5_3.length : Int) : Int) := dA; first | exact h_ | (have e_ := (Kd.S_reads' HO_5.out).1; omega) | simpa using h_) (seg := [.int .i64 (wrap64 (((rd_T85 x5_3 x7_3).f1) + t570))]) (j := 1) (show 2 ≤ 2 from by decide) (x' := (⟨(rd_T85 x5_3 x7_3).f0, wrap64 (((rd_T85 x5_3 x7_3).f1) + t570)⟩ : S85)) (k85_mkM _ _ _ (⟨(rd_T85 x5_3 x7_3).f0, wrap64 (((rd_T85 x5_3 x7_3).f1) + t570)⟩ : S85) ge23_0) (fun _ hk => Or.inl hk) (fun _ hk => hk.elim)).1
        rw [← Ny573.out] at HP23
        have HQ23 := Aside0.mk HP23
        clear hcl23 hcc23 hfr23 hM23 HP23
        refine hK.out _ _ ⟨HS0_, HS1_⟩ (fun hHeld => ?_)
        clear hK K
        refine nB ?_
        refine pa 9 40 (mb 13 1023) HT_ ?_
        refine pa 10 41 (mb 13 2047) HT_ ?_
        refine pa 11 42 (mb 13 4095) HT_ ?_
        refine last_ (i := 12) (N := none) (mb 13 8191) rfl rfl (one_of HT_.out (by kernel_rfl)) (by decide) (fun K hK => ?_)
        refine skip_ (w1 := ?_) (by rfl) rfl ?_ ?_
        rotate_left
        ·
         go_simp
         rfl
        refine hK.out _ _ ?_
        clear hK K
        refine eA HT_ ?_
        try go_wp2
        go_roundg k3
        case measure => have := HK1.out; have := HJ6.out; have := HK3.out; omega
        case rel => exact ⟨(y573), (wrap64 (x7_3 + 1)), (t571), (t572), rS, H', ⟨by have := HK1.out; have := HJ6.out; have := HK3.out; omega⟩, ⟨by (with_reducible repeat (first | apply Kd.R_alloc | apply Kd.R_drewN | apply Kd.R_drew)); exact Kd.R_mono (Kd.R_far (p := ⟨go19, (x7_3 : Int).toNat * 2 + 1, none⟩) (Kd.R_types HO_4.out GG19.out (by decide)) (fun _ hk => hk.2) (.int .i64 (wrap64 (((rd_T85 x5_3 x7_3).f1) + t570)))) (fun _ hk => trivial)⟩, ⟨by (with_reducible repeat (first | apply Kd.S_alloc | apply Kd.S_drewN | apply Kd.S_drew)); exact HQ23.out⟩, ⟨by exact sI1381 HI0.out HN0_go19.out⟩, ⟨by exact sK1 HK.out GB19.out⟩, ⟨by repeat (first | (with_reducible first | exact HB.out | apply below_alloc | apply pw_below_drewN | apply below_drew1 | refine below_set ?_ (Nat.le_trans HL.out GB19.out) | refine below_set ?_ (IsS138.ge HI0.out)) | exact HB.out)⟩⟩
       rw [if_neg c16] at H
       have c16b0 := decide_eq_false c16
       clear c16
       simp only [Option.some.injEq, Prod.mk.injEq] at H
       obtain ⟨rfl, rfl, rfl, rfl⟩ := H
       obtain ⟨Ao24, co24, eo24⟩ := Kd.S_slice HO_5.out
       subst eo24
       go_wp2
       go_ret2
       exact ⟨_, _, rA, rK HO_4, sK HO_5, by exact sI1380 HI0.out, by exact sB1 HB.out (IsS138.ge HI0.out), by exact sK0 HK.out⟩

/-! ### spec_l8Any: function 82 -/
def spec_l8Any.f (k : Nat) (s0_0 : List Int) (s0_1 : Int) (s0_2 : Int) : Option ((List (S50)) × (List (S85)) × Int × Int) := (spec_l8Draw.f k s0_0 s0_1 s0_2).bind fun bt574 => (if (bt574.2.1.length : Int) = 0 then (some (bt574.1, bt574.2.1, bt574.2.2.1, bt574.2.2.2)) else ((spec_l1Below.f s0_0 bt574.2.2.1 bt574.2.2.2 (bt574.2.1.length : Int)).bind fun bt582 => ((spec_l1Below.f s0_0 bt582.2.1 bt582.2.2 10).bind fun bt585 => (if bt585.1 = 0 then ((spec_l1Int.f s0_0 bt585.2.1 bt585.2.2 (([4, 60, 61, 9223372036854775807] : List Int))).bind fun bt591 => (if 0 ≤ bt582.1 then (if bt582.1 < (bt574.2.1.length : Int) then (some (bt574.1, (bt574.2.1.set (bt582.1 : Int).toNat (⟨(rd_T85 bt574.2.1 bt582.1).f0, bt591.1⟩ : S85)), bt591.2.1, bt591.2.2)) else (none)) else (none))) else (if bt585.1 = 1 then (if 0 ≤ bt582.1 then (if bt582.1 < (bt574.2.1.length : Int) then (if 1 ≤ (((rd_T85 bt574.2.1 bt582.1).f0).length : Int) then (some (bt574.1, (bt574.2.1.set (bt582.1 : Int).toNat (⟨(((rd_T85 bt574.2.1 bt582.1).f0).drop 1), (rd_T85 bt574.2.1 bt582.1).f1⟩ : S85)), bt585.2.1, bt585.2.2)) else (none)) else (none)) else (none)) else (if bt585.1 = 2 then ((spec_l5Any.f k s0_0 bt585.2.1 bt585.2.2).bind fun bt602 => (some (bt602.1, bt574.2.1, bt602.2.1, bt602.2.2))) else (if bt585.1 = 3 then (if 1 ≤ (bt574.2.1.length : Int) then (some (bt574.1, (bt574.2.1.drop 1), bt585.2.1, bt585.2.2)) else (none)) else (some (bt574.1, bt574.2.1, bt585.2.1, bt585.2.2)))))))))
theorem spec_l8Any.mono : ∀ a0 a1 a2 k, LeO (spec_l8Any.f k a0 a1 a2) (spec_l8Any.f (k + 1) a0 a1 a2) := by
 intro a0 a1 a2 k
 unfold spec_l8Any.f
 exact mz2 spec_l5Any.mono spec_l8Draw.mono
set_option maxHeartbeats 8000000 in
set_option maxRecDepth 100000 in
theorem spec_l8Any.calls (k : Nat) (g : Nat) (s0_0 : List Int) (s0_1 : Int) (s0_2 : Int) (r1 : List (S50)) (r2 : List (S85)) (r3 : Int) (r4 : Int) (w0 w : World) (hI : IsS138 w0 w g s0_0 s0_1 s0_2) (hB : Below w0.heap.size w0 w) (h : spec_l8Any.f k s0_0 s0_1 s0_2 = some (r1, r2, r3, r4)) :
  Calls Try.prog 82 #[.pointer (some ⟨g, 0, none⟩)] w fun e w' => ∃ v0_ v1_ : Value, e = .returned (.tuple #[v0_, v1_]) ∧ Kd.R k50 50 w' w.heap.size (fun k_ => (w.heap.size ≤ k_)) v0_ r1 ∧ Kd.V k85 85 w' w.heap.size (fun k_ => (w.heap.size ≤ k_) ∧ some k_ ≠ (v0_ : Value).ownBlock) v1_ r2 ∧ IsS138 w0 w' g s0_0 r3 r4 ∧ Below w0.heap.size w0 w' ∧ KeepBut w w' g none := by
 have HI0 := Aside0.mk hI
 have HK := Aside0.mk (KeepBut.refl w g none)
 have HL := Aside0.mk hB.size
 clear hI
 have HW0 := Aside0.mk hB.size
 have HB := Aside0.mk hB
 clear hB
 have H : ((spec_l8Draw.f k s0_0 s0_1 s0_2).bind fun bt574 => (if (bt574.2.1.length : Int) = 0 then (some (bt574.1, bt574.2.1, bt574.2.2.1, bt574.2.2.2)) else ((spec_l1Below.f s0_0 bt574.2.2.1 bt574.2.2.2 (bt574.2.1.length : Int)).bind fun bt582 => ((spec_l1Below.f s0_0 bt582.2.1 bt582.2.2 10).bind fun bt585 => (if bt585.1 = 0 then ((spec_l1Int.f s0_0 bt585.2.1 bt585.2.2 (([4, 60, 61, 9223372036854775807] : List Int))).bind fun bt591 => (if 0 ≤ bt582.1 then (if bt582.1 < (bt574.2.1.length : Int) then (some (bt574.1, (bt574.2.1.set (bt582.1 : Int).toNat (⟨(rd_T85 bt574.2.1 bt582.1).f0, bt591.1⟩ : S85)), bt591.2.1, bt591.2.2)) else (none)) else (none))) else (if bt585.1 = 1 then (if 0 ≤ bt582.1 then (if bt582.1 < (bt574.2.1.length : Int) then (if 1 ≤ (((rd_T85 bt574.2.1 bt582.1).f0).length : Int) then (some (bt574.1, (bt574.2.1.set (bt582.1 : Int).toNat (⟨(((rd_T85 bt574.2.1 bt582.1).f0).drop 1), (rd_T85 bt574.2.1 bt582.1).f1⟩ : S85)), bt585.2.1, bt585.2.2)) else (none)) else (none)) else (none)) else (if bt585.1 = 2 then ((spec_l5Any.f k s0_0 bt585.2.1 bt585.2.2).bind fun bt602 => (some (bt602.1, bt574.2.1, bt602.2.1, bt602.2.2))) else (if bt585.1 = 3 then (if 1 ≤ (bt574.2.1.length : Int) then (some (bt574.1, (bt574.2.1.drop 1), bt585.2.1, bt585.2.2)) else (none)) else (some (bt574.1, bt574.2.1, bt585.2.1, bt585.2.2)))))))))) = some (r1, r2, r3, r4) := h
 clear h
 obtain ⟨⟨t574, t577, t580, t581⟩, A2, H⟩ := bindE H
 try dsimp only at H
 by_cases c3 : (t577.length : Int) = 0
 ·
  rw [if_pos c3] at H
  have c3b0 : ((t577.length : Int) == 0) = true := beq_iff_eq.mpr c3
  have c3b1 : ((t577.length : Int) != 0) = false := bne_eq_false_iff_eq.mpr c3
  clear c3
  simp only [Option.some.injEq, Prod.mk.injEq] at H
  obtain ⟨rfl, rfl, rfl, rfl⟩ := H
  go_enter Try.func82, Try.ntmps82
  go_wp2_with (first | ((with_reducible refine gate_callee (f := 124) rfl ?_); refine gL (some 9) Try.func124 #[.pointer (some ⟨g, 0, none⟩)] ?_; (with_reducible refine (spec_l8Draw.calls k g s0_0 s0_1 s0_2 t574 t577 t580 t581 w0 _ ?_ ?_ A2.out).mono ?_); exact sI1380 HI0.out; exact sB1 HB.out (IsS138.ge HI0.out); rintro e w4 ⟨v575, v578, rfl, ho0, ho1, hi, hb, hk⟩; refine ⟨_, rfl, ?_⟩; have HO576 := Aside0.mk (Kd.R_lower (Kd.R_newM (M := fun k_ => (w.heap.size ≤ k_)) ho0 (keep_size (w := w) (g := g) (row := none) (by exact sK0 HK.out)) (fun k_ h_ => h_)) (keep_size (w := w) (g := g) (row := none) (by exact sK0 HK.out))); have HO579 := Aside0.mk (Kd.N_lower (Kd.N_mono (ok' := fun k_ => (w.heap.size ≤ k_) ∧ some k_ ≠ (v575 : Value).ownBlock ∧ k_ ≠ g) (Kd.S_N (Kd.S_bound (Kd.S_apart' ho1 (Kd.R_typed ho0) (by decide)))) (fun k_ hk_ => ⟨(Nat.le_trans (keep_size (w := w) (g := g) (row := none) (by exact sK0 HK.out)) hk_.2.1), hk_.1.2, (IsS138.fresh (by exact sI1380 HI0.out) k_ hk_.2.1)⟩)) (keep_size (w := w) (g := g) (row := none) (by exact sK0 HK.out))); replace HK := Aside0.mk (KeepBut.trans (by exact sK0 HK.out) hk (.inl rfl)); replace HB := Aside0.mk (hb); replace HI0 := Aside0.mk (hi); (try clear hb); (try clear hk); (try clear hi); (try clear ho0); (try clear ho1); obtain ⟨Ao5, co5, eo5⟩ := Kd.N_slice HO579.out; subst eo5))
  go_ret2
  exact ⟨_, _, rA, rm HO576 (fun _ hk => hk.1), Kd.N_V (nm HO579 (fun _ hk => ⟨hk.1, hk.2.1⟩)), by exact sI1380 HI0.out, by exact sB1 HB.out (IsS138.ge HI0.out), by exact sK0 HK.out⟩
 rw [if_neg c3] at H
 have c3b0 : ((t577.length : Int) == 0) = false := beq_eq_false_iff_ne.mpr c3
 have c3b1 : ((t577.length : Int) != 0) = true := bne_iff_ne.mpr c3
 have c3b2 : ¬ (t577 = []) := fun h_ => c3 (by rw [h_]; rfl)
 obtain ⟨⟨t582, t583, t584⟩, A6, H⟩ := bindE H
 try dsimp only at H
 obtain ⟨⟨t585, t586, t587⟩, A7, H⟩ := bindE H
 try dsimp only at H
 by_cases c8 : t585 = 0
 ·
  rw [if_pos c8] at H
  have c8b0 : (t585 == 0) = true := beq_iff_eq.mpr c8
  have c8b1 : (t585 != 0) = false := bne_eq_false_iff_eq.mpr c8
  clear c8
  obtain ⟨y588, hy588⟩ : ∃ y_ : List Int, y_ = (([4, 60, 61, 9223372036854775807] : List Int)) := ⟨_, rfl⟩
  replace H : ((spec_l1Int.f s0_0 t586 t587 y588).bind fun bt591 => (if 0 ≤ t582 then (if t582 < (t577.length : Int) then (some (t574, (t577.set (t582 : Int).toNat (⟨(rd_T85 t577 t582).f0, bt591.1⟩ : S85)), bt591.2.1, bt591.2.2)) else (none)) else (none))) = some (r1, r2, r3, r4) := rH H hy588
  have Ny588 := Aside0.mk hy588
  clear hy588
  obtain ⟨⟨t591, t592, t593⟩, A9, H⟩ := bindE H
  try dsimp only at H
  have c10 : 0 ≤ t582 := ifN H
  replace H := ifT H
  have c10b0 := decide_eq_true c10
  clear c10
  have c11 : t582 < (t577.length : Int) := ifN H
  replace H := ifT H
  have c11b0 := decide_eq_true c11
  clear c11
  obtain ⟨y594, hy594⟩ : ∃ y_ : List (S85), y_ = (t577.set (t582 : Int).toNat (⟨(rd_T85 t577 t582).f0, t591⟩ : S85)) := ⟨_, rfl⟩
  replace H : (some (t574, y594, t592, t593)) = some (r1, r2, r3, r4) := rH H hy594
  have Ny594 := Aside0.mk hy594
  clear hy594
  simp only [Option.some.injEq, Prod.mk.injEq] at H
  obtain ⟨rfl, rfl, rfl, rfl⟩ := H
  go_enter Try.func82, Try.ntmps82
  go_wp2_with (first | ((with_reducible refine gate_callee (f := 124) rfl ?_); refine gL (some 9) Try.func124 #[.pointer (some ⟨g, 0, none⟩)] ?_; (with_reducible refine (spec_l8Draw.calls k g s0_0 s0_1 s0_2 t574 t577 t580 t581 w0 _ ?_ ?_ A2.out).mono ?_); exact sI1380 HI0.out; exact sB1 HB.out (IsS138.ge HI0.out); rintro e w13 ⟨v575, v578, rfl, ho0, ho1, hi, hb, hk⟩; refine ⟨_, rfl, ?_⟩; have HO576 := Aside0.mk (Kd.R_lower (Kd.R_newM (M := fun k_ => (w.heap.size ≤ k_)) ho0 (keep_size (w := w) (g := g) (row := none) (by exact sK0 HK.out)) (fun k_ h_ => h_)) (keep_size (w := w) (g := g) (row := none) (by exact sK0 HK.out))); have HO579 := Aside0.mk (Kd.N_lower (Kd.N_mono (ok' := fun k_ => (w.heap.size ≤ k_) ∧ some k_ ≠ (v575 : Value).ownBlock ∧ k_ ≠ g) (Kd.S_N (Kd.S_bound (Kd.S_apart' ho1 (Kd.R_typed ho0) (by decide)))) (fun k_ hk_ => ⟨(Nat.le_trans (keep_size (w := w) (g := g) (row := none) (by exact sK0 HK.out)) hk_.2.1), hk_.1.2, (IsS138.fresh (by exact sI1380 HI0.out) k_ hk_.2.1)⟩)) (keep_size (w := w) (g := g) (row := none) (by exact sK0 HK.out))); replace HK := Aside0.mk (KeepBut.trans (by exact sK0 HK.out) hk (.inl rfl)); replace HB := Aside0.mk (hb); replace HI0 := Aside0.mk (hi); (try clear hb); (try clear hk); (try clear hi); (try clear ho0); (try clear ho1); obtain ⟨Ao14, co14, eo14⟩ := Kd.N_slice HO579.out; subst eo14) | ((with_reducible refine gate_callee (f := 84) rfl ?_); refine gL (some 20) Try.func84 #[.pointer (some ⟨g, 0, none⟩), .int .i64 (t577.length : Int)] ?_; (with_reducible refine (spec_l1Below.calls g s0_0 t580 t581 (t577.length : Int) t582 t583 t584 w0 _ ?_ ?_ A6.out).mono ?_); exact sI1380 HI0.out; exact sB1 HB.out (IsS138.ge HI0.out); rintro e w15 ⟨rfl, hi, hb, hk⟩; refine ⟨_, rfl, ?_⟩; have n0_ := Aside0.mk (Kd.R_mono (Kd.R_keep (IsS138.apart (show IsS138 w0 _ g s0_0 t580 t581 from by exact sI1380 HI0.out) (rK HO576) (by decide)) hk (fun _ h => h.2)) (fun _ h => h.1)); have n1_ := Aside0.mk (Kd.N_mono (Kd.N_keep (Kd.N_mono (ok := fun k_ => (((w.heap.size ≤ k_)) ∧ (some k_ ≠ (v575 : Value).ownBlock ∧ k_ ≠ g))) (by (with_reducible repeat (first | apply Kd.N_alloc | apply Kd.N_drewN | apply Kd.N_drew)); exact HO579.out) (fun k_ hk_ => (⟨hk_, hk_.2.2⟩ : _ ∧ k_ ≠ g))) hk (fun _ h => h.2)) (fun _ h => h.1)); have n2_ := Aside0.mk (KeepBut.trans (by exact sK0 HK.out) hk (.inl rfl)); have n3_ := Aside0.mk (hb); have n4_ := Aside0.mk (hi); clear HO576; clear HO579; clear HK; clear HB; clear HI0; have HO576 := n0_; have HO579 := n1_; have HK := n2_; have HB := n3_; have HI0 := n4_; clear n0_ n1_ n2_ n3_ n4_; (try clear hb); (try clear hk); (try clear hi)) | ((with_reducible refine gate_callee (f := 84) rfl ?_); refine gL (some 22) Try.func84 #[.pointer (some ⟨g, 0, none⟩), .int .i64 10] ?_; (with_reducible refine (spec_l1Below.calls g s0_0 t583 t584 10 t585 t586 t587 w0 _ ?_ ?_ A7.out).mono ?_); exact sI1380 HI0.out; exact sB1 HB.out (IsS138.ge HI0.out); rintro e w16 ⟨rfl, hi, hb, hk⟩; refine ⟨_, rfl, ?_⟩; have n0_ := Aside0.mk (Kd.R_mono (Kd.R_keep (IsS138.apart (show IsS138 w0 _ g s0_0 t583 t584 from by exact sI1380 HI0.out) (rK HO576) (by decide)) hk (fun _ h => h.2)) (fun _ h => h.1)); have n1_ := Aside0.mk (Kd.N_mono (Kd.N_keep (Kd.N_mono (ok := fun k_ => (((w.heap.size ≤ k_)) ∧ (some k_ ≠ (v575 : Value).ownBlock ∧ k_ ≠ g))) (by (with_reducible repeat (first | apply Kd.N_alloc | apply Kd.N_drewN | apply Kd.N_drew)); exact HO579.out) (fun k_ hk_ => (⟨hk_, hk_.2.2⟩ : _ ∧ k_ ≠ g))) hk (fun _ h => h.2)) (fun _ h => h.1)); have n2_ := Aside0.mk (KeepBut.trans (by exact sK0 HK.out) hk (.inl rfl)); have n3_ := Aside0.mk (hb); have n4_ := Aside0.mk (hi); clear HO576; clear HO579; clear HK; clear HB; clear HI0; have HO576 := n0_; have HO579 := n1_; have HK := n2_; have HB := n3_; have HI0 := n4_; clear n0_ n1_ n2_ n3_ n4_; (try clear hb); (try clear hk); (try clear hi)) | ((with_reducible refine gate_dst (N := 28) rfl ?_); refine Kd.R_lit (Kd.int .i64) _ 3 ?hg (N := 28) ?hd (xs := ([4, 60, 61, 9223372036854775807] : List Int)) (inner := [.int .i64 4, .int .i64 60, .int .i64 61, .int .i64 9223372036854775807]) (ok := fun _ => True) (okp := fun _ => True) ?hr ?hp (fun _ hk => hk) trivial (Below.refl _ _) (Nat.le_refl _) (by simp) ?_; (case hd => rfl); (case hg => rfl); (case hr => first | (go_simp; done) | (go_simp; rfl)); (case hp => exact (Reps.one (show Kd.M (Kd.int .i64) _ _ _ 4 [.int .i64 4] from rfl) (Reps.one (show Kd.M (Kd.int .i64) _ _ _ 60 [.int .i64 60] from rfl) (Reps.one (show Kd.M (Kd.int .i64) _ _ _ 61 [.int .i64 61] from rfl) (Reps.one (show Kd.M (Kd.int .i64) _ _ _ 9223372036854775807 [.int .i64 9223372036854775807] from rfl) (Reps.none _ _)))))); intro v589 w17 ho18 hb hg_ hnew_; clear hg_ hnew_; (first | rw [← Ny588.out] at ho18 | (simp only [Int.reduceToNat] at ho18; rw [← Ny588.out] at ho18)); have n0_ := rb HO576 hb; have n1_ := Aside0.mk (Kd.N_elder' (by (with_reducible repeat (first | apply Kd.N_alloc | apply Kd.N_drewN | apply Kd.N_drew)); exact HO579.out) (Kd.R_base ho18) hb); have n2_ := Aside0.mk (Kd.R_lower (Kd.R_newM (M := fun k_ => (w.heap.size ≤ k_)) ho18 (keep_size (w := w) (g := g) (row := none) (by exact sK0 HK.out)) (fun k_ h_ => h_)) (keep_size (w := w) (g := g) (row := none) (by exact sK0 HK.out))); have n3_ := Aside0.mk (IsS138.below (by exact sI1380 HI0.out) hb); have n4_ := Aside0.mk (KeepBut.trans (by exact sK0 HK.out) (KeepBut.of_below hb g none) (.inl rfl)); have n5_ := Aside0.mk (below_step (by exact sB1 HB.out (IsS138.ge HI0.out)) hb); clear HO576; clear HO579; clear HI0; clear HK; clear HB; have HO576 := n0_; have HO579 := n1_; have HO590 := n2_; have HI0 := n3_; have HK := n4_; have HB := n5_; clear n0_ n1_ n2_ n3_ n4_ n5_; clear hb ho18; obtain ⟨Ao19, co19, eo19⟩ := Kd.R_slice HO590.out; subst eo19) | ((with_reducible refine gate_callee (f := 94) rfl ?_); refine gL (some 29) Try.func94 #[.pointer (some ⟨g, 0, none⟩), .slice Ao19 y588.length co19] ?_; (with_reducible refine (spec_l1Int.calls g s0_0 t586 t587 _ _ y588 t591 t592 t593 w0 _ ?_ ?_ ?_ ?_ ?_ A9.out).mono ?_); exact sI1380 HI0.out; exact sB1 HB.out (IsS138.ge HI0.out); exact cO ⟨(Kd.R_reads' HO590.out).2.2⟩; exact (Kd.R_reads' HO590.out).2.1; exact far_slice (IsS138.own_ne HI0.out HO590.out (by decide)); rintro e w20 ⟨rfl, hi, hb, hk⟩; refine ⟨_, rfl, ?_⟩; have n0_ := Aside0.mk (Kd.R_mono (Kd.R_keep (IsS138.apart (show IsS138 w0 _ g s0_0 t586 t587 from by exact sI1380 HI0.out) (rK HO576) (by decide)) hk (fun _ h => h.2)) (fun _ h => h.1)); have n1_ := Aside0.mk (Kd.N_mono (Kd.N_keep (Kd.N_mono (ok := fun k_ => ((((w.heap.size ≤ k_)) ∧ (some k_ ≠ (v575 : Value).ownBlock ∧ k_ ≠ g)) ∧ some k_ ≠ (.slice Ao19 y588.length co19 : Value).ownBlock)) (by (with_reducible repeat (first | apply Kd.N_alloc | apply Kd.N_drewN | apply Kd.N_drew)); exact HO579.out) (fun k_ hk_ => (⟨hk_, hk_.1.2.2⟩ : _ ∧ k_ ≠ g))) hk (fun _ h => h.2)) (fun _ h => h.1)); have n2_ := Aside0.mk (Kd.R_mono (Kd.R_keep (IsS138.apart (show IsS138 w0 _ g s0_0 t586 t587 from by exact sI1380 HI0.out) (rK HO590) (by decide)) hk (fun _ h => h.2)) (fun _ h => h.1)); have n3_ := Aside0.mk (KeepBut.trans (by exact sK0 HK.out) hk (.inl rfl)); have n4_ := Aside0.mk (hb); have n5_ := Aside0.mk (hi); clear HO576; clear HO579; clear HO590; clear HK; clear HB; clear HI0; have HO576 := n0_; have HO579 := n1_; have HO590 := n2_; have HK := n3_; have HB := n4_; have HI0 := n5_; clear n0_ n1_ n2_ n3_ n4_ n5_; (try clear hb); (try clear hk); (try clear hi); have p12 : 0 ≤ (t582 : Int) := dA; have q12 : (t582 : Int) < ((t577.length : Int) : Int) := dA; obtain ⟨go12, co12, eo12, gb12, gl12, cl12, HG12⟩ := Kd.N_form HO579.out (by omega); (first | cases eo12 | (injection eo12 with ea_ en_ ec_; (first | subst ea_ | (injection ea_ with ea_; subst ea_)); subst ec_; clear en_)); have GB12 := Aside0.mk gb12; have GG12 := Aside0.mk HG12; clear gb12 gl12 HG12; obtain ⟨ce12, hcl12, hM12, hcc12, hfr12⟩ := Kd.N_elem HO579.out z85 (t582 : Int) p12 q12; obtain ⟨ua12_0, uc12_0, rfl, ul12_0, ge12_0⟩ := k85_openF hM12; have hx12_0 : w20.cell? ⟨go12, (t582 : Int).toNat * 2, none⟩ = some (.slice ua12_0 ((rd_T85 t577 t582).f0).length uc12_0) := hcc12 0 _ rfl; have hx12_1 : w20.cell? ⟨go12, (t582 : Int).toNat * 2 + 1, none⟩ = some (.int .i64 ((rd_T85 t577 t582).f1)) := hcc12 1 _ rfl; have hf12_0 : w20.frozen? ⟨go12, (t582 : Int).toNat * 2, none⟩ = false := hfr12 0; have hf12_1 : w20.frozen? ⟨go12, (t582 : Int).toNat * 2 + 1, none⟩ = false := hfr12 1; clear hcl12 hcc12 hfr12 hM12; replace p12 := eq_true p12; replace q12 := eq_true q12; have n_ := Aside0.mk (Kd.N_mono (ok' := (fun k_ => (w.heap.size ≤ k_) ∧ some k_ ≠ (v575 : Value).ownBlock ∧ some k_ ≠ (.slice Ao19 y588.length co19 : Value).ownBlock)) HO579.out (fun k_ hk => ⟨hk.1.1, ⟨hk.1.2.1, hk.2⟩⟩)); clear HO579; have HO579 := n_; clear n_; have HX21 := Aside0.mk (show Kd.N k85 85 w20 w.heap.size (fun k_ => (w.heap.size ≤ k_) ∧ some k_ ≠ (v575 : Value).ownBlock ∧ some k_ ≠ (.slice Ao19 y588.length co19 : Value).ownBlock) (.slice (some ⟨go12, 0, none⟩) t577.length co14) t577 from (by (with_reducible repeat (first | apply Kd.N_alloc | apply Kd.N_drewN | apply Kd.N_drew)); exact HO579.out)); obtain ⟨ce21, hcl21, hM21, hcc21, hfr21⟩ := Kd.N_elem HX21.out z85 (t582 : Int) (dA) (by have h_ : (t582 : Int) < ((t577.length : Int) : Int) := dA; first | exact h_ | (have e_ := (Kd.N_reads' HO579.out).1; omega) | simpa using h_); obtain ⟨ua21_0, uc21_0, rfl, ul21_0, ge21_0⟩ := k85_openF hM21; have HP21 := Kd.N_seg HX21.out (t582 : Int) (dA) (by have h_ : (t582 : Int) < ((t577.length : Int) : Int) := dA; first | exact h_ | (have e_ := (Kd.N_reads' HO579.out).1; omega) | simpa using h_) (seg := [.int .i64 t591]) (j := 1) hcl21 hcc21 (show 2 ≤ 2 from by decide) (x' := (⟨(rd_T85 t577 t582).f0, t591⟩ : S85)) (k85_mkF _ _ (⟨(rd_T85 t577 t582).f0, t591⟩ : S85) ul21_0 ge21_0) (fun _ hk => hk); have hx21_1 := hcc21 1 _ rfl; (try simp only [show (k85).sz = 2 from rfl, Nat.mul_one, Nat.add_zero] at hx21_1); have hf21_1 := hfr21 1; (try simp only [show (k85).sz = 2 from rfl, Nat.mul_one, Nat.add_zero] at hf21_1); clear hcl21 hcc21 hfr21 hM21) | ((with_reducible refine gate_store (t := 3) (p := 31) rfl ?_); refine store_event (t := 3) (p := 31) (v := ?vo_w22) (w1 := (w20.setCell ⟨go12, (t582 : Int).toNat * 2 + 1, none⟩ (.int .i64 t591))) ?hg ?ho ?hn ?hr ?_; (case ho => rfl); (case hg => rfl); (case hn => rfl); (case hr => first | (go_simp; done) | (go_simp; rfl)); intro w22 hw; have hg : w20.grownBy w22 (some go12) := (by rw [hw]; exact HP21.2); have hp_ : Kd.N k85 85 w22 w.heap.size (fun k_ => (w.heap.size ≤ k_) ∧ some k_ ≠ (v575 : Value).ownBlock ∧ some k_ ≠ (.slice Ao19 y588.length co19 : Value).ownBlock) (.slice (some ⟨go12, 0, none⟩) t577.length co14) y594 := (by rw [hw, Ny594.out]; exact HP21.1); clear HP21; have n0_ := Aside0.mk (IsS138.grown (by exact sI1380 HI0.out) hg (IsS138.own_neN HI0.out HO579.out (by decide))); have n1_ := Aside0.mk (Kd.R_over' (v := (.slice (some ⟨go12, 0, none⟩) t577.length co14)) (rK HO576) (Kd.N_typed HO579.out) (by decide) hg); have n2_ := Aside0.mk (hp_); have n3_ := Aside0.mk (Kd.R_over' (v := (.slice (some ⟨go12, 0, none⟩) t577.length co14)) (rK HO590) (Kd.N_typed HO579.out) (by decide) hg); have n4_ := Aside0.mk ((by rw [hw]; exact below_set (HB.out) (Nat.le_trans HL.out GB12.out) : Below w0.heap.size w0 w22)); have n5_ := Aside0.mk (KeepBut.trans (by exact sK0 HK.out) (KeepBut.of_grown hg g) (Kd.N_base2 HO579.out)); clear HI0; clear HO576; clear HO579; clear HO590; clear HB; clear HK; have HI0 := n0_; have HO576 := n1_; have HO579 := n2_; have HO590 := n3_; have HB := n4_; have HK := n5_; clear n0_ n1_ n2_ n3_ n4_ n5_; clear hg hw hp_))
  go_ret2
  exact ⟨_, _, rA, rm HO576 (fun _ hk => hk.1), Kd.N_V (nm HO579 (fun _ hk => ⟨hk.1, hk.2.1⟩)), by exact sI1380 HI0.out, by exact sB1 HB.out (IsS138.ge HI0.out), by exact sK0 HK.out⟩
 rw [if_neg c8] at H
 have c8b0 : (t585 == 0) = false := beq_eq_false_iff_ne.mpr c8
 have c8b1 : (t585 != 0) = true := bne_iff_ne.mpr c8
 by_cases c23 : t585 = 1
 ·
  rw [if_pos c23] at H
  have c23b0 : (t585 == 1) = true := beq_iff_eq.mpr c23
  have c23b1 : (t585 != 1) = false := bne_eq_false_iff_eq.mpr c23
  clear c23
  have c24 : 0 ≤ t582 := ifN H
  replace H := ifT H
  have c24b0 := decide_eq_true c24
  clear c24
  have c25 : t582 < (t577.length : Int) := ifN H
  replace H := ifT H
  have c25b0 := decide_eq_true c25
  clear c25
  have c26 : 1 ≤ (((rd_T85 t577 t582).f0).length : Int) := ifN H
  replace H := ifT H
  have c26b0 := eq_true c26
  have c26b1 := decide_eq_true c26
  clear c26
  obtain ⟨y596, hy596⟩ : ∃ y_ : List Int, y_ = (((rd_T85 t577 t582).f0).drop 1) := ⟨_, rfl⟩
  replace H : (some (t574, (t577.set (t582 : Int).toNat (⟨y596, (rd_T85 t577 t582).f1⟩ : S85)), t586, t587)) = some (r1, r2, r3, r4) := rH H hy596
  have Ny596 := Aside0.mk hy596
  clear hy596
  obtain ⟨y601, hy601⟩ : ∃ y_ : List (S85), y_ = (t577.set (t582 : Int).toNat (⟨y596, (rd_T85 t577 t582).f1⟩ : S85)) := ⟨_, rfl⟩
  replace H : (some (t574, y601, t586, t587)) = some (r1, r2, r3, r4) := rH H hy601
  have Ny601 := Aside0.mk hy601
  clear hy601
  simp only [Option.some.injEq, Prod.mk.injEq] at H
  obtain ⟨rfl, rfl, rfl, rfl⟩ := H
  go_enter Try.func82, Try.ntmps82
  go_wp2_with (first | ((with_reducible refine gate_callee (f := 124) rfl ?_); refine gL (some 9) Try.func124 #[.pointer (some ⟨g, 0, none⟩)] ?_; (with_reducible refine (spec_l8Draw.calls k g s0_0 s0_1 s0_2 t574 t577 t580 t581 w0 _ ?_ ?_ A2.out).mono ?_); exact sI1380 HI0.out; exact sB1 HB.out (IsS138.ge HI0.out); rintro e w28 ⟨v575, v578, rfl, ho0, ho1, hi, hb, hk⟩; refine ⟨_, rfl, ?_⟩; have HO576 := Aside0.mk (Kd.R_lower (Kd.R_newM (M := fun k_ => (w.heap.size ≤ k_)) ho0 (keep_size (w := w) (g := g) (row := none) (by exact sK0 HK.out)) (fun k_ h_ => h_)) (keep_size (w := w) (g := g) (row := none) (by exact sK0 HK.out))); have HO579 := Aside0.mk (Kd.N_lower (Kd.N_mono (ok' := fun k_ => (w.heap.size ≤ k_) ∧ some k_ ≠ (v575 : Value).ownBlock ∧ k_ ≠ g) (Kd.S_N (Kd.S_bound (Kd.S_apart' ho1 (Kd.R_typed ho0) (by decide)))) (fun k_ hk_ => ⟨(Nat.le_trans (keep_size (w := w) (g := g) (row := none) (by exact sK0 HK.out)) hk_.2.1), hk_.1.2, (IsS138.fresh (by exact sI1380 HI0.out) k_ hk_.2.1)⟩)) (keep_size (w := w) (g := g) (row := none) (by exact sK0 HK.out))); replace HK := Aside0.mk (KeepBut.trans (by exact sK0 HK.out) hk (.inl rfl)); replace HB := Aside0.mk (hb); replace HI0 := Aside0.mk (hi); (try clear hb); (try clear hk); (try clear hi); (try clear ho0); (try clear ho1); obtain ⟨Ao29, co29, eo29⟩ := Kd.N_slice HO579.out; subst eo29) | ((with_reducible refine gate_callee (f := 84) rfl ?_); refine gL (some 20) Try.func84 #[.pointer (some ⟨g, 0, none⟩), .int .i64 (t577.length : Int)] ?_; (with_reducible refine (spec_l1Below.calls g s0_0 t580 t581 (t577.length : Int) t582 t583 t584 w0 _ ?_ ?_ A6.out).mono ?_); exact sI1380 HI0.out; exact sB1 HB.out (IsS138.ge HI0.out); rintro e w30 ⟨rfl, hi, hb, hk⟩; refine ⟨_, rfl, ?_⟩; have n0_ := Aside0.mk (Kd.R_mono (Kd.R_keep (IsS138.apart (show IsS138 w0 _ g s0_0 t580 t581 from by exact sI1380 HI0.out) (rK HO576) (by decide)) hk (fun _ h => h.2)) (fun _ h => h.1)); have n1_ := Aside0.mk (Kd.N_mono (Kd.N_keep (Kd.N_mono (ok := fun k_ => (((w.heap.size ≤ k_)) ∧ (some k_ ≠ (v575 : Value).ownBlock ∧ k_ ≠ g))) (by (with_reducible repeat (first | apply Kd.N_alloc | apply Kd.N_drewN | apply Kd.N_drew)); exact HO579.out) (fun k_ hk_ => (⟨hk_, hk_.2.2⟩ : _ ∧ k_ ≠ g))) hk (fun _ h => h.2)) (fun _ h => h.1)); have n2_ := Aside0.mk (KeepBut.trans (by exact sK0 HK.out) hk (.inl rfl)); have n3_ := Aside0.mk (hb); have n4_ := Aside0.mk (hi); clear HO576; clear HO579; clear HK; clear HB; clear HI0; have HO576 := n0_; have HO579 := n1_; have HK := n2_; have HB := n3_; have HI0 := n4_; clear n0_ n1_ n2_ n3_ n4_; (try clear hb); (try clear hk); (try clear hi)) | ((with_reducible refine gate_callee (f := 84) rfl ?_); refine gL (some 22) Try.func84 #[.pointer (some ⟨g, 0, none⟩), .int .i64 10] ?_; (with_reducible refine (spec_l1Below.calls g s0_0 t583 t584 10 t585 t586 t587 w0 _ ?_ ?_ A7.out).mono ?_); exact sI1380 HI0.out; exact sB1 HB.out (IsS138.ge HI0.out); rintro e w31 ⟨rfl, hi, hb, hk⟩; refine ⟨_, rfl, ?_⟩; have n0_ := Aside0.mk (Kd.R_mono (Kd.R_keep (IsS138.apart (show IsS138 w0 _ g s0_0 t583 t584 from by exact sI1380 HI0.out) (rK HO576) (by decide)) hk (fun _ h => h.2)) (fun _ h => h.1)); have n1_ := Aside0.mk (Kd.N_mono (Kd.N_keep (Kd.N_mono (ok := fun k_ => (((w.heap.size ≤ k_)) ∧ (some k_ ≠ (v575 : Value).ownBlock ∧ k_ ≠ g))) (by (with_reducible repeat (first | apply Kd.N_alloc | apply Kd.N_drewN | apply Kd.N_drew)); exact HO579.out) (fun k_ hk_ => (⟨hk_, hk_.2.2⟩ : _ ∧ k_ ≠ g))) hk (fun _ h => h.2)) (fun _ h => h.1)); have n2_ := Aside0.mk (KeepBut.trans (by exact sK0 HK.out) hk (.inl rfl)); have n3_ := Aside0.mk (hb); have n4_ := Aside0.mk (hi); clear HO576; clear HO579; clear HK; clear HB; clear HI0; have HO576 := n0_; have HO579 := n1_; have HK := n2_; have HB := n3_; have HI0 := n4_; clear n0_ n1_ n2_ n3_ n4_; (try clear hb); (try clear hk); (try clear hi); have p595 : 0 ≤ (t582 : Int) := dA; have q595 : t582 < (t577.length : Int) := dA; obtain ⟨ad595, A595_0, c595_0, e595, hx595_0, hx595_1, hl595_0, hi595_0⟩ := at_T85 (Kd.N_reads' HO579.out).2.2 t582 p595 q595; cases e595; obtain ⟨ce595, hce595, hMe595, hcc595⟩ := Kd.N_get HO579.out z85 t582 p595 (by first | exact q595 | exact dA | (have e_ := (Kd.N_reads' HO579.out).1; omega)); obtain ⟨ua595_0, uc595_0, rfl, ul595_0, ge595_0⟩ := k85_openF hMe595; have hv595_0 := hcc595 0 _ rfl; rw [Nat.add_zero] at hv595_0; replace hv595_0 := Option.some.inj (hv595_0.symm.trans hx595_0); injection hv595_0 with hva_ hvn_ hvc_; rw [hva_] at ge595_0; rw [hvc_] at ul595_0; have HL595_0 := Aside0.mk (show Kd.V (Kd.int .i64) 3 _ w.heap.size _ _ ((rd_T85 t577 t582).f0) from Kd.V_mk ul595_0 ge595_0); clear hva_ hvn_ hvc_ ge595_0 ul595_0; clear hcc595 hce595; have HR595_0 := Aside0.mk hi595_0; have HC595_0 := Aside0.mk hl595_0; clear hi595_0 hl595_0; replace p595 := eq_true p595; replace q595 := eq_true q595; have q32 : (1 : Int) ≤ ((((rd_T85 t577 t582).f0).length : Int) : Int) := dA; obtain ⟨i032, hi032, _, hsz32, _⟩ := info_parts info3; have hroom32 : ((rd_T85 t577 t582).f0).length ≤ c595_0 := HC595_0.out; have hC32 : Kd.F (Kd.int .i64) _ _ A595_0 ((rd_T85 t577 t582).f0).length ((rd_T85 t577 t582).f0) := (Kd.V_at (base := w.heap.size) HL595_0.out).2.2; have hcut32 := cut_from (P := Try.prog) 35 3 .i64 Try.underlying35 hi032 1 hsz32 A595_0 ((rd_T85 t577 t582).f0).length c595_0 1 (by omega) q32; have hr32 := Kd.F_cut (m := (1 : Int).toNat) (c := c595_0) hC32 (by omega) hroom32; obtain ⟨A32, hA32⟩ : ∃ z_, z_ = (if c595_0 = (1 : Int).toNat then A595_0 else (A595_0 : Option Addr).map (·.add ((1 : Int).toNat * 1))) := ⟨_, rfl⟩; obtain ⟨c32, hc32⟩ : ∃ z_, z_ = c595_0 - (1 : Int).toNat := ⟨_, rfl⟩; have hy32 : y596.length = ((rd_T85 t577 t582).f0).length - (1 : Int).toNat := (by rw [Ny596.out, List.length_drop] <;> omega); rw [show ((rd_T85 t577 t582).f0).drop (1 : Int).toNat = y596 from Ny596.out.symm] at hr32; replace hr32 : Kd.F (Kd.int .i64) _ _ A32 y596.length y596 := (by rw [hA32]; exact hr32); rw [← hy32, ← hA32, ← hc32] at hcut32; have HO600 := Aside0.mk (show Kd.V (Kd.int .i64) 3 _ w.heap.size _ (.slice A32 y596.length c32) y596 from Kd.V_mk (by rw [hy32, hc32]; exact Nat.sub_le_sub_right hroom32 _) hr32); have HC600 := Aside0.mk (show y596.length ≤ c32 from by rw [hy32, hc32]; exact Nat.sub_le_sub_right hroom32 _); clear hr32 hC32 hroom32 hi032 hsz32 hc32; have KY32 := Aside0.mk hy32; have KA32 := Aside0.mk hA32; clear hy32 hA32; replace q32 := eq_true q32; have p27 : 0 ≤ (t582 : Int) := dA; have q27 : (t582 : Int) < ((t577.length : Int) : Int) := dA; obtain ⟨go27, co27, eo27, gb27, gl27, cl27, HG27⟩ := Kd.N_form HO579.out (by omega); (first | cases eo27 | (injection eo27 with ea_ en_ ec_; (first | subst ea_ | (injection ea_ with ea_; subst ea_)); subst ec_; clear en_)); have GB27 := Aside0.mk gb27; have GG27 := Aside0.mk HG27; clear gb27 gl27 HG27; (first | simp only [add_plain] at hx595_0 | skip); (first | simp only [add_plain] at hx595_1 | skip); obtain ⟨ce27, hcl27, hM27, hcc27, hfr27⟩ := Kd.N_elem HO579.out z85 (t582 : Int) p27 q27; obtain ⟨ua27_0, uc27_0, rfl, ul27_0, ge27_0⟩ := k85_openF hM27; have hx27_0 : w31.cell? ⟨go27, (t582 : Int).toNat * 2, none⟩ = some (.slice ua27_0 ((rd_T85 t577 t582).f0).length uc27_0) := hcc27 0 _ rfl; have hx27_1 : w31.cell? ⟨go27, (t582 : Int).toNat * 2 + 1, none⟩ = some (.int .i64 ((rd_T85 t577 t582).f1)) := hcc27 1 _ rfl; have hf27_0 : w31.frozen? ⟨go27, (t582 : Int).toNat * 2, none⟩ = false := hfr27 0; have hf27_1 : w31.frozen? ⟨go27, (t582 : Int).toNat * 2 + 1, none⟩ = false := hfr27 1; clear hcl27 hcc27 hfr27 hM27; replace p27 := eq_true p27; replace q27 := eq_true q27; have HX33 := Aside0.mk (show Kd.N k85 85 w31 w.heap.size (fun k_ => (w.heap.size ≤ k_) ∧ some k_ ≠ (v575 : Value).ownBlock ∧ k_ ≠ g) (.slice (some ⟨go27, 0, none⟩) t577.length co29) t577 from (by (with_reducible repeat (first | apply Kd.N_alloc | apply Kd.N_drewN | apply Kd.N_drew)); exact HO579.out)); obtain ⟨ce33, hcl33, hM33, hcc33, hfr33⟩ := Kd.N_elem HX33.out z85 (t582 : Int) (dA) (by have h_ : (t582 : Int) < ((t577.length : Int) : Int) := dA; first | exact h_ | (have e_ := (Kd.N_reads' HO579.out).1; omega) | simpa using h_); obtain ⟨ua33_0, uc33_0, rfl, ul33_0, ge33_0⟩ := k85_openF hM33; have HP33 := Kd.N_seg HX33.out (t582 : Int) (dA) (by have h_ : (t582 : Int) < ((t577.length : Int) : Int) := dA; first | exact h_ | (have e_ := (Kd.N_reads' HO579.out).1; omega) | simpa using h_) (seg := [.slice A32 y596.length c32]) (j := 0) hcl33 hcc33 (show 1 ≤ 2 from by decide) (x' := (⟨y596, (rd_T85 t577 t582).f1⟩ : S85)) (k85_mkF _ _ (⟨y596, (rd_T85 t577 t582).f1⟩ : S85) (Kd.V_reads' (Kd.V_mono (ok' := (fun k_ => ((fun k_ => (w.heap.size ≤ k_) ∧ some k_ ≠ (v575 : Value).ownBlock ∧ k_ ≠ g)) k_ ∧ k_ ≠ go27)) (HO600.out) (fun k_ hk => ⟨⟨hk.1.1, ⟨hk.1.2.1, hk.1.2.2⟩⟩, fun e_ => (hk.2) (by rw [e_]; rfl)⟩))).2.1 (Kd.V_F (Kd.V_mono (ok' := (fun k_ => ((fun k_ => (w.heap.size ≤ k_) ∧ some k_ ≠ (v575 : Value).ownBlock ∧ k_ ≠ g)) k_ ∧ k_ ≠ go27)) (HO600.out) (fun k_ hk => ⟨⟨hk.1.1, ⟨hk.1.2.1, hk.1.2.2⟩⟩, fun e_ => (hk.2) (by rw [e_]; rfl)⟩)))) (fun _ hk => hk); have hx33_0 := hcc33 0 _ rfl; (try simp only [show (k85).sz = 2 from rfl, Nat.mul_one, Nat.add_zero] at hx33_0); have hf33_0 := hfr33 0; (try simp only [show (k85).sz = 2 from rfl, Nat.mul_one, Nat.add_zero] at hf33_0); clear hcl33 hcc33 hfr33 hM33) | ((with_reducible refine gate_store (t := 35) (p := 43) rfl ?_); refine store_event (t := 35) (p := 43) (v := ?vo_w34) (w1 := (w31.setCell ⟨go27, (t582 : Int).toNat * 2, none⟩ (.slice A32 y596.length c32))) ?hg ?ho ?hn ?hr ?_; (case ho => rfl); (case hg => rfl); (case hn => rfl); (case hr => first | (go_simp; done) | (go_simp; rfl)); intro w34 hw; have hg : w31.grownBy w34 (some go27) := (by rw [hw]; exact HP33.2); have hp_ : Kd.N k85 85 w34 w.heap.size (fun k_ => (w.heap.size ≤ k_) ∧ some k_ ≠ (v575 : Value).ownBlock ∧ k_ ≠ g) (.slice (some ⟨go27, 0, none⟩) t577.length co29) y601 := (by rw [hw, Ny601.out]; exact HP33.1); clear HP33; have n0_ := Aside0.mk (IsS138.grown (by exact sI1380 HI0.out) hg (IsS138.own_neN HI0.out HO579.out (by decide))); have n1_ := Aside0.mk (Kd.R_over' (v := (.slice (some ⟨go27, 0, none⟩) t577.length co29)) (rK HO576) (Kd.N_typed HO579.out) (by decide) hg); have n2_ := Aside0.mk (hp_); have n3_ := Aside0.mk (Kd.V_afterv (v := (.slice (some ⟨go27, 0, none⟩) t577.length co29)) (v1 := (.slice (some ⟨go27, 0, none⟩) t577.length co29)) (ok := (fun k_ => (w.heap.size ≤ k_) ∧ some k_ ≠ (v575 : Value).ownBlock ∧ k_ ≠ g)) (by (with_reducible repeat (first | apply Kd.V_alloc | apply Kd.V_drewN | apply Kd.V_drew)); exact HL595_0.out) hg (.inl rfl)); have n4_ := Aside0.mk (Kd.V_afterv (v := (.slice (some ⟨go27, 0, none⟩) t577.length co29)) (v1 := (.slice (some ⟨go27, 0, none⟩) t577.length co29)) (ok := (fun k_ => (w.heap.size ≤ k_) ∧ some k_ ≠ (v575 : Value).ownBlock ∧ k_ ≠ g)) (by (with_reducible repeat (first | apply Kd.V_alloc | apply Kd.V_drewN | apply Kd.V_drew)); exact HO600.out) hg (.inl rfl)); have n5_ := Aside0.mk ((by rw [hw]; exact below_set (HB.out) (Nat.le_trans HL.out GB27.out) : Below w0.heap.size w0 w34)); have n6_ := Aside0.mk (KeepBut.trans (by exact sK0 HK.out) (KeepBut.of_grown hg g) (Kd.N_base2 HO579.out)); clear HI0; clear HO576; clear HO579; clear HL595_0; clear HO600; clear HB; clear HK; have HI0 := n0_; have HO576 := n1_; have HO579 := n2_; have HL595_0 := n3_; have HO600 := n4_; have HB := n5_; have HK := n6_; clear n0_ n1_ n2_ n3_ n4_ n5_ n6_; clear hg hw hp_))
  go_ret2
  exact ⟨_, _, rA, rm HO576 (fun _ hk => hk.1), Kd.N_V (nm HO579 (fun _ hk => ⟨hk.1, hk.2.1⟩)), by exact sI1380 HI0.out, by exact sB1 HB.out (IsS138.ge HI0.out), by exact sK0 HK.out⟩
 rw [if_neg c23] at H
 have c23b0 : (t585 == 1) = false := beq_eq_false_iff_ne.mpr c23
 have c23b1 : (t585 != 1) = true := bne_iff_ne.mpr c23
 by_cases c35 : t585 = 2
 ·
  rw [if_pos c35] at H
  have c35b0 : (t585 == 2) = true := beq_iff_eq.mpr c35
  have c35b1 : (t585 != 2) = false := bne_eq_false_iff_eq.mpr c35
  clear c35
  obtain ⟨⟨t602, t605, t606⟩, A36, H⟩ := bindE H
  try dsimp only at H
  simp only [Option.some.injEq, Prod.mk.injEq] at H
  obtain ⟨rfl, rfl, rfl, rfl⟩ := H
  go_enter Try.func82, Try.ntmps82
  go_wp2_with (first | ((with_reducible refine gate_callee (f := 124) rfl ?_); refine gL (some 9) Try.func124 #[.pointer (some ⟨g, 0, none⟩)] ?_; (with_reducible refine (spec_l8Draw.calls k g s0_0 s0_1 s0_2 t574 t577 t580 t581 w0 _ ?_ ?_ A2.out).mono ?_); exact sI1380 HI0.out; exact sB1 HB.out (IsS138.ge HI0.out); rintro e w37 ⟨v575, v578, rfl, ho0, ho1, hi, hb, hk⟩; refine ⟨_, rfl, ?_⟩; have HO576 := Aside0.mk (Kd.R_lower (Kd.R_newM (M := fun k_ => (w.heap.size ≤ k_)) ho0 (keep_size (w := w) (g := g) (row := none) (by exact sK0 HK.out)) (fun k_ h_ => h_)) (keep_size (w := w) (g := g) (row := none) (by exact sK0 HK.out))); have HO579 := Aside0.mk (Kd.N_lower (Kd.N_mono (ok' := fun k_ => (w.heap.size ≤ k_) ∧ some k_ ≠ (v575 : Value).ownBlock ∧ k_ ≠ g) (Kd.S_N (Kd.S_bound (Kd.S_apart' ho1 (Kd.R_typed ho0) (by decide)))) (fun k_ hk_ => ⟨(Nat.le_trans (keep_size (w := w) (g := g) (row := none) (by exact sK0 HK.out)) hk_.2.1), hk_.1.2, (IsS138.fresh (by exact sI1380 HI0.out) k_ hk_.2.1)⟩)) (keep_size (w := w) (g := g) (row := none) (by exact sK0 HK.out))); replace HK := Aside0.mk (KeepBut.trans (by exact sK0 HK.out) hk (.inl rfl)); replace HB := Aside0.mk (hb); replace HI0 := Aside0.mk (hi); (try clear hb); (try clear hk); (try clear hi); (try clear ho0); (try clear ho1); obtain ⟨Ao38, co38, eo38⟩ := Kd.N_slice HO579.out; subst eo38) | ((with_reducible refine gate_callee (f := 84) rfl ?_); refine gL (some 20) Try.func84 #[.pointer (some ⟨g, 0, none⟩), .int .i64 (t577.length : Int)] ?_; (with_reducible refine (spec_l1Below.calls g s0_0 t580 t581 (t577.length : Int) t582 t583 t584 w0 _ ?_ ?_ A6.out).mono ?_); exact sI1380 HI0.out; exact sB1 HB.out (IsS138.ge HI0.out); rintro e w39 ⟨rfl, hi, hb, hk⟩; refine ⟨_, rfl, ?_⟩; have n0_ := Aside0.mk (Kd.R_mono (Kd.R_keep (IsS138.apart (show IsS138 w0 _ g s0_0 t580 t581 from by exact sI1380 HI0.out) (rK HO576) (by decide)) hk (fun _ h => h.2)) (fun _ h => h.1)); have n1_ := Aside0.mk (Kd.N_mono (Kd.N_keep (Kd.N_mono (ok := fun k_ => (((w.heap.size ≤ k_)) ∧ (some k_ ≠ (v575 : Value).ownBlock ∧ k_ ≠ g))) (by (with_reducible repeat (first | apply Kd.N_alloc | apply Kd.N_drewN | apply Kd.N_drew)); exact HO579.out) (fun k_ hk_ => (⟨hk_, hk_.2.2⟩ : _ ∧ k_ ≠ g))) hk (fun _ h => h.2)) (fun _ h => h.1)); have n2_ := Aside0.mk (KeepBut.trans (by exact sK0 HK.out) hk (.inl rfl)); have n3_ := Aside0.mk (hb); have n4_ := Aside0.mk (hi); clear HO576; clear HO579; clear HK; clear HB; clear HI0; have HO576 := n0_; have HO579 := n1_; have HK := n2_; have HB := n3_; have HI0 := n4_; clear n0_ n1_ n2_ n3_ n4_; (try clear hb); (try clear hk); (try clear hi)) | ((with_reducible refine gate_callee (f := 84) rfl ?_); refine gL (some 22) Try.func84 #[.pointer (some ⟨g, 0, none⟩), .int .i64 10] ?_; (with_reducible refine (spec_l1Below.calls g s0_0 t583 t584 10 t585 t586 t587 w0 _ ?_ ?_ A7.out).mono ?_); exact sI1380 HI0.out; exact sB1 HB.out (IsS138.ge HI0.out); rintro e w40 ⟨rfl, hi, hb, hk⟩; refine ⟨_, rfl, ?_⟩; have n0_ := Aside0.mk (Kd.R_mono (Kd.R_keep (IsS138.apart (show IsS138 w0 _ g s0_0 t583 t584 from by exact sI1380 HI0.out) (rK HO576) (by decide)) hk (fun _ h => h.2)) (fun _ h => h.1)); have n1_ := Aside0.mk (Kd.N_mono (Kd.N_keep (Kd.N_mono (ok := fun k_ => (((w.heap.size ≤ k_)) ∧ (some k_ ≠ (v575 : Value).ownBlock ∧ k_ ≠ g))) (by (with_reducible repeat (first | apply Kd.N_alloc | apply Kd.N_drewN | apply Kd.N_drew)); exact HO579.out) (fun k_ hk_ => (⟨hk_, hk_.2.2⟩ : _ ∧ k_ ≠ g))) hk (fun _ h => h.2)) (fun _ h => h.1)); have n2_ := Aside0.mk (KeepBut.trans (by exact sK0 HK.out) hk (.inl rfl)); have n3_ := Aside0.mk (hb); have n4_ := Aside0.mk (hi); clear HO576; clear HO579; clear HK; clear HB; clear HI0; have HO576 := n0_; have HO579 := n1_; have HK := n2_; have HB := n3_; have HI0 := n4_; clear n0_ n1_ n2_ n3_ n4_; (try clear hb); (try clear hk); (try clear hi)) | ((with_reducible refine gate_callee (f := 125) rfl ?_); refine gL (some 47) Try.func125 #[.pointer (some ⟨g, 0, none⟩)] ?_; (with_reducible refine (spec_l5Any.calls k g s0_0 t586 t587 t602 t605 t606 w0 _ ?_ ?_ A36.out).mono ?_); exact sI1380 HI0.out; exact sB1 HB.out (IsS138.ge HI0.out); rintro e w41 ⟨v603, rfl, ho0, hi, hb, hk⟩; refine ⟨_, rfl, ?_⟩; have n0_ := Aside0.mk (Kd.R_mono (Kd.R_told (Kd.R_oldK (IsS138.apart (show IsS138 w0 _ g s0_0 t586 t587 from by exact sI1380 HI0.out) (rK HO576) (by decide)) hk) (Kd.R_base ho0)) (fun _ h_ => h_.1)); have n1_ := Aside0.mk (Kd.N_mono (Kd.N_told (Kd.N_oldK (Kd.N_mono (ok := fun k_ => (((w.heap.size ≤ k_)) ∧ (some k_ ≠ (v575 : Value).ownBlock ∧ k_ ≠ g))) (by (with_reducible repeat (first | apply Kd.N_alloc | apply Kd.N_drewN | apply Kd.N_drew)); exact HO579.out) (fun k_ hk_ => (⟨hk_, hk_.2.2⟩ : _ ∧ k_ ≠ g))) hk) (Kd.R_base ho0)) (fun _ h_ => h_.1)); have n2_ := Aside0.mk (Kd.R_lower (Kd.R_new' (Kd.R_newM (M := fun k_ => (w.heap.size ≤ k_)) ho0 (keep_size (w := w) (g := g) (row := none) (by exact sK0 HK.out)) (fun k_ h_ => h_)) (Kd.R_lt (rK HO576))) (keep_size (w := w) (g := g) (row := none) (by exact sK0 HK.out))); have n3_ := Aside0.mk (KeepBut.trans (by exact sK0 HK.out) hk (.inl rfl)); have n4_ := Aside0.mk (hb); have n5_ := Aside0.mk (hi); clear HO576; clear HO579; clear HK; clear HB; clear HI0; have HO576 := n0_; have HO579 := n1_; have HO604 := n2_; have HK := n3_; have HB := n4_; have HI0 := n5_; clear n0_ n1_ n2_ n3_ n4_ n5_; (try clear hb); (try clear hk); (try clear hi); (try clear ho0)))
  go_ret2
  exact ⟨_, _, rA, rm HO604 (fun _ hk => hk.1.1), Kd.N_V (nm HO579 (fun _ hk => ⟨hk.1.1, hk.2⟩)), by exact sI1380 HI0.out, by exact sB1 HB.out (IsS138.ge HI0.out), by exact sK0 HK.out⟩
 rw [if_neg c35] at H
 have c35b0 : (t585 == 2) = false := beq_eq_false_iff_ne.mpr c35
 have c35b1 : (t585 != 2) = true := bne_iff_ne.mpr c35
 by_cases c42 : t585 = 3
 ·
  rw [if_pos c42] at H
  have c42b0 : (t585 == 3) = true := beq_iff_eq.mpr c42
  have c42b1 : (t585 != 3) = false := bne_eq_false_iff_eq.mpr c42
  clear c42
  have c43 : 1 ≤ (t577.length : Int) := ifN H
  replace H := ifT H
  have c43b0 := eq_true c43
  have c43b1 := decide_eq_true c43
  clear c43
  obtain ⟨y607, hy607⟩ : ∃ y_ : List (S85), y_ = (t577.drop 1) := ⟨_, rfl⟩
  replace H : (some (t574, y607, t586, t587)) = some (r1, r2, r3, r4) := rH H hy607
  have Ny607 := Aside0.mk hy607
  clear hy607
  simp only [Option.some.injEq, Prod.mk.injEq] at H
  obtain ⟨rfl, rfl, rfl, rfl⟩ := H
  go_enter Try.func82, Try.ntmps82
  go_wp2_with (first | ((with_reducible refine gate_callee (f := 124) rfl ?_); refine gL (some 9) Try.func124 #[.pointer (some ⟨g, 0, none⟩)] ?_; (with_reducible refine (spec_l8Draw.calls k g s0_0 s0_1 s0_2 t574 t577 t580 t581 w0 _ ?_ ?_ A2.out).mono ?_); exact sI1380 HI0.out; exact sB1 HB.out (IsS138.ge HI0.out); rintro e w44 ⟨v575, v578, rfl, ho0, ho1, hi, hb, hk⟩; refine ⟨_, rfl, ?_⟩; have HO576 := Aside0.mk (Kd.R_lower (Kd.R_newM (M := fun k_ => (w.heap.size ≤ k_)) ho0 (keep_size (w := w) (g := g) (row := none) (by exact sK0 HK.out)) (fun k_ h_ => h_)) (keep_size (w := w) (g := g) (row := none) (by exact sK0 HK.out))); have HO579 := Aside0.mk (Kd.N_lower (Kd.N_mono (ok' := fun k_ => (w.heap.size ≤ k_) ∧ some k_ ≠ (v575 : Value).ownBlock ∧ k_ ≠ g) (Kd.S_N (Kd.S_bound (Kd.S_apart' ho1 (Kd.R_typed ho0) (by decide)))) (fun k_ hk_ => ⟨(Nat.le_trans (keep_size (w := w) (g := g) (row := none) (by exact sK0 HK.out)) hk_.2.1), hk_.1.2, (IsS138.fresh (by exact sI1380 HI0.out) k_ hk_.2.1)⟩)) (keep_size (w := w) (g := g) (row := none) (by exact sK0 HK.out))); replace HK := Aside0.mk (KeepBut.trans (by exact sK0 HK.out) hk (.inl rfl)); replace HB := Aside0.mk (hb); replace HI0 := Aside0.mk (hi); (try clear hb); (try clear hk); (try clear hi); (try clear ho0); (try clear ho1); obtain ⟨Ao45, co45, eo45⟩ := Kd.N_slice HO579.out; subst eo45) | ((with_reducible refine gate_callee (f := 84) rfl ?_); refine gL (some 20) Try.func84 #[.pointer (some ⟨g, 0, none⟩), .int .i64 (t577.length : Int)] ?_; (with_reducible refine (spec_l1Below.calls g s0_0 t580 t581 (t577.length : Int) t582 t583 t584 w0 _ ?_ ?_ A6.out).mono ?_); exact sI1380 HI0.out; exact sB1 HB.out (IsS138.ge HI0.out); rintro e w46 ⟨rfl, hi, hb, hk⟩; refine ⟨_, rfl, ?_⟩; have n0_ := Aside0.mk (Kd.R_mono (Kd.R_keep (IsS138.apart (show IsS138 w0 _ g s0_0 t580 t581 from by exact sI1380 HI0.out) (rK HO576) (by decide)) hk (fun _ h => h.2)) (fun _ h => h.1)); have n1_ := Aside0.mk (Kd.N_mono (Kd.N_keep (Kd.N_mono (ok := fun k_ => (((w.heap.size ≤ k_)) ∧ (some k_ ≠ (v575 : Value).ownBlock ∧ k_ ≠ g))) (by (with_reducible repeat (first | apply Kd.N_alloc | apply Kd.N_drewN | apply Kd.N_drew)); exact HO579.out) (fun k_ hk_ => (⟨hk_, hk_.2.2⟩ : _ ∧ k_ ≠ g))) hk (fun _ h => h.2)) (fun _ h => h.1)); have n2_ := Aside0.mk (KeepBut.trans (by exact sK0 HK.out) hk (.inl rfl)); have n3_ := Aside0.mk (hb); have n4_ := Aside0.mk (hi); clear HO576; clear HO579; clear HK; clear HB; clear HI0; have HO576 := n0_; have HO579 := n1_; have HK := n2_; have HB := n3_; have HI0 := n4_; clear n0_ n1_ n2_ n3_ n4_; (try clear hb); (try clear hk); (try clear hi)) | ((with_reducible refine gate_callee (f := 84) rfl ?_); refine gL (some 22) Try.func84 #[.pointer (some ⟨g, 0, none⟩), .int .i64 10] ?_; (with_reducible refine (spec_l1Below.calls g s0_0 t583 t584 10 t585 t586 t587 w0 _ ?_ ?_ A7.out).mono ?_); exact sI1380 HI0.out; exact sB1 HB.out (IsS138.ge HI0.out); rintro e w47 ⟨rfl, hi, hb, hk⟩; refine ⟨_, rfl, ?_⟩; have n0_ := Aside0.mk (Kd.R_mono (Kd.R_keep (IsS138.apart (show IsS138 w0 _ g s0_0 t583 t584 from by exact sI1380 HI0.out) (rK HO576) (by decide)) hk (fun _ h => h.2)) (fun _ h => h.1)); have n1_ := Aside0.mk (Kd.N_mono (Kd.N_keep (Kd.N_mono (ok := fun k_ => (((w.heap.size ≤ k_)) ∧ (some k_ ≠ (v575 : Value).ownBlock ∧ k_ ≠ g))) (by (with_reducible repeat (first | apply Kd.N_alloc | apply Kd.N_drewN | apply Kd.N_drew)); exact HO579.out) (fun k_ hk_ => (⟨hk_, hk_.2.2⟩ : _ ∧ k_ ≠ g))) hk (fun _ h => h.2)) (fun _ h => h.1)); have n2_ := Aside0.mk (KeepBut.trans (by exact sK0 HK.out) hk (.inl rfl)); have n3_ := Aside0.mk (hb); have n4_ := Aside0.mk (hi); clear HO576; clear HO579; clear HK; clear HB; clear HI0; have HO576 := n0_; have HO579 := n1_; have HK := n2_; have HB := n3_; have HI0 := n4_; clear n0_ n1_ n2_ n3_ n4_; (try clear hb); (try clear hk); (try clear hi); have q48 : (1 : Int) ≤ ((t577.length : Int) : Int) := dA; obtain ⟨i048, hi048, _, hsz48, _⟩ := info_parts info85; have hroom48 : t577.length ≤ co45 := (Kd.N_reads' HO579.out).2.1; have hC48 : Kd.F k85 _ _ Ao45 t577.length t577 := (Kd.V_at (base := w.heap.size) (Kd.N_V HO579.out)).2.2; have hcut48 := cut_from (P := Try.prog) 25 85 .i64 Try.underlying25 hi048 2 hsz48 Ao45 t577.length co45 1 (by omega) q48; have hr48 := Kd.F_cut (m := (1 : Int).toNat) (c := co45) hC48 (by omega) hroom48; obtain ⟨A48, hA48⟩ : ∃ z_, z_ = (if co45 = (1 : Int).toNat then Ao45 else (Ao45 : Option Addr).map (·.add ((1 : Int).toNat * 2))) := ⟨_, rfl⟩; obtain ⟨c48, hc48⟩ : ∃ z_, z_ = co45 - (1 : Int).toNat := ⟨_, rfl⟩; have hy48 : y607.length = t577.length - (1 : Int).toNat := (by rw [Ny607.out, List.length_drop] <;> omega); rw [show (t577).drop (1 : Int).toNat = y607 from Ny607.out.symm] at hr48; replace hr48 : Kd.F k85 _ _ A48 y607.length y607 := (by rw [hA48]; exact hr48); rw [← hy48, ← hA48, ← hc48] at hcut48; have HO611 := Aside0.mk (show Kd.V k85 85 _ w.heap.size _ (.slice A48 y607.length c48) y607 from Kd.V_mk (by rw [hy48, hc48]; exact Nat.sub_le_sub_right hroom48 _) hr48); have HC611 := Aside0.mk (show y607.length ≤ c48 from by rw [hy48, hc48]; exact Nat.sub_le_sub_right hroom48 _); clear hr48 hC48 hroom48 hi048 hsz48 hc48; have KY48 := Aside0.mk hy48; have KA48 := Aside0.mk hA48; clear hy48 hA48; replace q48 := eq_true q48))
  go_ret2
  exact ⟨_, _, rA, rm HO576 (fun _ hk => hk.1), by (with_reducible repeat (first | apply Kd.V_alloc | apply Kd.V_drewN | apply Kd.V_drew)); exact Kd.V_mono HO611.out (fun _ hk => ⟨hk.1, hk.2.1⟩), by exact sI1380 HI0.out, by exact sB1 HB.out (IsS138.ge HI0.out), by exact sK0 HK.out⟩
 rw [if_neg c42] at H
 have c42b0 : (t585 == 3) = false := beq_eq_false_iff_ne.mpr c42
 have c42b1 : (t585 != 3) = true := bne_iff_ne.mpr c42
 simp only [Option.some.injEq, Prod.mk.injEq] at H
 obtain ⟨rfl, rfl, rfl, rfl⟩ := H
 go_enter Try.func82, Try.ntmps82
 go_wp2_with (first | ((with_reducible refine gate_callee (f := 124) rfl ?_); refine gL (some 9) Try.func124 #[.pointer (some ⟨g, 0, none⟩)] ?_; (with_reducible refine (spec_l8Draw.calls k g s0_0 s0_1 s0_2 t574 t577 t580 t581 w0 _ ?_ ?_ A2.out).mono ?_); exact sI1380 HI0.out; exact sB1 HB.out (IsS138.ge HI0.out); rintro e w49 ⟨v575, v578, rfl, ho0, ho1, hi, hb, hk⟩; refine ⟨_, rfl, ?_⟩; have HO576 := Aside0.mk (Kd.R_lower (Kd.R_newM (M := fun k_ => (w.heap.size ≤ k_)) ho0 (keep_size (w := w) (g := g) (row := none) (by exact sK0 HK.out)) (fun k_ h_ => h_)) (keep_size (w := w) (g := g) (row := none) (by exact sK0 HK.out))); have HO579 := Aside0.mk (Kd.N_lower (Kd.N_mono (ok' := fun k_ => (w.heap.size ≤ k_) ∧ some k_ ≠ (v575 : Value).ownBlock ∧ k_ ≠ g) (Kd.S_N (Kd.S_bound (Kd.S_apart' ho1 (Kd.R_typed ho0) (by decide)))) (fun k_ hk_ => ⟨(Nat.le_trans (keep_size (w := w) (g := g) (row := none) (by exact sK0 HK.out)) hk_.2.1), hk_.1.2, (IsS138.fresh (by exact sI1380 HI0.out) k_ hk_.2.1)⟩)) (keep_size (w := w) (g := g) (row := none) (by exact sK0 HK.out))); replace HK := Aside0.mk (KeepBut.trans (by exact sK0 HK.out) hk (.inl rfl)); replace HB := Aside0.mk (hb); replace HI0 := Aside0.mk (hi); (try clear hb); (try clear hk); (try clear hi); (try clear ho0); (try clear ho1); obtain ⟨Ao50, co50, eo50⟩ := Kd.N_slice HO579.out; subst eo50) | ((with_reducible refine gate_callee (f := 84) rfl ?_); refine gL (some 20) Try.func84 #[.pointer (some ⟨g, 0, none⟩), .int .i64 (t577.length : Int)] ?_; (with_reducible refine (spec_l1Below.calls g s0_0 t580 t581 (t577.length : Int) t582 t583 t584 w0 _ ?_ ?_ A6.out).mono ?_); exact sI1380 HI0.out; exact sB1 HB.out (IsS138.ge HI0.out); rintro e w51 ⟨rfl, hi, hb, hk⟩; refine ⟨_, rfl, ?_⟩; have n0_ := Aside0.mk (Kd.R_mono (Kd.R_keep (IsS138.apart (show IsS138 w0 _ g s0_0 t580 t581 from by exact sI1380 HI0.out) (rK HO576) (by decide)) hk (fun _ h => h.2)) (fun _ h => h.1)); have n1_ := Aside0.mk (Kd.N_mono (Kd.N_keep (Kd.N_mono (ok := fun k_ => (((w.heap.size ≤ k_)) ∧ (some k_ ≠ (v575 : Value).ownBlock ∧ k_ ≠ g))) (by (with_reducible repeat (first | apply Kd.N_alloc | apply Kd.N_drewN | apply Kd.N_drew)); exact HO579.out) (fun k_ hk_ => (⟨hk_, hk_.2.2⟩ : _ ∧ k_ ≠ g))) hk (fun _ h => h.2)) (fun _ h => h.1)); have n2_ := Aside0.mk (KeepBut.trans (by exact sK0 HK.out) hk (.inl rfl)); have n3_ := Aside0.mk (hb); have n4_ := Aside0.mk (hi); clear HO576; clear HO579; clear HK; clear HB; clear HI0; have HO576 := n0_; have HO579 := n1_; have HK := n2_; have HB := n3_; have HI0 := n4_; clear n0_ n1_ n2_ n3_ n4_; (try clear hb); (try clear hk); (try clear hi)) | ((with_reducible refine gate_callee (f := 84) rfl ?_); refine gL (some 22) Try.func84 #[.pointer (some ⟨g, 0, none⟩), .int .i64 10] ?_; (with_reducible refine (spec_l1Below.calls g s0_0 t583 t584 10 t585 t586 t587 w0 _ ?_ ?_ A7.out).mono ?_); exact sI1380 HI0.out; exact sB1 HB.out (IsS138.ge HI0.out); rintro e w52 ⟨rfl, hi, hb, hk⟩; refine ⟨_, rfl, ?_⟩; have n0_ := Aside0.mk (Kd.R_mono (Kd.R_keep (IsS138.apart (show IsS138 w0 _ g s0_0 t583 t584 from by exact sI1380 HI0.out) (rK HO576) (by decide)) hk (fun _ h => h.2)) (fun _ h => h.1)); have n1_ := Aside0.mk (Kd.N_mono (Kd.N_keep (Kd.N_mono (ok := fun k_ => (((w.heap.size ≤ k_)) ∧ (some k_ ≠ (v575 : Value).ownBlock ∧ k_ ≠ g))) (by (with_reducible repeat (first | apply Kd.N_alloc | apply Kd.N_drewN | apply Kd.N_drew)); exact HO579.out) (fun k_ hk_ => (⟨hk_, hk_.2.2⟩ : _ ∧ k_ ≠ g))) hk (fun _ h => h.2)) (fun _ h => h.1)); have n2_ := Aside0.mk (KeepBut.trans (by exact sK0 HK.out) hk (.inl rfl)); have n3_ := Aside0.mk (hb); have n4_ := Aside0.mk (hi); clear HO576; clear HO579; clear HK; clear HB; clear HI0; have HO576 := n0_; have HO579 := n1_; have HK := n2_; have HB := n3_; have HI0 := n4_; clear n0_ n1_ n2_ n3_ n4_; (try clear hb); (try clear hk); (try clear hi)))
 go_ret2
 exact ⟨_, _, rA, rm HO576 (fun _ hk => hk.1), Kd.N_V (nm HO579 (fun _ hk => ⟨hk.1, hk.2.1⟩)), by exact sI1380 HI0.out, by exact sB1 HB.out (IsS138.ge HI0.out), by exact sK0 HK.out⟩

/-! ### spec_DrawIsPlan: function 119 -/
def spec_DrawIsPlan.f (k : Nat) (l0 : List Int) : Option ((List (S50)) × (List (S85))) := (spec_l1New.f k l0).bind fun bt612 => ((spec_l8Any.f k bt612.1 bt612.2.1 bt612.2.2).bind fun bt616 => (some (bt616.1, bt616.2.1)))
theorem spec_DrawIsPlan.mono : ∀ a0 k, LeO (spec_DrawIsPlan.f k a0) (spec_DrawIsPlan.f (k + 1) a0) := by
 intro a0 k
 unfold spec_DrawIsPlan.f
 exact mz2 spec_l1New.mono spec_l8Any.mono
set_option maxHeartbeats 8000000 in
set_option maxRecDepth 100000 in
theorem spec_DrawIsPlan.calls (k : Nat) (A0 : Option Addr) (c0 : Nat) (l0 : List Int) (r1 : List (S50)) (r2 : List (S85)) (w : World) (hr0 : Kd.C (Kd.int .u8) w A0 l0.length l0) (hc0 : l0.length ≤ c0) (h : spec_DrawIsPlan.f k l0 = some (r1, r2)) :
  Calls Try.prog 119 #[.slice A0 l0.length c0] w fun e w' => ∃ v0_ v1_ : Value, e = .returned (.tuple #[v0_, v1_]) ∧ Kd.R k50 50 w' w.heap.size (fun k_ => (w.heap.size ≤ k_)) v0_ r1 ∧ Kd.V k85 85 w' w.heap.size (fun k_ => (w.heap.size ≤ k_) ∧ some k_ ≠ (v0_ : Value).ownBlock) v1_ r2 ∧ Below w.heap.size w w' := by
 have HR0 := Aside0.mk hr0
 have HC0 := Aside0.mk hc0
 clear hr0 hc0
 have HB := Aside0.mk (Below.refl w.heap.size w)
 have H : ((spec_l1New.f k l0).bind fun bt612 => ((spec_l8Any.f k bt612.1 bt612.2.1 bt612.2.2).bind fun bt616 => (some (bt616.1, bt616.2.1)))) = some (r1, r2) := h
 clear h
 obtain ⟨⟨t612, t613, t614⟩, A2, H⟩ := bindE H
 try dsimp only at H
 obtain ⟨⟨t616, t619, t622, t623⟩, A3, H⟩ := bindE H
 try dsimp only at H
 simp only [Option.some.injEq, Prod.mk.injEq] at H
 obtain ⟨rfl, rfl⟩ := H
 go_enter Try.func119, Try.ntmps119
 go_wp2_with (first | ((with_reducible refine gate_callee (f := 81) rfl ?_); refine gL (some 6) Try.func81 #[.slice A0 l0.length c0] ?_; (with_reducible refine (spec_l1New.calls k _ _ l0 t612 t613 t614 w _ ?_ ?_ ?_ A2.out).mono ?_); exact sB0 HB.out; exact HR0.out; exact HC0.out; rintro e w4 ⟨g615, rfl, hi, hb, hb2, -⟩; refine ⟨_, rfl, ?_⟩; replace HB := Aside0.mk (hb); have HI615 := Aside0.mk (hi); (try clear hb); (try clear hb2); (try clear hi)) | ((with_reducible refine gate_callee (f := 82) rfl ?_); refine gL (some 8) Try.func82 #[.pointer (some ⟨g615, 0, none⟩)] ?_; (with_reducible refine (spec_l8Any.calls k g615 t612 t613 t614 t616 t619 t622 t623 w _ ?_ ?_ A3.out).mono ?_); exact sI1380 HI615.out; exact sB1 HB.out (IsS138.ge HI615.out); rintro e w5 ⟨v617, v620, rfl, ho0, ho1, hi, hb, hk⟩; refine ⟨_, rfl, ?_⟩; have n0_ := Aside0.mk (Kd.R_lower (Kd.R_newM (M := fun k_ => (w.heap.size ≤ k_)) (Kd.R_mono (ok' := fun k_ => True) ho0 (fun _ hk_ => trivial)) (below_size (by exact sB1 HB.out (IsS138.ge HI615.out))) (fun k_ h_ => h_)) (below_size (by exact sB1 HB.out (IsS138.ge HI615.out)))); have n1_ := Aside0.mk (Kd.V_lower (Kd.V_mono (ok' := fun k_ => (w.heap.size ≤ k_) ∧ some k_ ≠ (v617 : Value).ownBlock ∧ k_ ≠ g615) ho1 (fun k_ hk_ => ⟨(Nat.le_trans (below_size (by exact sB1 HB.out (IsS138.ge HI615.out))) hk_.1), hk_.2, (IsS138.fresh (by exact sI1380 HI615.out) k_ hk_.1)⟩)) (below_size (by exact sB1 HB.out (IsS138.ge HI615.out)))); have n2_ := Aside0.mk (hb); have n3_ := Aside0.mk (hi); clear HB; clear HI615; have HO618 := n0_; have HO621 := n1_; have HB := n2_; have HI615 := n3_; clear n0_ n1_ n2_ n3_; (try clear hb); (try clear hk); (try clear hi); (try clear ho0); (try clear ho1)))
 go_ret2
 exact ⟨_, _, rA, rm HO618 (fun _ hk => hk.1), by (with_reducible repeat (first | apply Kd.V_alloc | apply Kd.V_drewN | apply Kd.V_drew)); exact Kd.V_mono HO621.out (fun _ hk => ⟨hk.1, hk.2.1⟩), by exact sB1 HB.out (IsS138.ge HI615.out)⟩

/-! ### spec_DrawStartOf: function 71 -/
def spec_DrawStartOf.f (k : Nat) (l0 : List Int) : Option ((List (S50)) × (List (S85)) × Int) := (spec_DrawIsPlan.f k l0).bind fun bt624 => ((spec_l1New.f k l0).bind fun bt630 => ((spec_l1Below.f bt630.1 bt630.2.1 bt630.2.2 5).bind fun bt634 => (some (bt624.1, bt624.2, wrap64 (bt634.1 - 1)))))
theorem spec_DrawStartOf.mono : ∀ a0 k, LeO (spec_DrawStartOf.f k a0) (spec_DrawStartOf.f (k + 1) a0) := by
 intro a0 k
 unfold spec_DrawStartOf.f
 exact mz2 spec_DrawIsPlan.mono spec_l1New.mono
set_option maxHeartbeats 8000000 in
set_option maxRecDepth 100000 in
theorem spec_DrawStartOf.calls (k : Nat) (A0 : Option Addr) (c0 : Nat) (l0 : List Int) (r1 : List (S50)) (r2 : List (S85)) (r3 : Int) (w : World) (hr0 : Kd.C (Kd.int .u8) w A0 l0.length l0) (hc0 : l0.length ≤ c0) (h : spec_DrawStartOf.f k l0 = some (r1, r2, r3)) :
  Calls Try.prog 71 #[.slice A0 l0.length c0] w fun e w' => ∃ v0_ v1_ : Value, e = .returned (.tuple #[v0_, v1_, .int .i64 r3]) ∧ Kd.R k50 50 w' w.heap.size (fun k_ => (w.heap.size ≤ k_)) v0_ r1 ∧ Kd.V k85 85 w' w.heap.size (fun k_ => (w.heap.size ≤ k_) ∧ some k_ ≠ (v0_ : Value).ownBlock) v1_ r2 ∧ Below w.heap.size w w' := by
 have HR0 := Aside0.mk hr0
 have HC0 := Aside0.mk hc0
 clear hr0 hc0
 have HB := Aside0.mk (Below.refl w.heap.size w)
 have H : ((spec_DrawIsPlan.f k l0).bind fun bt624 => ((spec_l1New.f k l0).bind fun bt630 => ((spec_l1Below.f bt630.1 bt630.2.1 bt630.2.2 5).bind fun bt634 => (some (bt624.1, bt624.2, wrap64 (bt634.1 - 1)))))) = some (r1, r2, r3) := h
 clear h
 obtain ⟨⟨t624, t627⟩, A2, H⟩ := bindE H
 try dsimp only at H
 obtain ⟨⟨t630, t631, t632⟩, A3, H⟩ := bindE H
 try dsimp only at H
 obtain ⟨⟨t634, t635, t636⟩, A4, H⟩ := bindE H
 try dsimp only at H
 simp only [Option.some.injEq, Prod.mk.injEq] at H
 obtain ⟨rfl, rfl, rfl⟩ := H
 go_enter Try.func71, Try.ntmps71
 go_wp2_with (first | ((with_reducible refine gate_callee (f := 119) rfl ?_); refine gL (some 10) Try.func119 #[.slice A0 l0.length c0] ?_; (with_reducible refine (spec_DrawIsPlan.calls k _ _ l0 t624 t627 _ ?_ ?_ A2.out).mono ?_); exact cO HR0; exact HC0.out; rintro e w5 ⟨v625, v628, rfl, ho0, ho1, hb⟩; refine ⟨_, rfl, ?_⟩; have HO626 := rl w (Kd.R_newM (M := fun k_ => (w.heap.size ≤ k_)) (Kd.R_mono (ok' := fun k_ => True) ho0 (fun _ hk_ => trivial)) (below_size bA) (fun k_ h_ => h_)); have HO629 := Aside0.mk (Kd.V_lower (Kd.V_mono (ok' := fun k_ => (w.heap.size ≤ k_) ∧ some k_ ≠ (v625 : Value).ownBlock) ho1 (fun k_ hk_ => ⟨(Nat.le_trans (below_size bA) hk_.1), hk_.2⟩)) (below_size bA)); replace HB := bs HB hb; (try clear hb); (try clear ho0); (try clear ho1)) | ((with_reducible refine gate_callee (f := 81) rfl ?_); refine gL (some 14) Try.func81 #[.slice A0 l0.length c0] ?_; (with_reducible refine (spec_l1New.calls k _ _ l0 t630 t631 t632 w _ ?_ ?_ ?_ A3.out).mono ?_); exact sB0 HB.out; exact HR0.out; exact HC0.out; rintro e w6 ⟨g633, rfl, hi, hb, hb2, hge_⟩; refine ⟨_, rfl, ?_⟩; have n0_ := rb HO626 hb2; have n1_ := Aside0.mk (Kd.V_below (Kd.V_elderB (by (with_reducible repeat (first | apply Kd.V_alloc | apply Kd.V_drewN | apply Kd.V_drew)); exact HO629.out) g633 hge_) hb2); have n2_ := Aside0.mk (hb); have n3_ := Aside0.mk (hi); clear HO626; clear HO629; clear HB; have HO626 := n0_; have HO629 := n1_; have HB := n2_; have HI633 := n3_; clear n0_ n1_ n2_ n3_; (try clear hb); (try clear hb2); (try clear hi); (try clear hge_)) | ((with_reducible refine gate_callee (f := 84) rfl ?_); refine gL (some 18) Try.func84 #[.pointer (some ⟨g633, 0, none⟩), .int .i64 5] ?_; (with_reducible refine (spec_l1Below.calls g633 t630 t631 t632 5 t634 t635 t636 w _ ?_ ?_ A4.out).mono ?_); exact sI1380 HI633.out; exact sB1 HB.out (IsS138.ge HI633.out); rintro e w7 ⟨rfl, hi, hb, hk⟩; refine ⟨_, rfl, ?_⟩; have n0_ := Aside0.mk (Kd.R_mono (Kd.R_keep (IsS138.apart (show IsS138 w _ g633 t630 t631 t632 from by exact sI1380 HI633.out) (rK HO626) (by decide)) hk (fun _ h => h.2)) (fun _ h => h.1)); have n1_ := Aside0.mk (Kd.V_mono (Kd.V_keep (Kd.V_mono (ok := fun k_ => ((((w.heap.size ≤ k_)) ∧ some k_ ≠ (v625 : Value).ownBlock) ∧ k_ ≠ g633)) (by (with_reducible repeat (first | apply Kd.V_alloc | apply Kd.V_drewN | apply Kd.V_drew)); exact HO629.out) (fun k_ hk_ => (⟨hk_, hk_.2⟩ : _ ∧ k_ ≠ g633))) hk (fun _ h => h.2)) (fun _ h => h.1)); have n2_ := Aside0.mk (hb); have n3_ := Aside0.mk (hi); clear HO626; clear HO629; clear HB; clear HI633; have HO626 := n0_; have HO629 := n1_; have HB := n2_; have HI633 := n3_; clear n0_ n1_ n2_ n3_; (try clear hb); (try clear hk); (try clear hi)))
 go_ret3
 exact ⟨_, _, rA, rm HO626 (fun _ hk => hk.1), by (with_reducible repeat (first | apply Kd.V_alloc | apply Kd.V_drewN | apply Kd.V_drew)); exact Kd.V_mono HO629.out (fun _ hk => ⟨hk.1.1, hk.1.2⟩), by exact sB1 HB.out (IsS138.ge HI633.out)⟩

/-! ### impl_LongestClear: function 72 -/
def impl_LongestClear.l0 : Nat → Int → List (S50) → Int → Int → Option (Int)
 | 0, _, _, _, _ => none
 | k + 1, x3, x10, x11, x12 => if x12 < x11 then (if 0 ≤ x12 then (if x12 < (x10.length : Int) then ((impl_ClearOf.f ((rd_T50 x10 x12).f0) ((rd_T50 x10 x12).f1) ((rd_T50 x10 x12).f2) ((rd_T50 x10 x12).f3)).bind fun t640 => (impl_LongestClear.l0 k (mx x3 t640) x10 x11 (wrap64 (x12 + 1)))) else (none)) else (none)) else (some x3)
def impl_LongestClear.f (k : Nat) (l0 : List (S50)) : Option (Int) := (impl_ArePaths.f k l0).bind fun t637 => (if t637 = true then (impl_LongestClear.l0 k 0 l0 (l0.length : Int) 0) else (some 0))
theorem impl_LongestClear.mono_l : ∀ k, (∀ y0 y1 y2 y3, LeO (impl_LongestClear.l0 k y0 y1 y2 y3) (impl_LongestClear.l0 (k + 1) y0 y1 y2 y3))
 | 0 => fun _ _ _ _ r h => by simp [impl_LongestClear.l0] at h
 | k + 1 => by
  have ih0 := impl_LongestClear.mono_l k
  ·
   intro y0 y1 y2 y3
   unfold impl_LongestClear.l0
   exact mz2 ih0 impl_ArePaths.mono
theorem impl_LongestClear.mono : ∀ a0 k, LeO (impl_LongestClear.f k a0) (impl_LongestClear.f (k + 1) a0) := by
 intro a0 k
 have ih0 := impl_LongestClear.mono_l k
 unfold impl_LongestClear.f
 exact mz2 ih0 impl_ArePaths.mono
set_option maxHeartbeats 8000000 in
set_option maxRecDepth 100000 in
theorem impl_LongestClear.calls (k : Nat) (A0 : Option Addr) (c0 : Nat) (l0 : List (S50)) (r : Int) (w : World) (hr0 : Kd.C k50 w A0 l0.length l0) (hc0 : l0.length ≤ c0) (h : impl_LongestClear.f k l0 = some r) :
  Calls Try.prog 72 #[.slice A0 l0.length c0] w fun e w' => e = .returned (.int .i64 r) ∧ Below w.heap.size w w' := by
 have hu50 := Try.underlying50
 have HR0 := Aside0.mk hr0
 have HC0 := Aside0.mk hc0
 clear hr0 hc0
 have HB := Aside0.mk (Below.refl w.heap.size w)
 have H : ((impl_ArePaths.f k l0).bind fun t637 => (if t637 = true then (impl_LongestClear.l0 k 0 l0 (l0.length : Int) 0) else (some 0))) = some r := h
 clear h
 obtain ⟨t637, A2, H⟩ := bindE H
 try dsimp only at H
 by_cases c3 : t637 = true
 ·
  subst c3
  have H1 : (impl_LongestClear.l0 k 0 l0 (l0.length : Int) 0) = some r := by rw [if_pos rfl] at H; exact H
  clear H
  have H := H1
  clear H1
  have H' := Aside0.mk H
  clear H
  go_enter Try.func72, Try.ntmps72
  go_wp2_with (first | ((with_reducible refine gate_callee (f := 32) rfl ?_); refine gL (some 7) Try.func32 #[.slice A0 l0.length c0] ?_; (with_reducible refine (impl_ArePaths.calls k _ _ l0 true _ ?_ ?_ A2.out).mono ?_); exact cO HR0; exact HC0.out; rintro e w4 ⟨rfl, hb⟩; refine ⟨_, rfl, ?_⟩; replace HB := bs HB hb; (try clear hb)))
  go_loopg [3, 12] k (fun kq v3 v12 w' => ∃ (x3_1 : Int) (x12_1 : Int), v3 = .int .i64 x3_1 ∧ v12 = .int .i64 x12_1 ∧ Aside0 (impl_LongestClear.l0 kq x3_1 l0 (l0.length : Int) x12_1 = some r) ∧ Aside0 (kq ≤ k) ∧ Aside0 (Below w.heap.size w w'))
  case atStart => exact ⟨(0), (0), rS, rS, H', ⟨Nat.le_refl _⟩, ⟨bA⟩⟩
  case round =>
   clear H'
   obtain ⟨x3_1, x12_1, rfl, rfl, HA, HK1, HB⟩ := hrel
   cases gk with
   | zero => exact absurd HA.out (by simp [impl_LongestClear.l0])
   | succ k1 =>
    have H := HA.out
    clear HA
    simp only [impl_LongestClear.l0] at H
    by_cases c5 : x12_1 < (l0.length : Int)
    ·
     rw [if_pos c5] at H
     have c5b0 := decide_eq_true c5
     clear c5
     have c6 : 0 ≤ x12_1 := ifN H
     replace H := ifT H
     have c6b0 := decide_eq_true c6
     clear c6
     have c7 : x12_1 < (l0.length : Int) := ifN H
     replace H := ifT H
     have c7b0 := decide_eq_true c7
     clear c7
     obtain ⟨t640, A8, H⟩ := bindE H
     try dsimp only at H
     obtain ⟨ji9, hji9⟩ : ∃ j_ : Int, (mx x3_1 t640) = j_ := ⟨_, rfl⟩
     replace H : (impl_LongestClear.l0 k1 ji9 l0 (l0.length : Int) (wrap64 (x12_1 + 1))) = some r := by first | (rw [hji9] at H; exact H) | (simp only [hji9] at H ⊢; exact H)
     (try rw [hji9] at A8)
     have hji9_ : (if x3_1 < t640 then t640 else x3_1) = ji9 := hji9
     have H' := Aside0.mk H
     clear H
     obtain ⟨p638, q638⟩ : 0 ≤ (x12_1 : Int) ∧ x12_1 < (l0.length : Int) := ⟨dA, dA⟩
     obtain ⟨ad638, e638, hx638_0, hx638_1, hx638_2, hx638_3⟩ := at_T50 (Kd.C_below HR0.out HB.out) x12_1 p638 q638
     cases e638
     obtain ⟨p638, q638⟩ := eT p638 q638
     go_wp2_with (first | ((with_reducible refine gate_dst (N := 5) rfl ?_); refine bE (N := 5) (cs := #[.int .i64 0, .int .i64 0, .int .i64 0, .int .i64 0]) (t := 50) ?_; intro gb639 hg w10 hbox hb; have BK639 := Aside0.mk (hbox); have GW639 := gw w hg; have GE639 := gw w hg; replace HB := bs HB hb; clear hb hbox hg; have hcz11_0 : w10.cell? ⟨gb639, 0, none⟩ = some (.int .i64 0) := bC BK639 0; have hcz11_1 : w10.cell? ⟨gb639, 1, none⟩ = some (.int .i64 0) := bC BK639 1; have hcz11_2 : w10.cell? ⟨gb639, 2, none⟩ = some (.int .i64 0) := bC BK639 2; have hcz11_3 : w10.cell? ⟨gb639, 3, none⟩ = some (.int .i64 0) := bC BK639 3; have hfz11_0 := blk_frozen BK639.out 0; have hfz11_1 := blk_frozen BK639.out 1; have hfz11_2 := blk_frozen BK639.out 2; have hfz11_3 := blk_frozen BK639.out 3) | ((with_reducible refine gate_callee (f := 120) rfl ?_); refine gL (some 18) Try.func120 #[.agg #[.int .i64 ((rd_T50 l0 x12_1).f0), .int .i64 ((rd_T50 l0 x12_1).f1), .int .i64 ((rd_T50 l0 x12_1).f2), .int .i64 ((rd_T50 l0 x12_1).f3)]] ?_; (with_reducible refine (impl_ClearOf.calls ((rd_T50 l0 x12_1).f0) ((rd_T50 l0 x12_1).f1) ((rd_T50 l0 x12_1).f2) ((rd_T50 l0 x12_1).f3) t640 _ A8.out).mono ?_); rintro e w12 ⟨rfl, hb⟩; refine ⟨_, rfl, ?_⟩; replace BK639 := kc (o := .cells #[.int .i64 ((rd_T50 l0 x12_1).f0), .int .i64 ((rd_T50 l0 x12_1).f1), .int .i64 ((rd_T50 l0 x12_1).f2), .int .i64 ((rd_T50 l0 x12_1).f3)] 50 (0, 0)) (kp BK639) hb; replace HB := bs HB hb; (try clear hb)))
     go_roundg k1
     case measure => have := HK1.out; omega
     case rel => exact ⟨(ji9), (wrap64 (x12_1 + 1)), (by first | rfl | (simp; done) | (simp only [← hji9] <;> (first | rfl | simp)) | (simp [*]; done)), rS, H', ⟨by have := HK1.out; omega⟩, ⟨bG⟩⟩
    rw [if_neg c5] at H
    have c5b0 := decide_eq_false c5
    clear c5
    obtain rfl := Option.some.inj H
    go_wp2
    go_ret
    exact ⟨rA, bA⟩
 replace c3 := Bool.eq_false_iff.mpr c3
 subst c3
 have H1 : (some 0) = some r := by rw [if_neg (show ¬ (false = true) by decide)] at H; exact H
 clear H
 have H := H1
 clear H1
 obtain rfl := Option.some.inj H
 go_enter Try.func72, Try.ntmps72
 go_wp2_with (first | ((with_reducible refine gate_callee (f := 32) rfl ?_); refine gL (some 7) Try.func32 #[.slice A0 l0.length c0] ?_; (with_reducible refine (impl_ArePaths.calls k _ _ l0 false _ ?_ ?_ A2.out).mono ?_); exact cO HR0; exact HC0.out; rintro e w13 ⟨rfl, hb⟩; refine ⟨_, rfl, ?_⟩; replace HB := bs HB hb; (try clear hb)))
 go_ret
 exact ⟨rA, bA⟩

/-! ### spec_l8Copy: function 121 -/
def spec_l8Copy.l0 : Nat → List (S85) → List (S85) → Int → Option ((List (S85)))
 | 0, _, _, _ => none
 | k + 1, x0, x3, x4 => if x4 < (x0.length : Int) then ((some (([] : List Int) : List Int)).bind fun y644 => (if 0 ≤ x4 then (if y644.length + ((rd_T85 x0 x4).f0).length < 17592186044416 then (if x3.length < 4398046511104 then (spec_l8Copy.l0 k x0 (x3 ++ [(⟨(y644 ++ ((rd_T85 x0 x4).f0)), (rd_T85 x0 x4).f1⟩ : S85)]) (wrap64 (x4 + 1))) else (none)) else (none)) else (none))) else (some x3)
def spec_l8Copy.f (k : Nat) (l0 : List (S85)) : Option ((List (S85))) := spec_l8Copy.l0 k l0 (([] : List (S85))) 0
theorem spec_l8Copy.mono_l : ∀ k, (∀ y0 y1 y2, LeO (spec_l8Copy.l0 k y0 y1 y2) (spec_l8Copy.l0 (k + 1) y0 y1 y2))
 | 0 => fun _ _ _ r h => by simp [spec_l8Copy.l0] at h
 | k + 1 => by
  have ih0 := spec_l8Copy.mono_l k
  ·
   intro y0 y1 y2
   unfold spec_l8Copy.l0
   exact mz1 ih0
theorem spec_l8Copy.mono : ∀ a0 k, LeO (spec_l8Copy.f k a0) (spec_l8Copy.f (k + 1) a0) := by
 intro a0 k
 have ih0 := spec_l8Copy.mono_l k
 unfold spec_l8Copy.f
 exact mz1 ih0
def spec_l8Copy.T5 : Bool × List (List Nat × List Nat) := (true, [([], []), ([], []), ([], []), ([], []), ([2, 3], [2, 3]), ([4], [4]), ([5], [5]), ([1, 6], [1, 6]), ([], []), ([], []), ([8, 9], [8, 9]), ([10], [10]), ([11], [11]), ([7, 12], [7, 12]), ([13], [13]), ([0, 14, 7], [0, 14]), ([15, 15, 0, 1, 2, 3, 4, 5, 6, 7, 8, 9, 10, 11, 12, 13, 14, 15], [0, 15])])
def spec_l8Copy.B5 : List Nat := [0, 0, 0, 0, 12, 28, 60, 126, 0, 0, 768, 1792, 3840, 8190, 16382, 32767, 65535]
theorem spec_l8Copy.tab5 : rtab .any (opsOf Try.f121 5) = spec_l8Copy.T5 := by kernel_rfl
theorem spec_l8Copy.bits5 : waitsOk spec_l8Copy.T5.2 spec_l8Copy.B5 = true := by kernel_rfl
set_option maxHeartbeats 8000000 in
set_option maxRecDepth 100000 in
theorem spec_l8Copy.calls (k : Nat) (A0 : Option Addr) (c0 : Nat) (l0 : List (S85)) (r : List (S85)) (w : World) (hr0 : Kd.C k85 w A0 l0.length l0) (hc0 : l0.length ≤ c0) (h : spec_l8Copy.f k l0 = some r) :
  Calls Try.prog 121 #[.slice A0 l0.length c0] w fun e w' => ∃ v0_ : Value, e = .returned (v0_) ∧ Kd.S k85 85 w' w.heap.size (fun _ => True) v0_ r ∧ Below w.heap.size w w' := by
 have hu85 := Try.underlying85
 have HR0 := Aside0.mk hr0
 have HC0 := Aside0.mk hc0
 clear hr0 hc0
 have HB := Aside0.mk (Below.refl w.heap.size w)
 have H : (spec_l8Copy.l0 k l0 (([] : List (S85))) 0) = some r := h
 clear h
 obtain ⟨y641, hy641⟩ : ∃ y_ : List (S85), y_ = (([] : List (S85))) := ⟨_, rfl⟩
 replace H : (spec_l8Copy.l0 k l0 y641 0) = some r := rH H hy641
 have Ny641 := Aside0.mk hy641
 clear hy641
 have H' := Aside0.mk H
 clear H
 go_enter Try.func121, Try.ntmps121
 go_wp2_with (first | ((with_reducible refine gate_dst (N := 5) rfl ?_); refine Kd.S_lit k85 _ 85 ?hg (N := 5) ?hd (xs := ([] : List (S85))) (inner := []) (ok := fun _ => True) (okp := fun _ => True) ?hr ?hp (fun _ hk => hk) trivial (Below.refl _ _) (Nat.le_refl _) (by simp) ?_; (case hd => rfl); (case hg => rfl); (case hr => first | (go_simp; done) | (go_simp; rfl)); (case hp => exact (Reps.none _ _)); intro v642 w2 ho3 hb hg_ hnew_; clear hg_ hnew_; (first | rw [← Ny641.out] at ho3 | (simp only [Int.reduceToNat] at ho3; rw [← Ny641.out] at ho3)); have HO643 := sl w ho3; replace HB := bs HB hb; clear hb ho3))
 go_loopg [3, 4] k (fun kq v3 v4 w' => ∃ (x3_1 : List (S85)) (x4_1 : Int), v4 = .int .i64 x4_1 ∧ Aside0 (spec_l8Copy.l0 kq l0 x3_1 x4_1 = some r) ∧ Aside0 (kq ≤ k) ∧ Aside0 (Kd.S k85 85 w' w.heap.size (fun _ => True) v3 x3_1) ∧ Aside0 (Below w.heap.size w w'))
 case atStart => exact ⟨(y641), (0), rS, H', ⟨Nat.le_refl _⟩, ⟨sK HO643⟩, ⟨bA⟩⟩
 case round =>
  clear H'
  obtain ⟨x3_1, x4_1, rfl, HA, HK1, HO_3, HB⟩ := hrel
  cases gk with
  | zero => exact absurd HA.out (by simp [spec_l8Copy.l0])
  | succ k1 =>
   have H := HA.out
   clear HA
   simp only [spec_l8Copy.l0] at H
   by_cases c4 : x4_1 < (l0.length : Int)
   ·
    rw [if_pos c4] at H
    have c4b0 := decide_eq_true c4
    clear c4
    obtain ⟨y644, hy644⟩ : ∃ y_ : List Int, y_ = (([] : List Int)) := ⟨_, rfl⟩
    replace H : (if 0 ≤ x4_1 then (if y644.length + ((rd_T85 l0 x4_1).f0).length < 17592186044416 then (if x3_1.length < 4398046511104 then (spec_l8Copy.l0 k1 l0 (x3_1 ++ [(⟨(y644 ++ ((rd_T85 l0 x4_1).f0)), (rd_T85 l0 x4_1).f1⟩ : S85)]) (wrap64 (x4_1 + 1))) else (none)) else (none)) else (none)) = some r := rH H hy644
    have Ny644 := Aside0.mk hy644
    clear hy644
    have c5 : 0 ≤ x4_1 := ifN H
    replace H := ifT H
    have c5b0 := decide_eq_true c5
    clear c5
    have c6 : y644.length + ((rd_T85 l0 x4_1).f0).length < 17592186044416 := ifN H
    replace H := ifT H
    have LMc6 := Aside0.mk c6
    clear c6
    obtain ⟨y648, hy648⟩ : ∃ y_ : List Int, y_ = (y644 ++ ((rd_T85 l0 x4_1).f0)) := ⟨_, rfl⟩
    replace H : (if x3_1.length < 4398046511104 then (spec_l8Copy.l0 k1 l0 (x3_1 ++ [(⟨y648, (rd_T85 l0 x4_1).f1⟩ : S85)]) (wrap64 (x4_1 + 1))) else (none)) = some r := rH H hy648
    have Ny648 := Aside0.mk hy648
    clear hy648
    have c7 : x3_1.length < 4398046511104 := ifN H
    replace H := ifT H
    have LMc7 := Aside0.mk c7
    clear c7
    obtain ⟨y652, hy652⟩ : ∃ y_ : List (S85), y_ = (x3_1 ++ [(⟨y648, (rd_T85 l0 x4_1).f1⟩ : S85)]) := ⟨_, rfl⟩
    replace H : (spec_l8Copy.l0 k1 l0 y652 (wrap64 (x4_1 + 1))) = some r := rH H hy652
    have Ny652 := Aside0.mk hy652
    clear hy652
    have H' := Aside0.mk H
    clear H
    try go_wp2
    replace HO_3 := ds HO_3
    have HBo := HB
    replace HB := db HB
    obtain ⟨p647, q647⟩ : 0 ≤ (x4_1 : Int) ∧ x4_1 < (l0.length : Int) := ⟨dA, dA⟩
    obtain ⟨ad647, A647_0, c647_0, e647, hx647_0, hx647_1, hl647_0, hi647_0⟩ := at_T85 HR0.out x4_1 p647 q647
    have hw647_1 := hx647_1
    have hw647_0 := hx647_0
    cases e647
    replace hx647_0 := hC HB hx647_0
    replace hx647_1 := hC HB hx647_1
    have HR647_0 := Aside0.mk hi647_0
    have HC647_0 := Aside0.mk hl647_0
    clear hi647_0 hl647_0
    obtain ⟨p647, q647⟩ := eT p647 q647
    obtain ⟨p651, q651⟩ : 0 ≤ (x4_1 : Int) ∧ x4_1 < (l0.length : Int) := ⟨dA, dA⟩
    obtain ⟨ad651, A651_0, c651_0, e651, hx651_0, hx651_1, hl651_0, hi651_0⟩ := at_T85 HR0.out x4_1 p651 q651
    have hw651_1 := hx651_1
    have hw651_0 := hx651_0
    obtain rfl : ad647 = ad651 := (by injection e651)
    replace hx651_0 := hC HB hx651_0
    replace hx651_1 := hC HB hx651_1
    have HR651_0 := Aside0.mk hi651_0
    have HC651_0 := Aside0.mk hl651_0
    clear hi651_0 hl651_0
    obtain ⟨p651, q651⟩ := eT p651 q651
    have ea_ := Option.some.inj (hx647_0.symm.trans hx651_0)
    injection ea_ with ea_ en_ ec_
    subst ea_
    subst ec_
    clear en_
    refine start_ (n := 17) (S := fun w' => w'.cell? (ad647.add ((x4_1).toNat * 2)) = some (.slice A647_0 ((rd_T85 l0 x4_1).f0).length c647_0) ∧ w'.cell? ⟨(ad647.add ((x4_1).toNat * 2)).block, (ad647.add ((x4_1).toNat * 2)).off + 1, none⟩ = some (.int .i64 ((rd_T85 l0 x4_1).f1)) ∧ w'.cell? (ad647.add ((x4_1).toNat * 2)) = some (.slice A647_0 ((rd_T85 l0 x4_1).f0).length c647_0) ∧ w'.cell? ⟨(ad647.add ((x4_1).toNat * 2)).block, (ad647.add ((x4_1).toNat * 2)).off + 1, none⟩ = some (.int .i64 ((rd_T85 l0 x4_1).f1))) (ds := []) (mb 17 0) (by kernel_rfl) rfl rfl ⟨(hC HB hw647_0), (hC HB hw647_1), (hC HB hw651_0), (hC HB hw651_1)⟩ (fun hHeld => ?_); refine with_tabW spec_l8Copy.tab5 spec_l8Copy.bits5 (fun HT_ HW_ => ?_)
    generalize wr.drew = w8 at HO_3 HB HR647_0 HR651_0 hx647_0 hx647_1 hx651_0 hx651_1 hHeld ⊢
    refine pa 0 12 (mb 17 1) HT_ ?_
    refine pa 2 14 (mb 17 5) HT_ ?_
    refine pa 3 15 (mb 17 13) HT_ ?_
    refine pa 4 16 (mb 17 29) HT_ ?_
    refine pa 5 17 (mb 17 61) HT_ ?_
    refine pa 8 20 (mb 17 317) HT_ ?_
    refine pa 9 21 (mb 17 829) HT_ ?_
    refine pa 10 22 (mb 17 1853) HT_ ?_
    refine pa 11 23 (mb 17 3901) HT_ ?_
    refine ta4 6 18 (mb 17 3965) HT_ HW_ hHeld ?_
    refine ta4 12 24 (mb 17 8061) HT_ HW_ hHeld ?_
    refine oa 1 13 (mb 17 8063) HT_ (fun K hK => ?_)
    refine Kd.R_lit_step (Kd.int .i64) _ 3 ?hg (N := 13) ?hd (xs := ([] : List Int)) (inner := []) (ok := fun _ => True) (okp := fun _ => True) ?hr ?hp (fun _ hk => hk) trivial (Below.refl _ _) (Nat.le_refl _) (by simp) ?_; (case hd => rfl); (case hg => rfl); (case hr => first | (go_simp; done) | (go_simp; rfl)); (case hp => exact (Reps.none _ _))
    intro v645 w9 ho10 hb hg_ hnew_
    clear hg_ hnew_
    (first | rw [← Ny644.out] at ho10 | (simp only [Int.reduceToNat] at ho10; rw [← Ny644.out] at ho10))
    replace HO_3 := se HO_3 ho10 hb
    have HO646 := rl w ho10
    replace HB := bs HB hb
    clear hb ho10
    refine hK.out _ _ ⟨(hC HB hw647_0), (hC HB hw647_1), (hC HB hw651_0), (hC HB hw651_1)⟩ (fun hHeld => ?_)
    clear hK K
    refine nB ?_
    refine oa 7 19 (mb 17 8191) HT_ (fun K hK => ?_)
    refine Kd.R_append_rows_step (Kd.int .i64) (w0 := w) w.heap.size (by rfl) (.tmp 13) (.tmp 18) 35 3 (.int .i64 0) 8 rfl Try.underlying35 info3 rfl (by decide) (by omega) v645 y644 ((rd_T85 l0 x4_1).f0) _ _ _ (fun _ => True) (fun _ => False) rfl rfl ?aO ?aR (fun _ _ h => h) (fun _ h => h.elim) ?aF ?aB ?aS ?aL ?_
    (case aR => repeat (first | exact (Kd.C_below HR647_0.out HB.out) | (with_reducible refine Kd.C_alloc ?_ _) | (with_reducible refine Kd.C_drewN ?_ _) | (with_reducible refine Kd.C_drew ?_)))
    (case aB => exact bA)
    (case aF => exact (fun _ _ => trivial))
    (case aO => exact (rK HO646))
    (case aS => exact (below_size bA))
    (case aL => have := LMc6.out; omega)
    intro v649 w11 ho hb hg hat
    rw [← Ny648.out] at ho
    have n0_ := Aside0.mk (Kd.S_after (ok := (fun _ => True)) (sK HO_3) hg hat)
    have n1_ := Aside0.mk (hb)
    have n2_ := Aside0.mk (ho)
    clear HO_3
    clear HB
    clear HO646
    have HO_3 := n0_
    have HB := n1_
    have HO650 := n2_
    clear n0_ n1_ n2_
    clear ho hb hg hat
    obtain ⟨Ao12, co12, eo12⟩ := Kd.R_slice HO650.out
    (first | subst eo12 | (injection eo12 with f1_ f2_ f3_; have f4_ := f1_.symm; have f5_ := f3_.symm; clear f1_ f2_ f3_; subst f4_; subst f5_))
    refine hK.out _ _ ⟨(hC HB hw647_0), (hC HB hw647_1), (hC HB hw651_0), (hC HB hw651_1)⟩ (fun hHeld => ?_)
    clear hK K
    refine nB ?_
    refine pa 13 25 (mb 17 16383) HT_ ?_
    refine oa 14 26 (mb 17 32767) HT_ (fun K hK => ?_)
    refine value_ (w1 := ?_) (v := ?_) (by rfl) rfl ?_ ?_
    rotate_left 2
    ·
     go_simp
     constructor
     ·
      rfl
     ·
      rfl
    refine hK.out _ _ ⟨(World.cell?_alloc_lt _ _ _ (World.block_lt_of_cell? _ _ ((hC HB hw647_0)))).trans ((hC HB hw647_0)), (World.cell?_alloc_lt _ _ _ (World.block_lt_of_cell? _ _ ((hC HB hw647_1)))).trans ((hC HB hw647_1)), (World.cell?_alloc_lt _ _ _ (World.block_lt_of_cell? _ _ ((hC HB hw651_0)))).trans ((hC HB hw651_0)), (World.cell?_alloc_lt _ _ _ (World.block_lt_of_cell? _ _ ((hC HB hw651_1)))).trans ((hC HB hw651_1))⟩ (fun hHeld => ?_)
    clear hK K
    refine nB ?_
    refine oa 15 27 (mb 17 65535) HT_ (fun K hK => ?_)
    refine Kd.S_append_step k85 (w0 := w) w.heap.size (by rfl) (.tmp 12) (.tmp 26) 25 85 (.agg #[(.slice none 0 0), (.int .i64 0)]) 32 rfl Try.underlying25 info85 rfl (by decide) (by omega) u3 x3_1 (⟨y648, (rd_T85 l0 x4_1).f1⟩ : S85) [.slice Ao12 y648.length co12, .int .i64 ((rd_T85 l0 x4_1).f1)] (fun _ => True) (fun k_ => some k_ = (.slice Ao12 y648.length co12 : Value).ownBlock) rfl rfl ?aP (fun k_ hk_ => ((Kd.R_mono (ok' := fun k_ => ((fun _ => True)) k_ ∧ some k_ ≠ (u3 : Value).ownBlock) (Kd.R_apart' (HO650.out) (Kd.S_typed HO_3.out) (by decide)) (fun k_ hk => ⟨trivial, hk.2⟩))).1 k_ hk_.symm) ?aF ?aO ?aB ?aS ?aL ?_
    (case aP => exact k85_mkM _ _ _ (⟨y648, (rd_T85 l0 x4_1).f1⟩ : S85) (Kd.R_mono (Kd.R_tight rfl (Kd.R_mono (ok' := fun k_ => ((fun _ => True)) k_ ∧ some k_ ≠ (u3 : Value).ownBlock) (Kd.R_apart' (HO650.out) (Kd.S_typed HO_3.out) (by decide)) (fun k_ hk => ⟨trivial, hk.2⟩))) (fun _ h_ => h_)))
    (case aB => exact bA)
    (case aF => exact (fun _ _ => trivial))
    (case aO => exact (sm HO_3 (fun k_ hk => ⟨trivial, fun e_ => hk.2 e_⟩)))
    (case aS => exact (below_size bA))
    (case aL => have := LMc7.out; omega)
    intro v653 w13 ho hb hg hat
    rw [← Ny652.out] at ho
    have n0_ := Aside0.mk (hb)
    have n1_ := Aside0.mk (ho)
    clear HB
    clear HO_3
    clear HO650
    have HB := n0_
    have HO654 := n1_
    clear n0_ n1_
    clear ho hb hg hat
    refine hK.out _ _ ⟨(hC HB hw647_0), (hC HB hw647_1), (hC HB hw651_0), (hC HB hw651_1)⟩ (fun hHeld => ?_)
    clear hK K
    refine nB ?_
    refine pa 16 3 (mb 17 131071) HT_ ?_
    refine eA HT_ ?_
    try go_wp2
    go_roundg k1
    case measure => have := HK1.out; omega
    case rel => exact ⟨(y652), (wrap64 (x4_1 + 1)), rS, H', ⟨by have := HK1.out; omega⟩, ⟨sK HO654⟩, ⟨bA⟩⟩
   rw [if_neg c4] at H
   have c4b0 := decide_eq_false c4
   clear c4
   obtain rfl := Option.some.inj H
   go_wp2
   go_ret
   exact ⟨_, rA, sK HO_3, bA⟩

/-! ### spec_DrawEqualPlans: function 73 -/
def spec_DrawEqualPlans.f (k : Nat) (l0 : List Int) : Option ((List (S85)) × (List (S85))) := (spec_DrawIsPlan.f k l0).bind fun bt655 => ((spec_l1New.f k l0).bind fun bt661 => ((spec_l1Once.f bt661.1 bt661.2.1 bt661.2.2 2).bind fun bt665 => (if bt665.1 = true then ((spec_l8Copy.f k bt655.2).bind fun t668 => (some (bt655.2, t668))) else ((spec_l8Any.f k bt661.1 bt665.2.1 bt665.2.2).bind fun bt671 => (some (bt655.2, bt671.2.1))))))
theorem spec_DrawEqualPlans.mono : ∀ a0 k, LeO (spec_DrawEqualPlans.f k a0) (spec_DrawEqualPlans.f (k + 1) a0) := by
 intro a0 k
 unfold spec_DrawEqualPlans.f
 exact mz4 spec_DrawIsPlan.mono spec_l1New.mono spec_l8Any.mono spec_l8Copy.mono
set_option maxHeartbeats 8000000 in
set_option maxRecDepth 100000 in
theorem spec_DrawEqualPlans.calls (k : Nat) (A0 : Option Addr) (c0 : Nat) (l0 : List Int) (r1 : List (S85)) (r2 : List (S85)) (w : World) (hr0 : Kd.C (Kd.int .u8) w A0 l0.length l0) (hc0 : l0.length ≤ c0) (h : spec_DrawEqualPlans.f k l0 = some (r1, r2)) :
  Calls Try.prog 73 #[.slice A0 l0.length c0] w fun e w' => ∃ v0_ v1_ : Value, e = .returned (.tuple #[v0_, v1_]) ∧ Kd.V k85 85 w' w.heap.size (fun k_ => (w.heap.size ≤ k_)) v0_ r1 ∧ Kd.V k85 85 w' w.heap.size (fun k_ => (w.heap.size ≤ k_)) v1_ r2 ∧ Below w.heap.size w w' := by
 have HR0 := Aside0.mk hr0
 have HC0 := Aside0.mk hc0
 clear hr0 hc0
 have HB := Aside0.mk (Below.refl w.heap.size w)
 have H : ((spec_DrawIsPlan.f k l0).bind fun bt655 => ((spec_l1New.f k l0).bind fun bt661 => ((spec_l1Once.f bt661.1 bt661.2.1 bt661.2.2 2).bind fun bt665 => (if bt665.1 = true then ((spec_l8Copy.f k bt655.2).bind fun t668 => (some (bt655.2, t668))) else ((spec_l8Any.f k bt661.1 bt665.2.1 bt665.2.2).bind fun bt671 => (some (bt655.2, bt671.2.1))))))) = some (r1, r2) := h
 clear h
 obtain ⟨⟨t655, t658⟩, A2, H⟩ := bindE H
 try dsimp only at H
 obtain ⟨⟨t661, t662, t663⟩, A3, H⟩ := bindE H
 try dsimp only at H
 obtain ⟨⟨t665, t666, t667⟩, A4, H⟩ := bindE H
 try dsimp only at H
 by_cases c5 : t665 = true
 ·
  subst c5
  have H1 : ((spec_l8Copy.f k t658).bind fun t668 => (some (t658, t668))) = some (r1, r2) := by rw [if_pos rfl] at H; exact H
  clear H
  have H := H1
  clear H1
  obtain ⟨t668, A6, H⟩ := bindE H
  try dsimp only at H
  simp only [Option.some.injEq, Prod.mk.injEq] at H
  obtain ⟨rfl, rfl⟩ := H
  go_enter Try.func73, Try.ntmps73
  go_wp2_with (first | ((with_reducible refine gate_callee (f := 119) rfl ?_); refine gL (some 11) Try.func119 #[.slice A0 l0.length c0] ?_; (with_reducible refine (spec_DrawIsPlan.calls k _ _ l0 t655 t658 _ ?_ ?_ A2.out).mono ?_); exact cO HR0; exact HC0.out; rintro e w7 ⟨v656, v659, rfl, ho0, ho1, hb⟩; refine ⟨_, rfl, ?_⟩; have HO657 := rl w (Kd.R_newM (M := fun k_ => (w.heap.size ≤ k_)) (Kd.R_mono (ok' := fun k_ => True) ho0 (fun _ hk_ => trivial)) (below_size bA) (fun k_ h_ => h_)); have HO660 := Aside0.mk (Kd.V_lower (Kd.V_mono (ok' := fun k_ => (w.heap.size ≤ k_) ∧ some k_ ≠ (v656 : Value).ownBlock) ho1 (fun k_ hk_ => ⟨(Nat.le_trans (below_size bA) hk_.1), hk_.2⟩)) (below_size bA)); replace HB := bs HB hb; (try clear hb); (try clear ho0); (try clear ho1)) | ((with_reducible refine gate_callee (f := 81) rfl ?_); refine gL (some 15) Try.func81 #[.slice A0 l0.length c0] ?_; (with_reducible refine (spec_l1New.calls k _ _ l0 t661 t662 t663 w _ ?_ ?_ ?_ A3.out).mono ?_); exact sB0 HB.out; exact HR0.out; exact HC0.out; rintro e w8 ⟨g664, rfl, hi, hb, hb2, hge_⟩; refine ⟨_, rfl, ?_⟩; have n0_ := rb HO657 hb2; have n1_ := Aside0.mk (Kd.V_below (Kd.V_elderB (by (with_reducible repeat (first | apply Kd.V_alloc | apply Kd.V_drewN | apply Kd.V_drew)); exact HO660.out) g664 hge_) hb2); have n2_ := Aside0.mk (hb); have n3_ := Aside0.mk (hi); clear HO657; clear HO660; clear HB; have HO657 := n0_; have HO660 := n1_; have HB := n2_; have HI664 := n3_; clear n0_ n1_ n2_ n3_; (try clear hb); (try clear hb2); (try clear hi); (try clear hge_)) | ((with_reducible refine gate_callee (f := 93) rfl ?_); refine gL (some 17) Try.func93 #[.pointer (some ⟨g664, 0, none⟩), .int .i64 2] ?_; (with_reducible refine (spec_l1Once.calls g664 t661 t662 t663 2 true t666 t667 w _ ?_ ?_ A4.out).mono ?_); exact sI1380 HI664.out; exact sB1 HB.out (IsS138.ge HI664.out); rintro e w9 ⟨rfl, hi, hb, hk⟩; refine ⟨_, rfl, ?_⟩; have n0_ := Aside0.mk (Kd.R_mono (Kd.R_keep (IsS138.apart (show IsS138 w _ g664 t661 t662 t663 from by exact sI1380 HI664.out) (rK HO657) (by decide)) hk (fun _ h => h.2)) (fun _ h => h.1)); have n1_ := Aside0.mk (Kd.V_mono (Kd.V_keep (Kd.V_mono (ok := fun k_ => ((((w.heap.size ≤ k_)) ∧ some k_ ≠ (v656 : Value).ownBlock) ∧ k_ ≠ g664)) (by (with_reducible repeat (first | apply Kd.V_alloc | apply Kd.V_drewN | apply Kd.V_drew)); exact HO660.out) (fun k_ hk_ => (⟨hk_, hk_.2⟩ : _ ∧ k_ ≠ g664))) hk (fun _ h => h.2)) (fun _ h => h.1)); have n2_ := Aside0.mk (hb); have n3_ := Aside0.mk (hi); clear HO657; clear HO660; clear HB; clear HI664; have HO657 := n0_; have HO660 := n1_; have HB := n2_; have HI664 := n3_; clear n0_ n1_ n2_ n3_; (try clear hb); (try clear hk); (try clear hi); obtain ⟨Ao10, co10, eo10⟩ := Kd.V_slice HO660.out; subst eo10) | ((with_reducible refine gate_callee (f := 121) rfl ?_); refine gL (some 20) Try.func121 #[.slice Ao10 t658.length co10] ?_; (with_reducible refine (spec_l8Copy.calls k _ _ t658 t668 _ ?_ ?_ A6.out).mono ?_); (focus repeat (first | exact (Kd.V_reads' HO660.out).2.2 | (with_reducible refine Kd.C_alloc ?_ _) | (with_reducible refine Kd.C_drewN ?_ _) | (with_reducible refine Kd.C_drew ?_))); exact (Kd.V_reads' HO660.out).2.1; rintro e w11 ⟨v669, rfl, ho0, hb⟩; refine ⟨_, rfl, ?_⟩; have n0_ := rb HO657 hb; have n1_ := Aside0.mk (Kd.V_elder' (by (with_reducible repeat (first | apply Kd.V_alloc | apply Kd.V_drewN | apply Kd.V_drew)); exact HO660.out) (Kd.S_base ho0) hb); have n2_ := Aside0.mk (Kd.S_lower (Kd.S_newM (M := fun k_ => (w.heap.size ≤ k_)) ho0 (below_size (by exact sB1 HB.out (IsS138.ge HI664.out))) (fun k_ h_ => h_)) (below_size (by exact sB1 HB.out (IsS138.ge HI664.out)))); have n3_ := Aside0.mk (IsS138.below (by exact sI1380 HI664.out) hb); have n4_ := Aside0.mk (below_step (by exact sB1 HB.out (IsS138.ge HI664.out)) hb); clear HO657; clear HO660; clear HI664; clear HB; have HO657 := n0_; have HO660 := n1_; have HO670 := n2_; have HI664 := n3_; have HB := n4_; clear n0_ n1_ n2_ n3_ n4_; (try clear hb); (try clear ho0)))
  go_ret2
  exact ⟨_, _, rA, by (with_reducible repeat (first | apply Kd.V_alloc | apply Kd.V_drewN | apply Kd.V_drew)); exact Kd.V_mono HO660.out (fun _ hk => hk.1.1.1), Kd.S_V (sm HO670 (fun _ hk => hk.1)), by exact sB1 HB.out (IsS138.ge HI664.out)⟩
 replace c5 := Bool.eq_false_iff.mpr c5
 subst c5
 have H1 : ((spec_l8Any.f k t661 t666 t667).bind fun bt671 => (some (t658, bt671.2.1))) = some (r1, r2) := by rw [if_neg (show ¬ (false = true) by decide)] at H; exact H
 clear H
 have H := H1
 clear H1
 obtain ⟨⟨t671, t674, t677, t678⟩, A12, H⟩ := bindE H
 try dsimp only at H
 simp only [Option.some.injEq, Prod.mk.injEq] at H
 obtain ⟨rfl, rfl⟩ := H
 go_enter Try.func73, Try.ntmps73
 go_wp2_with (first | ((with_reducible refine gate_callee (f := 119) rfl ?_); refine gL (some 11) Try.func119 #[.slice A0 l0.length c0] ?_; (with_reducible refine (spec_DrawIsPlan.calls k _ _ l0 t655 t658 _ ?_ ?_ A2.out).mono ?_); exact cO HR0; exact HC0.out; rintro e w13 ⟨v656, v659, rfl, ho0, ho1, hb⟩; refine ⟨_, rfl, ?_⟩; have HO657 := rl w (Kd.R_newM (M := fun k_ => (w.heap.size ≤ k_)) (Kd.R_mono (ok' := fun k_ => True) ho0 (fun _ hk_ => trivial)) (below_size bA) (fun k_ h_ => h_)); have HO660 := Aside0.mk (Kd.V_lower (Kd.V_mono (ok' := fun k_ => (w.heap.size ≤ k_) ∧ some k_ ≠ (v656 : Value).ownBlock) ho1 (fun k_ hk_ => ⟨(Nat.le_trans (below_size bA) hk_.1), hk_.2⟩)) (below_size bA)); replace HB := bs HB hb; (try clear hb); (try clear ho0); (try clear ho1)) | ((with_reducible refine gate_callee (f := 81) rfl ?_); refine gL (some 15) Try.func81 #[.slice A0 l0.length c0] ?_; (with_reducible refine (spec_l1New.calls k _ _ l0 t661 t662 t663 w _ ?_ ?_ ?_ A3.out).mono ?_); exact sB0 HB.out; exact HR0.out; exact HC0.out; rintro e w14 ⟨g664, rfl, hi, hb, hb2, hge_⟩; refine ⟨_, rfl, ?_⟩; have n0_ := rb HO657 hb2; have n1_ := Aside0.mk (Kd.V_below (Kd.V_elderB (by (with_reducible repeat (first | apply Kd.V_alloc | apply Kd.V_drewN | apply Kd.V_drew)); exact HO660.out) g664 hge_) hb2); have n2_ := Aside0.mk (hb); have n3_ := Aside0.mk (hi); clear HO657; clear HO660; clear HB; have HO657 := n0_; have HO660 := n1_; have HB := n2_; have HI664 := n3_; clear n0_ n1_ n2_ n3_; (try clear hb); (try clear hb2); (try clear hi); (try clear hge_)) | ((with_reducible refine gate_callee (f := 93) rfl ?_); refine gL (some 17) Try.func93 #[.pointer (some ⟨g664, 0, none⟩), .int .i64 2] ?_; (with_reducible refine (spec_l1Once.calls g664 t661 t662 t663 2 false t666 t667 w _ ?_ ?_ A4.out).mono ?_); exact sI1380 HI664.out; exact sB1 HB.out (IsS138.ge HI664.out); rintro e w15 ⟨rfl, hi, hb, hk⟩; refine ⟨_, rfl, ?_⟩; have n0_ := Aside0.mk (Kd.R_mono (Kd.R_keep (IsS138.apart (show IsS138 w _ g664 t661 t662 t663 from by exact sI1380 HI664.out) (rK HO657) (by decide)) hk (fun _ h => h.2)) (fun _ h => h.1)); have n1_ := Aside0.mk (Kd.V_mono (Kd.V_keep (Kd.V_mono (ok := fun k_ => ((((w.heap.size ≤ k_)) ∧ some k_ ≠ (v656 : Value).ownBlock) ∧ k_ ≠ g664)) (by (with_reducible repeat (first | apply Kd.V_alloc | apply Kd.V_drewN | apply Kd.V_drew)); exact HO660.out) (fun k_ hk_ => (⟨hk_, hk_.2⟩ : _ ∧ k_ ≠ g664))) hk (fun _ h => h.2)) (fun _ h => h.1)); have n2_ := Aside0.mk (hb); have n3_ := Aside0.mk (hi); clear HO657; clear HO660; clear HB; clear HI664; have HO657 := n0_; have HO660 := n1_; have HB := n2_; have HI664 := n3_; clear n0_ n1_ n2_ n3_; (try clear hb); (try clear hk); (try clear hi)) | ((with_reducible refine gate_callee (f := 82) rfl ?_); refine gL (some 23) Try.func82 #[.pointer (some ⟨g664, 0, none⟩)] ?_; (with_reducible refine (spec_l8Any.calls k g664 t661 t666 t667 t671 t674 t677 t678 w _ ?_ ?_ A12.out).mono ?_); exact sI1380 HI664.out; exact sB1 HB.out (IsS138.ge HI664.out); rintro e w16 ⟨v672, v675, rfl, ho0, ho1, hi, hb, hk⟩; refine ⟨_, rfl, ?_⟩; have n0_ := Aside0.mk (Kd.R_mono (Kd.R_told (Kd.R_oldK (IsS138.apart (show IsS138 w _ g664 t661 t666 t667 from by exact sI1380 HI664.out) (rK HO657) (by decide)) hk) (Kd.R_base ho0)) (fun _ h_ => h_.1)); have n1_ := Aside0.mk (Kd.V_mono (Kd.V_told (Kd.V_oldK (Kd.V_mono (ok := fun k_ => ((((w.heap.size ≤ k_)) ∧ some k_ ≠ (v656 : Value).ownBlock) ∧ k_ ≠ g664)) (by (with_reducible repeat (first | apply Kd.V_alloc | apply Kd.V_drewN | apply Kd.V_drew)); exact HO660.out) (fun k_ hk_ => (⟨hk_, hk_.2⟩ : _ ∧ k_ ≠ g664))) hk) (Kd.R_base ho0)) (fun _ h_ => h_.1)); have n2_ := Aside0.mk (Kd.R_lower (Kd.R_new' (Kd.R_newM (M := fun k_ => (w.heap.size ≤ k_)) (Kd.R_mono (ok' := fun k_ => True) ho0 (fun _ hk_ => trivial)) (below_size (by exact sB1 HB.out (IsS138.ge HI664.out))) (fun k_ h_ => h_)) (Kd.R_lt (rK HO657))) (below_size (by exact sB1 HB.out (IsS138.ge HI664.out)))); have n3_ := Aside0.mk (Kd.V_lower (Kd.V_mono (ok' := fun k_ => (w.heap.size ≤ k_) ∧ some k_ ≠ (v672 : Value).ownBlock ∧ some k_ ≠ (v656 : Value).ownBlock ∧ k_ ≠ g664) ho1 (fun k_ hk_ => ⟨(Nat.le_trans (below_size (by exact sB1 HB.out (IsS138.ge HI664.out))) hk_.1), hk_.2, (Kd.fresh' (Kd.R_lt (rK HO657)) k_ hk_.1), (IsS138.fresh (by exact sI1380 HI664.out) k_ hk_.1)⟩)) (below_size (by exact sB1 HB.out (IsS138.ge HI664.out)))); have n4_ := Aside0.mk (hb); have n5_ := Aside0.mk (hi); clear HO657; clear HO660; clear HB; clear HI664; have HO657 := n0_; have HO660 := n1_; have HO673 := n2_; have HO676 := n3_; have HB := n4_; have HI664 := n5_; clear n0_ n1_ n2_ n3_ n4_ n5_; (try clear hb); (try clear hk); (try clear hi); (try clear ho0); (try clear ho1)))
 go_ret2
 exact ⟨_, _, rA, by (with_reducible repeat (first | apply Kd.V_alloc | apply Kd.V_drewN | apply Kd.V_drew)); exact Kd.V_mono HO660.out (fun _ hk => hk.1.1.1), by (with_reducible repeat (first | apply Kd.V_alloc | apply Kd.V_drewN | apply Kd.V_drew)); exact Kd.V_mono HO676.out (fun _ hk => hk.1), by exact sB1 HB.out (IsS138.ge HI664.out)⟩

end Go.Proofs.Ytjgonpcajedkjaa.P
